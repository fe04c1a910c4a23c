/- The check character (plain law); Check (both). -/
import Derived.Test.YtidojiegkdchpaaAi
namespace Go.Proofs.Ytidojiegkdchpaa
open Go.RowKit Go.Maps

theorem stT_dot (l : List Int) : stT l.reverse (0, 1) = (dotF (wtsF l.length) l % 31, powF l.length) := by
  induction l with
  | nil => rfl
  | cons x l ih =>
    rw [List.reverse_cons, stT_snoc, ih]
    have e : dotF (wtsF (x :: l).length) (x :: l) = powF l.length * x + dotF (wtsF l.length) l := by
      simp [dotF, prods, wtsF]
    rw [e]
    unfold stepT
    have e2 : powF (x :: l).length = powF l.length * 3 % 31 := rfl
    rw [e2]
    dsimp only
    congr 1
    generalize powF l.length * x = a
    omega
theorem totF_dot (l : List Int) : totF l 1 = dotF (wtsF l.length) l % 31 := by unfold totF; rw [stT_dot]
theorem stT_shift (r : List Int) (s q : Int) (h0 : 0 ≤ s) (h1 : s ≤ 30) : (stT r (s, q)).1 = (s + (stT r (0, q)).1) % 31 := by
  induction r generalizing s q with
  | nil => simp only [stT, List.foldl_nil]; omega
  | cons v r ih =>
    have a : stT (v :: r) (s, q) = stT r ((s + q * v) % 31, q * 3 % 31) := rfl
    have b : stT (v :: r) (0, q) = stT r ((0 + q * v) % 31, q * 3 % 31) := rfl
    rw [a, b, ih _ _ (by omega) (by omega), ih ((0 + q * v) % 31) _ (by omega) (by omega)]
    generalize q * v = z
    omega
theorem totF_snoc (l : List Int) (c : Int) (h0 : 0 ≤ c) (h1 : c ≤ 30) : totF (l ++ [c]) 1 = (c + totF l 3) % 31 := by
  unfold totF
  rw [List.reverse_append, List.reverse_singleton, List.singleton_append]
  have a : stT (c :: l.reverse) (0, 1) = stT l.reverse ((0 + 1 * c) % 31, 1 * 3 % 31) := rfl
  rw [a, show (0 + 1 * c) % 31 = c by omega, show (1 : Int) * 3 % 31 = 3 by decide, stT_shift _ _ _ h0 h1]
theorem totF_bd (l : List Int) (q : Int) (h0 : 0 ≤ q) (h1 : q ≤ 30) : 0 ≤ totF l q ∧ totF l q ≤ 30 := by
  have := stT_bd l.reverse (0, q) ⟨by simp, by simp, h0, h1⟩
  exact ⟨this.1, this.2.1⟩

theorem vals_mid {s : ByteArray} (h : okF s = true) : mid 30 (valsF s) := by
  intro x hx
  unfold okF at h
  rw [List.all_eq_true] at h
  have h1 := h x hx
  obtain ⟨c, _, rfl⟩ := List.mem_map.1 hx
  have := valF_bd c
  simp at h1
  omega
theorem mid_mono {a b : Int} {l : List Int} (h : mid a l) (hab : a ≤ b) : mid b l := fun x hx => by have := h x hx; omega
theorem valsF_append (s t : ByteArray) : valsF (s ++ t) = valsF s ++ valsF t := by
  unfold valsF
  rw [ByteArray.data_append, Array.toList_append, List.map_append]
theorem okF_append (s t : ByteArray) : okF (s ++ t) = (okF s && okF t) := by
  unfold okF; rw [valsF_append, List.all_append]
theorem val_char (k : Int) (h0 : 0 ≤ k) (h1 : k ≤ 30) : valF (charF k) = k := by
  have : ∀ j : Fin 31, valF (charF (j.val : Nat)) = (j.val : Int) := by decide +kernel
  have h := this ⟨k.toNat, by omega⟩
  simp only at h
  rwa [show ((k.toNat : Nat) : Int) = k by omega] at h
theorem vals_char (k : Int) (h0 : 0 ≤ k) (h1 : k ≤ 30) : valsF (bs [charF k]) = [k] := by
  show [valF (charF k)] = [k]
  rw [val_char k h0 h1]
theorem ok_char (k : Int) (h0 : 0 ≤ k) (h1 : k ≤ 30) : okF (bs [charF k]) = true := by
  unfold okF; rw [vals_char k h0 h1]; simp [h0]

def checkF (s : ByteArray) : Int := if okF s = false ∨ s.size < 2 then 2 else if 64 < s.size then 4 else if totF (valsF s) 1 ≠ 0 then 9 else 0
theorem check_cases (s : ByteArray) : (okF s = false ∧ checkF s = 2) ∨ (okF s = true ∧ s.size < 2 ∧ checkF s = 2) ∨ (okF s = true ∧ 2 ≤ s.size ∧ 64 < s.size ∧ checkF s = 4) ∨
    (okF s = true ∧ 2 ≤ s.size ∧ s.size ≤ 64 ∧ totF (valsF s) 1 ≠ 0 ∧ checkF s = 9) ∨ (okF s = true ∧ 2 ≤ s.size ∧ s.size ≤ 64 ∧ totF (valsF s) 1 = 0 ∧ checkF s = 0) := by
  unfold checkF
  cases h : okF s
  · exact .inl ⟨rfl, by simp⟩
  · by_cases h2 : s.size < 2
    · exact .inr (.inl ⟨rfl, h2, by simp [h2]⟩)
    · by_cases h3 : 64 < s.size
      · exact .inr (.inr (.inl ⟨rfl, by omega, h3, by simp [h2, h3]⟩))
      · by_cases h4 : totF (valsF s) 1 = 0
        · exact .inr (.inr (.inr (.inr ⟨rfl, by omega, by omega, h4, by simp [h2, h3, h4]⟩)))
        · exact .inr (.inr (.inr (.inl ⟨rfl, by omega, by omega, h4, by simp [h2, h3, h4]⟩)))

set_option maxRecDepth 100000 in
set_option maxHeartbeats 2000000 in
theorem check_any (s : ByteArray) (hs : s.size ≤ 1099511627776) (w : World) : Calls Try.prog 26 #[.string s] w fun e w' => e = .returned (.int .i64 (checkF s)) ∧ Below w.heap.size w w' := by
  have RE := read_any s hs w
  rcases check_cases s with ⟨e0, e1⟩ | ⟨e0, e1, e2⟩ | ⟨e0, e1, e2, e3⟩ | ⟨e0, e1, e2, e3, e4⟩ | ⟨e0, e1, e2, e3, e4⟩
  · unfold RdOut at RE
    rw [e0] at RE
    have E := Lib.hid e1
    clear e0 e1
    go_enter Try.func26, Try.ntmps26
    go_wp2_with fail
    refine RE.mono ?_
    rintro e w1 ⟨v, rfl, _, hb⟩
    go_wp2_with fail
    go_ret
    exact ⟨ret_int E.out.symm, hb⟩
  · unfold RdOut at RE
    rw [e0] at RE
    have E := Lib.hid e2
    have q1 : (s.size : Int) < 2 := by omega
    clear e0 e1 e2
    go_enter Try.func26, Try.ntmps26
    go_wp2_with fail
    refine RE.mono ?_
    rintro e w1 ⟨v, rfl, _, hb⟩
    go_wp2_with fail
    go_ret
    exact ⟨ret_int E.out.symm, hb⟩
  · unfold RdOut at RE
    rw [e0] at RE
    have E := Lib.hid e3
    have q1 : ¬ (s.size : Int) < 2 := by omega
    have q2 : (64 : Int) < (s.size : Int) := by omega
    clear e0 e1 e2 e3
    go_enter Try.func26, Try.ntmps26
    go_wp2_with fail
    refine RE.mono ?_
    rintro e w1 ⟨v, rfl, _, hb⟩
    go_wp2_with fail
    go_ret
    exact ⟨ret_int E.out.symm, hb⟩
  all_goals
    have TT := fun v w1 h => total_any v (valsF s) 1 w1 h (vals_mid e0) (by omega) (by omega)
    unfold RdOut at RE
    rw [e0] at RE
    have E := Lib.hid e4
    have q1 : ¬ (s.size : Int) < 2 := by omega
    have q2 : ¬ (64 : Int) < (s.size : Int) := by omega
    have EE := Lib.hid e3
    first | rw [e3] at TT | have hz : (totF (valsF s) 1 != 0) = true := by simpa using e3
    clear e0 e1 e2 e3 e4
    go_enter Try.func26, Try.ntmps26
    go_wp2_with fail
    refine RE.mono ?_
    rintro e w1 ⟨v, rfl, hv, hb⟩
    have T1 := TT v w1 (hv (by trivial))
    clear TT RE
    obtain ⟨a, c, rfl, _, _⟩ := (hv (by trivial)).open
    clear hv
    go_wp2_with fail
    refine T1.mono ?_
    rintro e w2 ⟨rfl, hb2⟩
    clear T1
    go_wp2_with fail
    go_ret
    exact ⟨ret_int E.out.symm, hb.trans (hb2.mono hb.size)⟩

set_option maxRecDepth 100000 in
set_option maxHeartbeats 2000000 in
theorem rcheck_any (s : ByteArray) (hs : s.size ≤ 1099511627776) (w : World) : Calls Try.prog 27 #[.string s] w fun e w' => e = .returned (.int .i64 (checkF s)) ∧ Below w.heap.size w w' := by
  have RE := rvalues_any s hs w
  rcases check_cases s with ⟨e0, e1⟩ | ⟨e0, e1, e2⟩ | ⟨e0, e1, e2, e3⟩ | ⟨e0, e1, e2, e3, e4⟩ | ⟨e0, e1, e2, e3, e4⟩
  · unfold RdOut at RE
    rw [e0] at RE
    have E := Lib.hid e1
    clear e0 e1
    go_enter Try.func27, Try.ntmps27
    go_wp2_with fail
    refine RE.mono ?_
    rintro e w1 ⟨v, rfl, _, hb⟩
    go_wp2_with fail
    go_ret
    exact ⟨ret_int E.out.symm, hb⟩
  · unfold RdOut at RE
    rw [e0] at RE
    have E := Lib.hid e2
    have q1 : (s.size : Int) < 2 := by omega
    clear e0 e1 e2
    go_enter Try.func27, Try.ntmps27
    go_wp2_with fail
    refine RE.mono ?_
    rintro e w1 ⟨v, rfl, _, hb⟩
    go_wp2_with fail
    go_ret
    exact ⟨ret_int E.out.symm, hb⟩
  · unfold RdOut at RE
    rw [e0] at RE
    have E := Lib.hid e3
    have q1 : ¬ (s.size : Int) < 2 := by omega
    have q2 : (64 : Int) < (s.size : Int) := by omega
    clear e0 e1 e2 e3
    go_enter Try.func27, Try.ntmps27
    go_wp2_with fail
    refine RE.mono ?_
    rintro e w1 ⟨v, rfl, _, hb⟩
    go_wp2_with fail
    go_ret
    exact ⟨ret_int E.out.symm, hb⟩
  all_goals
    have WW := fun w1 => weights_any s.size (by omega) w1
    have TT := fun v1 v2 w1 h1 h2 => rtotal_any v1 v2 (wtsF s.size) (valsF s) 31 w1 h1 h2 (by omega) (by omega) (wtsF_mid _) (mid_mono (vals_mid e0) (by omega)) (by rw [wtsF_len]; omega)
    have hd : dotF (wtsF s.size) (valsF s) % 31 = totF (valsF s) 1 := by rw [totF_dot, valsF_len]
    rw [hd] at TT
    unfold RdOut at RE
    rw [e0] at RE
    have E := Lib.hid e4
    have q1 : ¬ (s.size : Int) < 2 := by omega
    have q2 : ¬ (64 : Int) < (s.size : Int) := by omega
    have EE := Lib.hid e3
    first | rw [e3] at TT | have hz : (totF (valsF s) 1 != 0) = true := by simpa using e3
    clear e0 e1 e2 e3 e4 hd
    go_enter Try.func27, Try.ntmps27
    go_wp2_with fail
    refine RE.mono ?_
    rintro e w1 ⟨v, rfl, hv, hb⟩
    clear RE
    have hv' := Lib.hid (hv (by trivial))
    obtain ⟨a, c, rfl, _, _⟩ := (hv (by trivial)).open
    clear hv
    go_wp2_with fail
    refine (WW _).mono ?_
    rintro e w2 ⟨v2, rfl, hv2, hb2⟩
    clear WW
    have hv2' := Lib.hid hv2
    obtain ⟨a2, c2, rfl, _, _⟩ := hv2.open
    clear hv2
    have T1 := TT _ _ w2 hv2'.out (hv'.out.below hb2)
    clear TT
    go_wp2_with fail
    refine T1.mono ?_
    rintro e w3 ⟨rfl, hb3⟩
    clear T1
    have HB := Lib.hid ((hb.trans (hb2.mono hb.size)).trans (hb3.mono (Nat.le_trans hb.size hb2.size)))
    clear hb hb2 hb3
    go_wp2_with fail
    go_ret
    exact ⟨ret_int E.out.symm, HB.out⟩
end Go.Proofs.Ytidojiegkdchpaa
