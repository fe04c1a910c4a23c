/- Add (both). -/
import Derived.Test.YtidojiegkdchpaaAj
namespace Go.Proofs.Ytidojiegkdchpaa
open Go.RowKit Go.Maps

def addK (s : ByteArray) : Int := (31 - totF (valsF s) 3) % 31
def addE (s : ByteArray) : Int := if okF s = false ∨ s.size = 0 then 2 else if 64 ≤ s.size then 4 else 0
def addV (s : ByteArray) : ByteArray := if okF s = false ∨ s.size = 0 then ⟨#[]⟩ else if 64 ≤ s.size then ⟨#[]⟩ else s ++ bs [charF (addK s)]
theorem addK_bd (s : ByteArray) : 0 ≤ addK s ∧ addK s ≤ 30 := by unfold addK; omega
theorem add_cases (s : ByteArray) : (okF s = false ∧ addV s = ⟨#[]⟩ ∧ addE s = 2) ∨ (s = ⟨#[]⟩ ∧ okF s = true ∧ addV s = ⟨#[]⟩ ∧ addE s = 2) ∨ (okF s = true ∧ s.size ≠ 0 ∧ 64 ≤ s.size ∧ addV s = ⟨#[]⟩ ∧ addE s = 4) ∨
    (okF s = true ∧ s.size ≠ 0 ∧ s.size ≤ 63 ∧ addV s = s ++ bs [charF (addK s)] ∧ addE s = 0) := by
  unfold addV addE
  cases h : okF s
  · exact .inl ⟨rfl, by simp, by simp⟩
  · by_cases h2 : s.size = 0
    · exact .inr (.inl ⟨by apply ByteArray.ext; exact Array.eq_empty_of_size_eq_zero h2, rfl, by simp [h2], by simp [h2]⟩)
    · by_cases h3 : 64 ≤ s.size
      · exact .inr (.inr (.inl ⟨rfl, h2, h3, by simp [h2, h3], by simp [h2, h3]⟩))
      · exact .inr (.inr (.inr ⟨rfl, h2, by omega, by simp [h2, h3], by simp [h2, h3]⟩))
theorem check_add {s : ByteArray} (h0 : okF s = true) (h1 : s.size ≠ 0) (h2 : s.size ≤ 63) (i : Int) (i0 : 0 ≤ i) (i1 : i ≤ 30) : checkF (s ++ bs [charF i]) = if i = addK s then 0 else 9 := by
  have hz : (s ++ bs [charF i]).size = s.size + 1 := by rw [ByteArray.size_append]; rfl
  have hv : valsF (s ++ bs [charF i]) = valsF s ++ [i] := by rw [valsF_append, vals_char i i0 i1]
  unfold checkF
  rw [okF_append, ok_char i i0 i1, h0, hz, if_neg (by simp; omega), if_neg (by omega), hv, totF_snoc _ _ i0 i1]
  have := totF_bd (valsF s) 3 (by omega) (by omega)
  have e : ((i + totF (valsF s) 3) % 31 ≠ 0) ↔ ¬ i = addK s := by unfold addK; omega
  by_cases hi : i = addK s
  · rw [if_neg (by rw [e]; simp [hi]), if_pos hi]
  · rw [if_pos (by rw [e]; exact hi), if_neg hi]
theorem ret_si {s t : ByteArray} {a b : Int} (h : s = t) (h' : a = b) : Ending.returned (.tuple #[.string s, .int .i64 a]) = .returned (.tuple #[.string t, .int .i64 b]) := by rw [h, h']
theorem str_ne {s : ByteArray} (h : s.size ≠ 0) : s.toList.isEmpty = false := by
  cases he : s.toList.isEmpty with
  | false => rfl
  | true =>
    rw [List.isEmpty_iff, ByteArray.toList_eq] at he
    exact absurd (by show s.data.size = 0; rw [← Array.length_toList, he]; rfl) h

set_option maxRecDepth 100000 in
set_option maxHeartbeats 2000000 in
theorem add_any (s : ByteArray) (hs : s.size ≤ 1099511627776) (w : World) : Calls Try.prog 24 #[.string s] w fun e w' => e = .returned (.tuple #[.string (addV s), .int .i64 (addE s)]) ∧ Below w.heap.size w w' := by
  have RE := read_any s hs w
  rcases add_cases s with ⟨e0, e1, e2⟩ | ⟨e3, e0, e1, e2⟩ | ⟨e0, e1, e2, e3, e4⟩ | ⟨e0, e1, e2, e3, e4⟩
  · unfold RdOut at RE
    rw [e0] at RE
    have E := Lib.hid e1; have E2 := Lib.hid e2
    clear e0 e1 e2
    go_enter Try.func24, Try.ntmps24
    go_wp2_with fail
    refine RE.mono ?_
    rintro e w1 ⟨v, rfl, _, hb⟩
    go_wp2_with fail
    go_ret2
    exact ⟨ret_si E.out.symm E2.out.symm, hb⟩
  · unfold RdOut at RE
    rw [e0] at RE
    have E := Lib.hid e1; have E2 := Lib.hid e2
    clear e0 e1 e2
    subst e3
    have q1 : ((ByteArray.mk #[]).toList == (ByteArray.mk #[]).toList) = true := by simp
    go_enter Try.func24, Try.ntmps24
    go_wp2_with fail
    refine RE.mono ?_
    rintro e w1 ⟨v, rfl, _, hb⟩
    go_wp2_with fail
    go_ret2
    exact ⟨ret_si E.out.symm E2.out.symm, hb⟩
  · unfold RdOut at RE
    rw [e0] at RE
    have E := Lib.hid e3; have E2 := Lib.hid e4
    have q1 := str_ne e1
    have q2 : (64 : Int) ≤ (s.size : Int) := by omega
    clear e0 e1 e2 e3 e4
    go_enter Try.func24, Try.ntmps24
    go_wp2_with fail
    refine RE.mono ?_
    rintro e w1 ⟨v, rfl, _, hb⟩
    go_wp2_with fail
    go_ret2
    exact ⟨ret_si E.out.symm E2.out.symm, hb⟩
  · have TT := fun v w1 h => total_any v (valsF s) 3 w1 h (vals_mid e0) (by omega) (by omega)
    have tb := totF_bd (valsF s) 3 (by omega) (by omega)
    unfold RdOut at RE
    rw [e0] at RE
    have hk : addK s = (31 - totF (valsF s) 3) % 31 := rfl
    have E := Lib.hid e3; have E2 := Lib.hid e4; have HK := Lib.hid hk
    have q1 := str_ne e1
    have q2 : ¬ (64 : Int) ≤ (s.size : Int) := by omega
    clear e0 e1 e2 e3 e4 hk
    go_enter Try.func24, Try.ntmps24
    go_wp2_with fail
    refine RE.mono ?_
    rintro e w1 ⟨v, rfl, hv, hb⟩
    have T1 := TT v w1 (hv (by trivial))
    clear TT RE
    obtain ⟨a, c, rfl, _, _⟩ := (hv (by trivial)).open
    clear hv
    go_wp2_with fail
    refine T1.mono ?_
    rintro e w2 ⟨rfl, hb2⟩
    clear T1
    have HB := Lib.hid (hb.trans (hb2.mono hb.size))
    clear hb hb2
    obtain ⟨j, hj⟩ : ∃ j : Nat, addK s = j := ⟨(addK s).toNat, by have := addK_bd s; omega⟩
    have hj30 := addK_bd s
    have hkk := HK.out
    rw [hj] at hkk hj30
    have HJ := Lib.hid hj
    have hje := alpha_ext j (by omega)
    have hA31 : alphaB.size = 31 := rfl
    generalize totF (valsF s) 3 = T at *
    have hdj : (31 - T) % 31 = (j : Int) := hkk.symm
    have htm : (31 - T).tmod 31 = (j : Int) := by rw [Int.tmod_eq_emod_of_nonneg (by omega)]; exact hdj
    have g3 : (0 : Int) ≤ (j : Int) := by omega
    have g4 : (j : Int) ≤ (j : Int) + 1 := by omega
    have g5 : (j : Int) + 1 ≤ 31 := by omega
    have g6 : ((j : Int) + 1).toNat = j + 1 := by omega
    have hlen : s.size + 1 ≤ 9223372036854775807 := by omega
    have hab : (ByteArray.mk #[48, 49, 50, 51, 52, 53, 54, 55, 56, 57, 65, 66, 67, 68, 69, 70, 71, 72, 74, 75, 76, 77, 78, 80, 81, 82, 83, 84, 85, 86, 88]) = alphaB := rfl
    have hz : (alphaB.extract j (j + 1)).size = 1 := by rw [hje]; rfl
    have HJE := Lib.hid hje
    clear hje hkk hj
    generalize alphaB = A at *
    go_wp2_with fail
    go_ret2
    exact ⟨ret_si (by rw [E.out, HJ.out, HJE.out]) E2.out.symm, HB.out⟩

set_option maxRecDepth 100000 in
set_option maxHeartbeats 2000000 in
theorem radd_any (s : ByteArray) (hs : s.size ≤ 1099511627775) (w : World) : Calls Try.prog 25 #[.string s] w fun e w' => e = .returned (.tuple #[.string (addV s), .int .i64 (addE s)]) ∧ Below w.heap.size w w' := by
  have RE := rvalues_any s (by omega) w
  rcases add_cases s with ⟨e0, e1, e2⟩ | ⟨e3, e0, e1, e2⟩ | ⟨e0, e1, e2, e3, e4⟩ | ⟨e0, e1, e2, e3, e4⟩
  · unfold RdOut at RE
    rw [e0] at RE
    have E := Lib.hid e1; have E2 := Lib.hid e2
    clear e0 e1 e2
    go_enter Try.func25, Try.ntmps25
    go_wp2_with fail
    refine RE.mono ?_
    rintro e w1 ⟨v, rfl, _, hb⟩
    go_wp2_with fail
    go_ret2
    exact ⟨ret_si E.out.symm E2.out.symm, hb⟩
  · unfold RdOut at RE
    rw [e0] at RE
    have E := Lib.hid e1; have E2 := Lib.hid e2
    clear e0 e1 e2
    subst e3
    have q1 : ((ByteArray.mk #[]).size : Int) = 0 := rfl
    go_enter Try.func25, Try.ntmps25
    go_wp2_with fail
    refine RE.mono ?_
    rintro e w1 ⟨v, rfl, _, hb⟩
    go_wp2_with fail
    go_ret2
    exact ⟨ret_si E.out.symm E2.out.symm, hb⟩
  · unfold RdOut at RE
    rw [e0] at RE
    have E := Lib.hid e3; have E2 := Lib.hid e4
    have q1 : ((s.size : Int) == 0) = false := beq_eq_false_iff_ne.2 (by omega)
    have q2 : (63 : Int) < (s.size : Int) := by omega
    clear e0 e1 e2 e3 e4
    go_enter Try.func25, Try.ntmps25
    go_wp2_with fail
    refine RE.mono ?_
    rintro e w1 ⟨v, rfl, _, hb⟩
    go_wp2_with fail
    go_ret2
    exact ⟨ret_si E.out.symm E2.out.symm, hb⟩
  · have CA := Lib.hid (check_add e0 e1 e2)
    unfold RdOut at RE
    rw [e0] at RE
    have CC := fun i : Int => Lib.hid (fun w => rcheck_any (s ++ bs [charF i]) (by rw [ByteArray.size_append, bs_size]; simp only [List.length_cons, List.length_nil]; omega) w)
    have AL := Lib.hid alphabet_any
    have HE := Lib.hid alpha_ext
    have hA31 : alphaB.size = 31 := rfl
    have E := Lib.hid e3; have E2 := Lib.hid e4
    have q1 : ((s.size : Int) == 0) = false := beq_eq_false_iff_ne.2 (by omega)
    have q2 : ¬ (63 : Int) < (s.size : Int) := by omega
    obtain ⟨j, hj⟩ : ∃ j : Nat, addK s = j := ⟨(addK s).toNat, by have := addK_bd s; omega⟩
    have hj30 := addK_bd s
    rw [hj] at hj30
    have HJ := Lib.hid hj
    clear e0 e1 e2 e3 e4 hj
    go_enter Try.func25, Try.ntmps25
    go_wp2_with fail
    refine RE.mono ?_
    rintro e w1 ⟨v, rfl, hv, hb⟩
    clear RE hv
    go_wp2_with fail
    refine (AL.out w1).mono ?_
    rintro e w2 ⟨rfl, rfl⟩
    clear AL
    generalize alphaB = A at *
    go_wp2_with fail
    go_loopw [7] (fun i wr => ∃ k : Nat, k ≤ j ∧ i = .int .i64 k ∧ Below w.heap.size w wr) (fun i _ => j + 1 - (intOf i).toNat)
    case atStart => exact ⟨0, Nat.zero_le _, rfl, hb⟩
    case round =>
      obtain ⟨k, hk, rfl, hbl⟩ := hrel
      have HB := Lib.hid hbl
      clear hbl hb
      have hje := HE.out k (by omega)
      have C1 := (CC k).out wr
      have hcv := CA.out k (by omega) (by omega)
      rw [HJ.out] at hcv
      rw [← hje] at C1 hcv
      have HJE := Lib.hid hje
      have hz : (A.extract k (k + 1)).size = 1 := by rw [hje]; rfl
      have g3 : (0 : Int) ≤ (k : Int) := by omega
      have g4 : (k : Int) ≤ (k : Int) + 1 := by omega
      have g5 : (k : Int) + 1 ≤ (A.size : Int) := by omega
      have g6 : ((k : Int) + 1).toNat = k + 1 := by omega
      have g7 : (k : Int) < (A.size : Int) := by omega
      clear hje
      by_cases hkj : k = j
      · subst hkj
        rw [if_pos rfl] at hcv
        rw [hcv] at C1
        clear hcv
        go_wp2_with fail
        refine C1.mono ?_
        rintro e w3 ⟨rfl, hb3⟩
        clear C1
        go_wp2_with fail
        go_ret2
        exact ⟨ret_si (by rw [E.out, HJ.out, HJE.out]) E2.out.symm, HB.out.trans (hb3.mono HB.out.size)⟩
      · rw [if_neg (by omega)] at hcv
        rw [hcv] at C1
        clear hcv
        go_wp2_with fail
        refine C1.mono ?_
        rintro e w3 ⟨rfl, hb3⟩
        clear C1
        go_wp2_with fail
        go_roundw
        case rel => exact ⟨k + 1, by omega, by go_num, HB.out.trans (hb3.mono HB.out.size)⟩
        case measure => simp [intOf]; omega
end Go.Proofs.Ytidojiegkdchpaa
