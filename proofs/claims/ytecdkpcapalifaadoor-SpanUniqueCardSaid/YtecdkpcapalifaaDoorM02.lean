/- element (both). scattered; number (both). read (program). read (program), ranges: plain laws. -/
import Derived.Test.YtecdkpcapalifaaDoorM01
import Derived.RangeFuncBox
set_option linter.unusedVariables false
namespace Go.Proofs.YtecdkpcapalifaaDoor
open Go.RowKit Go.Maps

theorem bs_len3 (n : Int) : (bs (textL n)).size ≤ 3 := by rw [bs_size]; exact (textL_len n).2
theorem el_ff {s : Sty} {f t : Int} (h : f ≠ t) (h1 : 0 < s.row) (h2 : s.row ≤ t - f + 1) : elementL s (f, t) = textL f ++ [102, 102] := by
  unfold elementL; rw [if_neg h, if_pos ⟨h1, h2⟩]
theorem el_f {s : Sty} {f t : Int} (h : f ≠ t) (h1 : ¬ (0 < s.row ∧ s.row ≤ t - f + 1)) (h2 : s.nx = true) (h3 : t = f + 1) : elementL s (f, t) = textL f ++ [102] := by
  unfold elementL; rw [if_neg h, if_neg h1, if_pos ⟨h2, h3⟩]
theorem el_b {s : Sty} {f t : Int} (h : f ≠ t) (h1 : ¬ (0 < s.row ∧ s.row ≤ t - f + 1)) (h2 : ¬ (s.nx = true ∧ t = f + 1)) : elementL s (f, t) = betweenL s.k f t := by
  unfold elementL; rw [if_neg h, if_neg h1, if_neg h2]

set_option maxRecDepth 100000 in
set_option maxHeartbeats 4000000 in
theorem element_any (s : Sty) (x : Sp) (w : World) (hk : 1 ≤ s.k) (hk3 : s.k ≤ 3) (hr0 : 0 ≤ s.row) (hr1 : s.row ≤ 999) (h1 : 1 ≤ x.1) (h2 : x.1 ≤ x.2) (h3 : x.2 ≤ 999) :
    Calls Tryd.prog 63 #[.agg #[.int .i64 s.k, .bool s.nx, .int .i64 s.row, .int .i64 s.pas], .agg #[.int .i64 x.1, .int .i64 x.2]] w fun e w' => e = .returned (.string (bs (elementL s x))) ∧ Below w.heap.size w w' := by
  have T := text_any x.1 ((w.alloc (.cells #[.int .i64 s.k, .bool s.nx, .int .i64 s.row, .int .i64 s.pas] 36)).alloc (.cells #[.int .i64 x.1, .int .i64 x.2] 81)) (by omega) (by omega)
  have B := between_any s.k s.row s.pas x.1 x.2 s.nx ((w.alloc (.cells #[.int .i64 s.k, .bool s.nx, .int .i64 s.row, .int .i64 s.pas] 36)).alloc (.cells #[.int .i64 x.1, .int .i64 x.2] 81)) hk hk3 (by omega) (by omega) (by omega) h3
  have z := bs_len3 x.1
  have HB := Lib.hid (((Below.refl w.heap.size w).alloc (Nat.le_refl _) (.cells #[.int .i64 s.k, .bool s.nx, .int .i64 s.row, .int .i64 s.pas] 36)).alloc (by simp) (.cells #[.int .i64 x.1, .int .i64 x.2] 81))
  obtain ⟨k, nx, row, pas⟩ := s
  obtain ⟨f, t⟩ := x
  dsimp only at *
  generalize hSA : bs (textL f) = SA at T z
  have HSA := Lib.hid hSA; clear hSA
  by_cases e1 : f = t
  · have he : elementL ⟨k, nx, row, pas⟩ (f, t) = textL f := if_pos e1
    have HE := Lib.hid he
    clear he B
    subst e1
    go_enter Tryd.func63, Tryd.ntmps63
    go_wp2_with fail
    refine T.mono ?_
    rintro e w1 ⟨rfl, hb1⟩
    go_wp2_with fail
    go_ret
    exact ⟨ret_str (by rw [HE.out, HSA.out]), HB.out.trans (hb1.mono (by simp; omega))⟩
  · have a1 : (t - f + 1 == 1) = false := beq_eq_false_iff_ne.2 (by omega)
    have a2 : (f == t) = false := beq_eq_false_iff_ne.2 e1
    have hle : f + 1 ≤ t := by omega
    by_cases e2 : 0 < row ∧ row ≤ t - f + 1
    · have he : elementL ⟨k, nx, row, pas⟩ (f, t) = textL f ++ [102, 102] := el_ff e1 e2.1 e2.2
      have HE := Lib.hid he
      obtain ⟨b1, b2⟩ := e2
      clear he B e1
      go_enter Tryd.func63, Tryd.ntmps63
      go_wp2_with fail
      refine T.mono ?_
      rintro e w1 ⟨rfl, hb1⟩
      go_wp2_with fail
      go_ret
      exact ⟨ret_str (by rw [HE.out, ← HSA.out, show ({ data := #[102, 102] } : ByteArray) = bs [102, 102] from rfl, bs_append]), HB.out.trans (hb1.mono (by simp; omega))⟩
    · by_cases e3 : nx = true ∧ t = f + 1
      · have he : elementL ⟨k, nx, row, pas⟩ (f, t) = textL f ++ [102] := el_f e1 e2 e3.1 e3.2
        have HE := Lib.hid he
        obtain ⟨rfl, b2⟩ := e3
        have c1 : (t - f + 1 == 2) = true := by rw [beq_iff_eq]; omega
        have c2 : (t == f + 1) = true := by rw [beq_iff_eq]; omega
        clear he B e1
        by_cases b3 : 0 < row
        · have b4 : ¬ row ≤ t - f + 1 := fun h => e2 ⟨b3, h⟩
          clear e2 b2
          go_enter Tryd.func63, Tryd.ntmps63
          go_wp2_with fail
          refine T.mono ?_
          rintro e w1 ⟨rfl, hb1⟩
          go_wp2_with fail
          go_ret
          exact ⟨ret_str (by rw [HE.out, ← HSA.out, show ({ data := #[102] } : ByteArray) = bs [102] from rfl, bs_append]), HB.out.trans (hb1.mono (by simp; omega))⟩
        · clear e2 b2
          go_enter Tryd.func63, Tryd.ntmps63
          go_wp2_with fail
          refine T.mono ?_
          rintro e w1 ⟨rfl, hb1⟩
          go_wp2_with fail
          go_ret
          exact ⟨ret_str (by rw [HE.out, ← HSA.out, show ({ data := #[102] } : ByteArray) = bs [102] from rfl, bs_append]), HB.out.trans (hb1.mono (by simp; omega))⟩
      · have he : elementL ⟨k, nx, row, pas⟩ (f, t) = betweenL k f t := el_b e1 e2 e3
        have HE := Lib.hid he
        clear he T e1
        have c : nx = false ∨ (nx = true ∧ (t - f + 1 == 2) = false ∧ (t == f + 1) = false) := by
          cases nx
          · exact .inl rfl
          · exact .inr ⟨rfl, beq_eq_false_iff_ne.2 (fun h => e3 ⟨rfl, by omega⟩), beq_eq_false_iff_ne.2 (fun h => e3 ⟨rfl, h⟩)⟩
        clear e3
        have d : ¬ 0 < row ∨ (0 < row ∧ ¬ row ≤ t - f + 1) := by
          by_cases b3 : 0 < row
          · exact .inr ⟨b3, fun h => e2 ⟨b3, h⟩⟩
          · exact .inl b3
        clear e2
        rcases c with rfl | ⟨rfl, c1, c2⟩
        all_goals
          rcases d with d1 | ⟨d1, d2⟩
          all_goals
            go_enter Tryd.func63, Tryd.ntmps63
            go_wp2_with fail
            refine B.mono ?_
            rintro e w1 ⟨rfl, hb1⟩
            go_wp2_with fail
            go_ret
            exact ⟨ret_str (by rw [HE.out]), HB.out.trans (hb1.mono (by simp; omega))⟩

set_option maxRecDepth 100000 in
set_option maxHeartbeats 4000000 in
theorem relement_any (s : Sty) (x : Sp) (w : World) (hk : 1 ≤ s.k) (hk3 : s.k ≤ 3) (hr0 : 0 ≤ s.row) (hr1 : s.row ≤ 999) (h1 : 1 ≤ x.1) (h2 : x.1 ≤ x.2) (h3 : x.2 ≤ 999) :
    Calls Tryd.prog 45 #[.agg #[.int .i64 s.k, .bool s.nx, .int .i64 s.row, .int .i64 s.pas], .agg #[.int .i64 x.1, .int .i64 x.2]] w fun e w' => e = .returned (.string (bs (elementL s x))) ∧ Below w.heap.size w w' := by
  have T := rtext_any x.1 ((w.alloc (.cells #[.int .i64 s.k, .bool s.nx, .int .i64 s.row, .int .i64 s.pas] 24)).alloc (.cells #[.int .i64 x.1, .int .i64 x.2] 68)) (by omega) (by omega)
  have B := rbetween_any s.k s.row s.pas x.1 x.2 s.nx ((w.alloc (.cells #[.int .i64 s.k, .bool s.nx, .int .i64 s.row, .int .i64 s.pas] 24)).alloc (.cells #[.int .i64 x.1, .int .i64 x.2] 68)) hk hk3 (by omega) (by omega) (by omega) h3
  have z := bs_len3 x.1
  have HB := Lib.hid (((Below.refl w.heap.size w).alloc (Nat.le_refl _) (.cells #[.int .i64 s.k, .bool s.nx, .int .i64 s.row, .int .i64 s.pas] 24)).alloc (by simp) (.cells #[.int .i64 x.1, .int .i64 x.2] 68))
  obtain ⟨k, nx, row, pas⟩ := s
  obtain ⟨f, t⟩ := x
  dsimp only at *
  generalize hSA : bs (textL f) = SA at T z
  have HSA := Lib.hid hSA; clear hSA
  by_cases e1 : f = t
  · have he : elementL ⟨k, nx, row, pas⟩ (f, t) = textL f := if_pos e1
    have HE := Lib.hid he
    clear he B
    subst e1
    go_enter Tryd.func45, Tryd.ntmps45
    go_wp2_with fail
    refine T.mono ?_
    rintro e w1 ⟨rfl, hb1⟩
    go_wp2_with fail
    go_ret
    exact ⟨ret_str (by rw [HE.out, HSA.out]), HB.out.trans (hb1.mono (by simp; omega))⟩
  · have a1 : (t - f + 1 == 1) = false := beq_eq_false_iff_ne.2 (by omega)
    have a2 : (f == t) = false := beq_eq_false_iff_ne.2 e1
    have hle : f + 1 ≤ t := by omega
    by_cases e2 : 0 < row ∧ row ≤ t - f + 1
    · have he : elementL ⟨k, nx, row, pas⟩ (f, t) = textL f ++ [102, 102] := el_ff e1 e2.1 e2.2
      have HE := Lib.hid he
      obtain ⟨b1, b2⟩ := e2
      clear he B e1
      go_enter Tryd.func45, Tryd.ntmps45
      go_wp2_with fail
      refine T.mono ?_
      rintro e w1 ⟨rfl, hb1⟩
      go_wp2_with fail
      go_ret
      exact ⟨ret_str (by rw [HE.out, ← HSA.out, show ({ data := #[102, 102] } : ByteArray) = bs [102, 102] from rfl, bs_append]), HB.out.trans (hb1.mono (by simp; omega))⟩
    · by_cases e3 : nx = true ∧ t = f + 1
      · have he : elementL ⟨k, nx, row, pas⟩ (f, t) = textL f ++ [102] := el_f e1 e2 e3.1 e3.2
        have HE := Lib.hid he
        obtain ⟨rfl, b2⟩ := e3
        have c1 : (t - f + 1 == 2) = true := by rw [beq_iff_eq]; omega
        have c2 : (t == f + 1) = true := by rw [beq_iff_eq]; omega
        clear he B e1
        by_cases b3 : 0 < row
        · have b4 : ¬ row ≤ t - f + 1 := fun h => e2 ⟨b3, h⟩
          clear e2 b2
          go_enter Tryd.func45, Tryd.ntmps45
          go_wp2_with fail
          refine T.mono ?_
          rintro e w1 ⟨rfl, hb1⟩
          go_wp2_with fail
          go_ret
          exact ⟨ret_str (by rw [HE.out, ← HSA.out, show ({ data := #[102] } : ByteArray) = bs [102] from rfl, bs_append]), HB.out.trans (hb1.mono (by simp; omega))⟩
        · clear e2 b2
          go_enter Tryd.func45, Tryd.ntmps45
          go_wp2_with fail
          refine T.mono ?_
          rintro e w1 ⟨rfl, hb1⟩
          go_wp2_with fail
          go_ret
          exact ⟨ret_str (by rw [HE.out, ← HSA.out, show ({ data := #[102] } : ByteArray) = bs [102] from rfl, bs_append]), HB.out.trans (hb1.mono (by simp; omega))⟩
      · have he : elementL ⟨k, nx, row, pas⟩ (f, t) = betweenL k f t := el_b e1 e2 e3
        have HE := Lib.hid he
        clear he T e1
        have c : nx = false ∨ (nx = true ∧ (t - f + 1 == 2) = false ∧ (t == f + 1) = false) := by
          cases nx
          · exact .inl rfl
          · exact .inr ⟨rfl, beq_eq_false_iff_ne.2 (fun h => e3 ⟨rfl, by omega⟩), beq_eq_false_iff_ne.2 (fun h => e3 ⟨rfl, h⟩)⟩
        clear e3
        have d : ¬ 0 < row ∨ (0 < row ∧ ¬ row ≤ t - f + 1) := by
          by_cases b3 : 0 < row
          · exact .inr ⟨b3, fun h => e2 ⟨b3, h⟩⟩
          · exact .inl b3
        clear e2
        rcases c with rfl | ⟨rfl, c1, c2⟩
        all_goals
          rcases d with d1 | ⟨d1, d2⟩
          all_goals
            go_enter Tryd.func45, Tryd.ntmps45
            go_wp2_with fail
            refine B.mono ?_
            rintro e w1 ⟨rfl, hb1⟩
            go_wp2_with fail
            go_ret
            exact ⟨ret_str (by rw [HE.out]), HB.out.trans (hb1.mono (by simp; omega))⟩
end Go.Proofs.YtecdkpcapalifaaDoor

namespace Go.Proofs.YtecdkpcapalifaaDoor
open Go.RowKit Go.Maps

def singles (a : Int) (k : Nat) : List Sp := (List.range k).map fun i : Nat => (a + 2 * (i : Int), a + 2 * (i : Int))
theorem singles_succ (a : Int) (k : Nat) : singles a (k + 1) = singles a k ++ [(a + 2 * (k : Int), a + 2 * (k : Int))] := by unfold singles; rw [List.range_succ, List.map_append]; rfl
theorem singles_len (a : Int) (k : Nat) : (singles a k).length = k := by simp [singles]
theorem scat_eq (n : Nat) (a b : Int) (hn : 1 ≤ n) : scat n a b = singles a (n - 1) ++ [(a + 2 * ((n - 1 : Nat) : Int), b)] := by
  unfold scat singles
  rw [show ((n - 1 : Nat) : Int) = (n : Int) - 1 by omega]
theorem scat_len (n : Nat) (a b : Int) (hn : 1 ≤ n) : (scat n a b).length = n := by rw [scat_eq n a b hn, List.length_append, singles_len]; simp; omega
theorem prs_set (L : List Sp) (x y b : Int) : (prs (L ++ [(x, y)])).set (L.length * 2 + 1) (.int .i64 b) = prs (L ++ [(x, b)]) := by
  rw [prs_snoc, prs_snoc, List.set_append_right _ _ (by rw [prs_len]; omega)]
  congr 1
  rw [prs_len, show L.length * 2 + 1 - L.length * 2 = 1 by omega]
  rfl

set_option maxRecDepth 100000 in
set_option maxHeartbeats 2000000 in
theorem scattered_any (n : Nat) (a b : Int) (w : World) (hn : 1 ≤ n) (hn' : n ≤ 1000) (ha : 0 ≤ a) (ha' : a ≤ 100000) :
    Calls Tryd.prog 54 #[.int .i64 n, .int .i64 a, .int .i64 b] w fun e w' => ∃ v, e = .returned v ∧ w'.ownsRow w.heap.size 81 2 v n (prs (scat n a b)) ∧ Below w.heap.size w w' := by
  obtain ⟨i0, hi0, hz0, hz1, hz2⟩ := info_parts Tryd.info81
  have HI := Lib.hid hi0; have HZ0 := Lib.hid hz0; have HZ1 := Lib.hid hz1; have HZ2 := Lib.hid hz2
  clear hi0 hz0 hz1 hz2
  go_enter Tryd.func54, Tryd.ntmps54
  go_wp2
  go_loopw [7, 10] (fun v i wr => ∃ k : Nat, k ≤ n ∧ i = .int .i64 k ∧ wr.ownsRow w.heap.size 81 2 v k (prs (singles a k)) ∧ Below w.heap.size w wr) (fun _ i _ => n - (intOf i).toNat)
  case atStart => exact ⟨0, Nat.zero_le _, rfl, by simpa [prs, singles] using World.ownsRow_nil w _ _ _, Below.refl _ _⟩
  case round =>
    obtain ⟨k, hk, rfl, hown, hbl⟩ := hrel
    by_cases hlt : k < n
    · have hbsz := hbl.size
      have HO := Lib.hid hown; have HB := Lib.hid hbl
      have hT := (congrArg prs (singles_succ a k)).trans (prs_snoc _ _)
      have HT := Lib.hid hT
      have hk1 : (k : Int) < (n : Int) := by omega
      have hk2 : (k : Int) ≤ 1000 := by omega
      clear hown hbl hT
      go_wp2_with (at_builtin; refine wpList_append_lies _ rfl _ _ _ rfl w.heap.size 81 i0 _ 2 16 Tryd.underlying38 HI.out HZ0.out HZ1.out HZ2.out rfl (by omega) _ k (prs (singles a k)) rfl (HO.out.alloc _) ⟨wr.heap.size, 0, none⟩ 1 1 [.int .i64 (a + 2 * (k : Int)), .int .i64 (a + 2 * (k : Int))] rfl rfl (World.news_of_block (cs := #[.int .i64 (a + 2 * (k : Int)), .int .i64 (a + 2 * (k : Int))]) (t := 81) (fr := (0, 0)) (heap_alloc_new wr _)) (by simp [Value.oneCell']) (by omega) (by unfold maxLen; omega) (by omega) (by simp; omega) (wr.heap.size + 1) (by simp) ?_; intro gg cap w3 hown1 hgrow hat hltg)
      have HO1 := Lib.hid hown1; clear hown1
      go_roundw
      case rel => exact ⟨k + 1, by omega, by go_num, by rw [HT.out]; exact HO1.out, (HB.out.alloc hbsz _).grown hgrow (by simp; omega) (fun j e => (HO.out.lt j e).1)⟩
      case measure => simp [intOf]; omega
    · obtain rfl : k = n := by omega
      obtain ⟨m, rfl⟩ : ∃ m, k = m + 1 := ⟨k - 1, by omega⟩
      obtain ⟨g, cap, rfl⟩ := ownsRow_succ hown
      have hc := hown.cellAt (m * 2 + 1) (by omega)
      have hf := hown.frozenAt (m * 2 + 1)
      have hst := (hown.stored (m * 2 + 1) (.int .i64 b)).1
      have hlt := (hown.lt g rfl).1
      have hset : (prs (singles a (m + 1))).set (m * 2 + 1) (.int .i64 b) = prs (scat (m + 1) a b) := by
        rw [scat_eq _ _ _ hn, singles_succ]
        have := prs_set (singles a m) (a + 2 * (m : Int)) (a + 2 * (m : Int)) b
        rw [singles_len] at this
        exact this
      rw [hset] at hst
      have hcc : (prs (singles a (m + 1)))[m * 2 + 1]? = some (.int .i64 (a + 2 * (m : Int))) := by
        have := prs_at (singles a (m + 1)) m 1 (a + 2 * (m : Int), a + 2 * (m : Int)) (by rw [singles_succ, List.getElem?_append_right (by rw [singles_len]; omega), singles_len]; simp) (by omega)
        exact this
      rw [hcc] at hc
      have HST := Lib.hid hst; have HB := Lib.hid hbl
      have e1 : ((m + 1 : Nat) : Int) - 1 = (m : Int) := by omega
      have hm : (m : Int) ≤ 1000 := by omega
      clear hown hst hset hcc hbl
      go_wp2
      go_ret
      exact ⟨_, rfl, HST.out, HB.out.setCell (p := ⟨g, _, none⟩) hlt _⟩

/-! numbers -/
theorem isDg_iff {c : UInt8} : isDg c = true ↔ 48 ≤ c.toNat ∧ c.toNat ≤ 57 := by simp [isDg]
theorem digs_eq {t : List UInt8} {k : Nat} (h3 : k ≤ 3) (hk : k ≤ t.length) (hin : ∀ i c, i < k → t[i]? = some c → isDg c = true)
    (hend : k = 3 ∨ k = t.length ∨ ∃ c, t[k]? = some c ∧ isDg c = false) : digs t = t.take k := by
  have gen : ∀ (m : Nat) (t : List UInt8) (k : Nat), k ≤ m → k ≤ t.length → (∀ i c, i < k → t[i]? = some c → isDg c = true) → (k = m ∨ k = t.length ∨ ∃ c, t[k]? = some c ∧ isDg c = false) → (t.take m).takeWhile isDg = t.take k := by
    intro m
    induction m with
    | zero => intro t k h _ _ _; obtain rfl : k = 0 := by omega
              rfl
    | succ m ih =>
      intro t k h3 hk hin hend
      cases t with
      | nil => simp at hk; subst hk; rfl
      | cons x r =>
        rw [List.take_succ_cons, List.takeWhile_cons]
        cases k with
        | zero =>
          rcases hend with h | h | ⟨c, hc, hf⟩
          · omega
          · simp at h
          · simp at hc; subst hc; rw [hf]; rfl
        | succ k =>
          rw [hin 0 x (by omega) rfl, List.take_succ_cons]
          rw [if_pos rfl]
          rw [ih r k (by omega) (by simpa using hk) (fun i c hi hc => hin (i + 1) c (by omega) (by simpa using hc))]
          rcases hend with h | h | ⟨c, hc, hf⟩
          · exact .inl (by omega)
          · exact .inr (.inl (by simpa using h))
          · exact .inr (.inr ⟨c, by simpa using hc, hf⟩)
  exact gen 3 t k h3 hk hin hend
theorem valL_snoc (d : List UInt8) (c : UInt8) : valL (d ++ [c]) = 10 * valL d + ((c.toNat : Int) - 48) := by unfold valL; rw [List.foldl_append]; rfl
theorem valL_bdr (r : List UInt8) (h : ∀ c ∈ r, isDg c = true) : 0 ≤ valL r.reverse ∧ valL r.reverse < 10 ^ r.length := by
  induction r with
  | nil => exact ⟨by decide, by decide⟩
  | cons c r ih =>
    have h1 := ih (fun x hx => h x (List.mem_cons_of_mem _ hx))
    have h2 := isDg_iff.1 (h c (List.mem_cons_self ..))
    rw [List.reverse_cons, valL_snoc, List.length_cons, Int.pow_succ]
    omega
theorem valL_bd {d : List UInt8} (h : ∀ c ∈ d, isDg c = true) : 0 ≤ valL d ∧ valL d < 10 ^ d.length := by
  have := valL_bdr d.reverse (fun c hc => h c (List.mem_reverse.1 hc))
  rwa [List.reverse_reverse, List.length_reverse] at this
theorem pow3 {x : Int} {n : Nat} (h : x < 10 ^ n) (hn : n ≤ 3) : x ≤ 999 := by
  have : n = 0 ∨ n = 1 ∨ n = 2 ∨ n = 3 := by omega
  rcases this with rfl | rfl | rfl | rfl <;> omega
theorem digs_dg (t : List UInt8) : ∀ c ∈ digs t, isDg c = true := fun c hc => by
  have h := List.all_takeWhile (p := isDg) (l := t.take 3)
  rw [List.all_eq_true] at h
  exact h c hc
theorem digs_len (t : List UInt8) : (digs t).length ≤ 3 := by
  unfold digs
  exact Nat.le_trans (List.takeWhile_prefix _).length_le (by simp; omega)
theorem valL_999 (t : List UInt8) : 0 ≤ valL (digs t) ∧ valL (digs t) ≤ 999 := by
  have h1 := valL_bd (digs_dg t)
  have h2 := digs_len t
  exact ⟨h1.1, pow3 h1.2 h2⟩
theorem take_dg {t : List UInt8} {k : Nat} (hin : ∀ i c, i < k → t[i]? = some c → isDg c = true) : ∀ c ∈ t.take k, isDg c = true := fun c hc => by
  obtain ⟨i, hi⟩ := List.mem_iff_getElem?.1 hc
  rw [List.getElem?_take] at hi
  split at hi
  · exact hin i c ‹_› hi
  · cases hi
theorem take_999 {t : List UInt8} {k : Nat} (hk : k ≤ 3) (hin : ∀ i c, i < k → t[i]? = some c → isDg c = true) : 0 ≤ valL (t.take k) ∧ valL (t.take k) ≤ 999 := by
  have h1 := valL_bd (take_dg hin)
  have h2 : (t.take k).length ≤ 3 := by simp; omega
  exact ⟨h1.1, pow3 h1.2 h2⟩
theorem dg_step {t : List UInt8} {k : Nat} {c : UInt8} (hin : ∀ i c, i < k → t[i]? = some c → isDg c = true) (hc : t[k]? = some c) (hd : isDg c = true) : ∀ i c, i < k + 1 → t[i]? = some c → isDg c = true := fun i x hi hx => by
  rcases Nat.lt_or_ge i k with h | h
  · exact hin i x h hx
  · obtain rfl : i = k := by omega
    rw [hc] at hx; cases hx; exact hd
theorem fin_num {L : List UInt8} {k : Nat} {V : Int} (hd : digs L = L.take k) (hk : k ≤ L.length) (hv : valL (L.take k) = V) :
    Ending.returned (.tuple #[.int .i64 V, .int .i64 (k : Int)]) = .returned (.tuple #[.int .i64 (valL (digs L)), .int .i64 ((digs L).length : Int)]) := by
  rw [hd, hv, List.length_take_of_le hk]

set_option maxRecDepth 100000 in
set_option maxHeartbeats 4000000 in
theorem rnumber_any (L : List UInt8) (w : World) (hl : L.length ≤ 1000000) :
    Calls Tryd.prog 69 #[.string (bs L)] w fun e w' => e = .returned (.tuple #[.int .i64 (valL (digs L)), .int .i64 (digs L).length]) ∧ w = w' := by
  generalize hS : bs L = S
  have hsz : S.size = L.length := by rw [← hS, bs_size]
  have HS := Lib.hid hS; have HSZ := Lib.hid hsz
  have hs1 : S.size ≤ 1000000 := by omega
  clear hS hsz
  go_enter Tryd.func69, Tryd.ntmps69
  go_wp2
  go_loopw [4, 5] (fun nv kv wr => ∃ k : Nat, k ≤ 3 ∧ k ≤ L.length ∧ (∀ i c, i < k → L[i]? = some c → isDg c = true) ∧ nv = .int .i64 (valL (L.take k)) ∧ kv = .int .i64 k ∧ w = wr) (fun _ kv _ => 4 - (intOf kv).toNat)
  case atStart => exact ⟨0, by omega, by omega, fun i c hi => absurd hi (by omega), by rfl, rfl, rfl⟩
  case round =>
    obtain ⟨k, hk1, hk2, hin, rfl, rfl, rfl⟩ := hrel
    have hb := take_999 hk1 hin
    obtain ⟨hb1, hb2⟩ := hb
    have HIN := Lib.hid hin
    clear hin

    by_cases hlt : k < 3 ∧ k < L.length
    · obtain ⟨q1, q2⟩ := hlt
      obtain ⟨c, hc⟩ := elem_at q2
      have i1 : k < S.size := by rw [HSZ.out]; exact q2
      have i3 : (k : Int) < (S.size : Int) := by omega
      have e1 : S[k] = c := by
        have := HS.out
        subst this
        exact bs_get hc _
      have k3 : (k : Int) < 3 := by omega
      have hcb : c.toNat < 256 := c.toNat_lt
      have HC := Lib.hid hc
      clear hc
      by_cases h48 : 48 ≤ (c.toNat : Int)
      · by_cases h57 : (c.toNat : Int) ≤ 57
        · have hv : valL (L.take (k + 1)) = 10 * valL (L.take k) + ((c.toNat : Int) - 48) := by rw [take_succ_at HC.out, valL_snoc]
          have HV := Lib.hid hv
          clear hv
          generalize valL (L.take k) = V at hb1 hb2 HV
          go_wp2_with fail
          go_roundw
          case rel => exact ⟨k + 1, by omega, by omega, dg_step HIN.out HC.out (isDg_iff.2 (by omega)), by rw [HV.out], by go_num, by first | rfl | trivial⟩
          case measure => simp [intOf]; omega
        · have hd : digs L = L.take k := digs_eq hk1 hk2 HIN.out (.inr (.inr ⟨c, HC.out, by rw [Bool.eq_false_iff, ne_eq, isDg_iff]; omega⟩))
          have HD := Lib.hid hd
          clear hd
          generalize hV : valL (L.take k) = V at hb1 hb2
          have HV := Lib.hid hV
          clear hV
          go_wp2_with fail
          go_ret2
          exact ⟨fin_num HD.out hk2 HV.out, rfl⟩
      · have hd : digs L = L.take k := digs_eq hk1 hk2 HIN.out (.inr (.inr ⟨c, HC.out, by rw [Bool.eq_false_iff, ne_eq, isDg_iff]; omega⟩))
        have HD := Lib.hid hd
        clear hd
        generalize hV : valL (L.take k) = V at hb1 hb2
        have HV := Lib.hid hV
        clear hV
        go_wp2_with fail
        go_ret2
        exact ⟨fin_num HD.out hk2 HV.out, rfl⟩
    · have hd : digs L = L.take k := digs_eq hk1 hk2 HIN.out (by omega)
      have hsz := HSZ.out
      have HD := Lib.hid hd
      have i2 : k ≤ S.size := by omega
      generalize hV : valL (L.take k) = V at hb1 hb2
      have HV := Lib.hid hV
      clear hd hV
      by_cases hlt1 : k < S.size
      · have k3 : ¬ (k : Int) < 3 := by omega
        clear hlt hsz
        go_wp2_with fail
        go_ret2
        exact ⟨fin_num HD.out hk2 HV.out, rfl⟩
      · have k3 : ¬ (k : Int) < (S.size : Int) := by omega
        clear hlt hsz
        go_wp2_with fail
        go_ret2
        exact ⟨fin_num HD.out hk2 HV.out, rfl⟩

set_option maxRecDepth 100000 in
set_option maxHeartbeats 4000000 in
theorem number_any (B : Nat) (L : List UInt8) (w : World) (hl : L.length ≤ 1000000) (hcell : w.cell? ⟨B, 0, none⟩ = some (.string (bs L))) (hf : w.frozen? ⟨B, 0, none⟩ = false) :
    Calls Tryd.prog 67 #[.pointer (some ⟨B, 0, none⟩)] w fun e w' => e = .returned (.tuple #[.int .i64 (valL (digs L)), .int .i64 (digs L).length]) ∧ w' = w.setCell ⟨B, 0, none⟩ (.string (bs (L.drop (digs L).length))) := by
  generalize hS : bs L = S at hcell
  have hsz : S.size = L.length := by rw [← hS, bs_size]
  have HS := Lib.hid hS; have HSZ := Lib.hid hsz
  have hs1 : S.size ≤ 1000000 := by omega
  clear hS hsz
  go_enter Tryd.func67, Tryd.ntmps67
  go_wp2
  go_loopw [3, 4] (fun nv kv wr => ∃ k : Nat, k ≤ 3 ∧ k ≤ L.length ∧ (∀ i c, i < k → L[i]? = some c → isDg c = true) ∧ nv = .int .i64 (valL (L.take k)) ∧ kv = .int .i64 k ∧ w = wr) (fun _ kv _ => 4 - (intOf kv).toNat)
  case atStart => exact ⟨0, by omega, by omega, fun i c hi => absurd hi (by omega), by rfl, rfl, rfl⟩
  case round =>
    obtain ⟨k, hk1, hk2, hin, rfl, rfl, rfl⟩ := hrel
    have hb := take_999 hk1 hin
    obtain ⟨hb1, hb2⟩ := hb
    have HIN := Lib.hid hin
    have hext : S.extract k S.size = bs (L.drop k) := by
      have := HS.out
      subst this
      rw [bs_size, bs_extract, List.take_of_length_le (by simp)]
    have HX := Lib.hid hext
    have hks : k ≤ S.size := by rw [HSZ.out]; exact hk2
    clear hin hext

    by_cases hlt : k < 3 ∧ k < L.length
    · obtain ⟨q1, q2⟩ := hlt
      obtain ⟨c, hc⟩ := elem_at q2
      have i1 : k < S.size := by rw [HSZ.out]; exact q2
      have i3 : (k : Int) < (S.size : Int) := by omega
      have e1 : S[k] = c := by
        have := HS.out
        subst this
        exact bs_get hc _
      have k3 : (k : Int) < 3 := by omega
      have hcb : c.toNat < 256 := c.toNat_lt
      have HC := Lib.hid hc
      clear hc
      by_cases h48 : 48 ≤ (c.toNat : Int)
      · by_cases h57 : (c.toNat : Int) ≤ 57
        · have hv : valL (L.take (k + 1)) = 10 * valL (L.take k) + ((c.toNat : Int) - 48) := by rw [take_succ_at HC.out, valL_snoc]
          have HV := Lib.hid hv
          clear hv
          generalize valL (L.take k) = V at hb1 hb2 HV
          go_wp2_with fail
          all_goals
           go_roundw
           case rel => exact ⟨k + 1, by omega, by omega, dg_step HIN.out HC.out (isDg_iff.2 (by omega)), by rw [HV.out], by go_num, by first | rfl | trivial⟩
           case measure => simp [intOf]; omega
        · have hd : digs L = L.take k := digs_eq hk1 hk2 HIN.out (.inr (.inr ⟨c, HC.out, by rw [Bool.eq_false_iff, ne_eq, isDg_iff]; omega⟩))
          have HD := Lib.hid hd
          clear hd
          generalize hV : valL (L.take k) = V at hb1 hb2
          have HV := Lib.hid hV
          clear hV
          go_wp2_with fail
          all_goals
            go_ret2
            exact ⟨fin_num HD.out hk2 HV.out, by rw [HD.out, List.length_take_of_le hk2, ← HX.out]⟩
      · have hd : digs L = L.take k := digs_eq hk1 hk2 HIN.out (.inr (.inr ⟨c, HC.out, by rw [Bool.eq_false_iff, ne_eq, isDg_iff]; omega⟩))
        have HD := Lib.hid hd
        clear hd
        generalize hV : valL (L.take k) = V at hb1 hb2
        have HV := Lib.hid hV
        clear hV
        go_wp2_with fail
        all_goals
          go_ret2
          exact ⟨fin_num HD.out hk2 HV.out, by rw [HD.out, List.length_take_of_le hk2, ← HX.out]⟩
    · have hd : digs L = L.take k := digs_eq hk1 hk2 HIN.out (by omega)
      have hsz := HSZ.out
      have HD := Lib.hid hd
      have i2 : k ≤ S.size := by omega
      generalize hV : valL (L.take k) = V at hb1 hb2
      have HV := Lib.hid hV
      clear hd hV
      by_cases hlt1 : k < S.size
      · have k3 : ¬ (k : Int) < 3 := by omega
        clear hlt hsz
        go_wp2_with fail
        all_goals
          go_ret2
          exact ⟨fin_num HD.out hk2 HV.out, by rw [HD.out, List.length_take_of_le hk2, ← HX.out]⟩
      · have k3 : ¬ (k : Int) < (S.size : Int) := by omega
        clear hlt hsz
        go_wp2_with fail
        all_goals
          go_ret2
          exact ⟨fin_num HD.out hk2 HV.out, by rw [HD.out, List.length_take_of_le hk2, ← HX.out]⟩
end Go.Proofs.YtecdkpcapalifaaDoor

namespace Go.Proofs.YtecdkpcapalifaaDoor
open Go.RowKit Go.Maps

theorem bs_toList (l : List UInt8) : (bs l).toList = l := by rw [ByteArray.toList_eq]; rfl
set_option maxRecDepth 100000 in
set_option maxHeartbeats 1000000 in
theorem dash_yes (q : List UInt8) (w : World) (hr : q.length ≤ 1000000) :
    Calls Tryd.prog 68 #[.string (bs (45 :: q)), .string { data := #[45] }] w fun e w' => e = .returned (.bool true) ∧ w = w' := by
  generalize hS : bs (45 :: q) = S
  have hsz : S.size = q.length + 1 := by rw [← hS, bs_size, List.length_cons]
  have h1 : 1 ≤ S.size := by omega
  have h2 : S.size ≤ 1000001 := by rw [hsz]; omega
  have hx : (S.extract 0 1).toList = [45] := by rw [← hS, bs_extract, bs_toList]; rfl
  have HS := Lib.hid hS; clear hS hsz
  go_enter Tryd.func68, Tryd.ntmps68
  go_wp2
  go_ret
  exact ⟨rfl, rfl⟩
set_option maxRecDepth 100000 in
set_option maxHeartbeats 1000000 in
theorem dash_no (r : List UInt8) (w : World) (hr : r.length ≤ 1000000) (h : ∀ q, r ≠ 45 :: q) :
    Calls Tryd.prog 68 #[.string (bs r), .string { data := #[45] }] w fun e w' => e = .returned (.bool false) ∧ w = w' := by
  cases r with
  | nil =>
    have h0 : ((bs []).size : Int) < 1 := by decide
    generalize bs [] = S at h0
    clear h
    go_enter Tryd.func68, Tryd.ntmps68
    go_wp2
    go_ret
    exact ⟨rfl, rfl⟩
  | cons c q =>
    generalize hS : bs (c :: q) = S
    have hsz : S.size = q.length + 1 := by rw [← hS, bs_size, List.length_cons]
    have h1 : 1 ≤ S.size := by omega
    have h2 : S.size ≤ 1000001 := by rw [hsz]; simp at hr; omega
    have hc : c ≠ 45 := fun e => h q (by rw [e])
    have hx : ((S.extract 0 1).toList == [45]) = false := by rw [← hS, bs_extract, bs_toList]; simpa using hc
    have HS := Lib.hid hS; clear hS hsz h hc
    go_enter Tryd.func68, Tryd.ntmps68
    go_wp2
    go_ret
    exact ⟨rfl, rfl⟩

def ReadOut (w : World) (r : Option (List Sp)) (e : Ending) (w' : World) : Prop :=
  Below w.heap.size w w' ∧ match r with
    | none => ∃ v, e = .returned (.tuple #[v, .bool false])
    | some l => ∃ v, e = .returned (.tuple #[v, .bool true]) ∧ RdP w' v l
theorem readOut_none {w w' : World} {r : Option (List Sp)} (hr : r = none) (hb : Below w.heap.size w w') (v : Value) : ReadOut w r (.returned (.tuple #[v, .bool false])) w' := by
  subst hr; exact ⟨hb, v, rfl⟩
theorem readOut_some {w w' : World} {r : Option (List Sp)} {l : List Sp} (hr : r = some l) (hb : Below w.heap.size w w') {v : Value} (hv : RdP w' v l) : ReadOut w r (.returned (.tuple #[v, .bool true])) w' := by
  subst hr; exact ⟨hb, v, rfl, hv⟩
/-- the four tests on what is left of a string -/
theorem tests_of (r : List UInt8) : ((bs r).toList = r) := bs_toList r
theorem readL_none0 {s : Sty} {t : List UInt8} (h : digs t = []) : readL s t = none := by unfold readL; dsimp only; rw [if_pos h]
theorem one_pair {w : World} (x y : Int) (t : TypeId) (n : Nat) (hn : w.heap.size = n) : RdP (w.alloc (.cells #[.int .i64 x, .int .i64 y] t)) (.slice (some ⟨n, 0, none⟩) 1 1) [(x, y)] := by
  subst hn; exact RdP_block (Boxs.new w t #[.int .i64 x, .int .i64 y]) rfl rfl (by omega)

set_option maxRecDepth 100000 in
set_option maxHeartbeats 4000000 in
theorem read_plain (s : Sty) (t : List UInt8) (w : World) (hs : okSty s) (ht : t.length ≤ 1000000) (hd : ∀ q, t.drop (digs t).length ≠ 45 :: q) :
    Calls Tryd.prog 48 #[.agg #[.int .i64 s.k, .bool s.nx, .int .i64 s.row, .int .i64 s.pas], .string (bs t)] w (ReadOut w (readL s t)) := by
  obtain ⟨k, nx, row, pas⟩ := s
  obtain ⟨k1, k2, r0, r1, r2, p0, p1, p2⟩ := hs
  dsimp only at *
  have hB0 := Lib.hid ((Below.refl w.heap.size w).alloc (Nat.le_refl _) (.cells #[.int .i64 k, .bool nx, .int .i64 row, .int .i64 pas] 36))
  have N := number_any (w.heap.size + 1) t ((w.alloc (.cells #[.int .i64 k, .bool nx, .int .i64 row, .int .i64 pas] 36)).alloc (.cells #[.string (bs t)] 9)) ht (by simp) (by simp)
  have D := dash_no (t.drop (digs t).length) ((w.alloc (.cells #[.int .i64 k, .bool nx, .int .i64 row, .int .i64 pas] 36)).alloc (.cells #[.string (bs (t.drop (digs t).length))] 9)) (by rw [List.length_drop]; omega) hd
  have hV := valL_999 t
  have hdl := digs_len t
  generalize hr : t.drop (digs t).length = r at N D hd
  generalize hA : valL (digs t) = A at N hV
  generalize hJ : (digs t).length = J at N hdl
  generalize hS : bs r = S at N D
  obtain ⟨hA1, hA2⟩ := hV
  have HR := Lib.hid hr; have HA := Lib.hid hA; have HJ := Lib.hid hJ; have HS := Lib.hid hS; have HD := Lib.hid hd
  have hst : S.toList = r := by rw [← hS, bs_toList]
  have HST := Lib.hid hst
  clear hr hA hJ hS hd hst
  generalize bs t = T at N
  by_cases j0 : J = 0
  · have hn : readL ⟨k, nx, row, pas⟩ t = none := readL_none0 (List.length_eq_zero_iff.1 (HJ.out.trans j0))
    have HN := Lib.hid hn
    clear hn
    subst j0
    go_enter Tryd.func48, Tryd.ntmps48
    go_wp2_with fail
    refine N.mono ?_
    rintro e w1 ⟨rfl, rfl⟩
    go_wp2_with fail
    refine D.mono ?_
    rintro e w2 ⟨rfl, rfl⟩
    go_wp2_with fail
    go_ret2
    exact readOut_none HN.out (((Below.refl w.heap.size w).alloc (Nat.le_refl _) _).alloc (by simp) _) _

  · have j1 : 1 ≤ J := by omega
    have jn : ((J : Int) == 0) = false := beq_eq_false_iff_ne.2 (by omega)
    have jd : digs t ≠ [] := fun e => j0 (by rw [← HJ.out, e]; rfl)
    have HJD := Lib.hid jd
    clear j0 jd
    by_cases c1 : r = []
    · subst c1
      have hn : readL ⟨k, nx, row, pas⟩ t = some [(A, A)] := by unfold readL; dsimp only; rw [HR.out, HJ.out, HA.out]; rw [if_neg HJD.out, if_pos rfl]
      have HN := Lib.hid hn
      have t1 : S.toList = [] := HST.out
      clear hn
      go_enter Tryd.func48, Tryd.ntmps48
      go_wp2_with fail
      refine N.mono ?_
      rintro e w1 ⟨rfl, rfl⟩
      go_wp2_with fail
      refine D.mono ?_
      rintro e w2 ⟨rfl, rfl⟩
      go_wp2_with fail
      go_ret2
      exact readOut_some HN.out ((((Below.refl w.heap.size w).alloc (Nat.le_refl _) _).alloc (by simp) _).alloc (by simp; omega) _) (one_pair _ _ _ _ (by simp))

    · have t1 : (S.toList == []) = false := by rw [HST.out]; simpa using c1
      have t1' : S.toList.isEmpty = false := by rw [HST.out]; simpa using c1
      have C1 := Lib.hid c1
      clear c1
      by_cases c2 : r = [102]
      · have hn : readL ⟨k, nx, row, pas⟩ t = some [(A, A + 1)] := by unfold readL; dsimp only; rw [HR.out, HJ.out, HA.out]; rw [if_neg HJD.out, if_neg C1.out, if_pos c2]
        have HN := Lib.hid hn
        have t2 : (S.toList == [102]) = true := by rw [HST.out, c2]; rfl
        clear hn c2
        go_enter Tryd.func48, Tryd.ntmps48
        go_wp2_with fail
        refine N.mono ?_
        rintro e w1 ⟨rfl, rfl⟩
        go_wp2_with fail
        refine D.mono ?_
        rintro e w2 ⟨rfl, rfl⟩
        go_wp2_with fail
        go_ret2
        exact readOut_some HN.out ((((Below.refl w.heap.size w).alloc (Nat.le_refl _) _).alloc (by simp) _).alloc (by simp; omega) _) (one_pair _ _ _ _ (by simp))

      · have t2 : (S.toList == [102]) = false := by rw [HST.out]; simpa using c2
        have C2 := Lib.hid c2
        clear c2
        by_cases c3 : r = [102, 102]
        · have t3 : (S.toList == [102, 102]) = true := by rw [HST.out, c3]; rfl
          by_cases c4 : 0 < row
          · have hn : readL ⟨k, nx, row, pas⟩ t = some [(A, A + row - 1)] := by unfold readL; dsimp only; rw [HR.out, HJ.out, HA.out]; rw [if_neg HJD.out, if_neg C1.out, if_neg C2.out, if_pos c3, if_pos c4]
            have HN := Lib.hid hn
            clear hn c3
            go_enter Tryd.func48, Tryd.ntmps48
            go_wp2_with fail
            refine N.mono ?_
            rintro e w1 ⟨rfl, rfl⟩
            go_wp2_with fail
            refine D.mono ?_
            rintro e w2 ⟨rfl, rfl⟩
            go_wp2_with fail
            go_ret2
            exact readOut_some HN.out ((((Below.refl w.heap.size w).alloc (Nat.le_refl _) _).alloc (by simp) _).alloc (by simp; omega) _) (one_pair _ _ _ _ (by simp))

          · have hn : readL ⟨k, nx, row, pas⟩ t = none := by unfold readL; dsimp only; rw [HR.out, HJ.out, HA.out]; rw [if_neg HJD.out, if_neg C1.out, if_neg C2.out, if_pos c3, if_neg c4]
            have HN := Lib.hid hn
            clear hn c3
            go_enter Tryd.func48, Tryd.ntmps48
            go_wp2_with fail
            refine N.mono ?_
            rintro e w1 ⟨rfl, rfl⟩
            go_wp2_with fail
            refine D.mono ?_
            rintro e w2 ⟨rfl, rfl⟩
            go_wp2_with fail
            go_ret2
            exact readOut_none HN.out (((Below.refl w.heap.size w).alloc (Nat.le_refl _) _).alloc (by simp) _) _

        · have t3 : (S.toList == [102, 102]) = false := by rw [HST.out]; simpa using c3
          have hn : readL ⟨k, nx, row, pas⟩ t = none := by
            unfold readL; dsimp only; rw [HR.out, HJ.out, HA.out]; rw [if_neg HJD.out, if_neg C1.out, if_neg C2.out, if_neg c3]
            split
            · rename_i q; exact absurd rfl (HD.out q)
            · rfl
          have HN := Lib.hid hn
          clear hn c3
          go_enter Tryd.func48, Tryd.ntmps48
          go_wp2_with fail
          refine N.mono ?_
          rintro e w1 ⟨rfl, rfl⟩
          go_wp2_with fail
          refine D.mono ?_
          rintro e w2 ⟨rfl, rfl⟩
          go_wp2_with fail
          go_ret2
          exact readOut_none HN.out (((Below.refl w.heap.size w).alloc (Nat.le_refl _) _).alloc (by simp) _) _

end Go.Proofs.YtecdkpcapalifaaDoor

namespace Go.Proofs.YtecdkpcapalifaaDoor
open Go.RowKit Go.Maps
theorem Tryd.under108 : Tryd.prog.underlying 108 = some (.array 3 3) := by kernel_rfl
theorem Tryd.info3 : (Tryd.prog.info? 3).map (fun i => (i.zero, i.size, i.bytes)) = some (some (.int .i64 0), 1, 8) := by kernel_rfl
@[go_sem] theorem Tryd.tens1 (w : World) : (Instr.index 108 (.agg #[.int .i64 1, .int .i64 10, .int .i64 100]) (.int .i64 1)).run Tryd.prog w = .ok (.int .i64 10) w := by
  obtain ⟨i0, hi, hz0, hz1, hz2⟩ := info_parts Tryd.info3
  simp [Instr.index, run_underlying Tryd.under108, asIntOf, sizeOf, typeInfo, hi, hz1, part, isAgg, run_underlying Tryd.underlying3]
@[go_sem] theorem Tryd.tens2 (w : World) : (Instr.index 108 (.agg #[.int .i64 1, .int .i64 10, .int .i64 100]) (.int .i64 2)).run Tryd.prog w = .ok (.int .i64 100) w := by
  obtain ⟨i0, hi, hz0, hz1, hz2⟩ := info_parts Tryd.info3
  simp [Instr.index, run_underlying Tryd.under108, asIntOf, sizeOf, typeInfo, hi, hz1, part, isAgg, run_underlying Tryd.underlying3]
theorem readL_dash {s : Sty} {t q : List UInt8} (h : digs t ≠ []) (hr : t.drop (digs t).length = 45 :: q) : readL s t = readRange s (valL (digs t)) (digs t).length q := by
  unfold readL
  dsimp only
  rw [hr, if_neg h, if_neg (by simp), if_neg (by simp), if_neg (by simp)]
  rfl
theorem range_none {s : Sty} {a : Int} {j : Nat} {q : List UInt8} (h : digs q = []) : readRange s a j q = none := by unfold readRange; dsimp only; rw [if_pos h]
def restB (a : Int) (j : Nat) (q : List UInt8) : Int := if (digs q).length < j then valL (digs q) + a / 10 ^ (digs q).length * 10 ^ (digs q).length else valL (digs q)
theorem range_one {s : Sty} {a : Int} {j : Nat} {q : List UInt8} (h : digs q ≠ []) (h2 : q.drop (digs q).length = []) : readRange s a j q = some [(a, restB a j q)] := by
  unfold readRange restB; dsimp only; rw [if_neg h, if_pos h2]
theorem range_pas {s : Sty} {a : Int} {j : Nat} {q : List UInt8} (h : digs q ≠ []) (h2 : q.drop (digs q).length = passimB) (h3 : 0 < s.pas) : readRange s a j q = some (scat s.pas.toNat a (restB a j q)) := by
  unfold readRange restB; dsimp only; rw [if_neg h, if_neg (by rw [h2]; decide), if_pos ⟨h2, h3⟩]
theorem range_no {s : Sty} {a : Int} {j : Nat} {q : List UInt8} (h : digs q ≠ []) (h2 : q.drop (digs q).length ≠ []) (h3 : ¬ (q.drop (digs q).length = passimB ∧ 0 < s.pas)) : readRange s a j q = none := by
  unfold readRange; dsimp only; rw [if_neg h, if_neg h2, if_neg h3]
end Go.Proofs.YtecdkpcapalifaaDoor

