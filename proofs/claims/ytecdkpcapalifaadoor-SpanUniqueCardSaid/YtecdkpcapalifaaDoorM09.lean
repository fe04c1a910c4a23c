/- before (program), where the lengths or the last pages differ. what Unique tries (its function literal). Unique (program). append of a slice that lies in memory, also an empty one. Unique (program): the walk. -/
import Derived.Test.YtecdkpcapalifaaDoorM05
import Derived.Lib.LazyBuf
import Derived.Test.YtecdkpcapalifaaDoorM02
import Derived.Test.YtecdkpcapalifaaDoorM07
set_option linter.unusedVariables false
namespace Go.Proofs.YtecdkpcapalifaaDoor
open Go.RowKit Go.Maps

def beforeS (p q : Int) (m n : Nat) : Bool := if p = q then decide (m < n) else decide (p < q)
theorem ints_last {P : List Int} {p : Int} : (P ++ [p])[P.length]? = some p := by simp

set_option maxRecDepth 100000 in
set_option maxHeartbeats 4000000 in
theorem before_any (v1 v2 : Value) (l1 l2 : List Sp) (w : World) (h1 : RdP w v1 l1) (h2 : RdP w v2 l2) (P Q : List Int) (p q : Int) (hP : pagesL l1 = P ++ [p]) (hQ : pagesL l2 = Q ++ [q])
    (hne : p ≠ q ∨ P.length ≠ Q.length) :
    Calls Tryd.prog 53 #[v1, v2] w fun e w' => e = .returned (.bool (beforeS p q P.length Q.length)) ∧ Below w.heap.size w w' := by
  have P1 := pages_any v1 l1 w h1
  have hPl := pagesL_len l1
  have hQl := pagesL_len l2
  rw [hP] at P1 hPl
  rw [hQ] at hQl
  rw [List.length_append, List.length_singleton] at hPl hQl
  have HV2 := Lib.hid h2; have HQ := Lib.hid hQ
  clear h1 h2 hP hQ
  go_enter Tryd.func53, Tryd.ntmps53
  go_wp2_with fail
  refine P1.mono ?_
  rintro e w1 ⟨pv, rfl, hown1, hb1⟩
  have P2 := pages_any v2 l2 w1 (HV2.out.below hb1)
  rw [HQ.out] at P2
  have HO1 := Lib.hid hown1; have HB1 := Lib.hid hb1
  clear hown1 hb1
  go_wp2_with fail
  refine P2.mono ?_
  rintro e w2 ⟨qv, rfl, hown2, hb2⟩
  have r1 : RdI w2 pv (P ++ [p]) := (owns_ints HO1.out).below hb2
  have r2 : RdI w2 qv (Q ++ [q]) := owns_ints hown2
  obtain ⟨a1, c1, rfl, l1, f1⟩ := r1.open
  obtain ⟨a2, c2, rfl, l2, f2⟩ := r2.open
  obtain ⟨b1, o1, rfl, _, g1⟩ := f1 P.length p ints_last
  obtain ⟨b2, o2, rfl, _, g2⟩ := f2 Q.length q ints_last
  have HB2 := Lib.hid (HB1.out.trans (hb2.mono HB1.out.size))
  clear hown2 hb2 r1 r2 f1 f2 HV2 HQ HO1 HB1 l1 l2
  rw [List.length_append, List.length_singleton, List.length_append, List.length_singleton]
  obtain ⟨m, hm⟩ : ∃ m, P.length = m := ⟨_, rfl⟩
  obtain ⟨n, hn⟩ : ∃ n, Q.length = n := ⟨_, rfl⟩
  rw [hm] at hne hPl g1 ⊢
  rw [hn] at hne hQl g2 ⊢
  have HMM := Lib.hid hm; have HMN := Lib.hid hn
  clear hm hn
  have hm9 : (m : Int) ≤ 999 := by omega
  have hn9 : (n : Int) ≤ 999 := by omega
  have hm0 : (0 : Int) ≤ (m : Int) := by omega
  have hn0 : (0 : Int) ≤ (n : Int) := by omega
  have hwm : IntKind.i64.wrap (m : Int) = (m : Int) := by rw [IntKind.wrap_i64]; omega
  have hwn : IntKind.i64.wrap (n : Int) = (n : Int) := by rw [IntKind.wrap_i64]; omega
  have hmm : (m : Int) < (m : Int) + 1 := by omega
  have hnn : (n : Int) < (n : Int) + 1 := by omega
  by_cases hpq : p = q
  · subst hpq
    have hmn : m ≠ n := by rcases hne with h | h; exact absurd rfl h; exact h
    have hS : beforeS p p m n = decide (m < n) := if_pos rfl
    have HS := Lib.hid hS
    have hpp : (p != p) = false := by simp
    have hd : (((m + 1 : Nat) : Int) != ((n + 1 : Nat) : Int)) = true := by simp; omega
    have hd2 : decide (((m + 1 : Nat) : Int) < ((n + 1 : Nat) : Int)) = decide (m < n) := by rw [Bool.eq_iff_iff]; simp
    clear hne hS
    go_wp2_with fail
    go_quiet (fail)
    go_wp2_with fail
    go_ret
    exact ⟨ret_bool (by rw [HMM.out, HMN.out, HS.out]), by repeat (first | exact HB2.out | refine Below.dn ?_ _)⟩
  · have hS : beforeS p q m n = decide (p < q) := if_neg hpq
    have HS := Lib.hid hS
    have hpp : (p != q) = true := by simpa using hpq
    clear hne hS
    go_wp2_with fail
    go_quiet (fail)
    go_wp2_with fail
    go_ret
    exact ⟨ret_bool (by rw [HMM.out, HMN.out, HS.out]), by repeat (first | exact HB2.out | refine Below.dn ?_ _)⟩

/-! pages of the lists that Unique tries -/
def ffA (r : Int) : List Sp := [(1, r)]
theorem pagesN_ff (r n : Nat) : pagesN [(1, (r : Int))] n = (List.range (min (n - 1) r)).map fun i : Nat => ((i + 1 : Nat) : Int) := by
  induction n with
  | zero => simp [pagesN]
  | succ n ih =>
    by_cases h : onP [(1, (r : Int))] n = true
    · rw [pagesN_yes h, ih]
      unfold onP inL at h
      simp at h
      rw [show min (n + 1 - 1) r = min (n - 1) r + 1 by omega, List.range_succ, List.map_append]
      congr 1
      simp
      omega
    · have h' : onP [(1, (r : Int))] n = false := by simpa using h
      rw [pagesN_no h', ih]
      unfold onP inL at h'
      simp at h'
      rw [show min (n + 1 - 1) r = min (n - 1) r by omega]
theorem pages_ff (r : Nat) (h1 : 1 ≤ r) (h2 : r ≤ 999) : ∃ P, pagesL [(1, (r : Int))] = P ++ [(r : Int)] ∧ P.length = r - 1 := by
  refine ⟨(List.range (r - 1)).map fun i : Nat => ((i + 1 : Nat) : Int), ?_, by simp⟩
  unfold pagesL
  rw [pagesN_ff, show min (1000 - 1) r = (r - 1) + 1 by omega, List.range_succ, List.map_append]
  congr 1
  simp
  omega
/-- the second list of passim -/
def pasY (n : Nat) : List Sp := (1, 1) :: (3, 4) :: (List.range (n - 2)).map (fun i : Nat => (6 + 2 * (i : Int), 6 + 2 * (i : Int)))
def pasX (n : Nat) : List Sp := (1, 2) :: (4, 4) :: (List.range (n - 2)).map (fun i : Nat => (6 + 2 * (i : Int), 6 + 2 * (i : Int)))
theorem onP_pasY (n p : Nat) : onP (pasY n) p = true ↔ p = 1 ∨ p = 3 ∨ p = 4 ∨ (6 ≤ p ∧ p % 2 = 0 ∧ p ≤ 2 * n) := by
  unfold onP inL pasY
  simp
  constructor
  · rintro ⟨h1, h2 | h2 | ⟨a, ha, h2, h3⟩⟩ <;> omega
  · rintro (rfl | rfl | rfl | ⟨h1, h2, h3⟩)
    · simp
    · simp
    · simp
    · exact ⟨by omega, .inr (.inr ⟨(p - 6) / 2, by omega, by omega, by omega⟩)⟩
theorem pagesN_pasY (n : Nat) (hn : 2 ≤ n) : ∀ p : Nat, 5 ≤ p → p ≤ 2 * n + 1 → ∃ (P : List Int) (q : Nat), pagesN (pasY n) p = P ++ [(q : Int)] ∧ P.length = (p - 1) / 2 ∧ q = (p - 1) / 2 * 2 := by
  intro p
  induction p with
  | zero => intro h; omega
  | succ p ih =>
    intro h1 h2
    by_cases h5 : p = 4
    · subst h5
      have e0 : onP (pasY n) 0 = false := by rw [Bool.eq_false_iff]; intro h; rw [onP_pasY] at h; omega
      have e1 : onP (pasY n) 1 = true := (onP_pasY n 1).2 (by omega)
      have e2 : onP (pasY n) 2 = false := by rw [Bool.eq_false_iff]; intro h; rw [onP_pasY] at h; omega
      have e3 : onP (pasY n) 3 = true := (onP_pasY n 3).2 (by omega)
      have e4 : onP (pasY n) 4 = true := (onP_pasY n 4).2 (by omega)
      refine ⟨[1, 3], 4, ?_, rfl, rfl⟩
      rw [pagesN_yes e4, pagesN_yes e3, pagesN_no e2, pagesN_yes e1, pagesN_no e0]
      rfl
    · obtain ⟨P, q, hP, hl, hq⟩ := ih (by omega) (by omega)
      by_cases h : onP (pasY n) p = true
      · rw [pagesN_yes h, hP]
        rw [onP_pasY] at h
        exact ⟨P ++ [(q : Int)], p, rfl, by simp; omega, by omega⟩
      · have h' : onP (pasY n) p = false := by simpa using h
        rw [pagesN_no h', hP]
        have : ¬ (p = 1 ∨ p = 3 ∨ p = 4 ∨ (6 ≤ p ∧ p % 2 = 0 ∧ p ≤ 2 * n)) := fun hh => h ((onP_pasY n p).2 hh)
        exact ⟨P, q, rfl, by omega, by omega⟩
theorem pages_pasY (n : Nat) (hn : 2 ≤ n) (hn' : n ≤ 499) : ∃ P, pagesL (pasY n) = P ++ [((2 * n : Nat) : Int)] ∧ P.length = n := by
  obtain ⟨P, q, hP, hl, hq⟩ := pagesN_pasY n hn (2 * n + 1) (by omega) (by omega)
  have key : ∀ k, pagesN (pasY n) (2 * n + 1 + k) = pagesN (pasY n) (2 * n + 1) := by
    intro k
    induction k with
    | zero => rfl
    | succ k ih =>
      have h' : onP (pasY n) (2 * n + 1 + k) = false := by rw [Bool.eq_false_iff]; intro h; rw [onP_pasY] at h; omega
      rw [← Nat.add_assoc, pagesN_no h', ih]
  refine ⟨P, ?_, by omega⟩
  unfold pagesL
  rw [show 1000 = 2 * n + 1 + (1000 - (2 * n + 1)) by omega, key, hP]
  congr 2
  omega
end Go.Proofs.YtecdkpcapalifaaDoor

namespace Go.Proofs.YtecdkpcapalifaaDoor
open Go.RowKit Go.Maps

theorem RdP_last {w : World} {v : Value} {l : List Sp} {x : Sp} (h : RdP w v (l ++ [x])) : ∃ b o c, v = .slice (some ⟨b, o, .none⟩) (l.length + 1) c ∧ b < w.heap.size ∧ w.cell? ⟨b, o + l.length * 2, .none⟩ = some (.int .i64 x.1) ∧ w.cell? ⟨b, o + l.length * 2 + 1, .none⟩ = some (.int .i64 x.2) := by
  obtain ⟨a, c, rfl, _, _, f⟩ := h.open
  obtain ⟨b, o, rfl, h1, h2, h3⟩ := f l.length x (by simp)
  exact ⟨b, o, c, by simp, h1, h2, h3⟩

set_option maxRecDepth 100000 in
set_option maxHeartbeats 4000000 in
theorem try_late (v1 v2 : Value) (Y : List Sp) (y : Sp) (Bm Bb Ba : Nat) (most : Int) (w : World) (hy : RdP w v2 (Y ++ [y])) (hm : Boxs w Bm 3 #[.int .i64 most]) (hl : Y.length ≤ 1000) (hlt : most < y.2) :
    Calls Tryd.prog 52 #[v1, v2, .pointer (some ⟨Bm, 0, none⟩), .pointer (some ⟨Bb, 0, none⟩), .pointer (some ⟨Ba, 0, none⟩)] w fun e w' => e = .returned (.tuple #[]) ∧ Below w.heap.size w w' := by
  obtain ⟨b, o, c, rfl, hb, c0, c1⟩ := RdP_last hy
  have m0 := hm.cell 0
  simp at m0
  have hd : decide (y.2 ≤ most) = false := by simp; omega
  obtain ⟨y0, y1⟩ := y
  dsimp only at *
  obtain ⟨n, hn⟩ : ∃ n, Y.length = n := ⟨_, rfl⟩
  rw [hn] at c0 c1 hl ⊢
  have hn0 : (0 : Int) ≤ (n : Int) := by omega
  have hn9 : (n : Int) ≤ 1000 := by omega
  have hwn : IntKind.i64.wrap (n : Int) = (n : Int) := by rw [IntKind.wrap_i64]; omega
  have hnn : (n : Int) < (n : Int) + 1 := by omega
  clear hy hm hn hlt
  go_enter Tryd.func52, Tryd.ntmps52
  go_wp2_with fail
  go_quiet (fail)
  go_wp2_with fail
  go_end0
  exact ⟨rfl, by repeat (first | exact Below.refl _ _ | refine Below.dn ?_ _)⟩

set_option maxRecDepth 100000 in
set_option maxHeartbeats 4000000 in
theorem try_first (v1 v2 : Value) (Y : List Sp) (y : Sp) (Bm Bb Ba : Nat) (most : Int) (va : Value) (w : World) (hy : RdP w v2 (Y ++ [y])) (hm : Boxs w Bm 3 #[.int .i64 most]) (hb0 : Boxs w Bb 38 #[.slice none 0 0]) (ha0 : Boxs w Ba 38 #[va]) (hne : Ba ≠ Bb) (X : List Sp) (hx1 : RdP w v1 X) (hl : Y.length ≤ 1000) (hlt : y.2 ≤ most) :
    Calls Tryd.prog 52 #[v1, v2, .pointer (some ⟨Bm, 0, none⟩), .pointer (some ⟨Bb, 0, none⟩), .pointer (some ⟨Ba, 0, none⟩)] w fun e w' => e = .returned (.tuple #[]) ∧ ∃ W2, Below w.heap.size w W2 ∧ w' = (W2.setCell ⟨Ba, 0, none⟩ v1).setCell ⟨Bb, 0, none⟩ v2 := by
  obtain ⟨xa, xc, rfl, _⟩ := hx1.open
  obtain ⟨b, o, c, rfl, hb, c0, c1⟩ := RdP_last hy
  have m0 := hm.cell 0
  simp at m0
  have hd : decide (y.2 ≤ most) = true := by simp; omega
  obtain ⟨y0, y1⟩ := y
  dsimp only at *
  obtain ⟨n, hn⟩ : ∃ n, Y.length = n := ⟨_, rfl⟩
  rw [hn] at c0 c1 hl ⊢
  have hn0 : (0 : Int) ≤ (n : Int) := by omega
  have hn9 : (n : Int) ≤ 1000 := by omega
  have hwn : IntKind.i64.wrap (n : Int) = (n : Int) := by rw [IntKind.wrap_i64]; omega
  have hnn : (n : Int) < (n : Int) + 1 := by omega
  have b0 := hb0.cell 0
  have a0 := ha0.cell 0
  have bf := hb0.frozen 0
  have af := ha0.frozen 0
  simp at b0 a0
  have ne1 : ¬ Ba = Bb := hne
  have ne2 : ¬ Bb = Ba := fun e => hne e.symm
  have hbl := hb0.lt
  have hal := ha0.lt
  have en : ∀ W, (binOp .eql 38 (.slice none 0 0) (.slice none 0 0)).run Tryd.prog W = .ok (.bool true) W := fun W => Lib.run_eql_slice_nil W 38 81 none 0 0 0 0 Tryd.underlying38
  clear hy hm hn hlt hb0 ha0 hne hx1
  go_enter Tryd.func52, Tryd.ntmps52
  go_wp2_with fail
  go_quiet (fail)
  go_wp2_with fail
  go_end0
  exact ⟨rfl, _, by repeat (first | exact Below.refl _ _ | refine Below.dn ?_ _), rfl⟩

set_option maxRecDepth 100000 in
set_option maxHeartbeats 4000000 in
theorem try_keep (v1 v2 : Value) (Y : List Sp) (y : Sp) (Bm Bb Ba : Nat) (most : Int) (va vb : Value) (w : World) (hy : RdP w v2 (Y ++ [y])) (hm : Boxs w Bm 3 #[.int .i64 most]) (hb0 : Boxs w Bb 38 #[vb]) (ha0 : Boxs w Ba 38 #[va]) (hne : Ba ≠ Bb) (X B : List Sp) (hx1 : RdP w v1 X) (hvb : RdP w vb B) (P Q : List Int) (p q : Int) (hP : pagesL (Y ++ [y]) = P ++ [p]) (hQ : pagesL B = Q ++ [q]) (hpq : p ≠ q ∨ P.length ≠ Q.length) (hB : B ≠ []) (hres : beforeS p q P.length Q.length = false) (hl : Y.length ≤ 1000) (hlt : y.2 ≤ most) :
    Calls Tryd.prog 52 #[v1, v2, .pointer (some ⟨Bm, 0, none⟩), .pointer (some ⟨Bb, 0, none⟩), .pointer (some ⟨Ba, 0, none⟩)] w fun e w' => e = .returned (.tuple #[]) ∧ Below w.heap.size w w' := by
  have BF := fun n0 => before_any v2 vb (Y ++ [y]) B (w.drewN n0) (hy.below (Below.dn (Below.refl _ _) n0)) (hvb.below (Below.dn (Below.refl _ _) n0)) P Q p q hP hQ hpq
  rw [hres] at BF
  obtain ⟨xa, xc, rfl, _⟩ := hx1.open
  obtain ⟨ba, bc, hvb2, _, _, fb⟩ := hvb.open
  obtain ⟨xb, hxb⟩ := elem_at (l := B) (k := 0) (List.length_pos_iff.2 hB)
  obtain ⟨b9, o9, rfl, _⟩ := fb 0 xb hxb
  obtain ⟨bn, hbn⟩ : ∃ bn, B.length = bn := ⟨_, rfl⟩
  rw [hbn] at hvb2
  subst hvb2
  obtain ⟨b, o, c, rfl, hb, c0, c1⟩ := RdP_last hy
  have m0 := hm.cell 0
  simp at m0
  have hd : decide (y.2 ≤ most) = true := by simp; omega
  obtain ⟨y0, y1⟩ := y
  dsimp only at *
  obtain ⟨n, hn⟩ : ∃ n, Y.length = n := ⟨_, rfl⟩
  rw [hn] at c0 c1 hl ⊢
  have hn0 : (0 : Int) ≤ (n : Int) := by omega
  have hn9 : (n : Int) ≤ 1000 := by omega
  have hwn : IntKind.i64.wrap (n : Int) = (n : Int) := by rw [IntKind.wrap_i64]; omega
  have hnn : (n : Int) < (n : Int) + 1 := by omega
  simp only [hn] at BF
  have b0 := hb0.cell 0
  have a0 := ha0.cell 0
  simp at b0 a0
  have ne1 : ¬ Ba = Bb := hne
  have ne2 : ¬ Bb = Ba := fun e => hne e.symm
  have hbl := hb0.lt
  have hal := ha0.lt
  have hml := hm.lt
  have en : ∀ W, (binOp .eql 38 (.slice (some ⟨b9, o9, none⟩) bn bc) (.slice none 0 0)).run Tryd.prog W = .ok (.bool false) W := fun W => Lib.run_eql_slice_nil W 38 81 (some ⟨b9, o9, none⟩) bn bc 0 0 Tryd.underlying38
  have HB0 := Lib.hid hb0; have HA0 := Lib.hid ha0
  clear hb0 ha0 hy hm hn hlt hne hx1 hvb hP hQ hpq hB hres fb hxb hbn
  go_enter Tryd.func52, Tryd.ntmps52
  go_wp2_with fail
  refine wp_region_held (S := fun W => W.cell? ⟨Bm, 0, none⟩ = some (.int .i64 most) ∧ W.cell? ⟨b, o + n * 2 + 1, none⟩ = some (.int .i64 y1) ∧ W.cell? ⟨Bb, 0, none⟩ = some (.slice (some ⟨b9, o9, none⟩) bn bc)) (by kernel_rfl) ?_
  have hdr : (w).drew = { w with drawn := (w).drawn + 1 } := rfl
  rw [← hdr]
  clear hdr
  have G1 := Lib.hid (And.intro (show (w.drewN 1).cell? _ = _ from m0) (And.intro (show (w.drewN 1).cell? _ = _ from c1) (show (w.drewN 1).cell? _ = _ from b0)))
  change wpAnyH _ _ _ _ _ _ _ _ (w.drewN 1)
  refine wpAnyHTake 0 (some 7) (.slice (some ⟨b, o, none⟩) (n + 1) c) rfl rfl (by kernel_rfl) (by kernel_rfl) (by kernel_rfl) (fun _ _ _ h => h) (by rfl) (fun _ _ => by rfl) (G1.out) ?_
  simp only [Act.put, List.setIfInBounds_toArray, List.set_cons_zero, List.set_cons_succ]
  refine wpAnyHTake 1 (some 8) (.slice (some ⟨b, o, none⟩) (n + 1) c) rfl rfl (by kernel_rfl) (by kernel_rfl) (by kernel_rfl) (fun _ _ _ h => h) (by rfl) (fun _ _ => by rfl) (G1.out) ?_
  simp only [Act.put, List.setIfInBounds_toArray, List.set_cons_zero, List.set_cons_succ]
  refine wpAnyHTake 2 (some 9) (.int .i64 ((n : Int) + 1)) rfl rfl (by kernel_rfl) (by kernel_rfl) (by kernel_rfl) (fun _ _ _ h => h) (by rfl) (fun _ _ => by go_simp) (G1.out) ?_
  simp only [Act.put, List.setIfInBounds_toArray, List.set_cons_zero, List.set_cons_succ]
  refine wpAnyHTake 3 (some 10) (.int .i64 (n : Int)) rfl rfl (by kernel_rfl) (by kernel_rfl) (by kernel_rfl) (fun _ _ _ h => h) (by rfl) (fun _ _ => by go_simp; try omega) (G1.out) ?_
  simp only [Act.put, List.setIfInBounds_toArray, List.set_cons_zero, List.set_cons_succ]
  refine wpAnyHTake 4 (some 11) (.pointer (some ⟨b, o + n * 2, none⟩)) rfl rfl (by kernel_rfl) (by kernel_rfl) (by kernel_rfl) (fun _ _ _ h => h) (by rfl) (fun _ _ => by go_simp) (G1.out) ?_
  simp only [Act.put, List.setIfInBounds_toArray, List.set_cons_zero, List.set_cons_succ]
  refine wpAnyHTake 5 (some 12) (.pointer (some ⟨b, o + n * 2 + 1, none⟩)) rfl rfl (by kernel_rfl) (by kernel_rfl) (by kernel_rfl) (fun _ _ _ h => h) (by rfl) (fun _ _ => by go_simp) (G1.out) ?_
  simp only [Act.put, List.setIfInBounds_toArray, List.set_cons_zero, List.set_cons_succ]
  refine wpAnyHTake 6 (some 13) (.int .i64 y1) rfl rfl (by kernel_rfl) (by kernel_rfl) (by kernel_rfl) (fun _ _ _ h => h) (by rfl) (fun W hW => by obtain ⟨h1, h2, h3⟩ := hW; go_simp) (G1.out) ?_
  simp only [Act.put, List.setIfInBounds_toArray, List.set_cons_zero, List.set_cons_succ]
  refine wpAnyHTake 7 (some 14) (.int .i64 most) rfl rfl (by kernel_rfl) (by kernel_rfl) (by kernel_rfl) (fun _ _ _ h => h) (by rfl) (fun W hW => by obtain ⟨h1, h2, h3⟩ := hW; go_simp) (G1.out) ?_
  simp only [Act.put, List.setIfInBounds_toArray, List.set_cons_zero, List.set_cons_succ]
  refine wpAnyHTake 8 (some 15) (.bool true) rfl rfl (by kernel_rfl) (by kernel_rfl) (by kernel_rfl) (fun _ _ _ h => h) (by rfl) (fun _ _ => by go_simp) (G1.out) ?_
  simp only [Act.put, List.setIfInBounds_toArray, List.set_cons_zero, List.set_cons_succ]
  refine wpAnyHTake 9 (some 16) (.bool true) rfl rfl (by kernel_rfl) (by kernel_rfl) (by kernel_rfl) (fun _ _ _ h => h) (by rfl) (fun _ _ => by rfl) (G1.out) ?_
  simp only [Act.put, List.setIfInBounds_toArray, List.set_cons_zero, List.set_cons_succ]
  refine wpAnyHTake 10 (some 17) (.slice (some ⟨b9, o9, none⟩) bn bc) rfl rfl (by kernel_rfl) (by kernel_rfl) (by kernel_rfl) (fun _ _ _ h => h) (by rfl) (fun W hW => by obtain ⟨h1, h2, h3⟩ := hW; go_simp) (G1.out) ?_
  simp only [Act.put, List.setIfInBounds_toArray, List.set_cons_zero, List.set_cons_succ]
  refine wpAnyHTake 11 (some 18) (.bool false) rfl rfl (by kernel_rfl) (by kernel_rfl) (by kernel_rfl) (fun _ _ _ h => h) (by rfl) (fun W _ => by have e := en W; go_simp) (G1.out) ?_
  simp only [Act.put, List.setIfInBounds_toArray, List.set_cons_zero, List.set_cons_succ]
  refine wpAnyHTake 12 (some 19) (.bool false) rfl rfl (by kernel_rfl) (by kernel_rfl) (by kernel_rfl) (fun _ _ _ h => h) (by rfl) (fun _ _ => by rfl) (G1.out) ?_
  simp only [Act.put, List.setIfInBounds_toArray, List.set_cons_zero, List.set_cons_succ]
  refine wpAnyHTake 13 (some 20) (.slice (some ⟨b, o, none⟩) (n + 1) c) rfl rfl (by kernel_rfl) (by kernel_rfl) (by kernel_rfl) (fun _ _ _ h => h) (by rfl) (fun _ _ => by rfl) (G1.out) ?_
  simp only [Act.put, List.setIfInBounds_toArray, List.set_cons_zero, List.set_cons_succ]
  refine wpAnyHTake 14 (some 21) (.slice (some ⟨b9, o9, none⟩) bn bc) rfl rfl (by kernel_rfl) (by kernel_rfl) (by kernel_rfl) (fun _ _ _ h => h) (by rfl) (fun W hW => by obtain ⟨h1, h2, h3⟩ := hW; go_simp) (G1.out) ?_
  simp only [Act.put, List.setIfInBounds_toArray, List.set_cons_zero, List.set_cons_succ]
  refine wpAnyHCall 15 (some 22) 53 #[.slice (some ⟨b, o, none⟩) (n + 1) c, .slice (some ⟨b9, o9, none⟩) bn bc] (by kernel_rfl) rfl rfl (by rfl) (by go_simp) (BF 1) ?_
  rintro e w2 ⟨rfl, hbw⟩
  have hbw0 : Below w.heap.size w w2 := (Below.dn (Below.refl _ _) 1).trans hbw
  have G2 := Lib.hid (show w2.cell? ⟨Bm, 0, none⟩ = some (.int .i64 most) ∧ w2.cell? ⟨b, o + n * 2 + 1, none⟩ = some (.int .i64 y1) ∧ w2.cell? ⟨Bb, 0, none⟩ = some (.slice (some ⟨b9, o9, none⟩) bn bc) from ⟨(hbw0.cell (p := ⟨Bm, 0, none⟩) hml).trans m0, (hbw0.cell (p := ⟨b, o + n * 2 + 1, none⟩) hb).trans c1, (hbw0.cell (p := ⟨Bb, 0, none⟩) hbl).trans b0⟩)
  have HBW := Lib.hid hbw0
  have hb2 := HB0.out.below hbw0 hbl
  have ha2 := HA0.out.below hbw0 hal
  have bf2 := hb2.frozen 0
  have af2 := ha2.frozen 0
  have a02 := ha2.cell 0
  have b02 := hb2.cell 0
  simp at a02 b02
  clear hbw hbw0 hb2 ha2
  refine ⟨_, rfl, G2.out, ?_⟩
  simp only [Act.put, List.setIfInBounds_toArray, List.set_cons_zero, List.set_cons_succ]
  refine wpAnyHTake 16 (some 23) (.bool false) rfl rfl (by kernel_rfl) (by kernel_rfl) (by kernel_rfl) (fun _ _ _ h => h) (by rfl) (fun _ _ => by go_simp) (G2.out) ?_
  simp only [Act.put, List.setIfInBounds_toArray, List.set_cons_zero, List.set_cons_succ]
  refine wpAnyHTake 17 (some 24) (.bool false) rfl rfl (by kernel_rfl) (by kernel_rfl) (by kernel_rfl) (fun _ _ _ h => h) (by rfl) (fun _ _ => by go_simp) (G2.out) ?_
  simp only [Act.put, List.setIfInBounds_toArray, List.set_cons_zero, List.set_cons_succ]
  refine wpAnyH_done (by kernel_rfl) ?_ _
  refine ‹∀ (a : Act) (w : World), Code.wp Tryd.prog _ _ a w → (_ : Act → World → Prop) a w› _ _ ?_
  go_wp2_with fail
  go_end0
  exact ⟨rfl, HBW.out⟩

set_option maxRecDepth 100000 in
set_option maxHeartbeats 4000000 in
theorem try_swap (v1 v2 : Value) (Y : List Sp) (y : Sp) (Bm Bb Ba : Nat) (most : Int) (va vb : Value) (w : World) (hy : RdP w v2 (Y ++ [y])) (hm : Boxs w Bm 3 #[.int .i64 most]) (hb0 : Boxs w Bb 38 #[vb]) (ha0 : Boxs w Ba 38 #[va]) (hne : Ba ≠ Bb) (X B : List Sp) (hx1 : RdP w v1 X) (hvb : RdP w vb B) (P Q : List Int) (p q : Int) (hP : pagesL (Y ++ [y]) = P ++ [p]) (hQ : pagesL B = Q ++ [q]) (hpq : p ≠ q ∨ P.length ≠ Q.length) (hB : B ≠ []) (hres : beforeS p q P.length Q.length = true) (hl : Y.length ≤ 1000) (hlt : y.2 ≤ most) :
    Calls Tryd.prog 52 #[v1, v2, .pointer (some ⟨Bm, 0, none⟩), .pointer (some ⟨Bb, 0, none⟩), .pointer (some ⟨Ba, 0, none⟩)] w fun e w' => e = .returned (.tuple #[]) ∧ ∃ W2, Below w.heap.size w W2 ∧ w' = (W2.setCell ⟨Ba, 0, none⟩ v1).setCell ⟨Bb, 0, none⟩ v2 := by
  have BF := fun n0 => before_any v2 vb (Y ++ [y]) B (w.drewN n0) (hy.below (Below.dn (Below.refl _ _) n0)) (hvb.below (Below.dn (Below.refl _ _) n0)) P Q p q hP hQ hpq
  rw [hres] at BF
  obtain ⟨xa, xc, rfl, _⟩ := hx1.open
  obtain ⟨ba, bc, hvb2, _, _, fb⟩ := hvb.open
  obtain ⟨xb, hxb⟩ := elem_at (l := B) (k := 0) (List.length_pos_iff.2 hB)
  obtain ⟨b9, o9, rfl, _⟩ := fb 0 xb hxb
  obtain ⟨bn, hbn⟩ : ∃ bn, B.length = bn := ⟨_, rfl⟩
  rw [hbn] at hvb2
  subst hvb2
  obtain ⟨b, o, c, rfl, hb, c0, c1⟩ := RdP_last hy
  have m0 := hm.cell 0
  simp at m0
  have hd : decide (y.2 ≤ most) = true := by simp; omega
  obtain ⟨y0, y1⟩ := y
  dsimp only at *
  obtain ⟨n, hn⟩ : ∃ n, Y.length = n := ⟨_, rfl⟩
  rw [hn] at c0 c1 hl ⊢
  have hn0 : (0 : Int) ≤ (n : Int) := by omega
  have hn9 : (n : Int) ≤ 1000 := by omega
  have hwn : IntKind.i64.wrap (n : Int) = (n : Int) := by rw [IntKind.wrap_i64]; omega
  have hnn : (n : Int) < (n : Int) + 1 := by omega
  simp only [hn] at BF
  have b0 := hb0.cell 0
  have a0 := ha0.cell 0
  simp at b0 a0
  have ne1 : ¬ Ba = Bb := hne
  have ne2 : ¬ Bb = Ba := fun e => hne e.symm
  have hbl := hb0.lt
  have hal := ha0.lt
  have hml := hm.lt
  have en : ∀ W, (binOp .eql 38 (.slice (some ⟨b9, o9, none⟩) bn bc) (.slice none 0 0)).run Tryd.prog W = .ok (.bool false) W := fun W => Lib.run_eql_slice_nil W 38 81 (some ⟨b9, o9, none⟩) bn bc 0 0 Tryd.underlying38
  have HB0 := Lib.hid hb0; have HA0 := Lib.hid ha0
  clear hb0 ha0 hy hm hn hlt hne hx1 hvb hP hQ hpq hB hres fb hxb hbn
  go_enter Tryd.func52, Tryd.ntmps52
  go_wp2_with fail
  refine wp_region_held (S := fun W => W.cell? ⟨Bm, 0, none⟩ = some (.int .i64 most) ∧ W.cell? ⟨b, o + n * 2 + 1, none⟩ = some (.int .i64 y1) ∧ W.cell? ⟨Bb, 0, none⟩ = some (.slice (some ⟨b9, o9, none⟩) bn bc)) (by kernel_rfl) ?_
  have hdr : (w).drew = { w with drawn := (w).drawn + 1 } := rfl
  rw [← hdr]
  clear hdr
  have G1 := Lib.hid (And.intro (show (w.drewN 1).cell? _ = _ from m0) (And.intro (show (w.drewN 1).cell? _ = _ from c1) (show (w.drewN 1).cell? _ = _ from b0)))
  change wpAnyH _ _ _ _ _ _ _ _ (w.drewN 1)
  refine wpAnyHTake 0 (some 7) (.slice (some ⟨b, o, none⟩) (n + 1) c) rfl rfl (by kernel_rfl) (by kernel_rfl) (by kernel_rfl) (fun _ _ _ h => h) (by rfl) (fun _ _ => by rfl) (G1.out) ?_
  simp only [Act.put, List.setIfInBounds_toArray, List.set_cons_zero, List.set_cons_succ]
  refine wpAnyHTake 1 (some 8) (.slice (some ⟨b, o, none⟩) (n + 1) c) rfl rfl (by kernel_rfl) (by kernel_rfl) (by kernel_rfl) (fun _ _ _ h => h) (by rfl) (fun _ _ => by rfl) (G1.out) ?_
  simp only [Act.put, List.setIfInBounds_toArray, List.set_cons_zero, List.set_cons_succ]
  refine wpAnyHTake 2 (some 9) (.int .i64 ((n : Int) + 1)) rfl rfl (by kernel_rfl) (by kernel_rfl) (by kernel_rfl) (fun _ _ _ h => h) (by rfl) (fun _ _ => by go_simp) (G1.out) ?_
  simp only [Act.put, List.setIfInBounds_toArray, List.set_cons_zero, List.set_cons_succ]
  refine wpAnyHTake 3 (some 10) (.int .i64 (n : Int)) rfl rfl (by kernel_rfl) (by kernel_rfl) (by kernel_rfl) (fun _ _ _ h => h) (by rfl) (fun _ _ => by go_simp; try omega) (G1.out) ?_
  simp only [Act.put, List.setIfInBounds_toArray, List.set_cons_zero, List.set_cons_succ]
  refine wpAnyHTake 4 (some 11) (.pointer (some ⟨b, o + n * 2, none⟩)) rfl rfl (by kernel_rfl) (by kernel_rfl) (by kernel_rfl) (fun _ _ _ h => h) (by rfl) (fun _ _ => by go_simp) (G1.out) ?_
  simp only [Act.put, List.setIfInBounds_toArray, List.set_cons_zero, List.set_cons_succ]
  refine wpAnyHTake 5 (some 12) (.pointer (some ⟨b, o + n * 2 + 1, none⟩)) rfl rfl (by kernel_rfl) (by kernel_rfl) (by kernel_rfl) (fun _ _ _ h => h) (by rfl) (fun _ _ => by go_simp) (G1.out) ?_
  simp only [Act.put, List.setIfInBounds_toArray, List.set_cons_zero, List.set_cons_succ]
  refine wpAnyHTake 6 (some 13) (.int .i64 y1) rfl rfl (by kernel_rfl) (by kernel_rfl) (by kernel_rfl) (fun _ _ _ h => h) (by rfl) (fun W hW => by obtain ⟨h1, h2, h3⟩ := hW; go_simp) (G1.out) ?_
  simp only [Act.put, List.setIfInBounds_toArray, List.set_cons_zero, List.set_cons_succ]
  refine wpAnyHTake 7 (some 14) (.int .i64 most) rfl rfl (by kernel_rfl) (by kernel_rfl) (by kernel_rfl) (fun _ _ _ h => h) (by rfl) (fun W hW => by obtain ⟨h1, h2, h3⟩ := hW; go_simp) (G1.out) ?_
  simp only [Act.put, List.setIfInBounds_toArray, List.set_cons_zero, List.set_cons_succ]
  refine wpAnyHTake 8 (some 15) (.bool true) rfl rfl (by kernel_rfl) (by kernel_rfl) (by kernel_rfl) (fun _ _ _ h => h) (by rfl) (fun _ _ => by go_simp) (G1.out) ?_
  simp only [Act.put, List.setIfInBounds_toArray, List.set_cons_zero, List.set_cons_succ]
  refine wpAnyHTake 9 (some 16) (.bool true) rfl rfl (by kernel_rfl) (by kernel_rfl) (by kernel_rfl) (fun _ _ _ h => h) (by rfl) (fun _ _ => by rfl) (G1.out) ?_
  simp only [Act.put, List.setIfInBounds_toArray, List.set_cons_zero, List.set_cons_succ]
  refine wpAnyHTake 10 (some 17) (.slice (some ⟨b9, o9, none⟩) bn bc) rfl rfl (by kernel_rfl) (by kernel_rfl) (by kernel_rfl) (fun _ _ _ h => h) (by rfl) (fun W hW => by obtain ⟨h1, h2, h3⟩ := hW; go_simp) (G1.out) ?_
  simp only [Act.put, List.setIfInBounds_toArray, List.set_cons_zero, List.set_cons_succ]
  refine wpAnyHTake 11 (some 18) (.bool false) rfl rfl (by kernel_rfl) (by kernel_rfl) (by kernel_rfl) (fun _ _ _ h => h) (by rfl) (fun W _ => by have e := en W; go_simp) (G1.out) ?_
  simp only [Act.put, List.setIfInBounds_toArray, List.set_cons_zero, List.set_cons_succ]
  refine wpAnyHTake 12 (some 19) (.bool false) rfl rfl (by kernel_rfl) (by kernel_rfl) (by kernel_rfl) (fun _ _ _ h => h) (by rfl) (fun _ _ => by rfl) (G1.out) ?_
  simp only [Act.put, List.setIfInBounds_toArray, List.set_cons_zero, List.set_cons_succ]
  refine wpAnyHTake 13 (some 20) (.slice (some ⟨b, o, none⟩) (n + 1) c) rfl rfl (by kernel_rfl) (by kernel_rfl) (by kernel_rfl) (fun _ _ _ h => h) (by rfl) (fun _ _ => by rfl) (G1.out) ?_
  simp only [Act.put, List.setIfInBounds_toArray, List.set_cons_zero, List.set_cons_succ]
  refine wpAnyHTake 14 (some 21) (.slice (some ⟨b9, o9, none⟩) bn bc) rfl rfl (by kernel_rfl) (by kernel_rfl) (by kernel_rfl) (fun _ _ _ h => h) (by rfl) (fun W hW => by obtain ⟨h1, h2, h3⟩ := hW; go_simp) (G1.out) ?_
  simp only [Act.put, List.setIfInBounds_toArray, List.set_cons_zero, List.set_cons_succ]
  refine wpAnyHCall 15 (some 22) 53 #[.slice (some ⟨b, o, none⟩) (n + 1) c, .slice (some ⟨b9, o9, none⟩) bn bc] (by kernel_rfl) rfl rfl (by rfl) (by go_simp) (BF 1) ?_
  rintro e w2 ⟨rfl, hbw⟩
  have hbw0 : Below w.heap.size w w2 := (Below.dn (Below.refl _ _) 1).trans hbw
  have G2 := Lib.hid (show w2.cell? ⟨Bm, 0, none⟩ = some (.int .i64 most) ∧ w2.cell? ⟨b, o + n * 2 + 1, none⟩ = some (.int .i64 y1) ∧ w2.cell? ⟨Bb, 0, none⟩ = some (.slice (some ⟨b9, o9, none⟩) bn bc) from ⟨(hbw0.cell (p := ⟨Bm, 0, none⟩) hml).trans m0, (hbw0.cell (p := ⟨b, o + n * 2 + 1, none⟩) hb).trans c1, (hbw0.cell (p := ⟨Bb, 0, none⟩) hbl).trans b0⟩)
  have HBW := Lib.hid hbw0
  have hb2 := HB0.out.below hbw0 hbl
  have ha2 := HA0.out.below hbw0 hal
  have bf2 := hb2.frozen 0
  have af2 := ha2.frozen 0
  have a02 := ha2.cell 0
  have b02 := hb2.cell 0
  simp at a02 b02
  clear hbw hbw0 hb2 ha2
  refine ⟨_, rfl, G2.out, ?_⟩
  simp only [Act.put, List.setIfInBounds_toArray, List.set_cons_zero, List.set_cons_succ]
  refine wpAnyHTake 16 (some 23) (.bool true) rfl rfl (by kernel_rfl) (by kernel_rfl) (by kernel_rfl) (fun _ _ _ h => h) (by rfl) (fun _ _ => by go_simp) (G2.out) ?_
  simp only [Act.put, List.setIfInBounds_toArray, List.set_cons_zero, List.set_cons_succ]
  refine wpAnyHTake 17 (some 24) (.bool true) rfl rfl (by kernel_rfl) (by kernel_rfl) (by kernel_rfl) (fun _ _ _ h => h) (by rfl) (fun _ _ => by go_simp) (G2.out) ?_
  simp only [Act.put, List.setIfInBounds_toArray, List.set_cons_zero, List.set_cons_succ]
  refine wpAnyH_done (by kernel_rfl) ?_ _
  refine ‹∀ (a : Act) (w : World), Code.wp Tryd.prog _ _ a w → (_ : Act → World → Prop) a w› _ _ ?_
  go_wp2_with fail
  go_end0
  exact ⟨rfl, _, HBW.out, rfl⟩
end Go.Proofs.YtecdkpcapalifaaDoor

namespace Go.Proofs.YtecdkpcapalifaaDoor
open Go.RowKit Go.Maps

/-- what Unique returns -/
def uniqueS (s : Sty) (most : Int) : Option (List Sp × List Sp) :=
  if 0 < s.pas ∧ 2 * s.pas ≤ most ∧ (s.row = 0 ∨ 2 * s.pas ≤ s.row + 1) then some (pasX s.pas.toNat, pasY s.pas.toNat)
  else if 0 < s.row ∧ s.row + 1 ≤ most then some ([(1, s.row)], [(1, s.row + 1)]) else none
/-- a list in a block from base on -/
def RdB (base : Nat) (w : World) (v : Value) (xs : List Sp) : Prop :=
  ∃ b off cap, v = .slice (some ⟨b, off, none⟩) xs.length cap ∧ xs.length ≤ cap ∧ cap ≤ 9223372036854775807 ∧ base ≤ b ∧ b < w.heap.size ∧ ∀ j u, (prs xs)[j]? = some u → w.cell? ⟨b, off + j, none⟩ = some u
theorem RdB.rd {base : Nat} {w : World} {v : Value} {xs : List Sp} (h : RdB base w v xs) : RdP w v xs := by
  obtain ⟨b, off, cap, rfl, h1, h2, _, h4, h5⟩ := h
  exact ⟨_, cap, rfl, h1, h2, .inr ⟨b, off, rfl, h4, h5⟩⟩
theorem RdB.below {base : Nat} {w w' : World} {v : Value} {xs : List Sp} (h : RdB base w v xs) (hb : Below w.heap.size w w') : RdB base w' v xs := by
  obtain ⟨b, off, cap, rfl, h1, h2, h3, h4, h5⟩ := h
  exact ⟨b, off, cap, rfl, h1, h2, h3, Nat.lt_of_lt_of_le h4 hb.size, fun j u hu => (hb.cell (p := ⟨b, off + j, none⟩) h4).trans (h5 j u hu)⟩
theorem RdB.set {base : Nat} {w : World} {v : Value} {xs : List Sp} (h : RdB base w v xs) (B : Nat) (u : Value) (hB : B < base) : RdB base (w.setCell ⟨B, 0, none⟩ u) v xs := by
  obtain ⟨b, off, cap, rfl, h1, h2, h3, h4, h5⟩ := h
  refine ⟨b, off, cap, rfl, h1, h2, h3, by simpa using h4, fun j u' hu => ?_⟩
  have e : (w.setCell ⟨B, 0, none⟩ u).heap[b]? = w.heap[b]? := Below.heap_setCell _ _ _ _ (fun e => by have e' : b = B := e; omega)
  have := h5 j u' hu
  unfold World.cell? at this ⊢
  rw [e]; exact this
theorem RdB_of_owns {w : World} {base : Nat} {e : TypeId} {v : Value} {n : Nat} {xs : List Sp} (h : w.ownsRow base e 2 v n (prs xs)) (hn : 0 < n) : RdB base w v xs := by
  have hl : xs.length = n := by have := h.1; rw [prs_len] at this; omega
  subst hl
  rcases h.2 with ⟨rfl, h0⟩ | ⟨g, cap, cur, rfl, hb, hg, hn, hc, hs, ht⟩
  · omega
  · refine ⟨g, 0, cap, rfl, hn, by unfold maxLen at hc; omega, hb, (Array.getElem?_eq_some_iff.1 hg).1, fun j u hu => ?_⟩
    have := World.ownsRow.cells h (g := g) rfl j u hu
    have hadd : (⟨g, 0, none⟩ : Addr).add j = ⟨g, j, none⟩ := by unfold Addr.add; split <;> simp_all
    rw [hadd] at this
    rw [Nat.zero_add]; exact this
theorem RdB_block {base : Nat} {W : World} {B : Nat} {cs : Array Value} {t : TypeId} {xs : List Sp} {n : Nat} (h : Boxs W B t cs) (hc : cs.toList = prs xs) (hn : xs.length = n) (hm : n ≤ 9223372036854775807) (hB : base ≤ B) : RdB base W (.slice (some ⟨B, 0, none⟩) n n) xs := by
  subst hn
  refine ⟨B, 0, xs.length, rfl, Nat.le_refl _, hm, hB, h.lt, fun j u hu => ?_⟩
  rw [h.cell, Nat.zero_add, ← Array.getElem?_toList, hc]
  exact hu
/-- where Unique's variables lie -/
structure Uni (n m : Nat) (w W : World) (cs : Array Value) (most : Int) (va vb : Value) : Prop where
  le : n + 2 ≤ m
  sty : Boxs W n 36 cs
  most : Boxs W (n + 1) 3 #[.int .i64 most]
  a : Boxs W m 38 #[va]
  b : Boxs W (m + 1) 38 #[vb]
  bel : Below n w W
theorem Uni.below {n m : Nat} {w W V : World} {cs : Array Value} {most : Int} {va vb : Value} (h : Uni n m w W cs most va vb) (hb : Below W.heap.size W V) : Uni n m w V cs most va vb :=
  have hl := h.b.lt
  have hle := h.le
  ⟨hle, h.sty.below hb (by omega), h.most.below hb (by omega), h.a.below hb (by omega), h.b.below hb (by omega), h.bel.trans (hb.mono (by omega))⟩
theorem Uni.alloc {n m : Nat} {w W : World} {cs : Array Value} {most : Int} {va vb : Value} (h : Uni n m w W cs most va vb) (o : Obj) : Uni n m w (W.alloc o) cs most va vb :=
  h.below ((Below.refl _ _).alloc (Nat.le_refl _) o)
theorem Uni.grown {n m : Nat} {w W V : World} {cs : Array Value} {most : Int} {va vb : Value} {r : Option Nat} (h : Uni n m w W cs most va vb) (hg : W.grownBy V r) (hr : ∀ b, b < m + 2 → some b ≠ r) : Uni n m w V cs most va vb :=
  have hl := h.b.lt
  have hle := h.le
  ⟨hle, h.sty.kept hg (hr _ (by omega)), h.most.kept hg (hr _ (by omega)), h.a.kept hg (hr _ (by omega)), h.b.kept hg (hr _ (by omega)), h.bel.grown hg (by omega) (fun j e => by
    rcases Nat.lt_or_ge j n with hj | hj
    · exact absurd e.symm (hr j (by omega))
    · exact hj)⟩
theorem Uni.put {n m : Nat} {w W : World} {cs : Array Value} {most : Int} {va vb : Value} (h : Uni n m w W cs most va vb) (v1 v2 : Value) : Uni n m w ((W.setCell ⟨m, 0, none⟩ v1).setCell ⟨m + 1, 0, none⟩ v2) cs most v1 v2 := by
  have hle := h.le
  have a1 := h.a.put 0 v1
  have b1 := (h.b.setOther (b := m) (by omega) 0 v1).put 0 v2
  refine ⟨hle, ?_, ?_, ?_, ?_, ?_⟩
  · exact (h.sty.setOther (b := m) (by omega) 0 v1).setOther (b := m + 1) (by omega) 0 v2
  · exact (h.most.setOther (b := m) (by omega) 0 v1).setOther (b := m + 1) (by omega) 0 v2
  · exact (show Boxs _ m 38 #[v1] from a1).setOther (b := m + 1) (by omega) 0 v2
  · exact b1
  · exact (h.bel.setCell (p := ⟨m, 0, none⟩) (by show n ≤ m; omega) v1).setCell (p := ⟨m + 1, 0, none⟩) (by show n ≤ m + 1; omega) v2
theorem RdB.put {base : Nat} {w : World} {v : Value} {xs : List Sp} (h : RdB base w v xs) (m : Nat) (v1 v2 : Value) (hm : m + 2 ≤ base) : RdB base ((w.setCell ⟨m, 0, none⟩ v1).setCell ⟨m + 1, 0, none⟩ v2) v xs :=
  (h.set m v1 (by omega)).set (m + 1) v2 (by omega)
end Go.Proofs.YtecdkpcapalifaaDoor

namespace Go.Proofs.YtecdkpcapalifaaDoor
open Go.RowKit

theorem wpList_append_at {P : Program} {w : World} {ops : Array Oper} {rest : List Oper} {o : Oper} {a : Act} {Q : Exit → Act → World → Prop} (hgd : o.guard = none) (s x : Operand) (t : TypeId)
    (ho : o.op = .call { callee := .builtin .append, args := #[s, x], argTypes := #[t, t] })
    (base : Nat) (e : TypeId) (i : TypeInfo) (z : Value) (size bytes : Nat) (ht : P.underlying t = some (.slice e)) (hi : P.info? e = some i) (hz : i.zero = some z)
    (hsize : i.size = size) (hby : i.bytes = bytes) (hzs : z.cells.size = size) (hsz : 0 < size)
    (v : Value) (n : Nat) (xs : List Value) (hs : a.eval s = v) (hown : w.ownsRow base e size v n xs)
    (ad : Addr) (m c : Nat) (news : List Value) (hx : a.eval x = .slice (some ad) m c) (hl : news.length = m * size) (hnews : ∀ j u, news[j]? = some u → w.cell? (ad.add j) = some u) (h1 : ∀ u ∈ news, u.oneCell' = true)
    (h63 : n + m ≤ maxLen) (hbytes : (n + m) * bytes ≤ 140737488355328) (hbase : base ≤ w.heap.size)
    (h : ∀ v' w', w'.ownsRow base e size v' (n + m) (xs ++ news) → w.grownBy w' v.ownBlock → wpList P ops Q rest (a.put o.dst v') w') :
    wpList P ops Q (o :: rest) a w := by
  obtain ⟨v', w', hr, h2, h3, _, _⟩ := run_append_own_at (P := P) w base t o.type e i z size bytes ht hi hz hsize hby hzs hsz v n xs hown ad m c news hl hnews h1 h63 hbytes hbase
  refine wpList_plain hgd fun K hK => ?_
  unfold Oper.wp execOp
  simp only [ho, resolve, invoke, builtin, Sem.run_bind, Sem.run_pure, Result.andThen_ok, List.map_toArray, List.map_cons, List.map_nil, hs, hx, hr]
  exact hK _ _ (h v' w' h2 h3)
/-- a new block as a row that the call owns -/
theorem owns_block {W : World} {B base : Nat} {t : TypeId} {size n : Nat} {cs : Array Value} {xs : List Value} (h : Boxs W B t cs) (hB : base ≤ B) (hc : cs.toList = xs) (hl : xs.length = n * size) (hn : n ≤ 1000000) : W.ownsRow base t size (.slice (some ⟨B, 0, none⟩) n n) n xs := by
  refine ⟨hl, .inr ⟨B, n, cs, rfl, hB, h, Nat.le_refl _, by unfold maxLen; omega, ?_, ?_⟩⟩
  · rw [← Array.length_toList, hc, hl]
  · rw [hc, ← hl, List.take_length]
theorem results_tmp4 {fn : Func} {t u v x : Tmp} (h : fn.results = #[.tmp t, .tmp u, .tmp v, .tmp x]) (tmps : Array Value) (P : Program) (w : World) :
    (results fn tmps).run P w = .ok (.tuple #[tmps.getD t undef, tmps.getD u undef, tmps.getD v undef, tmps.getD x undef]) w := by
  simp [results, h]
end Go.Proofs.YtecdkpcapalifaaDoor

namespace Go.Proofs.YtecdkpcapalifaaDoor
open Go.RowKit Go.Maps

def UniqueOut (A B : List Sp) (is : Bool) (w : World) (e : Ending) (w' : World) : Prop :=
  ∃ va vb, e = .returned (.tuple #[va, vb, .bool is, .int .i64 0]) ∧ RdP w' va A ∧ RdP w' vb B ∧ Below w.heap.size w w'

set_option maxRecDepth 100000 in
set_option maxHeartbeats 4000000 in
theorem unique_none (k row pas most : Int) (nx : Bool) (w : World) (hs : okSty ⟨k, nx, row, pas⟩) (h1 : 1 ≤ most) (h9 : most ≤ 999) (hr : row ≤ 0) (hp : pas ≤ 0) :
    Calls Tryd.prog 29 #[.agg #[.int .i64 k, .bool nx, .int .i64 row, .int .i64 pas], .int .i64 most] w (UniqueOut [] [] true w) := by
  have hV := (okSty_valid ⟨k, nx, row, pas⟩).2 hs
  dsimp only at hV
  have VA := valid_any k row pas nx ((w.alloc (.cells #[.int .i64 k, .bool nx, .int .i64 row, .int .i64 pas] 36)).alloc (.cells #[.int .i64 most] 3))
  rw [hV] at VA
  obtain ⟨_, _, hr0, _, hr9, hp0, hp1, hp9⟩ := hs
  dsimp only at hr0 hr9 hp0 hp1 hp9
  have HP1 := Lib.hid hp1
  have hb0 := ((Below.refl w.heap.size w).alloc (Nat.le_refl _) (.cells #[.int .i64 k, .bool nx, .int .i64 row, .int .i64 pas] 36)).alloc (by simp) (.cells #[.int .i64 most] 3)
  have hx0 := (Boxs.new w 36 #[.int .i64 k, .bool nx, .int .i64 row, .int .i64 pas]).alloc (.cells #[.int .i64 most] 3)
  have hy0 := Boxs.new (w.alloc (.cells #[.int .i64 k, .bool nx, .int .i64 row, .int .i64 pas] 36)) 3 #[.int .i64 most]
  rw [World.size_alloc] at hy0
  have hz0 : ((w.alloc (.cells #[.int .i64 k, .bool nx, .int .i64 row, .int .i64 pas] 36)).alloc (.cells #[.int .i64 most] 3)).heap.size = w.heap.size + 2 := by simp
  have HX := Lib.hid hx0; have HY := Lib.hid hy0; have HB := Lib.hid hb0
  clear hx0 hy0 hb0 hV hp1
  go_enter Tryd.func29, Tryd.ntmps29
  go_wp2_with fail
  refine VA.mono ?_
  rintro e w1 ⟨rfl, hb⟩
  have hx1 := HX.out.below hb (by omega)
  have hy1 := HY.out.below hb (by omega)
  have hb1 := HB.out.trans (hb.mono (by omega))
  have hs1 := hb.size
  rw [hz0] at hs1
  have hz1 : ((w1.alloc (.cells #[.slice none 0 0] 38)).alloc (.cells #[.slice none 0 0] 38)).heap.size = w1.heap.size + 2 := by simp
  have ua := (Boxs.new w1 38 #[.slice none 0 0]).alloc (.cells #[.slice none 0 0] 38)
  have ub := Boxs.new (w1.alloc (.cells #[.slice none 0 0] 38)) 38 #[.slice none 0 0]
  rw [World.size_alloc] at ub
  have U : Uni w.heap.size w1.heap.size w ((w1.alloc (.cells #[.slice none 0 0] 38)).alloc (.cells #[.slice none 0 0] 38)) #[.int .i64 k, .bool nx, .int .i64 row, .int .i64 pas] most (.slice none 0 0) (.slice none 0 0) :=
    ⟨hs1, (hx1.alloc _).alloc _, (hy1.alloc _).alloc _, ua, ub, (hb1.alloc (by omega) _).alloc (by simp; omega) _⟩
  have HU := Lib.hid U
  have m0 := hy1.cell 0
  simp at m0
  have en : ∀ W, (binOp .eql 38 (.slice none 0 0) (.slice none 0 0)).run Tryd.prog W = .ok (.bool true) W := fun W => Lib.run_eql_slice_nil W 38 81 none 0 0 0 0 Tryd.underlying38
  clear hx1 hy1 hb1 ua ub hb
  have e1 := U.sty.cell 2
  have e2 := U.sty.cell 3
  simp at e1 e2
  have ca := U.a.cell 0
  have cb := U.b.cell 0
  simp at ca cb
  clear U
  go_wp2_with fail
  go_quiet (fail)
  go_wp2_with fail
  (try simp only [Exit.inBlock, Exit.then]); refine bodyPost_ret (results_tmp4 rfl _ _ _) rfl ?_
  exact ⟨_, _, rfl, RdP.none _, RdP.none _, Below.dn HU.out.bel _⟩

set_option maxRecDepth 100000 in
set_option maxHeartbeats 4000000 in
theorem unique_ff (k row pas most : Int) (nx : Bool) (w : World) (hs : okSty ⟨k, nx, row, pas⟩) (h1 : 1 ≤ most) (h9 : most ≤ 999) (hr : 0 < row) (hm : row + 1 ≤ most) (hp : pas ≤ 0) :
    Calls Tryd.prog 29 #[.agg #[.int .i64 k, .bool nx, .int .i64 row, .int .i64 pas], .int .i64 most] w (UniqueOut [(1, row)] [(1, row + 1)] false w) := by
  have hV := (okSty_valid ⟨k, nx, row, pas⟩).2 hs
  dsimp only at hV
  have VA := valid_any k row pas nx ((w.alloc (.cells #[.int .i64 k, .bool nx, .int .i64 row, .int .i64 pas] 36)).alloc (.cells #[.int .i64 most] 3))
  rw [hV] at VA
  obtain ⟨_, _, hr0, _, hr9, hp0, hp1, hp9⟩ := hs
  dsimp only at hr0 hr9 hp0 hp1 hp9
  have HP1 := Lib.hid hp1
  have hb0 := ((Below.refl w.heap.size w).alloc (Nat.le_refl _) (.cells #[.int .i64 k, .bool nx, .int .i64 row, .int .i64 pas] 36)).alloc (by simp) (.cells #[.int .i64 most] 3)
  have hx0 := (Boxs.new w 36 #[.int .i64 k, .bool nx, .int .i64 row, .int .i64 pas]).alloc (.cells #[.int .i64 most] 3)
  have hy0 := Boxs.new (w.alloc (.cells #[.int .i64 k, .bool nx, .int .i64 row, .int .i64 pas] 36)) 3 #[.int .i64 most]
  rw [World.size_alloc] at hy0
  have hz0 : ((w.alloc (.cells #[.int .i64 k, .bool nx, .int .i64 row, .int .i64 pas] 36)).alloc (.cells #[.int .i64 most] 3)).heap.size = w.heap.size + 2 := by simp
  have HX := Lib.hid hx0; have HY := Lib.hid hy0; have HB := Lib.hid hb0
  clear hx0 hy0 hb0 hV hp1
  go_enter Tryd.func29, Tryd.ntmps29
  go_wp2_with fail
  refine VA.mono ?_
  rintro e w1 ⟨rfl, hb⟩
  have hx1 := HX.out.below hb (by omega)
  have hy1 := HY.out.below hb (by omega)
  have hb1 := HB.out.trans (hb.mono (by omega))
  have hs1 := hb.size
  rw [hz0] at hs1
  have hz1 : ((w1.alloc (.cells #[.slice none 0 0] 38)).alloc (.cells #[.slice none 0 0] 38)).heap.size = w1.heap.size + 2 := by simp
  have ua := (Boxs.new w1 38 #[.slice none 0 0]).alloc (.cells #[.slice none 0 0] 38)
  have ub := Boxs.new (w1.alloc (.cells #[.slice none 0 0] 38)) 38 #[.slice none 0 0]
  rw [World.size_alloc] at ub
  have U : Uni w.heap.size w1.heap.size w ((w1.alloc (.cells #[.slice none 0 0] 38)).alloc (.cells #[.slice none 0 0] 38)) #[.int .i64 k, .bool nx, .int .i64 row, .int .i64 pas] most (.slice none 0 0) (.slice none 0 0) :=
    ⟨hs1, (hx1.alloc _).alloc _, (hy1.alloc _).alloc _, ua, ub, (hb1.alloc (by omega) _).alloc (by simp; omega) _⟩
  have HU := Lib.hid U
  have m0 := hy1.cell 0
  simp at m0
  have en : ∀ W, (binOp .eql 38 (.slice none 0 0) (.slice none 0 0)).run Tryd.prog W = .ok (.bool true) W := fun W => Lib.run_eql_slice_nil W 38 81 none 0 0 0 0 Tryd.underlying38
  clear hx1 hy1 hb1 ua ub hb
  have e1 := U.sty.cell 2
  have e2 := U.sty.cell 3
  simp at e1 e2
  have ca := U.a.cell 0
  have cb := U.b.cell 0
  simp at ca cb
  have bx1 := (Boxs.new ((w1.alloc (.cells #[.slice none 0 0] 38)).alloc (.cells #[.slice none 0 0] 38)) 81 #[.int .i64 1, .int .i64 row]).alloc (.cells #[.int .i64 1, .int .i64 (row + 1)] 81)
  have bx2 := Boxs.new (((w1.alloc (.cells #[.slice none 0 0] 38)).alloc (.cells #[.slice none 0 0] 38)).alloc (.cells #[.int .i64 1, .int .i64 row] 81)) 81 #[.int .i64 1, .int .i64 (row + 1)]
  rw [World.size_alloc] at bx2
  rw [hz1] at bx1 bx2
  have r1 : RdB (w1.heap.size + 2) ((((w1.alloc (.cells #[.slice none 0 0] 38)).alloc (.cells #[.slice none 0 0] 38)).alloc (.cells #[.int .i64 1, .int .i64 row] 81)).alloc (.cells #[.int .i64 1, .int .i64 (row + 1)] 81)) (.slice (some ⟨w1.heap.size + 2, 0, none⟩) 1 1) [(1, row)] := RdB_block bx1 rfl rfl (by omega) (Nat.le_refl _)
  have r2 : RdB (w1.heap.size + 2) ((((w1.alloc (.cells #[.slice none 0 0] 38)).alloc (.cells #[.slice none 0 0] 38)).alloc (.cells #[.int .i64 1, .int .i64 row] 81)).alloc (.cells #[.int .i64 1, .int .i64 (row + 1)] 81)) (.slice (some ⟨w1.heap.size + 2 + 1, 0, none⟩) 1 1) [(1, row + 1)] := RdB_block bx2 rfl rfl (by omega) (by omega)
  have U2 := (U.alloc (.cells #[.int .i64 1, .int .i64 row] 81)).alloc (.cells #[.int .i64 1, .int .i64 (row + 1)] 81)
  have e1b := (U.alloc (.cells #[.int .i64 1, .int .i64 row] 81)).sty.cell 2
  have e1c := U2.sty.cell 2
  simp at e1b e1c
  have hd1 : ¬ w1.heap.size + 2 = w.heap.size := by omega
  have hd2 : ¬ w.heap.size = w1.heap.size + 2 := by omega
  have TR := try_first _ _ [] (1, row + 1) (w.heap.size + 1) (w1.heap.size + 1) w1.heap.size most _ _ r2.rd U2.most U2.b U2.a (by omega) [(1, row)] r1.rd (by simp) (by show row + 1 ≤ most; exact hm)
  have HR1 := Lib.hid r1; have HR2 := Lib.hid r2; have HU2 := Lib.hid U2
  clear U U2 r1 r2 bx1 bx2
  go_wp2_with fail
  refine TR.mono ?_
  rintro e w2 ⟨rfl, W2, hbw, rfl⟩
  have U3 := (HU2.out.below hbw).put (.slice (some ⟨w1.heap.size + 2, 0, none⟩) 1 1) (.slice (some ⟨w1.heap.size + 2 + 1, 0, none⟩) 1 1)
  have s1 := (HR1.out.below hbw).put w1.heap.size (.slice (some ⟨w1.heap.size + 2, 0, none⟩) 1 1) (.slice (some ⟨w1.heap.size + 2 + 1, 0, none⟩) 1 1) (Nat.le_refl _)
  have s2 := (HR2.out.below hbw).put w1.heap.size (.slice (some ⟨w1.heap.size + 2, 0, none⟩) 1 1) (.slice (some ⟨w1.heap.size + 2 + 1, 0, none⟩) 1 1) (Nat.le_refl _)
  have HU3 := Lib.hid U3; have HS1 := Lib.hid s1; have HS2 := Lib.hid s2
  clear e1 e2 e1b e1c ca cb TR hbw s1 s2 HR1 HR2 HU2
  generalize (W2.setCell ⟨w1.heap.size, 0, none⟩ (.slice (some ⟨w1.heap.size + 2, 0, none⟩) 1 1)).setCell ⟨w1.heap.size + 1, 0, none⟩ (.slice (some ⟨w1.heap.size + 2 + 1, 0, none⟩) 1 1) = W3 at *
  have e1 := U3.sty.cell 2
  have e2 := U3.sty.cell 3
  simp at e1 e2
  have ca := U3.a.cell 0
  have cb := U3.b.cell 0
  simp at ca cb
  have en2 : ∀ W, (binOp .eql 38 (.slice (some ⟨w1.heap.size + 2 + 1, 0, none⟩) 1 1) (.slice none 0 0)).run Tryd.prog W = .ok (.bool false) W := fun W => Lib.run_eql_slice_nil W 38 81 (some ⟨w1.heap.size + 2 + 1, 0, none⟩) 1 1 0 0 Tryd.underlying38
  clear U3
  go_wp2_with fail
  go_quiet (fail)
  go_wp2_with fail
  (try simp only [Exit.inBlock, Exit.then]); refine bodyPost_ret (results_tmp4 rfl _ _ _) rfl ?_
  exact ⟨_, _, rfl, HS1.out.rd, HS2.out.rd, Below.dn HU3.out.bel _⟩

set_option maxRecDepth 100000 in
set_option maxHeartbeats 4000000 in
theorem unique_fflate (k row pas most : Int) (nx : Bool) (w : World) (hs : okSty ⟨k, nx, row, pas⟩) (h1 : 1 ≤ most) (h9 : most ≤ 999) (hr : 0 < row) (hm : most < row + 1) (hp : pas ≤ 0) :
    Calls Tryd.prog 29 #[.agg #[.int .i64 k, .bool nx, .int .i64 row, .int .i64 pas], .int .i64 most] w (UniqueOut [] [] true w) := by
  have hV := (okSty_valid ⟨k, nx, row, pas⟩).2 hs
  dsimp only at hV
  have VA := valid_any k row pas nx ((w.alloc (.cells #[.int .i64 k, .bool nx, .int .i64 row, .int .i64 pas] 36)).alloc (.cells #[.int .i64 most] 3))
  rw [hV] at VA
  obtain ⟨_, _, hr0, _, hr9, hp0, hp1, hp9⟩ := hs
  dsimp only at hr0 hr9 hp0 hp1 hp9
  have HP1 := Lib.hid hp1
  have hb0 := ((Below.refl w.heap.size w).alloc (Nat.le_refl _) (.cells #[.int .i64 k, .bool nx, .int .i64 row, .int .i64 pas] 36)).alloc (by simp) (.cells #[.int .i64 most] 3)
  have hx0 := (Boxs.new w 36 #[.int .i64 k, .bool nx, .int .i64 row, .int .i64 pas]).alloc (.cells #[.int .i64 most] 3)
  have hy0 := Boxs.new (w.alloc (.cells #[.int .i64 k, .bool nx, .int .i64 row, .int .i64 pas] 36)) 3 #[.int .i64 most]
  rw [World.size_alloc] at hy0
  have hz0 : ((w.alloc (.cells #[.int .i64 k, .bool nx, .int .i64 row, .int .i64 pas] 36)).alloc (.cells #[.int .i64 most] 3)).heap.size = w.heap.size + 2 := by simp
  have HX := Lib.hid hx0; have HY := Lib.hid hy0; have HB := Lib.hid hb0
  clear hx0 hy0 hb0 hV hp1
  go_enter Tryd.func29, Tryd.ntmps29
  go_wp2_with fail
  refine VA.mono ?_
  rintro e w1 ⟨rfl, hb⟩
  have hx1 := HX.out.below hb (by omega)
  have hy1 := HY.out.below hb (by omega)
  have hb1 := HB.out.trans (hb.mono (by omega))
  have hs1 := hb.size
  rw [hz0] at hs1
  have hz1 : ((w1.alloc (.cells #[.slice none 0 0] 38)).alloc (.cells #[.slice none 0 0] 38)).heap.size = w1.heap.size + 2 := by simp
  have ua := (Boxs.new w1 38 #[.slice none 0 0]).alloc (.cells #[.slice none 0 0] 38)
  have ub := Boxs.new (w1.alloc (.cells #[.slice none 0 0] 38)) 38 #[.slice none 0 0]
  rw [World.size_alloc] at ub
  have U : Uni w.heap.size w1.heap.size w ((w1.alloc (.cells #[.slice none 0 0] 38)).alloc (.cells #[.slice none 0 0] 38)) #[.int .i64 k, .bool nx, .int .i64 row, .int .i64 pas] most (.slice none 0 0) (.slice none 0 0) :=
    ⟨hs1, (hx1.alloc _).alloc _, (hy1.alloc _).alloc _, ua, ub, (hb1.alloc (by omega) _).alloc (by simp; omega) _⟩
  have HU := Lib.hid U
  have m0 := hy1.cell 0
  simp at m0
  have en : ∀ W, (binOp .eql 38 (.slice none 0 0) (.slice none 0 0)).run Tryd.prog W = .ok (.bool true) W := fun W => Lib.run_eql_slice_nil W 38 81 none 0 0 0 0 Tryd.underlying38
  clear hx1 hy1 hb1 ua ub hb
  have e1 := U.sty.cell 2
  have e2 := U.sty.cell 3
  simp at e1 e2
  have ca := U.a.cell 0
  have cb := U.b.cell 0
  simp at ca cb
  have bx1 := (Boxs.new ((w1.alloc (.cells #[.slice none 0 0] 38)).alloc (.cells #[.slice none 0 0] 38)) 81 #[.int .i64 1, .int .i64 row]).alloc (.cells #[.int .i64 1, .int .i64 (row + 1)] 81)
  have bx2 := Boxs.new (((w1.alloc (.cells #[.slice none 0 0] 38)).alloc (.cells #[.slice none 0 0] 38)).alloc (.cells #[.int .i64 1, .int .i64 row] 81)) 81 #[.int .i64 1, .int .i64 (row + 1)]
  rw [World.size_alloc] at bx2
  rw [hz1] at bx1 bx2
  have r1 : RdB (w1.heap.size + 2) ((((w1.alloc (.cells #[.slice none 0 0] 38)).alloc (.cells #[.slice none 0 0] 38)).alloc (.cells #[.int .i64 1, .int .i64 row] 81)).alloc (.cells #[.int .i64 1, .int .i64 (row + 1)] 81)) (.slice (some ⟨w1.heap.size + 2, 0, none⟩) 1 1) [(1, row)] := RdB_block bx1 rfl rfl (by omega) (Nat.le_refl _)
  have r2 : RdB (w1.heap.size + 2) ((((w1.alloc (.cells #[.slice none 0 0] 38)).alloc (.cells #[.slice none 0 0] 38)).alloc (.cells #[.int .i64 1, .int .i64 row] 81)).alloc (.cells #[.int .i64 1, .int .i64 (row + 1)] 81)) (.slice (some ⟨w1.heap.size + 2 + 1, 0, none⟩) 1 1) [(1, row + 1)] := RdB_block bx2 rfl rfl (by omega) (by omega)
  have U2 := (U.alloc (.cells #[.int .i64 1, .int .i64 row] 81)).alloc (.cells #[.int .i64 1, .int .i64 (row + 1)] 81)
  have e1b := (U.alloc (.cells #[.int .i64 1, .int .i64 row] 81)).sty.cell 2
  have e1c := U2.sty.cell 2
  simp at e1b e1c
  have hd1 : ¬ w1.heap.size + 2 = w.heap.size := by omega
  have hd2 : ¬ w.heap.size = w1.heap.size + 2 := by omega
  have TR := try_late (.slice (some ⟨w1.heap.size + 2, 0, none⟩) 1 1) _ [] (1, row + 1) (w.heap.size + 1) (w1.heap.size + 1) w1.heap.size most _ r2.rd U2.most (by simp) (by show most < row + 1; exact hm)
  have HU2 := Lib.hid U2
  clear U U2 r1 r2 bx1 bx2
  go_wp2_with fail
  refine TR.mono ?_
  rintro e W3 ⟨rfl, hbw⟩
  have U3 := HU2.out.below hbw
  have HU3 := Lib.hid U3
  clear e1 e2 e1b e1c ca cb TR hbw HU2
  have e1 := U3.sty.cell 2
  have e2 := U3.sty.cell 3
  simp at e1 e2
  have ca := U3.a.cell 0
  have cb := U3.b.cell 0
  simp at ca cb
  clear U3
  go_wp2_with fail
  go_quiet (fail)
  go_wp2_with fail
  (try simp only [Exit.inBlock, Exit.then]); refine bodyPost_ret (results_tmp4 rfl _ _ _) rfl ?_
  exact ⟨_, _, rfl, RdP.none _, RdP.none _, Below.dn HU3.out.bel _⟩
end Go.Proofs.YtecdkpcapalifaaDoor

