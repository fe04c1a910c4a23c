/- The walk of SpanNormal. -/
import Derived.Test.YtecdkpcapalifaaDoorM14
set_option linter.unusedVariables false
namespace Go.Proofs.YtecdkpcapalifaaDoor
open Go.RowKit Go.Maps

theorem ofStep_len (out : List Sp) (p : Int) : (ofStep out p).length ≤ out.length + 1 := by
  unfold ofStep
  split
  · split
    · rename_i f t hl _
      have : out ≠ [] := by intro e; rw [e] at hl; cases hl
      have := List.length_pos_iff.2 this
      simp <;> omega
    · simp
  · simp
theorem fold_len : ∀ (ps : List Int) (out : List Sp), (ps.foldl ofStep out).length ≤ out.length + ps.length
  | [], out => Nat.le_refl _
  | p :: r, out => by
    have h1 := fold_len r (ofStep out p)
    have h2 := ofStep_len out p
    simp only [List.foldl_cons, List.length_cons]
    omega
theorem normalL_len (L : List Sp) : (normalL L).length ≤ 1000 := by
  have h1 := fold_len (pagesL L) []
  have h2 := pagesL_len L
  unfold normalL
  split
  · unfold ofL
    simp at h1
    omega
  · simp
/-- two styles in two blocks -/
def SS (W : World) (A B : Nat) (k : Int) (nx : Bool) (r p : Int) (k' : Int) (nx' : Bool) (r' p' : Int) : Prop :=
  (W.cell? ⟨A, 0, none⟩ = some (.int .i64 k) ∧ W.cell? ⟨A, 1, none⟩ = some (.bool nx) ∧ W.cell? ⟨A, 2, none⟩ = some (.int .i64 r) ∧ W.cell? ⟨A, 3, none⟩ = some (.int .i64 p)) ∧
  W.cell? ⟨B, 0, none⟩ = some (.int .i64 k') ∧ W.cell? ⟨B, 1, none⟩ = some (.bool nx') ∧ W.cell? ⟨B, 2, none⟩ = some (.int .i64 r') ∧ W.cell? ⟨B, 3, none⟩ = some (.int .i64 p')
theorem SS.below {W W' : World} {A B : Nat} {k : Int} {nx : Bool} {r p : Int} {k' : Int} {nx' : Bool} {r' p' : Int} (h : SS W A B k nx r p k' nx' r' p') (hb : Below W.heap.size W W') (hA : A < W.heap.size) (hB : B < W.heap.size) : SS W' A B k nx r p k' nx' r' p' :=
  ⟨⟨(hb.cell (p := ⟨A, 0, none⟩) hA).trans h.1.1, (hb.cell (p := ⟨A, 1, none⟩) hA).trans h.1.2.1, (hb.cell (p := ⟨A, 2, none⟩) hA).trans h.1.2.2.1, (hb.cell (p := ⟨A, 3, none⟩) hA).trans h.1.2.2.2⟩,
    (hb.cell (p := ⟨B, 0, none⟩) hB).trans h.2.1, (hb.cell (p := ⟨B, 1, none⟩) hB).trans h.2.2.1, (hb.cell (p := ⟨B, 2, none⟩) hB).trans h.2.2.2.1, (hb.cell (p := ⟨B, 3, none⟩) hB).trans h.2.2.2.2⟩

set_option maxRecDepth 100000 in
set_option maxHeartbeats 8000000 in
theorem spanNormal_any (v0 v3 : Value) (xs ys : List Int) (how n kp row pas : Int) (w : World) (h0 : RdI w v0 xs) (i0 : inI xs) (h3 : RdI w v3 ys) (hml : ML w)
    (h1 : -9223372036854775808 ≤ how) (h2 : how ≤ 9223372036854775807) (h4 : -9223372036854775808 ≤ n) (h5 : n ≤ 9223372036854775807) :
    Calls Tryd.prog 10 #[v0, .int .i64 how, .int .i64 n, v3, .int .i64 kp, .int .i64 row, .int .i64 pas] w fun e w' => e = .returned (.bool true) ∧ Below w.heap.size w w' := by
  have HML := Lib.hid hml
  have hlt := hml.lt
  have H3 := Lib.hid h3
  have LA := list_any v0 xs w h0 i0
  obtain ⟨a0, c0, rfl, _⟩ := h0.open
  obtain ⟨a3, c3, rfl, _⟩ := h3.open
  clear hml h0 h3
  go_enter Tryd.func10, Tryd.ntmps10
  go_wp2_with fail
  refine LA.mono ?_
  rintro e w1 ⟨va, rfl, LL, hown, hnrm, hll, hb1⟩
  have r1 := RdP_of_owns hown
  obtain ⟨aa, ca, rfl⟩ := owns_slice hown
  have BE := bent_any _ LL how n 1000 w1 r1 (by omega) (by omega) (by omega) (nrm_BdL hnrm) h1 h2 h4 h5
  have HR1 := Lib.hid r1; have HB1 := Lib.hid hb1
  have hs1 := hb1.size
  clear LA hown r1 hb1
  go_wp2_with fail
  refine BE.mono ?_
  rintro e w2 ⟨vb, rfl, L2, hown, hbd, hl2, hb2⟩
  have r2 := RdP_of_owns hown
  obtain ⟨ab, cb, rfl⟩ := owns_slice hown
  have BF := bent_any _ L2 n how 1001 w2 r2 (by omega) (by omega) (by omega) hbd h4 h5 h1 h2
  have HR2 := Lib.hid r2; have HB2 := Lib.hid (HB1.out.trans (hb2.mono hs1)); have HR1 := Lib.hid (HR1.out.below hb2)
  have hs2 := HB2.out.size
  clear BE hown r2 hb2 HB1
  go_wp2_with fail
  refine BF.mono ?_
  rintro e w3 ⟨vc, rfl, L3, hown, _, hl3, hb2⟩
  have r3 := RdP_of_owns hown
  obtain ⟨ac, cc, rfl⟩ := owns_slice hown
  have HR3 := Lib.hid r3; have HB3 := Lib.hid (HB2.out.trans (hb2.mono hs2)); have HR1 := Lib.hid (HR1.out.below hb2); have HR2 := Lib.hid (HR2.out.below hb2)
  have hs3 := HB3.out.size
  have LO := lawof_any _ ys 20 w3 (H3.out.below HB3.out) (by omega)
  clear BF hown r3 hb2 HB2
  go_wp2_with fail
  refine LO.mono ?_
  rintro e w4 ⟨vd, rfl, hown, hb2⟩
  have r4 := RdP_of_owns hown
  obtain ⟨ad, cd, rfl⟩ := owns_slice hown
  have hl4 : (ofRaw ys 20).length ≤ 20 := by unfold ofRaw; rw [List.length_take]; omega
  have TB := tab4 (t := 28) (P := fun L => L.length ≤ 1000) (HR1.out.below hb2) (HR2.out.below hb2) (HR3.out.below hb2) r4 (by omega) (by omega) (by omega) (by omega)
  have HB4 := Lib.hid ((HB3.out.trans (hb2.mono hs3)).alloc (by have := hb2.size; omega) (.cells #[.slice aa LL.length ca, .slice ab L2.length cb, .slice ac L3.length cc, .slice ad (ofRaw ys 20).length cd] 28))
  have HT := Lib.hid TB
  have hs4 := hb2.size
  clear LO hown r4 hb2 HB3 HR1 HR2 HR3 TB hl4 hl3 hl2 hbd hll hnrm
  go_wp2_with fail
  generalize hW5 : w4.alloc (.cells #[.slice aa LL.length ca, .slice ab L2.length cb, .slice ac L3.length cc, .slice ad (ofRaw ys 20).length cd] 28) = w5 at *
  clear hW5
  obtain ⟨B, hB⟩ : ∃ B, w4.heap.size = B := ⟨_, rfl⟩
  rw [hB] at HT ⊢
  clear hB
  go_loopw [18] (fun i wr => ∃ k : Nat, k ≤ 4 ∧ i = .int .i64 k ∧ TabP wr B 4 (fun L => L.length ≤ 1000) ∧ Below w.heap.size w wr) (fun i _ => 4 - (intOf i).toNat)
  case atStart => exact ⟨0, by omega, rfl, HT.out, HB4.out⟩
  case round =>
    obtain ⟨k, hk, rfl, htab, hbl⟩ := hrel
    have hk9 : (k : Int) ≤ 4 := by omega
    have hk0 : (0 : Int) ≤ (k : Int) := by omega
    by_cases hk4 : k < 4
    · obtain ⟨al, cl, L, hcl, hrl, hLl⟩ := htab.2 k hk4
      have HT2 := Lib.hid htab; have HBL := Lib.hid hbl
      have hlt0 := htab.1
      have hsz := hbl.size
      have hk4i : (k : Int) < 4 := by omega
      have OW := own_any _ L wr hrl (by omega)
      clear htab hbl
      go_wp2_with fail
      refine OW.mono ?_
      rintro e w6 ⟨v6, rfl, hown, hb6⟩
      have PN := pnormal_any _ L w6 (RdP_of_owns hown)
      clear OW hown
      go_wp2_with fail
      refine PN.mono ?_
      rintro e w7 ⟨v7, rfl, hr7, hb7⟩
      have hbc := hb6.trans (hb7.mono hb6.size)
      have hc7 := (hbc.cell (p := ⟨B, k, none⟩) hlt0).trans hcl
      have hr8 := hrl.below hbc
      have RN := rnormal_any _ L w7 hr8
      have HR7 := Lib.hid hr7; have HR8 := Lib.hid hr8; have HBC := Lib.hid hbc; have HB7 := Lib.hid hb7
      clear PN hr7 hr8 hb6 hb7 hbc hrl hcl
      go_wp2_with fail
      refine RN.mono ?_
      rintro e w8 ⟨v8, rfl, hr9, hb8⟩
      have hc8 := (hb8.cell (p := ⟨B, k, none⟩) (Nat.lt_of_lt_of_le hlt0 HBC.out.size)).trans hc7
      have HR7 := Lib.hid (HR7.out.below hb8); have HR8 := Lib.hid (HR8.out.below hb8); have HBC := Lib.hid (HBC.out.trans (hb8.mono HBC.out.size)); have HR9 := Lib.hid hr9
      have hlt8 : B < w8.heap.size := Nat.lt_of_lt_of_le hlt0 HBC.out.size
      clear RN hr9 hb8 hc7
      obtain ⟨a7, c7, rfl⟩ := HR7.out.form
      obtain ⟨a8, c8, rfl⟩ := HR9.out.form
      go_wp2_with fail
      have G1 := Lib.hid (show (w8.drewN 1).cell? ⟨B, k, none⟩ = some (.slice al L.length cl) from hc8)
      have MD := model_any _ (normalL L) (w8.drewN 1) (HR7.out.below (Below.dn (Below.refl _ _) 1)) (by have := normalL_len L; omega)
      refine wp_region_held (S := fun W => W.cell? ⟨B, k, none⟩ = some (.slice al L.length cl)) (by kernel_rfl) ?_
      have hdr : (w8).drew = { w8 with drawn := (w8).drawn + 1 } := rfl
      rw [← hdr]
      clear hdr
      refine wpAnyHTake 0 (some 63) (.int .i64 (normalE L)) rfl rfl (by kernel_rfl) (by kernel_rfl) (by kernel_rfl) (fun _ _ _ h => h) (by rfl) (fun _ _ => by rfl) (G1.out) ?_
      simp only [Act.put, List.setIfInBounds_toArray, List.set_cons_zero, List.set_cons_succ]
      refine wpAnyHTake 1 (some 64) (.int .i64 (normalE L)) rfl rfl (by kernel_rfl) (by kernel_rfl) (by kernel_rfl) (fun _ _ _ h => h) (by rfl) (fun _ _ => by rfl) (G1.out) ?_
      simp only [Act.put, List.setIfInBounds_toArray, List.set_cons_zero, List.set_cons_succ]
      refine wpAnyHTake 2 (some 65) (.bool false) rfl rfl (by kernel_rfl) (by kernel_rfl) (by kernel_rfl) (fun _ _ _ h => h) (by rfl) (fun _ _ => by go_simp) (G1.out) ?_
      simp only [Act.put, List.setIfInBounds_toArray, List.set_cons_zero, List.set_cons_succ]
      refine wpAnyHTake 3 (some 66) (.bool false) rfl rfl (by kernel_rfl) (by kernel_rfl) (by kernel_rfl) (fun _ _ _ h => h) (by rfl) (fun _ _ => by rfl) (G1.out) ?_
      simp only [Act.put, List.setIfInBounds_toArray, List.set_cons_zero, List.set_cons_succ]
      refine wpAnyHTake 4 (some 67) (.slice a7 (normalL L).length c7) rfl rfl (by kernel_rfl) (by kernel_rfl) (by kernel_rfl) (fun _ _ _ h => h) (by rfl) (fun _ _ => by rfl) (G1.out) ?_
      simp only [Act.put, List.setIfInBounds_toArray, List.set_cons_zero, List.set_cons_succ]
      refine wpAnyHTake 6 (some 69) (.slice a8 (normalL L).length c8) rfl rfl (by kernel_rfl) (by kernel_rfl) (by kernel_rfl) (fun _ _ _ h => h) (by rfl) (fun _ _ => by rfl) (G1.out) ?_
      simp only [Act.put, List.setIfInBounds_toArray, List.set_cons_zero, List.set_cons_succ]
      refine wpAnyHCall 5 (some 68) 26 #[.slice a7 (normalL L).length c7] (by kernel_rfl) rfl rfl (by rfl) (by go_simp) (MD) ?_
      rintro e w9 ⟨v9, rfl, hown, hb9⟩
      have hbA := (Below.dn (Below.refl w8.heap.size w8) 1).trans hb9
      have G2 := Lib.hid ((hb9.cell (p := ⟨B, k, none⟩) hlt8).trans G1.out)
      have SM := same_any v9 _ _ _ w9 (RdP_of_owns hown) (HR9.out.below hbA)
      rw [show decide (normalL L = normalL L) = true from decide_eq_true rfl] at SM
      obtain ⟨a9, c9, rfl⟩ := owns_slice hown
      have hlt9 := Nat.lt_of_lt_of_le hlt8 hbA.size
      have HBD := Lib.hid (HBC.out.trans (hbA.mono HBC.out.size)); have HR8 := Lib.hid (HR8.out.below hbA)
      clear MD hown hb9 hbA
      refine ⟨_, rfl, G2.out, ?_⟩
      simp only [Act.put, List.setIfInBounds_toArray, List.set_cons_zero, List.set_cons_succ]
      refine wpAnyHCall 7 (some 70) 25 #[.slice a9 (normalL L).length c9, .slice a8 (normalL L).length c8] (by kernel_rfl) rfl rfl (by rfl) (by go_simp) (SM) ?_
      rintro e w10 ⟨rfl, hb9⟩
      have G3 := Lib.hid ((hb9.cell (p := ⟨B, k, none⟩) hlt9).trans G2.out)
      have hlt10 := Nat.lt_of_lt_of_le hlt9 hb9.size
      have HBD := Lib.hid (HBD.out.trans (hb9.mono HBD.out.size)); have HR8 := Lib.hid (HR8.out.below hb9)
      have OW := own_any _ L w10 HR8.out (by omega)
      clear SM hb9
      refine ⟨_, rfl, G3.out, ?_⟩
      simp only [Act.put, List.setIfInBounds_toArray, List.set_cons_zero, List.set_cons_succ]
      refine wpAnyHTake 8 (some 71) (.bool false) rfl rfl (by kernel_rfl) (by kernel_rfl) (by kernel_rfl) (fun _ _ _ h => h) (by rfl) (fun _ _ => by go_simp) (G3.out) ?_
      simp only [Act.put, List.setIfInBounds_toArray, List.set_cons_zero, List.set_cons_succ]
      refine wpAnyHTake 9 (some 72) (.bool false) rfl rfl (by kernel_rfl) (by kernel_rfl) (by kernel_rfl) (fun _ _ _ h => h) (by rfl) (fun _ _ => by go_simp) (G3.out) ?_
      simp only [Act.put, List.setIfInBounds_toArray, List.set_cons_zero, List.set_cons_succ]
      refine wpAnyHTake 10 (some 73) (.bool false) rfl rfl (by kernel_rfl) (by kernel_rfl) (by kernel_rfl) (fun _ _ _ h => h) (by rfl) (fun _ _ => by rfl) (G3.out) ?_
      simp only [Act.put, List.setIfInBounds_toArray, List.set_cons_zero, List.set_cons_succ]
      refine wpAnyHTake 11 (some 74) (.slice (some ⟨B, 0, none⟩) 4 4) rfl rfl (by kernel_rfl) (by kernel_rfl) (by kernel_rfl) (fun _ _ _ h => h) (by rfl) (fun _ _ => by rfl) (G3.out) ?_
      simp only [Act.put, List.setIfInBounds_toArray, List.set_cons_zero, List.set_cons_succ]
      refine wpAnyHTake 12 (some 75) (.int .i64 (k : Int)) rfl rfl (by kernel_rfl) (by kernel_rfl) (by kernel_rfl) (fun _ _ _ h => h) (by rfl) (fun _ _ => by rfl) (G3.out) ?_
      simp only [Act.put, List.setIfInBounds_toArray, List.set_cons_zero, List.set_cons_succ]
      refine wpAnyHTake 13 (some 76) (.pointer (some ⟨B, k, none⟩)) rfl rfl (by kernel_rfl) (by kernel_rfl) (by kernel_rfl) (fun _ _ _ h => h) (by rfl) (fun _ _ => by go_simp) (G3.out) ?_
      simp only [Act.put, List.setIfInBounds_toArray, List.set_cons_zero, List.set_cons_succ]
      refine wpAnyHTake 14 (some 77) (.slice al L.length cl) rfl rfl (by kernel_rfl) (by kernel_rfl) (by kernel_rfl) (fun _ _ _ h => h) (by rfl) (fun W hW => by go_simp) (G3.out) ?_
      simp only [Act.put, List.setIfInBounds_toArray, List.set_cons_zero, List.set_cons_succ]
      refine wpAnyHTake 17 (some 80) (.slice (some ⟨B, 0, none⟩) 4 4) rfl rfl (by kernel_rfl) (by kernel_rfl) (by kernel_rfl) (fun _ _ _ h => h) (by rfl) (fun _ _ => by rfl) (G3.out) ?_
      simp only [Act.put, List.setIfInBounds_toArray, List.set_cons_zero, List.set_cons_succ]
      refine wpAnyHTake 18 (some 81) (.int .i64 (k : Int)) rfl rfl (by kernel_rfl) (by kernel_rfl) (by kernel_rfl) (fun _ _ _ h => h) (by rfl) (fun _ _ => by rfl) (G3.out) ?_
      simp only [Act.put, List.setIfInBounds_toArray, List.set_cons_zero, List.set_cons_succ]
      refine wpAnyHTake 19 (some 82) (.pointer (some ⟨B, k, none⟩)) rfl rfl (by kernel_rfl) (by kernel_rfl) (by kernel_rfl) (fun _ _ _ h => h) (by rfl) (fun _ _ => by go_simp) (G3.out) ?_
      simp only [Act.put, List.setIfInBounds_toArray, List.set_cons_zero, List.set_cons_succ]
      refine wpAnyHTake 20 (some 83) (.slice al L.length cl) rfl rfl (by kernel_rfl) (by kernel_rfl) (by kernel_rfl) (fun _ _ _ h => h) (by rfl) (fun W hW => by go_simp) (G3.out) ?_
      simp only [Act.put, List.setIfInBounds_toArray, List.set_cons_zero, List.set_cons_succ]
      refine wpAnyHCall 15 (some 78) 18 #[.slice al L.length cl] (by kernel_rfl) rfl rfl (by rfl) (by go_simp) (OW) ?_
      rintro e w11 ⟨v11, rfl, hown, hb9⟩
      have G4 := Lib.hid ((hb9.cell (p := ⟨B, k, none⟩) hlt10).trans G3.out)
      have hlt11 := Nat.lt_of_lt_of_le hlt10 hb9.size
      have HBD := Lib.hid (HBD.out.trans (hb9.mono HBD.out.size)); have HR8 := Lib.hid (HR8.out.below hb9)
      have PG := pages_any v11 L w11 (RdP_of_owns hown)
      obtain ⟨a11, c11, rfl⟩ := owns_slice hown
      clear OW hb9 hown
      refine ⟨_, rfl, G4.out, ?_⟩
      simp only [Act.put, List.setIfInBounds_toArray, List.set_cons_zero, List.set_cons_succ]
      refine wpAnyHCall 16 (some 79) 37 #[.slice a11 L.length c11] (by kernel_rfl) rfl rfl (by rfl) (by go_simp) (PG) ?_
      rintro e w12 ⟨v12, rfl, hown, hb9⟩
      have G5 := Lib.hid ((hb9.cell (p := ⟨B, k, none⟩) hlt11).trans G4.out)
      have hlt12 := Nat.lt_of_lt_of_le hlt11 hb9.size
      have HBD := Lib.hid (HBD.out.trans (hb9.mono HBD.out.size)); have HR8 := Lib.hid (HR8.out.below hb9)
      have RP := rpages_any _ L w12 HR8.out
      have ri := owns_ints hown
      obtain ⟨a12, c12, rfl⟩ := owns_slice hown
      have HRI := Lib.hid ri
      clear PG hb9 hown ri
      refine ⟨_, rfl, G5.out, ?_⟩
      simp only [Act.put, List.setIfInBounds_toArray, List.set_cons_zero, List.set_cons_succ]
      refine wpAnyHCall 21 (some 84) 38 #[.slice al L.length cl] (by kernel_rfl) rfl rfl (by rfl) (by go_simp) (RP) ?_
      rintro e w13 ⟨v13, rfl, hown, hb9⟩
      have G6 := Lib.hid ((hb9.cell (p := ⟨B, k, none⟩) hlt12).trans G5.out)
      have hlt13 := Nat.lt_of_lt_of_le hlt12 hb9.size
      have HBD := Lib.hid (HBD.out.trans (hb9.mono HBD.out.size))
      have SI := sameInts_any _ _ _ _ w13 (HRI.out.below hb9) (owns_ints hown)
      rw [show decide (pagesL L = pagesL L) = true from decide_eq_true rfl] at SI
      obtain ⟨a13, c13, rfl⟩ := owns_slice hown
      clear RP hb9 hown
      refine ⟨_, rfl, G6.out, ?_⟩
      simp only [Act.put, List.setIfInBounds_toArray, List.set_cons_zero, List.set_cons_succ]
      refine wpAnyHCall 22 (some 85) 36 #[.slice a12 (pagesL L).length c12, .slice a13 (pagesL L).length c13] (by kernel_rfl) rfl rfl (by rfl) (by go_simp) (SI) ?_
      rintro e w14 ⟨rfl, hb9⟩
      have G7 := Lib.hid ((hb9.cell (p := ⟨B, k, none⟩) hlt13).trans G6.out)
      have HBD := Lib.hid (HBD.out.trans (hb9.mono HBD.out.size))
      clear SI hb9
      refine ⟨_, rfl, G7.out, ?_⟩
      simp only [Act.put, List.setIfInBounds_toArray, List.set_cons_zero, List.set_cons_succ]
      refine wpAnyHTake 23 (some 86) (.bool false) rfl rfl (by kernel_rfl) (by kernel_rfl) (by kernel_rfl) (fun _ _ _ h => h) (by rfl) (fun _ _ => by go_simp) (G7.out) ?_
      simp only [Act.put, List.setIfInBounds_toArray, List.set_cons_zero, List.set_cons_succ]
      refine wpAnyHTake 24 (some 87) (.bool false) rfl rfl (by kernel_rfl) (by kernel_rfl) (by kernel_rfl) (fun _ _ _ h => h) (by rfl) (fun _ _ => by go_simp) (G7.out) ?_
      simp only [Act.put, List.setIfInBounds_toArray, List.set_cons_zero, List.set_cons_succ]
      refine wpAnyH_done (by kernel_rfl) ?_ _
      go_wp2_with fail
      go_roundw
      case rel => exact ⟨k + 1, by omega, by go_num, HT2.out.below HBD.out, HBL.out.trans (HBD.out.mono hsz)⟩
      case measure => simp [intOf]; omega
    · have hk4i : ¬ (k : Int) < 4 := by omega
      have HBL := Lib.hid hbl
      clear htab hbl
      have MA := made_any n wr h4 h5
      go_wp2_with fail
      refine MA.mono ?_
      rintro e w6 ⟨s1, hs1m, rfl, hb6⟩
      have OD := odd_any s1 how n w6 hs1m.bd h1 h2 h4 h5
      have HBM := Lib.hid (HBL.out.trans (hb6.mono HBL.out.size))
      clear MA hb6
      obtain ⟨k1, nx1, row1, pas1⟩ := s1
      go_wp2_with fail
      refine OD.mono ?_
      rintro e w7 ⟨s2, _, rfl, hb7⟩
      have HBN := Lib.hid (HBM.out.trans (hb7.mono HBM.out.size))
      clear OD hb7 HBM
      obtain ⟨k2, nx2, row2, pas2⟩ := s2
      unfold styV
      dsimp only
      go_wp2_with fail
      have bx := (Boxs.new w7 24 #[.int .i64 k2, .bool nx2, .int .i64 row2, .int .i64 pas2]).alloc (.cells #[.int .i64 kp, .bool false, .int .i64 row, .int .i64 pas] 24)
      have by1 := Boxs.new (w7.alloc (.cells #[.int .i64 k2, .bool nx2, .int .i64 row2, .int .i64 pas2] 24)) 24 #[.int .i64 kp, .bool false, .int .i64 row, .int .i64 pas]
      rw [World.size_alloc] at by1
      have HBO := Lib.hid ((HBN.out.alloc HBN.out.size (.cells #[.int .i64 k2, .bool nx2, .int .i64 row2, .int .i64 pas2] 24)).alloc (by have := HBN.out.size; simp; omega) (.cells #[.int .i64 kp, .bool false, .int .i64 row, .int .i64 pas] 24))
      have hltA := bx.lt
      have hltB := by1.lt
      have G0 := Lib.hid (show SS _ w7.heap.size (w7.heap.size + 1) k2 nx2 row2 pas2 kp false row pas from ⟨⟨bx.cell 0, bx.cell 1, bx.cell 2, bx.cell 3⟩, by1.cell 0, by1.cell 1, by1.cell 2, by1.cell 3⟩)
      clear bx by1
      obtain ⟨A, hA⟩ : ∃ A, w7.heap.size = A := ⟨_, rfl⟩
      generalize hW8 : (w7.alloc (.cells #[.int .i64 k2, .bool nx2, .int .i64 row2, .int .i64 pas2] 24)).alloc (.cells #[.int .i64 kp, .bool false, .int .i64 row, .int .i64 pas] 24) = w8 at *
      rw [hA] at G0 hltA hltB ⊢
      clear hW8 hA
      have G1 := Lib.hid (show SS (w8.drewN 1) A (A + 1) k2 nx2 row2 pas2 kp false row pas from G0.out)
      have ST := style_any k2 row2 pas2 nx2 (w8.drewN 1)
      have HBO := Lib.hid (Below.dn HBO.out 1)
      have hltA : A < (w8.drewN 1).heap.size := hltA
      have hltB : A + 1 < (w8.drewN 1).heap.size := hltB
      refine wp_region_held (S := fun W => SS W A (A + 1) k2 nx2 row2 pas2 kp false row pas) (by kernel_rfl) ?_
      have hdr : (w8).drew = { w8 with drawn := (w8).drawn + 1 } := rfl
      rw [← hdr]
      clear hdr
      refine wpAnyHTake 0 (some 97) (.agg #[.int .i64 k2, .bool nx2, .int .i64 row2, .int .i64 pas2]) rfl rfl (by kernel_rfl) (by kernel_rfl) (by kernel_rfl) (fun _ _ _ h => h) (by rfl) (fun W hW => by obtain ⟨⟨a1, a2, a3, a4⟩, b1, b2, b3, b4⟩ := hW; go_simp) (G1.out) ?_
      simp only [Act.put, List.setIfInBounds_toArray, List.set_cons_zero, List.set_cons_succ]
      refine wpAnyHTake 3 (some 100) (.agg #[.int .i64 k2, .bool nx2, .int .i64 row2, .int .i64 pas2]) rfl rfl (by kernel_rfl) (by kernel_rfl) (by kernel_rfl) (fun _ _ _ h => h) (by rfl) (fun W hW => by obtain ⟨⟨a1, a2, a3, a4⟩, b1, b2, b3, b4⟩ := hW; go_simp) (G1.out) ?_
      simp only [Act.put, List.setIfInBounds_toArray, List.set_cons_zero, List.set_cons_succ]
      refine wpAnyHCall 1 (some 98) 17 #[.agg #[.int .i64 k2, .bool nx2, .int .i64 row2, .int .i64 pas2]] (by kernel_rfl) rfl rfl (by rfl) (by go_simp) (ST) ?_
      rintro e x1 ⟨rfl, hb9⟩
      have G2 := Lib.hid (show SS x1 A (A + 1) k2 nx2 row2 pas2 kp false row pas from G1.out.below hb9 hltA hltB)
      have hltA := Nat.lt_of_lt_of_le hltA hb9.size
      have hltB := Nat.lt_of_lt_of_le hltB hb9.size
      have HBO := Lib.hid (HBO.out.trans (hb9.mono HBO.out.size))
      have VA := valid_any k2 row2 pas2 nx2 x1
      clear hb9 ST
      refine ⟨_, rfl, G2.out, ?_⟩
      simp only [Act.put, List.setIfInBounds_toArray, List.set_cons_zero, List.set_cons_succ]
      refine wpAnyHCall 2 (some 99) 39 #[.agg #[.int .i64 k2, .bool nx2, .int .i64 row2, .int .i64 pas2]] (by kernel_rfl) rfl rfl (by rfl) (by go_simp) (VA) ?_
      rintro e x2 ⟨rfl, hb9⟩
      have G3 := Lib.hid (show SS x2 A (A + 1) k2 nx2 row2 pas2 kp false row pas from G2.out.below hb9 hltA hltB)
      have hltA := Nat.lt_of_lt_of_le hltA hb9.size
      have hltB := Nat.lt_of_lt_of_le hltB hb9.size
      have HBO := Lib.hid (HBO.out.trans (hb9.mono HBO.out.size))
      have RV := rvalid_any k2 row2 pas2 nx2 x2
      clear hb9 VA
      refine ⟨_, rfl, G3.out, ?_⟩
      simp only [Act.put, List.setIfInBounds_toArray, List.set_cons_zero, List.set_cons_succ]
      refine wpAnyHCall 4 (some 101) 30 #[.agg #[.int .i64 k2, .bool nx2, .int .i64 row2, .int .i64 pas2]] (by kernel_rfl) rfl rfl (by rfl) (by go_simp) (RV) ?_
      rintro e x3 ⟨rfl, hb9⟩
      have G4 := Lib.hid (show SS x3 A (A + 1) k2 nx2 row2 pas2 kp false row pas from G3.out.below hb9 hltA hltB)
      have hltA := Nat.lt_of_lt_of_le hltA hb9.size
      have hltB := Nat.lt_of_lt_of_le hltB hb9.size
      have HBO := Lib.hid (HBO.out.trans (hb9.mono HBO.out.size))
      have ST := style_any kp row pas false x3
      clear hb9 RV
      refine ⟨_, rfl, G4.out, ?_⟩
      simp only [Act.put, List.setIfInBounds_toArray, List.set_cons_zero, List.set_cons_succ]
      refine wpAnyHTake 5 (some 102) (.bool true) rfl rfl (by kernel_rfl) (by kernel_rfl) (by kernel_rfl) (fun _ _ _ h => h) (by rfl) (fun _ _ => by go_simp) (G4.out) ?_
      simp only [Act.put, List.setIfInBounds_toArray, List.set_cons_zero, List.set_cons_succ]
      refine wpAnyHTake 6 (some 103) (.bool true) rfl rfl (by kernel_rfl) (by kernel_rfl) (by kernel_rfl) (fun _ _ _ h => h) (by rfl) (fun _ _ => by rfl) (G4.out) ?_
      simp only [Act.put, List.setIfInBounds_toArray, List.set_cons_zero, List.set_cons_succ]
      refine wpAnyHTake 7 (some 104) (.agg #[.int .i64 kp, .bool false, .int .i64 row, .int .i64 pas]) rfl rfl (by kernel_rfl) (by kernel_rfl) (by kernel_rfl) (fun _ _ _ h => h) (by rfl) (fun W hW => by obtain ⟨⟨a1, a2, a3, a4⟩, b1, b2, b3, b4⟩ := hW; go_simp) (G4.out) ?_
      simp only [Act.put, List.setIfInBounds_toArray, List.set_cons_zero, List.set_cons_succ]
      refine wpAnyHTake 10 (some 107) (.agg #[.int .i64 kp, .bool false, .int .i64 row, .int .i64 pas]) rfl rfl (by kernel_rfl) (by kernel_rfl) (by kernel_rfl) (fun _ _ _ h => h) (by rfl) (fun W hW => by obtain ⟨⟨a1, a2, a3, a4⟩, b1, b2, b3, b4⟩ := hW; go_simp) (G4.out) ?_
      simp only [Act.put, List.setIfInBounds_toArray, List.set_cons_zero, List.set_cons_succ]
      refine wpAnyHCall 8 (some 105) 17 #[.agg #[.int .i64 kp, .bool false, .int .i64 row, .int .i64 pas]] (by kernel_rfl) rfl rfl (by rfl) (by go_simp) (ST) ?_
      rintro e x4 ⟨rfl, hb9⟩
      have G5 := Lib.hid (show SS x4 A (A + 1) k2 nx2 row2 pas2 kp false row pas from G4.out.below hb9 hltA hltB)
      have hltA := Nat.lt_of_lt_of_le hltA hb9.size
      have hltB := Nat.lt_of_lt_of_le hltB hb9.size
      have HBO := Lib.hid (HBO.out.trans (hb9.mono HBO.out.size))
      have VA := valid_any kp row pas false x4
      clear hb9 ST
      refine ⟨_, rfl, G5.out, ?_⟩
      simp only [Act.put, List.setIfInBounds_toArray, List.set_cons_zero, List.set_cons_succ]
      refine wpAnyHCall 9 (some 106) 39 #[.agg #[.int .i64 kp, .bool false, .int .i64 row, .int .i64 pas]] (by kernel_rfl) rfl rfl (by rfl) (by go_simp) (VA) ?_
      rintro e x5 ⟨rfl, hb9⟩
      have G6 := Lib.hid (show SS x5 A (A + 1) k2 nx2 row2 pas2 kp false row pas from G5.out.below hb9 hltA hltB)
      have hltA := Nat.lt_of_lt_of_le hltA hb9.size
      have hltB := Nat.lt_of_lt_of_le hltB hb9.size
      have HBO := Lib.hid (HBO.out.trans (hb9.mono HBO.out.size))
      have RV := rvalid_any kp row pas false x5
      clear hb9 VA
      refine ⟨_, rfl, G6.out, ?_⟩
      simp only [Act.put, List.setIfInBounds_toArray, List.set_cons_zero, List.set_cons_succ]
      refine wpAnyHCall 11 (some 108) 30 #[.agg #[.int .i64 kp, .bool false, .int .i64 row, .int .i64 pas]] (by kernel_rfl) rfl rfl (by rfl) (by go_simp) (RV) ?_
      rintro e x6 ⟨rfl, hb9⟩
      have G7 := Lib.hid (show SS x6 A (A + 1) k2 nx2 row2 pas2 kp false row pas from G6.out.below hb9 hltA hltB)
      have hltA := Nat.lt_of_lt_of_le hltA hb9.size
      have hltB := Nat.lt_of_lt_of_le hltB hb9.size
      have HBO := Lib.hid (HBO.out.trans (hb9.mono HBO.out.size))
      have LV := lives_any x6 (HML.out.below HBO.out hlt)
      clear hb9 RV
      refine ⟨_, rfl, G7.out, ?_⟩
      simp only [Act.put, List.setIfInBounds_toArray, List.set_cons_zero, List.set_cons_succ]
      refine wpAnyHTake 12 (some 109) (.bool true) rfl rfl (by kernel_rfl) (by kernel_rfl) (by kernel_rfl) (fun _ _ _ h => h) (by rfl) (fun _ _ => by go_simp) (G7.out) ?_
      simp only [Act.put, List.setIfInBounds_toArray, List.set_cons_zero, List.set_cons_succ]
      refine wpAnyHTake 13 (some 110) (.bool true) rfl rfl (by kernel_rfl) (by kernel_rfl) (by kernel_rfl) (fun _ _ _ h => h) (by rfl) (fun _ _ => by go_simp) (G7.out) ?_
      simp only [Act.put, List.setIfInBounds_toArray, List.set_cons_zero, List.set_cons_succ]
      refine wpAnyHTake 14 (some 111) (.bool true) rfl rfl (by kernel_rfl) (by kernel_rfl) (by kernel_rfl) (fun _ _ _ h => h) (by rfl) (fun _ _ => by rfl) (G7.out) ?_
      simp only [Act.put, List.setIfInBounds_toArray, List.set_cons_zero, List.set_cons_succ]
      refine wpAnyHCall 15 (some 112) 20 #[] (by kernel_rfl) rfl rfl (by rfl) (by go_simp) (LV) ?_
      rintro e x7 ⟨rfl, hb9⟩
      have G8 := Lib.hid (show SS x7 A (A + 1) k2 nx2 row2 pas2 kp false row pas from G7.out.below hb9 hltA hltB)
      have hltA := Nat.lt_of_lt_of_le hltA hb9.size
      have hltB := Nat.lt_of_lt_of_le hltB hb9.size
      have HBO := Lib.hid (HBO.out.trans (hb9.mono HBO.out.size))
      clear hb9 LV
      refine ⟨_, rfl, G8.out, ?_⟩
      simp only [Act.put, List.setIfInBounds_toArray, List.set_cons_zero, List.set_cons_succ]
      refine wpAnyHTake 16 (some 113) (.bool true) rfl rfl (by kernel_rfl) (by kernel_rfl) (by kernel_rfl) (fun _ _ _ h => h) (by rfl) (fun _ _ => by go_simp) (G8.out) ?_
      simp only [Act.put, List.setIfInBounds_toArray, List.set_cons_zero, List.set_cons_succ]
      refine wpAnyHTake 17 (some 14) (.bool true) rfl rfl (by kernel_rfl) (by kernel_rfl) (by kernel_rfl) (fun _ _ _ h => h) (by rfl) (fun _ _ => by rfl) (G8.out) ?_
      simp only [Act.put, List.setIfInBounds_toArray, List.set_cons_zero, List.set_cons_succ]
      refine wpAnyH_done (by kernel_rfl) ?_ _
      go_wp2_with fail
      go_ret
      exact ⟨rfl, HBO.out⟩
end Go.Proofs.YtecdkpcapalifaaDoor

