/- The walk of SpanPrints. -/
import Derived.Test.YtecdkpcapalifaaDoorM14
set_option linter.unusedVariables false
namespace Go.Proofs.YtecdkpcapalifaaDoor
open Go.RowKit Go.Maps

/-- a style and a list, each in a table -/
def SL (W : World) (A o B k : Nat) (s : Sty) (v : Value) : Prop := A < W.heap.size ∧ B < W.heap.size ∧ StyC W A o s ∧ W.cell? ⟨B, k, none⟩ = some v
theorem SL.below {W W' : World} {A o B k : Nat} {s : Sty} {v : Value} (h : SL W A o B k s v) (hb : Below W.heap.size W W') : SL W' A o B k s v :=
  ⟨Nat.lt_of_lt_of_le h.1 hb.size, Nat.lt_of_lt_of_le h.2.1 hb.size, h.2.2.1.below hb h.1, (hb.cell (p := ⟨B, k, none⟩) h.2.1).trans h.2.2.2⟩

set_option maxRecDepth 100000 in
set_option maxHeartbeats 8000000 in
theorem spanPrints_any (v0 v4 : Value) (xs ys : List Int) (m how n : Int) (w : World) (h0 : RdI w v0 xs) (i0 : inI xs) (h4 : RdI w v4 ys) (hml : ML w)
    (hm1 : -9223372036854775808 ≤ m) (hm2 : m ≤ 9223372036854775807) (h1 : -9223372036854775808 ≤ how) (h2 : how ≤ 9223372036854775807) (h5 : -9223372036854775808 ≤ n) (h6 : n ≤ 9223372036854775807) :
    Calls Tryd.prog 3 #[v0, .int .i64 m, .int .i64 how, .int .i64 n, v4] w fun e w' => e = .returned (.bool true) ∧ Below w.heap.size w w' := by
  have HML := Lib.hid hml
  have hlt := hml.lt
  have H4 := Lib.hid h4
  have H0 := Lib.hid h0
  have MA := made_any m w hm1 hm2
  obtain ⟨a0, c0, hv0, _⟩ := h0.open
  obtain ⟨a4, c4, hv4, _⟩ := h4.open
  subst hv0 hv4
  clear hml h0 h4
  go_enter Tryd.func3, Tryd.ntmps3
  go_wp2_with fail
  refine MA.mono ?_
  rintro e w1 ⟨s1, hs1m, rfl, hb1⟩
  have hbd1 := hs1m.bd
  obtain ⟨k1, nx1, row1, pas1⟩ := s1
  have OD := fun W => odd_any ⟨k1, nx1, row1, pas1⟩ how n W hbd1 h1 h2 h5 h6
  unfold styV
  dsimp only
  go_wp2_with fail
  have bx := Boxs.new w1 24 #[.int .i64 k1, .bool nx1, .int .i64 row1, .int .i64 pas1]
  have HBD := Lib.hid (hb1.alloc hb1.size (.cells #[.int .i64 k1, .bool nx1, .int .i64 row1, .int .i64 pas1] 24))
  have G0 : StyC (w1.alloc (.cells #[.int .i64 k1, .bool nx1, .int .i64 row1, .int .i64 pas1] 24)) w1.heap.size 0 ⟨k1, nx1, row1, pas1⟩ := ⟨bx.cell 0, bx.cell 1, bx.cell 2, bx.cell 3⟩
  have hltA := bx.lt
  clear MA hb1 bx hbd1 hs1m
  generalize w1.alloc (.cells #[.int .i64 k1, .bool nx1, .int .i64 row1, .int .i64 pas1] 24) = w2 at *
  obtain ⟨A, hA⟩ : ∃ A, w1.heap.size = A := ⟨_, rfl⟩
  rw [hA] at G0 hltA ⊢
  clear hA
  have SB : ∀ {W W' : World}, (A < W.heap.size ∧ StyC W A 0 ⟨k1, nx1, row1, pas1⟩) → Below W.heap.size W W' → (A < W'.heap.size ∧ StyC W' A 0 ⟨k1, nx1, row1, pas1⟩) := fun h hb => ⟨Nat.lt_of_lt_of_le h.1 hb.size, h.2.below hb h.1⟩
  have G1 := Lib.hid (show A < (w2.drewN 1).heap.size ∧ StyC (w2.drewN 1) A 0 ⟨k1, nx1, row1, pas1⟩ from ⟨hltA, G0⟩)
  have OD1 := OD (w2.drewN 1)
  have HBD := Lib.hid (Below.dn HBD.out 1)
  clear OD G0 hltA
  refine wp_region_held (S := fun W => A < W.heap.size ∧ StyC W A 0 ⟨k1, nx1, row1, pas1⟩) (by kernel_rfl) ?_
  have hdr : (w2).drew = { w2 with drawn := (w2).drawn + 1 } := rfl
  rw [← hdr]
  clear hdr
  refine wpAnyHTake 0 (some 23) (.agg #[.int .i64 k1, .bool nx1, .int .i64 row1, .int .i64 pas1]) rfl rfl (by kernel_rfl) (by kernel_rfl) (by kernel_rfl) (fun _ _ _ h => h) (by rfl) (fun W hW => by obtain ⟨_, c0, c1, c2, c3⟩ := hW; dsimp only at c0 c1 c2 c3; go_simp) (G1.out) ?_
  simp only [Act.put, List.setIfInBounds_toArray, List.set_cons_zero, List.set_cons_succ]
  refine wpAnyHTake 1 (some 24) (.agg #[.int .i64 k1, .bool nx1, .int .i64 row1, .int .i64 pas1]) rfl rfl (by kernel_rfl) (by kernel_rfl) (by kernel_rfl) (fun _ _ _ h => h) (by rfl) (fun W hW => by obtain ⟨_, c0, c1, c2, c3⟩ := hW; dsimp only at c0 c1 c2 c3; go_simp) (G1.out) ?_
  simp only [Act.put, List.setIfInBounds_toArray, List.set_cons_zero, List.set_cons_succ]
  refine wpAnyHTake 2 (some 25) (.int .i64 how) rfl rfl (by kernel_rfl) (by kernel_rfl) (by kernel_rfl) (fun _ _ _ h => h) (by rfl) (fun _ _ => by rfl) (G1.out) ?_
  simp only [Act.put, List.setIfInBounds_toArray, List.set_cons_zero, List.set_cons_succ]
  refine wpAnyHTake 3 (some 26) (.int .i64 n) rfl rfl (by kernel_rfl) (by kernel_rfl) (by kernel_rfl) (fun _ _ _ h => h) (by rfl) (fun _ _ => by rfl) (G1.out) ?_
  simp only [Act.put, List.setIfInBounds_toArray, List.set_cons_zero, List.set_cons_succ]
  refine wpAnyHCall 4 (some 27) 12 #[.agg #[.int .i64 k1, .bool nx1, .int .i64 row1, .int .i64 pas1], .int .i64 how, .int .i64 n] (by kernel_rfl) rfl rfl (by rfl) (by go_simp) (OD1) ?_
  rintro e xa2 ⟨s2, _, rfl, hb9⟩
  have G2 := Lib.hid (SB G1.out hb9)
  have HBD := Lib.hid (HBD.out.trans (hb9.mono HBD.out.size))
  obtain ⟨k2, nx2, row2, pas2⟩ := s2
  unfold styV
  dsimp only
  have T2 := tabS2 (w := xa2) (t := 24) (s1 := ⟨k1, nx1, row1, pas1⟩) (s2 := ⟨k2, nx2, row2, pas2⟩) (P := fun _ => True) trivial trivial
  dsimp only at T2
  have HT2 := Lib.hid T2
  have HBE := Lib.hid (HBD.out.alloc HBD.out.size (.cells #[.int .i64 k1, .bool nx1, .int .i64 row1, .int .i64 pas1, .int .i64 k2, .bool nx2, .int .i64 row2, .int .i64 pas2] 24))
  clear T2
  clear hb9 OD1
  refine ⟨_, rfl, G2.out, ?_⟩
  simp only [Act.put, List.setIfInBounds_toArray, List.set_cons_zero, List.set_cons_succ]
  refine wpAnyHOne 5 (some 28) (w' := xa2.alloc (.cells #[.int .i64 k1, .bool nx1, .int .i64 row1, .int .i64 pas1, .int .i64 k2, .bool nx2, .int .i64 row2, .int .i64 pas2] 24)) (v := .slice (some ⟨xa2.heap.size, 0, none⟩) 2 2) (by kernel_rfl) rfl rfl (by rfl) (by go_simp <;> rfl) (SB G2.out ((Below.refl _ _).alloc (Nat.le_refl _) _)) ?_
  simp only [Act.put, List.setIfInBounds_toArray, List.set_cons_zero, List.set_cons_succ]
  refine wpAnyHTake 6 (some 12) (.slice (some ⟨xa2.heap.size, 0, none⟩) 2 2) rfl rfl (by kernel_rfl) (by kernel_rfl) (by kernel_rfl) (fun _ _ _ h => h) (by rfl) (fun _ _ => by rfl) ((SB G2.out ((Below.refl _ _).alloc (Nat.le_refl _) _))) ?_
  simp only [Act.put, List.setIfInBounds_toArray, List.set_cons_zero, List.set_cons_succ]
  refine wpAnyH_done (by kernel_rfl) ?_ _
  obtain ⟨SA, hSA⟩ : ∃ SA, xa2.heap.size = SA := ⟨_, rfl⟩
  rw [hSA] at HT2 ⊢
  clear hSA
  generalize xa2.alloc (.cells #[.int .i64 k1, .bool nx1, .int .i64 row1, .int .i64 pas1, .int .i64 k2, .bool nx2, .int .i64 row2, .int .i64 pas2] 24) = w4 at *
  have LA := list_any _ xs w4 (H0.out.below HBE.out) i0
  clear H0 HBD G1 G2 SB
  go_wp2_with fail
  refine LA.mono ?_
  rintro e w5 ⟨va, rfl, LL, hown, hnrm, hll, hb1⟩
  have r1 := RdP_of_owns hown
  obtain ⟨aa, ca, rfl⟩ := owns_slice hown
  have BE := bent_any _ LL how n 1000 w5 r1 (by omega) (by omega) (by omega) (nrm_BdL hnrm) h1 h2 h5 h6
  have HR1 := Lib.hid r1; have HB1 := Lib.hid (HBE.out.trans (hb1.mono HBE.out.size)); have HT2 := Lib.hid (HT2.out.below hb1)
  clear LA hown r1 hb1 HBE
  go_wp2_with fail
  refine BE.mono ?_
  rintro e w6 ⟨vb, rfl, L2, hown, hbd, hl2, hb2⟩
  have r2 := RdP_of_owns hown
  obtain ⟨ab, cb, rfl⟩ := owns_slice hown
  have HR2 := Lib.hid r2; have HB2 := Lib.hid (HB1.out.trans (hb2.mono HB1.out.size)); have HR1 := Lib.hid (HR1.out.below hb2); have HT2 := Lib.hid (HT2.out.below hb2)
  have LO := lawof_any _ ys 20 w6 (H4.out.below HB2.out) (by omega)
  clear BE hown r2 hb2 HB1
  go_wp2_with fail
  refine LO.mono ?_
  rintro e w7 ⟨vd, rfl, hown, hb2⟩
  have r4 := RdP_of_owns hown
  obtain ⟨ad, cd, rfl⟩ := owns_slice hown
  have hl4 : (ofRaw ys 20).length ≤ 20 := by unfold ofRaw; rw [List.length_take]; omega
  have TB := tab4 (t := 28) (P := fun L => L.length ≤ 20) (HR1.out.below hb2) (HR2.out.below hb2) r4 (RdP.none w7) (by omega) (by omega) (by omega) (by simp)
  have HB3 := Lib.hid ((HB2.out.trans (hb2.mono HB2.out.size)).alloc (by have := HB2.out.size; have := hb2.size; omega) (.cells #[.slice aa LL.length ca, .slice ab L2.length cb, .slice ad (ofRaw ys 20).length cd, .slice none 0 0] 28))
  have HT2 := Lib.hid ((HT2.out.below hb2).below ((Below.refl _ _).alloc (Nat.le_refl _) (.cells #[.slice aa LL.length ca, .slice ab L2.length cb, .slice ad (ofRaw ys 20).length cd, .slice none 0 0] 28)))
  have HT := Lib.hid TB
  clear LO hown r4 hb2 HB2 HR1 HR2 TB hl4 hl2 hbd hll hnrm
  go_wp2_with fail
  generalize hW8 : w7.alloc (.cells #[.slice aa LL.length ca, .slice ab L2.length cb, .slice ad (ofRaw ys 20).length cd, .slice none 0 0] 28) = w8 at *
  clear hW8
  obtain ⟨B, hB⟩ : ∃ B, w7.heap.size = B := ⟨_, rfl⟩
  rw [hB] at HT ⊢
  clear hB H4
  go_loopw [15] (fun i wr => ∃ j : Nat, j ≤ 2 ∧ i = .int .i64 j ∧ TabP wr B 4 (fun L => L.length ≤ 20) ∧ TabS wr SA (fun _ => True) ∧ Below w.heap.size w wr) (fun i _ => 2 - (intOf i).toNat)
  case atStart => exact ⟨0, by omega, rfl, HT.out, HT2.out, HB3.out⟩
  case round =>
    obtain ⟨j, hj, rfl, htab, htas, hbl⟩ := hrel
    have hj9 : (j : Int) ≤ 2 := by omega
    have hj0 : (0 : Int) ≤ (j : Int) := by omega
    by_cases hj2 : j < 2
    · have hj2i : (j : Int) < 2 := by omega
      have HT := Lib.hid htab; have HTS := Lib.hid htas; have HBL := Lib.hid hbl
      clear htab htas hbl
      go_wp2_with fail
      go_loopw [16] (fun i wr => ∃ k : Nat, k ≤ 4 ∧ i = .int .i64 k ∧ TabP wr B 4 (fun L => L.length ≤ 20) ∧ TabS wr SA (fun _ => True) ∧ Below w.heap.size w wr) (fun i _ => 4 - (intOf i).toNat)
      case atStart => exact ⟨0, by omega, rfl, HT.out, HTS.out, HBL.out⟩
      case round =>
        obtain ⟨k, hk, rfl, htab, htas, hbl⟩ := hrel
        have hk9 : (k : Int) ≤ 4 := by omega
        have hk0 : (0 : Int) ≤ (k : Int) := by omega
        by_cases hk4 : k < 4
        · have hk4i : (k : Int) < 4 := by omega
          have HT := Lib.hid htab; have HTS := Lib.hid htas; have HBL := Lib.hid hbl
          clear htab htas hbl
          go_wp2_with fail
          obtain ⟨al, cl, L, hcl, hrl, hLl⟩ := HT.out.2 k hk4
          obtain ⟨st, hst, _⟩ := HTS.out.2 j hj2
          obtain ⟨ks, nxs, rows, pass⟩ := st
          have hform : nrm L = true → okSty ⟨ks, nxs, rows, pass⟩ → (formL ⟨ks, nxs, rows, pass⟩ L).length ≤ 1000 := fun _ _ => by have := formL_len ⟨ks, nxs, rows, pass⟩ L; omega
          have SB : ∀ {W W' : World}, SL W SA (j * 4) B k ⟨ks, nxs, rows, pass⟩ (.slice al L.length cl) → Below W.heap.size W W' → SL W' SA (j * 4) B k ⟨ks, nxs, rows, pass⟩ (.slice al L.length cl) := fun h hb => h.below hb
          have HLL := Lib.hid (hrl.below (Below.dn (Below.refl _ _) 1))
          have HBD := Lib.hid (Below.dn (Below.refl wr.heap.size wr) 1)
          have ST := style_any ks rows pass nxs (wr.drewN 1)
          have G1 := Lib.hid (show SL (wr.drewN 1) SA (j * 4) B k ⟨ks, nxs, rows, pass⟩ (.slice al L.length cl) from ⟨HTS.out.1, HT.out.1, hst, hcl⟩)
          clear hcl hst hrl
          refine wp_region_held (S := fun W => SL W SA (j * 4) B k ⟨ks, nxs, rows, pass⟩ (.slice al L.length cl)) (by kernel_rfl) ?_
          have hdr : (wr).drew = { wr with drawn := (wr).drawn + 1 } := rfl
          rw [← hdr]
          clear hdr
          refine wpAnyHTake 0 (some 52) (.slice (some ⟨SA, 0, none⟩) 2 2) rfl rfl (by kernel_rfl) (by kernel_rfl) (by kernel_rfl) (fun _ _ _ h => h) (by rfl) (fun _ _ => by rfl) (G1.out) ?_
          simp only [Act.put, List.setIfInBounds_toArray, List.set_cons_zero, List.set_cons_succ]
          refine wpAnyHTake 1 (some 53) (.int .i64 (j : Int)) rfl rfl (by kernel_rfl) (by kernel_rfl) (by kernel_rfl) (fun _ _ _ h => h) (by rfl) (fun _ _ => by rfl) (G1.out) ?_
          simp only [Act.put, List.setIfInBounds_toArray, List.set_cons_zero, List.set_cons_succ]
          refine wpAnyHTake 2 (some 54) (.pointer (some ⟨SA, j * 4, none⟩)) rfl rfl (by kernel_rfl) (by kernel_rfl) (by kernel_rfl) (fun _ _ _ h => h) (by rfl) (fun _ _ => by go_simp) (G1.out) ?_
          simp only [Act.put, List.setIfInBounds_toArray, List.set_cons_zero, List.set_cons_succ]
          refine wpAnyHTake 3 (some 55) (.agg #[.int .i64 ks, .bool nxs, .int .i64 rows, .int .i64 pass]) rfl rfl (by kernel_rfl) (by kernel_rfl) (by kernel_rfl) (fun _ _ _ h => h) (by rfl) (fun W hW => by obtain ⟨_, _, ⟨c0, c1, c2, c3⟩, c4⟩ := hW; dsimp only at c0 c1 c2 c3; go_simp) (G1.out) ?_
          simp only [Act.put, List.setIfInBounds_toArray, List.set_cons_zero, List.set_cons_succ]
          refine wpAnyHTake 5 (some 57) (.slice (some ⟨B, 0, none⟩) 4 4) rfl rfl (by kernel_rfl) (by kernel_rfl) (by kernel_rfl) (fun _ _ _ h => h) (by rfl) (fun _ _ => by rfl) (G1.out) ?_
          simp only [Act.put, List.setIfInBounds_toArray, List.set_cons_zero, List.set_cons_succ]
          refine wpAnyHTake 6 (some 58) (.int .i64 (k : Int)) rfl rfl (by kernel_rfl) (by kernel_rfl) (by kernel_rfl) (fun _ _ _ h => h) (by rfl) (fun _ _ => by rfl) (G1.out) ?_
          simp only [Act.put, List.setIfInBounds_toArray, List.set_cons_zero, List.set_cons_succ]
          refine wpAnyHTake 7 (some 59) (.pointer (some ⟨B, k, none⟩)) rfl rfl (by kernel_rfl) (by kernel_rfl) (by kernel_rfl) (fun _ _ _ h => h) (by rfl) (fun _ _ => by go_simp) (G1.out) ?_
          simp only [Act.put, List.setIfInBounds_toArray, List.set_cons_zero, List.set_cons_succ]
          refine wpAnyHTake 8 (some 60) (.slice al L.length cl) rfl rfl (by kernel_rfl) (by kernel_rfl) (by kernel_rfl) (fun _ _ _ h => h) (by rfl) (fun W hW => by obtain ⟨_, _, ⟨c0, c1, c2, c3⟩, c4⟩ := hW; dsimp only at c0 c1 c2 c3; go_simp) (G1.out) ?_
          simp only [Act.put, List.setIfInBounds_toArray, List.set_cons_zero, List.set_cons_succ]
          refine wpAnyHCall 4 (some 56) 17 #[.agg #[.int .i64 ks, .bool nxs, .int .i64 rows, .int .i64 pass]] (by kernel_rfl) rfl rfl (by rfl) (by go_simp) (ST) ?_
          rintro e xb2 ⟨rfl, hb9⟩
          have G2 := Lib.hid (SB G1.out hb9)
          have HLL := Lib.hid (HLL.out.below hb9)
          have HBD := Lib.hid (HBD.out.trans (hb9.mono HBD.out.size))
          have OW := own_any _ L xb2 HLL.out (by omega)
          clear hb9 ST
          refine ⟨_, rfl, G2.out, ?_⟩
          simp only [Act.put, List.setIfInBounds_toArray, List.set_cons_zero, List.set_cons_succ]
          refine wpAnyHCall 9 (some 61) 18 #[.slice al L.length cl] (by kernel_rfl) rfl rfl (by rfl) (by go_simp) (OW) ?_
          rintro e xb3 ⟨vo, rfl, hown, hb9⟩
          have G3 := Lib.hid (SB G2.out hb9)
          have HLL := Lib.hid (HLL.out.below hb9)
          have HBD := Lib.hid (HBD.out.trans (hb9.mono HBD.out.size))
          have PR := print_any ⟨ks, nxs, rows, pass⟩ vo L xb3 (RdP_of_owns hown) (by omega) hform (HML.out.below (HBL.out.trans (HBD.out.mono HBL.out.size)) hlt)
          obtain ⟨ao, co, rfl⟩ := owns_slice hown
          clear hown
          clear hb9 OW
          refine ⟨_, rfl, G3.out, ?_⟩
          simp only [Act.put, List.setIfInBounds_toArray, List.set_cons_zero, List.set_cons_succ]
          refine wpAnyHCall 10 (some 62) 16 #[.agg #[.int .i64 ks, .bool nxs, .int .i64 rows, .int .i64 pass], .slice ao L.length co] (by kernel_rfl) rfl rfl (by rfl) (by go_simp) (PR) ?_
          rintro e xb4 ⟨rfl, hb9⟩
          have G4 := Lib.hid (SB G3.out hb9)
          have HLL := Lib.hid (HLL.out.below hb9)
          have HBD := Lib.hid (HBD.out.trans (hb9.mono HBD.out.size))
          clear hb9 PR
          refine ⟨_, rfl, G4.out, ?_⟩
          simp only [Act.put, List.setIfInBounds_toArray, List.set_cons_zero, List.set_cons_succ]
          refine wpAnyHTake 11 (some 51) (.tuple #[.string (bs (printT ⟨ks, nxs, rows, pass⟩ L)), .int .i64 (printE ⟨ks, nxs, rows, pass⟩ L)]) rfl rfl (by kernel_rfl) (by kernel_rfl) (by kernel_rfl) (fun _ _ _ h => h) (by rfl) (fun _ _ => by rfl) (G4.out) ?_
          simp only [Act.put, List.setIfInBounds_toArray, List.set_cons_zero, List.set_cons_succ]
          refine wpAnyHTake 12 (some 63) (.string (bs (printT ⟨ks, nxs, rows, pass⟩ L))) rfl rfl (by kernel_rfl) (by kernel_rfl) (by kernel_rfl) (fun _ _ _ h => h) (by rfl) (fun _ _ => by rfl) (G4.out) ?_
          simp only [Act.put, List.setIfInBounds_toArray, List.set_cons_zero, List.set_cons_succ]
          refine wpAnyHTake 13 (some 64) (.int .i64 (printE ⟨ks, nxs, rows, pass⟩ L)) rfl rfl (by kernel_rfl) (by kernel_rfl) (by kernel_rfl) (fun _ _ _ h => h) (by rfl) (fun _ _ => by rfl) (G4.out) ?_
          simp only [Act.put, List.setIfInBounds_toArray, List.set_cons_zero, List.set_cons_succ]
          refine wpAnyHTake 14 (some 17) (.string (bs (printT ⟨ks, nxs, rows, pass⟩ L))) rfl rfl (by kernel_rfl) (by kernel_rfl) (by kernel_rfl) (fun _ _ _ h => h) (by rfl) (fun _ _ => by rfl) (G4.out) ?_
          simp only [Act.put, List.setIfInBounds_toArray, List.set_cons_zero, List.set_cons_succ]
          refine wpAnyHTake 15 (some 18) (.int .i64 (printE ⟨ks, nxs, rows, pass⟩ L)) rfl rfl (by kernel_rfl) (by kernel_rfl) (by kernel_rfl) (fun _ _ _ h => h) (by rfl) (fun _ _ => by rfl) (G4.out) ?_
          simp only [Act.put, List.setIfInBounds_toArray, List.set_cons_zero, List.set_cons_succ]
          refine wpAnyH_done (by kernel_rfl) ?_ _
          go_wp2_with fail
          have HBD := Lib.hid (Below.dn HBD.out 1)
          have HLL := Lib.hid (show RdP (xb4.drewN 1) _ L from HLL.out)
          have RP := rprint_any ⟨ks, nxs, rows, pass⟩ _ L (xb4.drewN 1) HLL.out (by omega) hform
          have G1 := Lib.hid (show SL (xb4.drewN 1) SA (j * 4) B k ⟨ks, nxs, rows, pass⟩ (.slice al L.length cl) from G4.out)
          refine wp_region_held (S := fun W => SL W SA (j * 4) B k ⟨ks, nxs, rows, pass⟩ (.slice al L.length cl)) (by kernel_rfl) ?_
          have hdr : (xb4).drew = { xb4 with drawn := (xb4).drawn + 1 } := rfl
          rw [← hdr]
          clear hdr
          refine wpAnyHTake 0 (some 66) (.slice (some ⟨SA, 0, none⟩) 2 2) rfl rfl (by kernel_rfl) (by kernel_rfl) (by kernel_rfl) (fun _ _ _ h => h) (by rfl) (fun _ _ => by rfl) (G1.out) ?_
          simp only [Act.put, List.setIfInBounds_toArray, List.set_cons_zero, List.set_cons_succ]
          refine wpAnyHTake 1 (some 67) (.int .i64 (j : Int)) rfl rfl (by kernel_rfl) (by kernel_rfl) (by kernel_rfl) (fun _ _ _ h => h) (by rfl) (fun _ _ => by rfl) (G1.out) ?_
          simp only [Act.put, List.setIfInBounds_toArray, List.set_cons_zero, List.set_cons_succ]
          refine wpAnyHTake 2 (some 68) (.pointer (some ⟨SA, j * 4, none⟩)) rfl rfl (by kernel_rfl) (by kernel_rfl) (by kernel_rfl) (fun _ _ _ h => h) (by rfl) (fun _ _ => by go_simp) (G1.out) ?_
          simp only [Act.put, List.setIfInBounds_toArray, List.set_cons_zero, List.set_cons_succ]
          refine wpAnyHTake 3 (some 69) (.agg #[.int .i64 ks, .bool nxs, .int .i64 rows, .int .i64 pass]) rfl rfl (by kernel_rfl) (by kernel_rfl) (by kernel_rfl) (fun _ _ _ h => h) (by rfl) (fun W hW => by obtain ⟨_, _, ⟨c0, c1, c2, c3⟩, c4⟩ := hW; dsimp only at c0 c1 c2 c3; go_simp) (G1.out) ?_
          simp only [Act.put, List.setIfInBounds_toArray, List.set_cons_zero, List.set_cons_succ]
          refine wpAnyHTake 4 (some 70) (.slice (some ⟨B, 0, none⟩) 4 4) rfl rfl (by kernel_rfl) (by kernel_rfl) (by kernel_rfl) (fun _ _ _ h => h) (by rfl) (fun _ _ => by rfl) (G1.out) ?_
          simp only [Act.put, List.setIfInBounds_toArray, List.set_cons_zero, List.set_cons_succ]
          refine wpAnyHTake 5 (some 71) (.int .i64 (k : Int)) rfl rfl (by kernel_rfl) (by kernel_rfl) (by kernel_rfl) (fun _ _ _ h => h) (by rfl) (fun _ _ => by rfl) (G1.out) ?_
          simp only [Act.put, List.setIfInBounds_toArray, List.set_cons_zero, List.set_cons_succ]
          refine wpAnyHTake 6 (some 72) (.pointer (some ⟨B, k, none⟩)) rfl rfl (by kernel_rfl) (by kernel_rfl) (by kernel_rfl) (fun _ _ _ h => h) (by rfl) (fun _ _ => by go_simp) (G1.out) ?_
          simp only [Act.put, List.setIfInBounds_toArray, List.set_cons_zero, List.set_cons_succ]
          refine wpAnyHTake 7 (some 73) (.slice al L.length cl) rfl rfl (by kernel_rfl) (by kernel_rfl) (by kernel_rfl) (fun _ _ _ h => h) (by rfl) (fun W hW => by obtain ⟨_, _, ⟨c0, c1, c2, c3⟩, c4⟩ := hW; dsimp only at c0 c1 c2 c3; go_simp) (G1.out) ?_
          simp only [Act.put, List.setIfInBounds_toArray, List.set_cons_zero, List.set_cons_succ]
          refine wpAnyHCall 8 (some 74) 19 #[.agg #[.int .i64 ks, .bool nxs, .int .i64 rows, .int .i64 pass], .slice al L.length cl] (by kernel_rfl) rfl rfl (by rfl) (by go_simp) (RP) ?_
          rintro e xc2 ⟨rfl, hb9⟩
          have G2 := Lib.hid (SB G1.out hb9)
          have HLL := Lib.hid (HLL.out.below hb9)
          have HBD := Lib.hid (HBD.out.trans (hb9.mono HBD.out.size))
          clear hb9 RP
          refine ⟨_, rfl, G2.out, ?_⟩
          simp only [Act.put, List.setIfInBounds_toArray, List.set_cons_zero, List.set_cons_succ]
          refine wpAnyHTake 9 (some 65) (.tuple #[.string (bs (printT ⟨ks, nxs, rows, pass⟩ L)), .int .i64 (printE ⟨ks, nxs, rows, pass⟩ L)]) rfl rfl (by kernel_rfl) (by kernel_rfl) (by kernel_rfl) (fun _ _ _ h => h) (by rfl) (fun _ _ => by rfl) (G2.out) ?_
          simp only [Act.put, List.setIfInBounds_toArray, List.set_cons_zero, List.set_cons_succ]
          refine wpAnyHTake 10 (some 75) (.string (bs (printT ⟨ks, nxs, rows, pass⟩ L))) rfl rfl (by kernel_rfl) (by kernel_rfl) (by kernel_rfl) (fun _ _ _ h => h) (by rfl) (fun _ _ => by rfl) (G2.out) ?_
          simp only [Act.put, List.setIfInBounds_toArray, List.set_cons_zero, List.set_cons_succ]
          refine wpAnyHTake 11 (some 76) (.int .i64 (printE ⟨ks, nxs, rows, pass⟩ L)) rfl rfl (by kernel_rfl) (by kernel_rfl) (by kernel_rfl) (fun _ _ _ h => h) (by rfl) (fun _ _ => by rfl) (G2.out) ?_
          simp only [Act.put, List.setIfInBounds_toArray, List.set_cons_zero, List.set_cons_succ]
          refine wpAnyHTake 12 (some 19) (.string (bs (printT ⟨ks, nxs, rows, pass⟩ L))) rfl rfl (by kernel_rfl) (by kernel_rfl) (by kernel_rfl) (fun _ _ _ h => h) (by rfl) (fun _ _ => by rfl) (G2.out) ?_
          simp only [Act.put, List.setIfInBounds_toArray, List.set_cons_zero, List.set_cons_succ]
          refine wpAnyHTake 13 (some 20) (.int .i64 (printE ⟨ks, nxs, rows, pass⟩ L)) rfl rfl (by kernel_rfl) (by kernel_rfl) (by kernel_rfl) (fun _ _ _ h => h) (by rfl) (fun _ _ => by rfl) (G2.out) ?_
          simp only [Act.put, List.setIfInBounds_toArray, List.set_cons_zero, List.set_cons_succ]
          refine wpAnyH_done (by kernel_rfl) ?_ _
          go_wp2_with fail
          go_roundw
          case rel => exact ⟨k + 1, by omega, by go_num, HT.out.below HBD.out, HTS.out.below HBD.out, HBL.out.trans (HBD.out.mono HBL.out.size)⟩
          case measure => simp [intOf]; omega
        · have hk4i : ¬ (k : Int) < 4 := by omega
          go_wp2_with fail
          go_roundw
          case rel => exact ⟨j + 1, by omega, by go_num, htab, htas, hbl⟩
          case measure => simp [intOf]; omega
    · have hj2i : ¬ (j : Int) < 2 := by omega
      have LV := lives_any wr (HML.out.below hbl hlt)
      have HBL := Lib.hid hbl
      clear htab htas hbl
      go_wp2_with fail
      refine LV.mono ?_
      rintro e w9 ⟨rfl, hb9⟩
      have HBM := Lib.hid (HBL.out.trans (hb9.mono HBL.out.size))
      clear hb9 LV
      go_wp2_with fail
      go_ret
      exact ⟨rfl, HBM.out⟩
end Go.Proofs.YtecdkpcapalifaaDoor

