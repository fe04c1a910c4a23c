/- The walk of SpanParses. -/
import Derived.Test.YtecdkpcapalifaaDoorM15
set_option linter.unusedVariables false
namespace Go.Proofs.YtecdkpcapalifaaDoor
open Go.RowKit Go.Maps

/-- a style in a table, and a cell of another -/
def ST2 (W : World) (A o B k : Nat) (s : Sty) (v : Value) : Prop := A < W.heap.size ∧ B < W.heap.size ∧ StyC W A o s ∧ W.cell? ⟨B, k, none⟩ = some v
theorem ST2.below {W W' : World} {A o B k : Nat} {s : Sty} {v : Value} (h : ST2 W A o B k s v) (hb : Below W.heap.size W W') : ST2 W' A o B k s v :=
  ⟨Nat.lt_of_lt_of_le h.1 hb.size, Nat.lt_of_lt_of_le h.2.1 hb.size, h.2.2.1.below hb h.1, (hb.cell (p := ⟨B, k, none⟩) h.2.1).trans h.2.2.2⟩

theorem TabS.grown {W W' : World} {A : Nat} {P : Sty → Prop} {row : Option Nat} (h : TabS W A P) (hg : W.grownBy W' row) (hne : some A ≠ row) : TabS W' A P :=
  ⟨Nat.lt_of_lt_of_le h.1 hg.size, fun k hk => by
    obtain ⟨s, h1, h2⟩ := h.2 k hk
    exact ⟨s, ⟨(hg.cell_far ⟨A, k * 4, none⟩ h.1 hne).trans h1.1, (hg.cell_far ⟨A, k * 4 + 1, none⟩ h.1 hne).trans h1.2.1, (hg.cell_far ⟨A, k * 4 + 2, none⟩ h.1 hne).trans h1.2.2.1, (hg.cell_far ⟨A, k * 4 + 3, none⟩ h.1 hne).trans h1.2.2.2⟩, h2⟩⟩

set_option maxRecDepth 100000 in
set_option maxHeartbeats 16000000 in
theorem spanParses_any (v0 : Value) (xs : List Int) (m how n : Int) (RAW : ByteArray) (w : World) (h0 : RdI w v0 xs) (i0 : inI xs) (hml : ML w) (hraw9 : RAW.size ≤ 140737488355328)
    (hm1 : -9223372036854775808 ≤ m) (hm2 : m ≤ 9223372036854775807) (h1 : -9223372036854775808 ≤ how) (h2 : how ≤ 9223372036854775807) (h5 : -9223372036854775808 ≤ n) (h6 : n ≤ 9223372036854775807) :
    Calls Tryd.prog 4 #[v0, .int .i64 m, .int .i64 how, .int .i64 n, .string RAW] w fun e w' => e = .returned (.bool true) ∧ Below w.heap.size w w' := by
  have HML := Lib.hid hml
  have hlt := hml.lt
  have H0 := Lib.hid h0
  have MA := made_any m w hm1 hm2
  obtain ⟨a0, c0, hv0, _⟩ := h0.open
  subst hv0
  obtain ⟨tr, rfl⟩ := bs_of RAW
  obtain ⟨i9, hi9, hz0, hz1, hz2⟩ := info_parts Tryd.info9
  have HI := Lib.hid hi9; have HZ0 := Lib.hid hz0; have HZ1 := Lib.hid hz1; have HZ2 := Lib.hid hz2
  clear hi9 hz0 hz1 hz2
  clear hml h0
  go_enter Tryd.func4, Tryd.ntmps4
  go_wp2_with fail
  refine MA.mono ?_
  rintro e w1 ⟨s1, hs1m, rfl, hb1⟩
  have hbd1 := hs1m.bd
  obtain ⟨k1, nx1, row1, pas1⟩ := s1
  have OD := fun W => odd_any ⟨k1, nx1, row1, pas1⟩ how n W hbd1 h1 h2 h5 h6
  unfold styV
  dsimp only
  go_wp2_with fail
  have bx := Boxs.new w1 24 #[.int .i64 k1, .bool nx1, .int .i64 row1, .int .i64 pas1]
  have HBD := Lib.hid (hb1.alloc hb1.size (.cells #[.int .i64 k1, .bool nx1, .int .i64 row1, .int .i64 pas1] 24))
  have G0 : StyC (w1.alloc (.cells #[.int .i64 k1, .bool nx1, .int .i64 row1, .int .i64 pas1] 24)) w1.heap.size 0 ⟨k1, nx1, row1, pas1⟩ := ⟨bx.cell 0, bx.cell 1, bx.cell 2, bx.cell 3⟩
  have hltA := bx.lt
  have HOK := Lib.hid hs1m.1
  clear MA hb1 bx hbd1 hs1m
  generalize w1.alloc (.cells #[.int .i64 k1, .bool nx1, .int .i64 row1, .int .i64 pas1] 24) = w2 at *
  obtain ⟨A, hA⟩ : ∃ A, w1.heap.size = A := ⟨_, rfl⟩
  rw [hA] at G0 hltA ⊢
  clear hA
  have SB : ∀ {W W' : World}, (A < W.heap.size ∧ StyC W A 0 ⟨k1, nx1, row1, pas1⟩) → Below W.heap.size W W' → (A < W'.heap.size ∧ StyC W' A 0 ⟨k1, nx1, row1, pas1⟩) := fun h hb => ⟨Nat.lt_of_lt_of_le h.1 hb.size, h.2.below hb h.1⟩
  have G1 := Lib.hid (show A < (w2.drewN 1).heap.size ∧ StyC (w2.drewN 1) A 0 ⟨k1, nx1, row1, pas1⟩ from ⟨hltA, G0⟩)
  have OD1 := OD (w2.drewN 1)
  have HBD := Lib.hid (Below.dn HBD.out 1)
  clear OD G0 hltA
  refine wp_region_held (S := fun W => A < W.heap.size ∧ StyC W A 0 ⟨k1, nx1, row1, pas1⟩) (by kernel_rfl) ?_
  have hdr : (w2).drew = { w2 with drawn := (w2).drawn + 1 } := rfl
  rw [← hdr]
  clear hdr
  refine wpAnyHTake 0 (some 24) (.agg #[.int .i64 k1, .bool nx1, .int .i64 row1, .int .i64 pas1]) rfl rfl (by kernel_rfl) (by kernel_rfl) (by kernel_rfl) (fun _ _ _ h => h) (by rfl) (fun W hW => by obtain ⟨_, c0, c1, c2, c3⟩ := hW; dsimp only at c0 c1 c2 c3; go_simp) (G1.out) ?_
  simp only [Act.put, List.setIfInBounds_toArray, List.set_cons_zero, List.set_cons_succ]
  refine wpAnyHTake 1 (some 25) (.agg #[.int .i64 k1, .bool nx1, .int .i64 row1, .int .i64 pas1]) rfl rfl (by kernel_rfl) (by kernel_rfl) (by kernel_rfl) (fun _ _ _ h => h) (by rfl) (fun W hW => by obtain ⟨_, c0, c1, c2, c3⟩ := hW; dsimp only at c0 c1 c2 c3; go_simp) (G1.out) ?_
  simp only [Act.put, List.setIfInBounds_toArray, List.set_cons_zero, List.set_cons_succ]
  refine wpAnyHTake 2 (some 26) (.int .i64 how) rfl rfl (by kernel_rfl) (by kernel_rfl) (by kernel_rfl) (fun _ _ _ h => h) (by rfl) (fun _ _ => by rfl) (G1.out) ?_
  simp only [Act.put, List.setIfInBounds_toArray, List.set_cons_zero, List.set_cons_succ]
  refine wpAnyHTake 3 (some 27) (.int .i64 n) rfl rfl (by kernel_rfl) (by kernel_rfl) (by kernel_rfl) (fun _ _ _ h => h) (by rfl) (fun _ _ => by rfl) (G1.out) ?_
  simp only [Act.put, List.setIfInBounds_toArray, List.set_cons_zero, List.set_cons_succ]
  refine wpAnyHCall 4 (some 28) 12 #[.agg #[.int .i64 k1, .bool nx1, .int .i64 row1, .int .i64 pas1], .int .i64 how, .int .i64 n] (by kernel_rfl) rfl rfl (by rfl) (by go_simp) (OD1) ?_
  rintro e xa2 ⟨s2, _, rfl, hb9⟩
  have G2 := Lib.hid (SB G1.out hb9)
  have HBD := Lib.hid (HBD.out.trans (hb9.mono HBD.out.size))
  obtain ⟨k2, nx2, row2, pas2⟩ := s2
  unfold styV
  dsimp only
  have T2 := tabS2 (w := xa2) (t := 24) (s1 := ⟨k1, nx1, row1, pas1⟩) (s2 := ⟨k2, nx2, row2, pas2⟩) (P := fun _ => True) trivial trivial
  dsimp only at T2
  have HT2 := Lib.hid T2
  have HBE := Lib.hid (HBD.out.alloc HBD.out.size (.cells #[.int .i64 k1, .bool nx1, .int .i64 row1, .int .i64 pas1, .int .i64 k2, .bool nx2, .int .i64 row2, .int .i64 pas2] 24))
  clear T2
  clear hb9 OD1
  refine ⟨_, rfl, G2.out, ?_⟩
  simp only [Act.put, List.setIfInBounds_toArray, List.set_cons_zero, List.set_cons_succ]
  refine wpAnyHOne 5 (some 29) (w' := xa2.alloc (.cells #[.int .i64 k1, .bool nx1, .int .i64 row1, .int .i64 pas1, .int .i64 k2, .bool nx2, .int .i64 row2, .int .i64 pas2] 24)) (v := .slice (some ⟨xa2.heap.size, 0, none⟩) 2 2) (by kernel_rfl) rfl rfl (by rfl) (by go_simp <;> rfl) (SB G2.out ((Below.refl _ _).alloc (Nat.le_refl _) _)) ?_
  simp only [Act.put, List.setIfInBounds_toArray, List.set_cons_zero, List.set_cons_succ]
  refine wpAnyHTake 6 (some 12) (.slice (some ⟨xa2.heap.size, 0, none⟩) 2 2) rfl rfl (by kernel_rfl) (by kernel_rfl) (by kernel_rfl) (fun _ _ _ h => h) (by rfl) (fun _ _ => by rfl) ((SB G2.out ((Below.refl _ _).alloc (Nat.le_refl _) _))) ?_
  simp only [Act.put, List.setIfInBounds_toArray, List.set_cons_zero, List.set_cons_succ]
  refine wpAnyH_done (by kernel_rfl) ?_ _
  obtain ⟨SA, hSA⟩ : ∃ SA, xa2.heap.size = SA := ⟨_, rfl⟩
  rw [hSA] at HT2 ⊢
  clear hSA
  have GA := Lib.hid (SB G2.out ((Below.refl _ _).alloc (Nat.le_refl _) (.cells #[.int .i64 k1, .bool nx1, .int .i64 row1, .int .i64 pas1, .int .i64 k2, .bool nx2, .int .i64 row2, .int .i64 pas2] 24)))
  generalize xa2.alloc (.cells #[.int .i64 k1, .bool nx1, .int .i64 row1, .int .i64 pas1, .int .i64 k2, .bool nx2, .int .i64 row2, .int .i64 pas2] 24) = w4 at *
  have GB := Lib.hid (show A < (w4.drewN 1).heap.size ∧ StyC (w4.drewN 1) A 0 ⟨k1, nx1, row1, pas1⟩ from GA.out)
  have HBD := Lib.hid (Below.dn HBE.out 1)
  have HT2 := Lib.hid (show TabS (w4.drewN 1) SA (fun _ => True) from HT2.out)
  have LA := list_any _ xs (w4.drewN 1) (H0.out.below HBD.out) i0
  clear H0 G1 G2 GA HBE
  go_wp2_with fail
  refine wp_region_held (S := fun W => A < W.heap.size ∧ StyC W A 0 ⟨k1, nx1, row1, pas1⟩) (by kernel_rfl) ?_
  have hdr : (w4).drew = { w4 with drawn := (w4).drawn + 1 } := rfl
  rw [← hdr]
  clear hdr
  have G1 := GB
  refine wpAnyHTake 0 (some 30) (.agg #[.int .i64 k1, .bool nx1, .int .i64 row1, .int .i64 pas1]) rfl rfl (by kernel_rfl) (by kernel_rfl) (by kernel_rfl) (fun _ _ _ h => h) (by rfl) (fun W hW => by obtain ⟨_, c0, c1, c2, c3⟩ := hW; dsimp only at c0 c1 c2 c3; go_simp) (G1.out) ?_
  simp only [Act.put, List.setIfInBounds_toArray, List.set_cons_zero, List.set_cons_succ]
  refine wpAnyHTake 1 (some 31) (.slice a0 xs.length c0) rfl rfl (by kernel_rfl) (by kernel_rfl) (by kernel_rfl) (fun _ _ _ h => h) (by rfl) (fun _ _ => by rfl) (G1.out) ?_
  simp only [Act.put, List.setIfInBounds_toArray, List.set_cons_zero, List.set_cons_succ]
  refine wpAnyHCall 2 (some 32) 13 #[.slice a0 xs.length c0] (by kernel_rfl) rfl rfl (by rfl) (by go_simp) (LA) ?_
  rintro e xb2 ⟨va, rfl, LL, hown, hnrm, hll, hb9⟩
  have G2 := Lib.hid (SB G1.out hb9)
  have HT2 := Lib.hid (HT2.out.below hb9)
  have HBD := Lib.hid (HBD.out.trans (hb9.mono HBD.out.size))
  obtain ⟨aa, ca, rfl⟩ := owns_slice hown
  have FM := rform_any ⟨k1, nx1, row1, pas1⟩ _ LL xb2 (RdP_of_owns hown) HOK.out (by omega) (nrm_bd hnrm)
  have hfl := formL_len ⟨k1, nx1, row1, pas1⟩ LL
  obtain ⟨fa, hfa⟩ : ∃ fa, formL ⟨k1, nx1, row1, pas1⟩ LL = fa := ⟨_, rfl⟩
  rw [hfa] at FM hfl
  clear hown hfa
  clear hb9 LA
  refine ⟨_, rfl, G2.out, ?_⟩
  simp only [Act.put, List.setIfInBounds_toArray, List.set_cons_zero, List.set_cons_succ]
  refine wpAnyHCall 3 (some 33) 21 #[.agg #[.int .i64 k1, .bool nx1, .int .i64 row1, .int .i64 pas1], .slice aa LL.length ca] (by kernel_rfl) rfl rfl (by rfl) (by go_simp) (FM) ?_
  rintro e xb3 ⟨rfl, hb9⟩
  have G3 := Lib.hid (SB G2.out hb9)
  have HT2 := Lib.hid (HT2.out.below hb9)
  have HBD := Lib.hid (HBD.out.trans (hb9.mono HBD.out.size))
  clear hb9 FM
  refine ⟨_, rfl, G3.out, ?_⟩
  simp only [Act.put, List.setIfInBounds_toArray, List.set_cons_zero, List.set_cons_succ]
  refine wpAnyHTake 4 (some 13) (.string (bs fa)) rfl rfl (by kernel_rfl) (by kernel_rfl) (by kernel_rfl) (fun _ _ _ h => h) (by rfl) (fun _ _ => by rfl) (G3.out) ?_
  simp only [Act.put, List.setIfInBounds_toArray, List.set_cons_zero, List.set_cons_succ]
  refine wpAnyH_done (by kernel_rfl) ?_ _
  have hsa := bs_size fa
  have TO := torn_any (bs fa) how n xb3 (by omega) h1 h2 h5 h6
  have HB3 := HBD; have HT3 := HT2
  clear HBD HT2 G1 G2 G3 GB SB hnrm
  go_wp2_with fail
  refine TO.mono ?_
  rintro e w7 ⟨tb, rfl, htb, hb1⟩
  have HB3 := Lib.hid (HB3.out.trans (hb1.mono HB3.out.size)); have HT3 := Lib.hid (HT3.out.below hb1)
  obtain ⟨fb, rfl⟩ := bs_of tb
  rw [bs_size] at htb
  have TO2 := torn_any (bs fb) n how w7 (by rw [bs_size]; omega) h5 h6 h1 h2
  clear hb1 TO
  go_wp2_with fail
  refine TO2.mono ?_
  rintro e w8 ⟨tc, rfl, htc, hb1⟩
  have HB3 := Lib.hid (HB3.out.trans (hb1.mono HB3.out.size)); have HT3 := Lib.hid (HT3.out.below hb1)
  obtain ⟨fc, rfl⟩ := bs_of tc
  rw [bs_size, bs_size] at htc
  clear hb1 TO2
  have hlr := bs_size tr
  by_cases hr200 : tr.length ≤ 200
  · have OB : (w8.alloc (.cells #[.string (bs fa), .string (bs fb), .string (bs fc), .string ⟨#[]⟩] 9)).ownsRow w.heap.size 9 1 (.slice (some ⟨w8.heap.size, 0, none⟩) 4 4) 4 ([fa, fb, fc, []].map fun u => .string (bs u)) := owns_block (Boxs.new w8 9 #[.string (bs fa), .string (bs fb), .string (bs fc), .string ⟨#[]⟩]) HB3.out.size rfl rfl (by omega)
    have hall : ∀ u ∈ ([fa, fb, fc, []] : List (List UInt8)), u.length ≤ 1000 := by
      intro u hu
      simp only [List.mem_cons, List.not_mem_nil, or_false] at hu
      rcases hu with rfl | rfl | rfl | rfl
      · omega
      · omega
      · omega
      · simp
    have HB4 := Lib.hid (HB3.out.alloc HB3.out.size (.cells #[.string (bs fa), .string (bs fb), .string (bs fc), .string ⟨#[]⟩] 9))
    have HT4 := Lib.hid (HT3.out.below ((Below.refl _ _).alloc (Nat.le_refl _) (.cells #[.string (bs fa), .string (bs fb), .string (bs fc), .string ⟨#[]⟩] 9)))
    have HO := Lib.hid (OB.alloc (.cells #[.string (bs tr)] 9))
    have HB5 := Lib.hid (HB4.out.alloc HB4.out.size (.cells #[.string (bs tr)] 9))
    have HT5 := Lib.hid (HT4.out.below ((Below.refl _ _).alloc (Nat.le_refl _) (.cells #[.string (bs tr)] 9)))
    have HAL := Lib.hid (show ∀ u ∈ ([fa, fb, fc, []] ++ [tr] : List (List UInt8)), u.length ≤ 1000 from fun u hu => by
      rcases List.mem_append.1 hu with h | h
      · exact hall u h
      · rw [List.mem_singleton.1 h]; omega)
    have hnw := Lib.hid (show ∀ j u, [Value.string (bs tr)][j]? = some u → ((w8.alloc (.cells #[.string (bs fa), .string (bs fb), .string (bs fc), .string ⟨#[]⟩] 9)).alloc (.cells #[.string (bs tr)] 9)).cell? ((⟨w8.heap.size + 1, 0, none⟩ : Addr).add j) = some u by
      rw [show w8.heap.size + 1 = (w8.alloc (.cells #[.string (bs fa), .string (bs fb), .string (bs fc), .string ⟨#[]⟩] 9)).heap.size by simp]; exact World.news_of_block (cs := #[.string (bs tr)]) (t := 9) (fr := (0, 0)) (heap_alloc_new _ _))
    have hrl : ((bs tr).size : Int) ≤ 200 := by omega
    have HT3lt := HT3.out.1
    clear OB hall HB4 HT4 HT3
    have hs8 := HB3.out.size
    go_wp2_with (at_builtin; refine wpList_append_at rfl _ _ _ rfl w.heap.size 9 i9 _ 1 16 Tryd.underlying45 HI.out HZ0.out HZ1.out HZ2.out rfl (by omega) _ 4 ([fa, fb, fc, []].map fun u => .string (bs u)) rfl HO.out ⟨w8.heap.size + 1, 0, none⟩ 1 1 [.string (bs tr)] rfl rfl hnw.out (by simp [Value.oneCell']) (by unfold maxLen; omega) (by omega) (by simp; omega) ?_; intro vt wt hownt hgt; obtain ⟨g, cap, rfl, hgb, hgl⟩ := hownt.form (by omega))
    have HB9 := Lib.hid (HB5.out.grown hgt (by simp; omega) (fun j e => by cases e; exact HB3.out.size))
    have HT9 := Lib.hid (HT5.out.grown hgt (by have := HT5.out.1; have h9 := HT3lt; show some SA ≠ some w8.heap.size; simp; omega))
    have HTT := Lib.hid (tabT_of_owns (show wt.ownsRow w.heap.size 9 1 (.slice (some ⟨g, 0, none⟩) 5 cap) 5 (([fa, fb, fc, []] ++ [tr]).map fun u => .string (bs u)) from hownt) HAL.out)
    clear hgt hownt HB5 HT5 HAL hnw HO
    go_loopw [16] (fun i wr => ∃ j : Nat, j ≤ 2 ∧ i = .int .i64 j ∧ TabT wr g 5 ∧ TabS wr SA (fun _ => True) ∧ Below w.heap.size w wr) (fun i _ => 2 - (intOf i).toNat)
    case atStart => exact ⟨0, by omega, rfl, HTT.out, HT9.out, HB9.out⟩
    case round =>
      obtain ⟨j, hj, rfl, htab, htas, hbl⟩ := hrel
      have hj9 : (j : Int) ≤ 2 := by omega
      have hj0 : (0 : Int) ≤ (j : Int) := by omega
      by_cases hj2 : j < 2
      · have hj2i : (j : Int) < 2 := by omega
        have HTT := Lib.hid htab; have HTS := Lib.hid htas; have HBL := Lib.hid hbl
        clear htab htas hbl
        go_wp2_with fail
        go_loopw [17] (fun i wr => ∃ k : Nat, k ≤ 5 ∧ i = .int .i64 k ∧ TabT wr g 5 ∧ TabS wr SA (fun _ => True) ∧ Below w.heap.size w wr) (fun i _ => 5 - (intOf i).toNat)
        case atStart => exact ⟨0, by omega, rfl, HTT.out, HTS.out, HBL.out⟩
        case round =>
          obtain ⟨k, hk, rfl, htab, htas, hbl⟩ := hrel
          have hk9 : (k : Int) ≤ 5 := by omega
          have hk0 : (0 : Int) ≤ (k : Int) := by omega
          by_cases hk4 : k < 5
          · have hk4i : (k : Int) < 5 := by omega
            have HTT := Lib.hid htab; have HTS := Lib.hid htas; have HBL := Lib.hid hbl
            clear htab htas hbl
            go_wp2_with fail
            obtain ⟨u, hcl, hul⟩ := HTT.out.2 k hk4
            obtain ⟨st, hst, _⟩ := HTS.out.2 j hj2
            obtain ⟨ks, nxs, rows, pass⟩ := st
            have SB : ∀ {W W' : World}, ST2 W SA (j * 4) g k ⟨ks, nxs, rows, pass⟩ (.string (bs u)) → Below W.heap.size W W' → ST2 W' SA (j * 4) g k ⟨ks, nxs, rows, pass⟩ (.string (bs u)) := fun h hb => h.below hb
            have HBD := Lib.hid (Below.dn (Below.refl wr.heap.size wr) 1)
            have ST := style_any ks rows pass nxs (wr.drewN 1)
            have G1 := Lib.hid (show ST2 (wr.drewN 1) SA (j * 4) g k ⟨ks, nxs, rows, pass⟩ (.string (bs u)) from ⟨HTS.out.1, HTT.out.1, hst, hcl⟩)
            have hpl := parseV'_len ⟨ks, nxs, rows, pass⟩ u
            clear hcl hst
            refine wp_region_held (S := fun W => ST2 W SA (j * 4) g k ⟨ks, nxs, rows, pass⟩ (.string (bs u))) (by kernel_rfl) ?_
            have hdr : (wr).drew = { wr with drawn := (wr).drawn + 1 } := rfl
            rw [← hdr]
            clear hdr
            refine wpAnyHTake 0 (some 65) (.slice (some ⟨SA, 0, none⟩) 2 2) rfl rfl (by kernel_rfl) (by kernel_rfl) (by kernel_rfl) (fun _ _ _ h => h) (by rfl) (fun _ _ => by rfl) (G1.out) ?_
            simp only [Act.put, List.setIfInBounds_toArray, List.set_cons_zero, List.set_cons_succ]
            refine wpAnyHTake 1 (some 66) (.int .i64 (j : Int)) rfl rfl (by kernel_rfl) (by kernel_rfl) (by kernel_rfl) (fun _ _ _ h => h) (by rfl) (fun _ _ => by rfl) (G1.out) ?_
            simp only [Act.put, List.setIfInBounds_toArray, List.set_cons_zero, List.set_cons_succ]
            refine wpAnyHTake 2 (some 67) (.pointer (some ⟨SA, j * 4, none⟩)) rfl rfl (by kernel_rfl) (by kernel_rfl) (by kernel_rfl) (fun _ _ _ h => h) (by rfl) (fun _ _ => by go_simp) (G1.out) ?_
            simp only [Act.put, List.setIfInBounds_toArray, List.set_cons_zero, List.set_cons_succ]
            refine wpAnyHTake 3 (some 68) (.agg #[.int .i64 ks, .bool nxs, .int .i64 rows, .int .i64 pass]) rfl rfl (by kernel_rfl) (by kernel_rfl) (by kernel_rfl) (fun _ _ _ h => h) (by rfl) (fun W hW => by obtain ⟨_, _, ⟨c0, c1, c2, c3⟩, c4⟩ := hW; dsimp only at c0 c1 c2 c3; go_simp) (G1.out) ?_
            simp only [Act.put, List.setIfInBounds_toArray, List.set_cons_zero, List.set_cons_succ]
            refine wpAnyHTake 5 (some 70) (.slice (some ⟨g, 0, none⟩) 5 cap) rfl rfl (by kernel_rfl) (by kernel_rfl) (by kernel_rfl) (fun _ _ _ h => h) (by rfl) (fun _ _ => by rfl) (G1.out) ?_
            simp only [Act.put, List.setIfInBounds_toArray, List.set_cons_zero, List.set_cons_succ]
            refine wpAnyHTake 6 (some 71) (.int .i64 (k : Int)) rfl rfl (by kernel_rfl) (by kernel_rfl) (by kernel_rfl) (fun _ _ _ h => h) (by rfl) (fun _ _ => by rfl) (G1.out) ?_
            simp only [Act.put, List.setIfInBounds_toArray, List.set_cons_zero, List.set_cons_succ]
            refine wpAnyHTake 7 (some 72) (.pointer (some ⟨g, k, none⟩)) rfl rfl (by kernel_rfl) (by kernel_rfl) (by kernel_rfl) (fun _ _ _ h => h) (by rfl) (fun _ _ => by go_simp) (G1.out) ?_
            simp only [Act.put, List.setIfInBounds_toArray, List.set_cons_zero, List.set_cons_succ]
            refine wpAnyHTake 8 (some 73) (.string (bs u)) rfl rfl (by kernel_rfl) (by kernel_rfl) (by kernel_rfl) (fun _ _ _ h => h) (by rfl) (fun W hW => by obtain ⟨_, _, ⟨c0, c1, c2, c3⟩, c4⟩ := hW; dsimp only at c0 c1 c2 c3; go_simp) (G1.out) ?_
            simp only [Act.put, List.setIfInBounds_toArray, List.set_cons_zero, List.set_cons_succ]
            refine wpAnyHCall 4 (some 69) 17 #[.agg #[.int .i64 ks, .bool nxs, .int .i64 rows, .int .i64 pass]] (by kernel_rfl) rfl rfl (by rfl) (by go_simp) (ST) ?_
            rintro e xc2 ⟨rfl, hb9⟩
            have G2 := Lib.hid (SB G1.out hb9)
            have HBD := Lib.hid (HBD.out.trans (hb9.mono HBD.out.size))
            have PA := parse_all ⟨ks, nxs, rows, pass⟩ u xc2 hul (HML.out.below (HBL.out.trans (HBD.out.mono HBL.out.size)) hlt)
            clear hb9 ST
            refine ⟨_, rfl, G2.out, ?_⟩
            simp only [Act.put, List.setIfInBounds_toArray, List.set_cons_zero, List.set_cons_succ]
            refine wpAnyHCall 9 (some 74) 23 #[.agg #[.int .i64 ks, .bool nxs, .int .i64 rows, .int .i64 pass], .string (bs u)] (by kernel_rfl) rfl rfl (by rfl) (by go_simp) (PA) ?_
            rintro e xc3 ⟨v1, rfl, rd1, hb9⟩
            have G3 := Lib.hid (SB G2.out hb9)
            have HBD := Lib.hid (HBD.out.trans (hb9.mono HBD.out.size))
            obtain ⟨p1, d1, rfl⟩ := rd1.form
            have HR1 := Lib.hid rd1
            clear rd1
            clear hb9 PA
            refine ⟨_, rfl, G3.out, ?_⟩
            simp only [Act.put, List.setIfInBounds_toArray, List.set_cons_zero, List.set_cons_succ]
            refine wpAnyHTake 10 (some 64) (.tuple #[.slice p1 (parseV' ⟨ks, nxs, rows, pass⟩ u).length d1, (.int .i64 (parseE' ⟨ks, nxs, rows, pass⟩ u))]) rfl rfl (by kernel_rfl) (by kernel_rfl) (by kernel_rfl) (fun _ _ _ h => h) (by rfl) (fun _ _ => by rfl) (G3.out) ?_
            simp only [Act.put, List.setIfInBounds_toArray, List.set_cons_zero, List.set_cons_succ]
            refine wpAnyHTake 11 (some 75) (.slice p1 (parseV' ⟨ks, nxs, rows, pass⟩ u).length d1) rfl rfl (by kernel_rfl) (by kernel_rfl) (by kernel_rfl) (fun _ _ _ h => h) (by rfl) (fun _ _ => by rfl) (G3.out) ?_
            simp only [Act.put, List.setIfInBounds_toArray, List.set_cons_zero, List.set_cons_succ]
            refine wpAnyHTake 12 (some 76) ((.int .i64 (parseE' ⟨ks, nxs, rows, pass⟩ u))) rfl rfl (by kernel_rfl) (by kernel_rfl) (by kernel_rfl) (fun _ _ _ h => h) (by rfl) (fun _ _ => by rfl) (G3.out) ?_
            simp only [Act.put, List.setIfInBounds_toArray, List.set_cons_zero, List.set_cons_succ]
            refine wpAnyHTake 13 (some 18) (.slice p1 (parseV' ⟨ks, nxs, rows, pass⟩ u).length d1) rfl rfl (by kernel_rfl) (by kernel_rfl) (by kernel_rfl) (fun _ _ _ h => h) (by rfl) (fun _ _ => by rfl) (G3.out) ?_
            simp only [Act.put, List.setIfInBounds_toArray, List.set_cons_zero, List.set_cons_succ]
            refine wpAnyHTake 14 (some 19) ((.int .i64 (parseE' ⟨ks, nxs, rows, pass⟩ u))) rfl rfl (by kernel_rfl) (by kernel_rfl) (by kernel_rfl) (fun _ _ _ h => h) (by rfl) (fun _ _ => by rfl) (G3.out) ?_
            simp only [Act.put, List.setIfInBounds_toArray, List.set_cons_zero, List.set_cons_succ]
            refine wpAnyH_done (by kernel_rfl) ?_ _
            go_wp2_with fail
            have HBD := Lib.hid (Below.dn HBD.out 1)
            have HR1 := Lib.hid (show RdP (xc3.drewN 1) _ (parseV' ⟨ks, nxs, rows, pass⟩ u) from HR1.out)
            have RP := rparse_all ⟨ks, nxs, rows, pass⟩ u (xc3.drewN 1) hul
            have G1 := Lib.hid (show ST2 (xc3.drewN 1) SA (j * 4) g k ⟨ks, nxs, rows, pass⟩ (.string (bs u)) from G3.out)
            refine wp_region_held (S := fun W => ST2 W SA (j * 4) g k ⟨ks, nxs, rows, pass⟩ (.string (bs u))) (by kernel_rfl) ?_
            have hdr : (xc3).drew = { xc3 with drawn := (xc3).drawn + 1 } := rfl
            rw [← hdr]
            clear hdr
            refine wpAnyHTake 0 (some 78) (.slice (some ⟨SA, 0, none⟩) 2 2) rfl rfl (by kernel_rfl) (by kernel_rfl) (by kernel_rfl) (fun _ _ _ h => h) (by rfl) (fun _ _ => by rfl) (G1.out) ?_
            simp only [Act.put, List.setIfInBounds_toArray, List.set_cons_zero, List.set_cons_succ]
            refine wpAnyHTake 1 (some 79) (.int .i64 (j : Int)) rfl rfl (by kernel_rfl) (by kernel_rfl) (by kernel_rfl) (fun _ _ _ h => h) (by rfl) (fun _ _ => by rfl) (G1.out) ?_
            simp only [Act.put, List.setIfInBounds_toArray, List.set_cons_zero, List.set_cons_succ]
            refine wpAnyHTake 2 (some 80) (.pointer (some ⟨SA, j * 4, none⟩)) rfl rfl (by kernel_rfl) (by kernel_rfl) (by kernel_rfl) (fun _ _ _ h => h) (by rfl) (fun _ _ => by go_simp) (G1.out) ?_
            simp only [Act.put, List.setIfInBounds_toArray, List.set_cons_zero, List.set_cons_succ]
            refine wpAnyHTake 3 (some 81) (.agg #[.int .i64 ks, .bool nxs, .int .i64 rows, .int .i64 pass]) rfl rfl (by kernel_rfl) (by kernel_rfl) (by kernel_rfl) (fun _ _ _ h => h) (by rfl) (fun W hW => by obtain ⟨_, _, ⟨c0, c1, c2, c3⟩, c4⟩ := hW; dsimp only at c0 c1 c2 c3; go_simp) (G1.out) ?_
            simp only [Act.put, List.setIfInBounds_toArray, List.set_cons_zero, List.set_cons_succ]
            refine wpAnyHTake 4 (some 82) (.slice (some ⟨g, 0, none⟩) 5 cap) rfl rfl (by kernel_rfl) (by kernel_rfl) (by kernel_rfl) (fun _ _ _ h => h) (by rfl) (fun _ _ => by rfl) (G1.out) ?_
            simp only [Act.put, List.setIfInBounds_toArray, List.set_cons_zero, List.set_cons_succ]
            refine wpAnyHTake 5 (some 83) (.int .i64 (k : Int)) rfl rfl (by kernel_rfl) (by kernel_rfl) (by kernel_rfl) (fun _ _ _ h => h) (by rfl) (fun _ _ => by rfl) (G1.out) ?_
            simp only [Act.put, List.setIfInBounds_toArray, List.set_cons_zero, List.set_cons_succ]
            refine wpAnyHTake 6 (some 84) (.pointer (some ⟨g, k, none⟩)) rfl rfl (by kernel_rfl) (by kernel_rfl) (by kernel_rfl) (fun _ _ _ h => h) (by rfl) (fun _ _ => by go_simp) (G1.out) ?_
            simp only [Act.put, List.setIfInBounds_toArray, List.set_cons_zero, List.set_cons_succ]
            refine wpAnyHTake 7 (some 85) (.string (bs u)) rfl rfl (by kernel_rfl) (by kernel_rfl) (by kernel_rfl) (fun _ _ _ h => h) (by rfl) (fun W hW => by obtain ⟨_, _, ⟨c0, c1, c2, c3⟩, c4⟩ := hW; dsimp only at c0 c1 c2 c3; go_simp) (G1.out) ?_
            simp only [Act.put, List.setIfInBounds_toArray, List.set_cons_zero, List.set_cons_succ]
            refine wpAnyHCall 8 (some 86) 24 #[.agg #[.int .i64 ks, .bool nxs, .int .i64 rows, .int .i64 pass], .string (bs u)] (by kernel_rfl) rfl rfl (by rfl) (by go_simp) (RP) ?_
            rintro e xd2 ⟨v2, rfl, rd2, hb9⟩
            have G2 := Lib.hid (SB G1.out hb9)
            have HR1 := Lib.hid (HR1.out.below hb9)
            have HBD := Lib.hid (HBD.out.trans (hb9.mono HBD.out.size))
            obtain ⟨p2, d2, rfl⟩ := rd2.form
            have HR2 := Lib.hid rd2
            clear rd2
            clear hb9 RP
            refine ⟨_, rfl, G2.out, ?_⟩
            simp only [Act.put, List.setIfInBounds_toArray, List.set_cons_zero, List.set_cons_succ]
            refine wpAnyHTake 9 (some 77) (.tuple #[.slice p2 (parseV' ⟨ks, nxs, rows, pass⟩ u).length d2, (.int .i64 (parseE' ⟨ks, nxs, rows, pass⟩ u))]) rfl rfl (by kernel_rfl) (by kernel_rfl) (by kernel_rfl) (fun _ _ _ h => h) (by rfl) (fun _ _ => by rfl) (G2.out) ?_
            simp only [Act.put, List.setIfInBounds_toArray, List.set_cons_zero, List.set_cons_succ]
            refine wpAnyHTake 10 (some 87) (.slice p2 (parseV' ⟨ks, nxs, rows, pass⟩ u).length d2) rfl rfl (by kernel_rfl) (by kernel_rfl) (by kernel_rfl) (fun _ _ _ h => h) (by rfl) (fun _ _ => by rfl) (G2.out) ?_
            simp only [Act.put, List.setIfInBounds_toArray, List.set_cons_zero, List.set_cons_succ]
            refine wpAnyHTake 11 (some 88) ((.int .i64 (parseE' ⟨ks, nxs, rows, pass⟩ u))) rfl rfl (by kernel_rfl) (by kernel_rfl) (by kernel_rfl) (fun _ _ _ h => h) (by rfl) (fun _ _ => by rfl) (G2.out) ?_
            simp only [Act.put, List.setIfInBounds_toArray, List.set_cons_zero, List.set_cons_succ]
            refine wpAnyHTake 12 (some 20) (.slice p2 (parseV' ⟨ks, nxs, rows, pass⟩ u).length d2) rfl rfl (by kernel_rfl) (by kernel_rfl) (by kernel_rfl) (fun _ _ _ h => h) (by rfl) (fun _ _ => by rfl) (G2.out) ?_
            simp only [Act.put, List.setIfInBounds_toArray, List.set_cons_zero, List.set_cons_succ]
            refine wpAnyHTake 13 (some 21) ((.int .i64 (parseE' ⟨ks, nxs, rows, pass⟩ u))) rfl rfl (by kernel_rfl) (by kernel_rfl) (by kernel_rfl) (fun _ _ _ h => h) (by rfl) (fun _ _ => by rfl) (G2.out) ?_
            simp only [Act.put, List.setIfInBounds_toArray, List.set_cons_zero, List.set_cons_succ]
            refine wpAnyH_done (by kernel_rfl) ?_ _
            have MD := model_any _ _ xd2 HR1.out (by omega)
            have HR2 := Lib.hid (show RdP xd2 _ _ from HR2.out)
            clear HR1
            go_wp2_with fail
            refine MD.mono ?_
            rintro e y1 ⟨vm, rfl, hown, hb9⟩
            have SM := same_any vm _ (parseV' ⟨ks, nxs, rows, pass⟩ u) (parseV' ⟨ks, nxs, rows, pass⟩ u) y1 (RdP_of_owns hown) (HR2.out.below hb9)
            rw [show decide ((parseV' ⟨ks, nxs, rows, pass⟩ u) = (parseV' ⟨ks, nxs, rows, pass⟩ u)) = true from decide_eq_true rfl] at SM
            have HBD := Lib.hid (HBD.out.trans (hb9.mono HBD.out.size))
            clear hown hb9 MD HR2
            go_wp2_with fail
            refine SM.mono ?_
            rintro e y2 ⟨rfl, hb9⟩
            have HBD := Lib.hid (HBD.out.trans (hb9.mono HBD.out.size))
            clear SM hb9
            go_wp2_with fail
            go_roundw
            case rel => exact ⟨k + 1, by omega, by go_num, HTT.out.below HBD.out, HTS.out.below HBD.out, HBL.out.trans (HBD.out.mono HBL.out.size)⟩
            case measure => simp [intOf]; omega
          · have hk4i : ¬ (k : Int) < 5 := by omega
            go_wp2_with fail
            go_roundw
            case rel => exact ⟨j + 1, by omega, by go_num, htab, htas, hbl⟩
            case measure => simp [intOf]; omega
      · have hj2i : ¬ (j : Int) < 2 := by omega
        have LV := lives_any wr (HML.out.below hbl hlt)
        have HBL := Lib.hid hbl
        clear htab htas hbl
        go_wp2_with fail
        refine LV.mono ?_
        rintro e w9 ⟨rfl, hb9⟩
        have HBM := Lib.hid (HBL.out.trans (hb9.mono HBL.out.size))
        clear hb9 LV
        go_wp2_with fail
        go_ret
        exact ⟨rfl, HBM.out⟩
  · have OB : (w8.alloc (.cells #[.string (bs fa), .string (bs fb), .string (bs fc), .string ⟨#[]⟩] 9)).ownsRow w.heap.size 9 1 (.slice (some ⟨w8.heap.size, 0, none⟩) 4 4) 4 ([fa, fb, fc, []].map fun u => .string (bs u)) := owns_block (Boxs.new w8 9 #[.string (bs fa), .string (bs fb), .string (bs fc), .string ⟨#[]⟩]) HB3.out.size rfl rfl (by omega)
    have hall : ∀ u ∈ ([fa, fb, fc, []] : List (List UInt8)), u.length ≤ 1000 := by
      intro u hu
      simp only [List.mem_cons, List.not_mem_nil, or_false] at hu
      rcases hu with rfl | rfl | rfl | rfl
      · omega
      · omega
      · omega
      · simp
    have HB4 := Lib.hid (HB3.out.alloc HB3.out.size (.cells #[.string (bs fa), .string (bs fb), .string (bs fc), .string ⟨#[]⟩] 9))
    have HT4 := Lib.hid (HT3.out.below ((Below.refl _ _).alloc (Nat.le_refl _) (.cells #[.string (bs fa), .string (bs fb), .string (bs fc), .string ⟨#[]⟩] 9)))
    have HTT := Lib.hid (tabT_of_owns OB hall)
    have hrl : ¬ ((bs tr).size : Int) ≤ 200 := by omega
    have HB9 := HB4; have HT9 := HT4
    clear OB hall HB4 HT4 HT3 HB3
    go_wp2_with fail
    generalize w8.alloc (.cells #[.string (bs fa), .string (bs fb), .string (bs fc), .string ⟨#[]⟩] 9) = wt at *
    obtain ⟨g, hg⟩ : ∃ g, w8.heap.size = g := ⟨_, rfl⟩
    rw [hg] at HTT ⊢
    clear hg
    go_loopw [16] (fun i wr => ∃ j : Nat, j ≤ 2 ∧ i = .int .i64 j ∧ TabT wr g 4 ∧ TabS wr SA (fun _ => True) ∧ Below w.heap.size w wr) (fun i _ => 2 - (intOf i).toNat)
    case atStart => exact ⟨0, by omega, rfl, HTT.out, HT9.out, HB9.out⟩
    case round =>
      obtain ⟨j, hj, rfl, htab, htas, hbl⟩ := hrel
      have hj9 : (j : Int) ≤ 2 := by omega
      have hj0 : (0 : Int) ≤ (j : Int) := by omega
      by_cases hj2 : j < 2
      · have hj2i : (j : Int) < 2 := by omega
        have HTT := Lib.hid htab; have HTS := Lib.hid htas; have HBL := Lib.hid hbl
        clear htab htas hbl
        go_wp2_with fail
        go_loopw [17] (fun i wr => ∃ k : Nat, k ≤ 4 ∧ i = .int .i64 k ∧ TabT wr g 4 ∧ TabS wr SA (fun _ => True) ∧ Below w.heap.size w wr) (fun i _ => 4 - (intOf i).toNat)
        case atStart => exact ⟨0, by omega, rfl, HTT.out, HTS.out, HBL.out⟩
        case round =>
          obtain ⟨k, hk, rfl, htab, htas, hbl⟩ := hrel
          have hk9 : (k : Int) ≤ 4 := by omega
          have hk0 : (0 : Int) ≤ (k : Int) := by omega
          by_cases hk4 : k < 4
          · have hk4i : (k : Int) < 4 := by omega
            have HTT := Lib.hid htab; have HTS := Lib.hid htas; have HBL := Lib.hid hbl
            clear htab htas hbl
            go_wp2_with fail
            obtain ⟨u, hcl, hul⟩ := HTT.out.2 k hk4
            obtain ⟨st, hst, _⟩ := HTS.out.2 j hj2
            obtain ⟨ks, nxs, rows, pass⟩ := st
            have SB : ∀ {W W' : World}, ST2 W SA (j * 4) g k ⟨ks, nxs, rows, pass⟩ (.string (bs u)) → Below W.heap.size W W' → ST2 W' SA (j * 4) g k ⟨ks, nxs, rows, pass⟩ (.string (bs u)) := fun h hb => h.below hb
            have HBD := Lib.hid (Below.dn (Below.refl wr.heap.size wr) 1)
            have ST := style_any ks rows pass nxs (wr.drewN 1)
            have G1 := Lib.hid (show ST2 (wr.drewN 1) SA (j * 4) g k ⟨ks, nxs, rows, pass⟩ (.string (bs u)) from ⟨HTS.out.1, HTT.out.1, hst, hcl⟩)
            have hpl := parseV'_len ⟨ks, nxs, rows, pass⟩ u
            clear hcl hst
            refine wp_region_held (S := fun W => ST2 W SA (j * 4) g k ⟨ks, nxs, rows, pass⟩ (.string (bs u))) (by kernel_rfl) ?_
            have hdr : (wr).drew = { wr with drawn := (wr).drawn + 1 } := rfl
            rw [← hdr]
            clear hdr
            refine wpAnyHTake 0 (some 65) (.slice (some ⟨SA, 0, none⟩) 2 2) rfl rfl (by kernel_rfl) (by kernel_rfl) (by kernel_rfl) (fun _ _ _ h => h) (by rfl) (fun _ _ => by rfl) (G1.out) ?_
            simp only [Act.put, List.setIfInBounds_toArray, List.set_cons_zero, List.set_cons_succ]
            refine wpAnyHTake 1 (some 66) (.int .i64 (j : Int)) rfl rfl (by kernel_rfl) (by kernel_rfl) (by kernel_rfl) (fun _ _ _ h => h) (by rfl) (fun _ _ => by rfl) (G1.out) ?_
            simp only [Act.put, List.setIfInBounds_toArray, List.set_cons_zero, List.set_cons_succ]
            refine wpAnyHTake 2 (some 67) (.pointer (some ⟨SA, j * 4, none⟩)) rfl rfl (by kernel_rfl) (by kernel_rfl) (by kernel_rfl) (fun _ _ _ h => h) (by rfl) (fun _ _ => by go_simp) (G1.out) ?_
            simp only [Act.put, List.setIfInBounds_toArray, List.set_cons_zero, List.set_cons_succ]
            refine wpAnyHTake 3 (some 68) (.agg #[.int .i64 ks, .bool nxs, .int .i64 rows, .int .i64 pass]) rfl rfl (by kernel_rfl) (by kernel_rfl) (by kernel_rfl) (fun _ _ _ h => h) (by rfl) (fun W hW => by obtain ⟨_, _, ⟨c0, c1, c2, c3⟩, c4⟩ := hW; dsimp only at c0 c1 c2 c3; go_simp) (G1.out) ?_
            simp only [Act.put, List.setIfInBounds_toArray, List.set_cons_zero, List.set_cons_succ]
            refine wpAnyHTake 5 (some 70) (.slice (some ⟨g, 0, none⟩) 4 4) rfl rfl (by kernel_rfl) (by kernel_rfl) (by kernel_rfl) (fun _ _ _ h => h) (by rfl) (fun _ _ => by rfl) (G1.out) ?_
            simp only [Act.put, List.setIfInBounds_toArray, List.set_cons_zero, List.set_cons_succ]
            refine wpAnyHTake 6 (some 71) (.int .i64 (k : Int)) rfl rfl (by kernel_rfl) (by kernel_rfl) (by kernel_rfl) (fun _ _ _ h => h) (by rfl) (fun _ _ => by rfl) (G1.out) ?_
            simp only [Act.put, List.setIfInBounds_toArray, List.set_cons_zero, List.set_cons_succ]
            refine wpAnyHTake 7 (some 72) (.pointer (some ⟨g, k, none⟩)) rfl rfl (by kernel_rfl) (by kernel_rfl) (by kernel_rfl) (fun _ _ _ h => h) (by rfl) (fun _ _ => by go_simp) (G1.out) ?_
            simp only [Act.put, List.setIfInBounds_toArray, List.set_cons_zero, List.set_cons_succ]
            refine wpAnyHTake 8 (some 73) (.string (bs u)) rfl rfl (by kernel_rfl) (by kernel_rfl) (by kernel_rfl) (fun _ _ _ h => h) (by rfl) (fun W hW => by obtain ⟨_, _, ⟨c0, c1, c2, c3⟩, c4⟩ := hW; dsimp only at c0 c1 c2 c3; go_simp) (G1.out) ?_
            simp only [Act.put, List.setIfInBounds_toArray, List.set_cons_zero, List.set_cons_succ]
            refine wpAnyHCall 4 (some 69) 17 #[.agg #[.int .i64 ks, .bool nxs, .int .i64 rows, .int .i64 pass]] (by kernel_rfl) rfl rfl (by rfl) (by go_simp) (ST) ?_
            rintro e xc2 ⟨rfl, hb9⟩
            have G2 := Lib.hid (SB G1.out hb9)
            have HBD := Lib.hid (HBD.out.trans (hb9.mono HBD.out.size))
            have PA := parse_all ⟨ks, nxs, rows, pass⟩ u xc2 hul (HML.out.below (HBL.out.trans (HBD.out.mono HBL.out.size)) hlt)
            clear hb9 ST
            refine ⟨_, rfl, G2.out, ?_⟩
            simp only [Act.put, List.setIfInBounds_toArray, List.set_cons_zero, List.set_cons_succ]
            refine wpAnyHCall 9 (some 74) 23 #[.agg #[.int .i64 ks, .bool nxs, .int .i64 rows, .int .i64 pass], .string (bs u)] (by kernel_rfl) rfl rfl (by rfl) (by go_simp) (PA) ?_
            rintro e xc3 ⟨v1, rfl, rd1, hb9⟩
            have G3 := Lib.hid (SB G2.out hb9)
            have HBD := Lib.hid (HBD.out.trans (hb9.mono HBD.out.size))
            obtain ⟨p1, d1, rfl⟩ := rd1.form
            have HR1 := Lib.hid rd1
            clear rd1
            clear hb9 PA
            refine ⟨_, rfl, G3.out, ?_⟩
            simp only [Act.put, List.setIfInBounds_toArray, List.set_cons_zero, List.set_cons_succ]
            refine wpAnyHTake 10 (some 64) (.tuple #[.slice p1 (parseV' ⟨ks, nxs, rows, pass⟩ u).length d1, (.int .i64 (parseE' ⟨ks, nxs, rows, pass⟩ u))]) rfl rfl (by kernel_rfl) (by kernel_rfl) (by kernel_rfl) (fun _ _ _ h => h) (by rfl) (fun _ _ => by rfl) (G3.out) ?_
            simp only [Act.put, List.setIfInBounds_toArray, List.set_cons_zero, List.set_cons_succ]
            refine wpAnyHTake 11 (some 75) (.slice p1 (parseV' ⟨ks, nxs, rows, pass⟩ u).length d1) rfl rfl (by kernel_rfl) (by kernel_rfl) (by kernel_rfl) (fun _ _ _ h => h) (by rfl) (fun _ _ => by rfl) (G3.out) ?_
            simp only [Act.put, List.setIfInBounds_toArray, List.set_cons_zero, List.set_cons_succ]
            refine wpAnyHTake 12 (some 76) ((.int .i64 (parseE' ⟨ks, nxs, rows, pass⟩ u))) rfl rfl (by kernel_rfl) (by kernel_rfl) (by kernel_rfl) (fun _ _ _ h => h) (by rfl) (fun _ _ => by rfl) (G3.out) ?_
            simp only [Act.put, List.setIfInBounds_toArray, List.set_cons_zero, List.set_cons_succ]
            refine wpAnyHTake 13 (some 18) (.slice p1 (parseV' ⟨ks, nxs, rows, pass⟩ u).length d1) rfl rfl (by kernel_rfl) (by kernel_rfl) (by kernel_rfl) (fun _ _ _ h => h) (by rfl) (fun _ _ => by rfl) (G3.out) ?_
            simp only [Act.put, List.setIfInBounds_toArray, List.set_cons_zero, List.set_cons_succ]
            refine wpAnyHTake 14 (some 19) ((.int .i64 (parseE' ⟨ks, nxs, rows, pass⟩ u))) rfl rfl (by kernel_rfl) (by kernel_rfl) (by kernel_rfl) (fun _ _ _ h => h) (by rfl) (fun _ _ => by rfl) (G3.out) ?_
            simp only [Act.put, List.setIfInBounds_toArray, List.set_cons_zero, List.set_cons_succ]
            refine wpAnyH_done (by kernel_rfl) ?_ _
            go_wp2_with fail
            have HBD := Lib.hid (Below.dn HBD.out 1)
            have HR1 := Lib.hid (show RdP (xc3.drewN 1) _ (parseV' ⟨ks, nxs, rows, pass⟩ u) from HR1.out)
            have RP := rparse_all ⟨ks, nxs, rows, pass⟩ u (xc3.drewN 1) hul
            have G1 := Lib.hid (show ST2 (xc3.drewN 1) SA (j * 4) g k ⟨ks, nxs, rows, pass⟩ (.string (bs u)) from G3.out)
            refine wp_region_held (S := fun W => ST2 W SA (j * 4) g k ⟨ks, nxs, rows, pass⟩ (.string (bs u))) (by kernel_rfl) ?_
            have hdr : (xc3).drew = { xc3 with drawn := (xc3).drawn + 1 } := rfl
            rw [← hdr]
            clear hdr
            refine wpAnyHTake 0 (some 78) (.slice (some ⟨SA, 0, none⟩) 2 2) rfl rfl (by kernel_rfl) (by kernel_rfl) (by kernel_rfl) (fun _ _ _ h => h) (by rfl) (fun _ _ => by rfl) (G1.out) ?_
            simp only [Act.put, List.setIfInBounds_toArray, List.set_cons_zero, List.set_cons_succ]
            refine wpAnyHTake 1 (some 79) (.int .i64 (j : Int)) rfl rfl (by kernel_rfl) (by kernel_rfl) (by kernel_rfl) (fun _ _ _ h => h) (by rfl) (fun _ _ => by rfl) (G1.out) ?_
            simp only [Act.put, List.setIfInBounds_toArray, List.set_cons_zero, List.set_cons_succ]
            refine wpAnyHTake 2 (some 80) (.pointer (some ⟨SA, j * 4, none⟩)) rfl rfl (by kernel_rfl) (by kernel_rfl) (by kernel_rfl) (fun _ _ _ h => h) (by rfl) (fun _ _ => by go_simp) (G1.out) ?_
            simp only [Act.put, List.setIfInBounds_toArray, List.set_cons_zero, List.set_cons_succ]
            refine wpAnyHTake 3 (some 81) (.agg #[.int .i64 ks, .bool nxs, .int .i64 rows, .int .i64 pass]) rfl rfl (by kernel_rfl) (by kernel_rfl) (by kernel_rfl) (fun _ _ _ h => h) (by rfl) (fun W hW => by obtain ⟨_, _, ⟨c0, c1, c2, c3⟩, c4⟩ := hW; dsimp only at c0 c1 c2 c3; go_simp) (G1.out) ?_
            simp only [Act.put, List.setIfInBounds_toArray, List.set_cons_zero, List.set_cons_succ]
            refine wpAnyHTake 4 (some 82) (.slice (some ⟨g, 0, none⟩) 4 4) rfl rfl (by kernel_rfl) (by kernel_rfl) (by kernel_rfl) (fun _ _ _ h => h) (by rfl) (fun _ _ => by rfl) (G1.out) ?_
            simp only [Act.put, List.setIfInBounds_toArray, List.set_cons_zero, List.set_cons_succ]
            refine wpAnyHTake 5 (some 83) (.int .i64 (k : Int)) rfl rfl (by kernel_rfl) (by kernel_rfl) (by kernel_rfl) (fun _ _ _ h => h) (by rfl) (fun _ _ => by rfl) (G1.out) ?_
            simp only [Act.put, List.setIfInBounds_toArray, List.set_cons_zero, List.set_cons_succ]
            refine wpAnyHTake 6 (some 84) (.pointer (some ⟨g, k, none⟩)) rfl rfl (by kernel_rfl) (by kernel_rfl) (by kernel_rfl) (fun _ _ _ h => h) (by rfl) (fun _ _ => by go_simp) (G1.out) ?_
            simp only [Act.put, List.setIfInBounds_toArray, List.set_cons_zero, List.set_cons_succ]
            refine wpAnyHTake 7 (some 85) (.string (bs u)) rfl rfl (by kernel_rfl) (by kernel_rfl) (by kernel_rfl) (fun _ _ _ h => h) (by rfl) (fun W hW => by obtain ⟨_, _, ⟨c0, c1, c2, c3⟩, c4⟩ := hW; dsimp only at c0 c1 c2 c3; go_simp) (G1.out) ?_
            simp only [Act.put, List.setIfInBounds_toArray, List.set_cons_zero, List.set_cons_succ]
            refine wpAnyHCall 8 (some 86) 24 #[.agg #[.int .i64 ks, .bool nxs, .int .i64 rows, .int .i64 pass], .string (bs u)] (by kernel_rfl) rfl rfl (by rfl) (by go_simp) (RP) ?_
            rintro e xd2 ⟨v2, rfl, rd2, hb9⟩
            have G2 := Lib.hid (SB G1.out hb9)
            have HR1 := Lib.hid (HR1.out.below hb9)
            have HBD := Lib.hid (HBD.out.trans (hb9.mono HBD.out.size))
            obtain ⟨p2, d2, rfl⟩ := rd2.form
            have HR2 := Lib.hid rd2
            clear rd2
            clear hb9 RP
            refine ⟨_, rfl, G2.out, ?_⟩
            simp only [Act.put, List.setIfInBounds_toArray, List.set_cons_zero, List.set_cons_succ]
            refine wpAnyHTake 9 (some 77) (.tuple #[.slice p2 (parseV' ⟨ks, nxs, rows, pass⟩ u).length d2, (.int .i64 (parseE' ⟨ks, nxs, rows, pass⟩ u))]) rfl rfl (by kernel_rfl) (by kernel_rfl) (by kernel_rfl) (fun _ _ _ h => h) (by rfl) (fun _ _ => by rfl) (G2.out) ?_
            simp only [Act.put, List.setIfInBounds_toArray, List.set_cons_zero, List.set_cons_succ]
            refine wpAnyHTake 10 (some 87) (.slice p2 (parseV' ⟨ks, nxs, rows, pass⟩ u).length d2) rfl rfl (by kernel_rfl) (by kernel_rfl) (by kernel_rfl) (fun _ _ _ h => h) (by rfl) (fun _ _ => by rfl) (G2.out) ?_
            simp only [Act.put, List.setIfInBounds_toArray, List.set_cons_zero, List.set_cons_succ]
            refine wpAnyHTake 11 (some 88) ((.int .i64 (parseE' ⟨ks, nxs, rows, pass⟩ u))) rfl rfl (by kernel_rfl) (by kernel_rfl) (by kernel_rfl) (fun _ _ _ h => h) (by rfl) (fun _ _ => by rfl) (G2.out) ?_
            simp only [Act.put, List.setIfInBounds_toArray, List.set_cons_zero, List.set_cons_succ]
            refine wpAnyHTake 12 (some 20) (.slice p2 (parseV' ⟨ks, nxs, rows, pass⟩ u).length d2) rfl rfl (by kernel_rfl) (by kernel_rfl) (by kernel_rfl) (fun _ _ _ h => h) (by rfl) (fun _ _ => by rfl) (G2.out) ?_
            simp only [Act.put, List.setIfInBounds_toArray, List.set_cons_zero, List.set_cons_succ]
            refine wpAnyHTake 13 (some 21) ((.int .i64 (parseE' ⟨ks, nxs, rows, pass⟩ u))) rfl rfl (by kernel_rfl) (by kernel_rfl) (by kernel_rfl) (fun _ _ _ h => h) (by rfl) (fun _ _ => by rfl) (G2.out) ?_
            simp only [Act.put, List.setIfInBounds_toArray, List.set_cons_zero, List.set_cons_succ]
            refine wpAnyH_done (by kernel_rfl) ?_ _
            have MD := model_any _ _ xd2 HR1.out (by omega)
            have HR2 := Lib.hid (show RdP xd2 _ _ from HR2.out)
            clear HR1
            go_wp2_with fail
            refine MD.mono ?_
            rintro e y1 ⟨vm, rfl, hown, hb9⟩
            have SM := same_any vm _ (parseV' ⟨ks, nxs, rows, pass⟩ u) (parseV' ⟨ks, nxs, rows, pass⟩ u) y1 (RdP_of_owns hown) (HR2.out.below hb9)
            rw [show decide ((parseV' ⟨ks, nxs, rows, pass⟩ u) = (parseV' ⟨ks, nxs, rows, pass⟩ u)) = true from decide_eq_true rfl] at SM
            have HBD := Lib.hid (HBD.out.trans (hb9.mono HBD.out.size))
            clear hown hb9 MD HR2
            go_wp2_with fail
            refine SM.mono ?_
            rintro e y2 ⟨rfl, hb9⟩
            have HBD := Lib.hid (HBD.out.trans (hb9.mono HBD.out.size))
            clear SM hb9
            go_wp2_with fail
            go_roundw
            case rel => exact ⟨k + 1, by omega, by go_num, HTT.out.below HBD.out, HTS.out.below HBD.out, HBL.out.trans (HBD.out.mono HBL.out.size)⟩
            case measure => simp [intOf]; omega
          · have hk4i : ¬ (k : Int) < 4 := by omega
            go_wp2_with fail
            go_roundw
            case rel => exact ⟨j + 1, by omega, by go_num, htab, htas, hbl⟩
            case measure => simp [intOf]; omega
      · have hj2i : ¬ (j : Int) < 2 := by omega
        have LV := lives_any wr (HML.out.below hbl hlt)
        have HBL := Lib.hid hbl
        clear htab htas hbl
        go_wp2_with fail
        refine LV.mono ?_
        rintro e w9 ⟨rfl, hb9⟩
        have HBM := Lib.hid (HBL.out.trans (hb9.mono HBL.out.size))
        clear hb9 LV
        go_wp2_with fail
        go_ret
        exact ⟨rfl, HBM.out⟩
end Go.Proofs.YtecdkpcapalifaaDoor

