/- The walk of QuestionValid. -/
import Derived.Test.YtmkkegigajmhkaaM17
import Derived.Test.YtmkkegigajmhkaaM14
set_option linter.unusedVariables false
namespace Go.Proofs.Ytmkkegigajmhkaa
open Go.RowKit Go.Maps

/-- a table in a block -/
structure TbE (W : World) (g i : Nat) (va vc vk : Value) (T : Tb) : Prop where
  c0 : W.cell? ⟨g, i * 3, none⟩ = some va
  c1 : W.cell? ⟨g, i * 3 + 1, none⟩ = some vc
  c2 : W.cell? ⟨g, i * 3 + 2, none⟩ = some vk
  rd : TbR W va vc vk T
  lt : g < W.heap.size
theorem TbE.below {W W' : World} {g i : Nat} {va vc vk : Value} {T : Tb} (h : TbE W g i va vc vk T) (hb : Below W.heap.size W W') : TbE W' g i va vc vk T :=
  ⟨(hb.cell (p := ⟨g, i * 3, none⟩) h.lt).trans h.c0, (hb.cell (p := ⟨g, i * 3 + 1, none⟩) h.lt).trans h.c1, (hb.cell (p := ⟨g, i * 3 + 2, none⟩) h.lt).trans h.c2, h.rd.below hb, Nat.lt_of_lt_of_le h.lt hb.size⟩
/-- tables in a block -/
def TbS (W : World) (g : Nat) (Ts : List Tb) : Prop := ∀ (i : Nat) (T : Tb), Ts[i]? = some T → ∃ aa ca ac cc ak ck, TbE W g i (.slice aa T.rows.length ca) (.slice ac T.costs.length cc) (.slice ak T.cls.length ck) T
theorem TbS.below {W W' : World} {g : Nat} {Ts : List Tb} (h : TbS W g Ts) (hb : Below W.heap.size W W') : TbS W' g Ts := fun i T hT => by
  obtain ⟨aa, ca, ac, cc, ak, ck, h1⟩ := h i T hT
  exact ⟨aa, ca, ac, cc, ak, ck, h1.below hb⟩
theorem hg_len (T : Tb) : (groups T).length ≤ 64 := by
  unfold groups
  split
  · rename_i hv
    have := (grpOk_N T T.rows.length).len
    have := ((okT_iff T).1 hv).r64
    omega
  · simp
theorem cell_lt {W : World} {b o : Nat} {v : Value} (h : W.cell? ⟨b, o, none⟩ = some v) : b < W.heap.size := by
  by_cases hb : b < W.heap.size
  · exact hb
  · simp [World.cell?, show W.heap[b]? = none from Array.getElem?_eq_none (by omega)] at h
def tb0 : Tb := ⟨[], [], []⟩
theorem tb0_rd (W : World) : TbR W (.slice none 0 0) (.slice none 0 0) (.slice none 0 0) tb0 := ⟨RdR.none W, RdI.none W, RdI.none W⟩
theorem TbS.five {w : World} {T1 T2 T3 T4 : Tb} {aa1 ac1 ak1 : Option Addr} {ca1 cc1 ck1 : Nat} {aa2 ac2 ak2 : Option Addr} {ca2 cc2 ck2 : Nat} {aa3 ac3 ak3 : Option Addr} {ca3 cc3 ck3 : Nat} {aa4 ac4 ak4 : Option Addr} {ca4 cc4 ck4 : Nat}
    (h1 : TbR w (.slice aa1 T1.rows.length ca1) (.slice ac1 T1.costs.length cc1) (.slice ak1 T1.cls.length ck1) T1) (h2 : TbR w (.slice aa2 T2.rows.length ca2) (.slice ac2 T2.costs.length cc2) (.slice ak2 T2.cls.length ck2) T2) (h3 : TbR w (.slice aa3 T3.rows.length ca3) (.slice ac3 T3.costs.length cc3) (.slice ak3 T3.cls.length ck3) T3) (h4 : TbR w (.slice aa4 T4.rows.length ca4) (.slice ac4 T4.costs.length cc4) (.slice ak4 T4.cls.length ck4) T4) :
    TbS (w.alloc (.cells #[.slice aa1 T1.rows.length ca1, .slice ac1 T1.costs.length cc1, .slice ak1 T1.cls.length ck1, .slice aa2 T2.rows.length ca2, .slice ac2 T2.costs.length cc2, .slice ak2 T2.cls.length ck2, .slice aa3 T3.rows.length ca3, .slice ac3 T3.costs.length cc3, .slice ak3 T3.cls.length ck3, .slice aa4 T4.rows.length ca4, .slice ac4 T4.costs.length cc4, .slice ak4 T4.cls.length ck4, .slice none 0 0, .slice none 0 0, .slice none 0 0] 25)) w.heap.size [T1, T2, T3, T4, tb0] := by
  intro i T hT
  have hb := alloc_below w (.cells #[.slice aa1 T1.rows.length ca1, .slice ac1 T1.costs.length cc1, .slice ak1 T1.cls.length ck1, .slice aa2 T2.rows.length ca2, .slice ac2 T2.costs.length cc2, .slice ak2 T2.cls.length ck2, .slice aa3 T3.rows.length ca3, .slice ac3 T3.costs.length cc3, .slice ak3 T3.cls.length ck3, .slice aa4 T4.rows.length ca4, .slice ac4 T4.costs.length cc4, .slice ak4 T4.cls.length ck4, .slice none 0 0, .slice none 0 0, .slice none 0 0] 25)
  have hx := Boxs.new w 25 #[.slice aa1 T1.rows.length ca1, .slice ac1 T1.costs.length cc1, .slice ak1 T1.cls.length ck1, .slice aa2 T2.rows.length ca2, .slice ac2 T2.costs.length cc2, .slice ak2 T2.cls.length ck2, .slice aa3 T3.rows.length ca3, .slice ac3 T3.costs.length cc3, .slice ak3 T3.cls.length ck3, .slice aa4 T4.rows.length ca4, .slice ac4 T4.costs.length cc4, .slice ak4 T4.cls.length ck4, .slice none 0 0, .slice none 0 0, .slice none 0 0]
  have hlt : w.heap.size < (w.alloc (.cells #[.slice aa1 T1.rows.length ca1, .slice ac1 T1.costs.length cc1, .slice ak1 T1.cls.length ck1, .slice aa2 T2.rows.length ca2, .slice ac2 T2.costs.length cc2, .slice ak2 T2.cls.length ck2, .slice aa3 T3.rows.length ca3, .slice ac3 T3.costs.length cc3, .slice ak3 T3.cls.length ck3, .slice aa4 T4.rows.length ca4, .slice ac4 T4.costs.length cc4, .slice ak4 T4.cls.length ck4, .slice none 0 0, .slice none 0 0, .slice none 0 0] 25)).heap.size := by simp
  match i, hT with
  | 0, hT => cases hT; exact ⟨_, _, _, _, _, _, ⟨(hx.cell 0).trans rfl, (hx.cell 1).trans rfl, (hx.cell 2).trans rfl, h1.below hb, hlt⟩⟩
  | 1, hT => cases hT; exact ⟨_, _, _, _, _, _, ⟨(hx.cell 3).trans rfl, (hx.cell 4).trans rfl, (hx.cell 5).trans rfl, h2.below hb, hlt⟩⟩
  | 2, hT => cases hT; exact ⟨_, _, _, _, _, _, ⟨(hx.cell 6).trans rfl, (hx.cell 7).trans rfl, (hx.cell 8).trans rfl, h3.below hb, hlt⟩⟩
  | 3, hT => cases hT; exact ⟨_, _, _, _, _, _, ⟨(hx.cell 9).trans rfl, (hx.cell 10).trans rfl, (hx.cell 11).trans rfl, h4.below hb, hlt⟩⟩
  | 4, hT => cases hT; exact ⟨_, _, _, _, _, _, ⟨(hx.cell 12).trans rfl, (hx.cell 13).trans rfl, (hx.cell 14).trans rfl, tb0_rd _, hlt⟩⟩
set_option maxRecDepth 100000 in
set_option maxHeartbeats 16000000 in
theorem questionValid_any (v : Value) (l : List Int) (how by_ : Int) (w : World) (h : RdI w v l) (il : inI l) (hh1 : -9223372036854775808 ≤ how) (hh2 : how ≤ 9223372036854775807) (hb1 : -9223372036854775808 ≤ by_) (hb2 : by_ ≤ 9223372036854775807) :
    Calls Try.prog 3 #[v, .int .i64 how, .int .i64 by_] w fun e w' => e = .returned (.bool true) ∧ Below w.heap.size w w' := by
  have MK := made_any v l w h il
  have hok := made_ok l
  obtain ⟨T1, hT1⟩ : ∃ T, madeT l = T := ⟨_, rfl⟩
  rw [hT1] at MK hok
  have hs1 := ok_sm hok
  have hs2 := spoilT_sm hs1 how by_
  obtain ⟨T2, hT2⟩ : ∃ T, spoilT T1 how by_ = T := ⟨_, rfl⟩
  rw [hT2] at hs2
  obtain ⟨T3, hT3⟩ : ∃ T, spoilT T2 by_ how = T := ⟨_, rfl⟩
  obtain ⟨T4, hT4⟩ : ∃ T, plainT T1 = T := ⟨_, rfl⟩
  have H2 := Lib.hid hT2; have H3 := Lib.hid hT3; have H4 := Lib.hid hT4; have HOK := Lib.hid hok; have HS1 := Lib.hid (hs1.sm (by omega)); have HS2 := Lib.hid (hs2.sm (by omega))
  obtain ⟨av, cv, rfl⟩ := h.form
  clear h il hT1 hT2 hT3 hT4 hok hs1 hs2
  go_enter Try.func3, Try.ntmps3
  go_wp2_with fail
  with_reducible refine MK.mono ?_
  rintro e w1 ⟨⟨va, vc, vk, us, rfl, hown⟩, hb1'⟩
  have htb := hown.tb
  obtain ⟨aa1, ca1, rfl⟩ := htb.rows.form
  obtain ⟨ac1, cc1, rfl⟩ := htb.costs.form
  obtain ⟨ak1, ck1, rfl⟩ := htb.cls.form
  have hba := alloc_below w1 (.cells #[.slice aa1 T1.rows.length ca1, .slice ac1 T1.costs.length cc1, .slice ak1 T1.cls.length ck1] 25)
  obtain ⟨W2, hW2⟩ : ∃ W, w1.alloc (.cells #[.slice aa1 T1.rows.length ca1, .slice ac1 T1.costs.length cc1, .slice ak1 T1.cls.length ck1] 25) = W := ⟨_, rfl⟩
  have BX1 := Lib.hid (show Boxs W2 w1.heap.size 25 #[.slice aa1 T1.rows.length ca1, .slice ac1 T1.costs.length cc1, .slice ak1 T1.cls.length ck1] by rw [← hW2]; exact Boxs.new w1 25 _)
  rw [hW2] at hba
  have HT1 := Lib.hid (htb.below hba)
  have HB := Lib.hid (hb1'.trans (hba.mono hb1'.size))
  obtain ⟨b1, hB1⟩ : ∃ b, w1.heap.size = b := ⟨_, rfl⟩
  rw [hB1] at BX1
  have SP := spoil_any _ _ _ T1 how by_ W2 HT1.out HS1.out hb1 hb2 hh1 hh2
  rw [H2.out] at SP
  clear hown htb hb1' hba MK
  have p10 := BX1.out.cell 0; have p11 := BX1.out.cell 1; have p12 := BX1.out.cell 2
  have q1 := BX1.out.lt
  simp only [List.getElem?_toArray, List.getElem?_cons_zero, List.getElem?_cons_succ] at p10 p11 p12
  go_wp2_with fail
  clear hW2 hB1
  with_reducible refine SP.mono ?_
  rintro e w3 ⟨⟨va, vc, vk, us, rfl, hown⟩, hb⟩
  have htb := hown.tb
  obtain ⟨aa2, ca2, rfl⟩ := htb.rows.form
  obtain ⟨ac2, cc2, rfl⟩ := htb.costs.form
  obtain ⟨ak2, ck2, rfl⟩ := htb.cls.form
  have hba := alloc_below w3 (.cells #[.slice aa2 T2.rows.length ca2, .slice ac2 T2.costs.length cc2, .slice ak2 T2.cls.length ck2] 25)
  obtain ⟨W4, hW4⟩ : ∃ W, w3.alloc (.cells #[.slice aa2 T2.rows.length ca2, .slice ac2 T2.costs.length cc2, .slice ak2 T2.cls.length ck2] 25) = W := ⟨_, rfl⟩
  have BX2 := Lib.hid (show Boxs W4 w3.heap.size 25 #[.slice aa2 T2.rows.length ca2, .slice ac2 T2.costs.length cc2, .slice ak2 T2.cls.length ck2] by rw [← hW4]; exact Boxs.new w3 25 _)
  rw [hW4] at hba
  have hb4 := hb.trans (hba.mono hb.size)
  have HT2 := Lib.hid (htb.below hba)
  have HT1 := Lib.hid (HT1.out.below hb4)
  have BX1 := Lib.hid (Boxs.below BX1.out hb4)
  have hsz := HB.out.size
  have HB := Lib.hid (HB.out.trans (hb4.mono hsz))
  obtain ⟨b2, hB2⟩ : ∃ b, w3.heap.size = b := ⟨_, rfl⟩
  rw [hB2] at BX2
  have SP := fun (W : World) (hW : Below W4.heap.size W4 W) => spoil_any _ _ _ T2 by_ how W (HT2.out.below hW) HS2.out hh1 hh2 hb1 hb2
  have PL := fun (W : World) (hW : Below W4.heap.size W4 W) => plain_any _ _ _ T1 W (HT1.out.below hW) HOK.out
  rw [H3.out] at SP
  rw [H4.out] at PL
  clear hown htb hb hba hb4 hsz p10 p11 p12 q1
  go_wp2_with fail
  clear hW4 hB2
  refine wp_region_E (fun W => W.cell? ⟨b1, 0, none⟩ = some (.slice aa1 T1.rows.length ca1) ∧ W.cell? ⟨b1, 1, none⟩ = some (.slice ac1 T1.costs.length cc1) ∧ W.cell? ⟨b1, 2, none⟩ = some (.slice ak1 T1.cls.length ck1) ∧ W.cell? ⟨b2, 0, none⟩ = some (.slice aa2 T2.rows.length ca2) ∧ W.cell? ⟨b2, 1, none⟩ = some (.slice ac2 T2.costs.length cc2) ∧ W.cell? ⟨b2, 2, none⟩ = some (.slice ak2 T2.cls.length ck2)) (by kernel_rfl) ?_
  have hdr : (W4).drew = { W4 with drawn := (W4).drawn + 1 } := rfl
  rw [← hdr]
  clear hdr
  change wpAnyE _ _ _ _ _ _ _ _ ((W4).drewN 1)
  refine wpAnyETake 0 (some 24) (.agg #[.slice aa1 T1.rows.length ca1, .slice ac1 T1.costs.length cc1, .slice ak1 T1.cls.length ck1]) rfl rfl (by kernel_rfl) (by kernel_rfl) (by kernel_rfl) (by kernel_rfl) (fun _ _ _ h => h) (by rfl) (fun W hW => by obtain ⟨p0, p1, p2, p3, p4, p5⟩ := hW; go_simp) (⟨BX1.out.cell 0, BX1.out.cell 1, BX1.out.cell 2, BX2.out.cell 0, BX2.out.cell 1, BX2.out.cell 2⟩) ?_
  try simp only [Act.put, List.setIfInBounds_toArray, List.set_cons_zero, List.set_cons_succ]
  refine wpAnyETake 1 (some 25) (.agg #[.slice aa2 T2.rows.length ca2, .slice ac2 T2.costs.length cc2, .slice ak2 T2.cls.length ck2]) rfl rfl (by kernel_rfl) (by kernel_rfl) (by kernel_rfl) (by kernel_rfl) (fun _ _ _ h => h) (by rfl) (fun W hW => by obtain ⟨p0, p1, p2, p3, p4, p5⟩ := hW; go_simp) (⟨BX1.out.cell 0, BX1.out.cell 1, BX1.out.cell 2, BX2.out.cell 0, BX2.out.cell 1, BX2.out.cell 2⟩) ?_
  try simp only [Act.put, List.setIfInBounds_toArray, List.set_cons_zero, List.set_cons_succ]
  refine wpAnyETake 2 (some 26) (.agg #[.slice aa2 T2.rows.length ca2, .slice ac2 T2.costs.length cc2, .slice ak2 T2.cls.length ck2]) rfl rfl (by kernel_rfl) (by kernel_rfl) (by kernel_rfl) (by kernel_rfl) (fun _ _ _ h => h) (by rfl) (fun W hW => by obtain ⟨p0, p1, p2, p3, p4, p5⟩ := hW; go_simp) (⟨BX1.out.cell 0, BX1.out.cell 1, BX1.out.cell 2, BX2.out.cell 0, BX2.out.cell 1, BX2.out.cell 2⟩) ?_
  try simp only [Act.put, List.setIfInBounds_toArray, List.set_cons_zero, List.set_cons_succ]
  refine wpAnyETake 3 (some 27) (.int .i64 by_) rfl rfl (by kernel_rfl) (by kernel_rfl) (by kernel_rfl) (by kernel_rfl) (fun _ _ _ h => h) (by rfl) (fun _ _ => by rfl) (⟨BX1.out.cell 0, BX1.out.cell 1, BX1.out.cell 2, BX2.out.cell 0, BX2.out.cell 1, BX2.out.cell 2⟩) ?_
  try simp only [Act.put, List.setIfInBounds_toArray, List.set_cons_zero, List.set_cons_succ]
  refine wpAnyETake 4 (some 28) (.int .i64 how) rfl rfl (by kernel_rfl) (by kernel_rfl) (by kernel_rfl) (by kernel_rfl) (fun _ _ _ h => h) (by rfl) (fun _ _ => by rfl) (⟨BX1.out.cell 0, BX1.out.cell 1, BX1.out.cell 2, BX2.out.cell 0, BX2.out.cell 1, BX2.out.cell 2⟩) ?_
  try simp only [Act.put, List.setIfInBounds_toArray, List.set_cons_zero, List.set_cons_succ]
  refine wpAnyETake 6 (some 30) (.agg #[.slice aa1 T1.rows.length ca1, .slice ac1 T1.costs.length cc1, .slice ak1 T1.cls.length ck1]) rfl rfl (by kernel_rfl) (by kernel_rfl) (by kernel_rfl) (by kernel_rfl) (fun _ _ _ h => h) (by rfl) (fun W hW => by obtain ⟨p0, p1, p2, p3, p4, p5⟩ := hW; go_simp) (⟨BX1.out.cell 0, BX1.out.cell 1, BX1.out.cell 2, BX2.out.cell 0, BX2.out.cell 1, BX2.out.cell 2⟩) ?_
  try simp only [Act.put, List.setIfInBounds_toArray, List.set_cons_zero, List.set_cons_succ]
  refine wpAnyETake 8 (some 32) (.agg #[.slice none 0 0, .slice none 0 0, .slice none 0 0]) rfl rfl (by kernel_rfl) (by kernel_rfl) (by kernel_rfl) (by kernel_rfl) (fun _ _ _ h => h) (by rfl) (fun _ _ => by go_simp) (⟨BX1.out.cell 0, BX1.out.cell 1, BX1.out.cell 2, BX2.out.cell 0, BX2.out.cell 1, BX2.out.cell 2⟩) ?_
  try simp only [Act.put, List.setIfInBounds_toArray, List.set_cons_zero, List.set_cons_succ]
  refine wpAnyEOne 5 (by kernel_rfl) ?_
  refine wpOpCall (some 29) 11 #[.agg #[.slice aa2 T2.rows.length ca2, .slice ac2 T2.costs.length cc2, .slice ak2 T2.cls.length ck2], .int .i64 by_, .int .i64 how] rfl rfl rfl (by go_simp) (SP (W4.drewN 1) (Below.dn (Below.refl _ _) 1)) ?_
  rintro e w5 ⟨⟨va, vc, vk, us, rfl, hown⟩, hb⟩
  have hb45 := (Below.dn (Below.refl W4.heap.size W4) 1).trans hb
  have htb := hown.tb
  obtain ⟨aa3, ca3, rfl⟩ := htb.rows.form
  obtain ⟨ac3, cc3, rfl⟩ := htb.costs.form
  obtain ⟨ak3, ck3, rfl⟩ := htb.cls.form
  have b15 := Boxs.below BX1.out hb45
  have b25 := Boxs.below BX2.out hb45
  refine ⟨_, rfl, ?_⟩
  refine ⟨.inl (⟨b15.cell 0, b15.cell 1, b15.cell 2, b25.cell 0, b25.cell 1, b25.cell 2⟩), ?_⟩
  try simp only [Act.put, List.setIfInBounds_toArray, List.set_cons_zero, List.set_cons_succ]
  refine wpAnyEOne 7 (by kernel_rfl) ?_
  refine wpOpCall (some 31) 12 #[.agg #[.slice aa1 T1.rows.length ca1, .slice ac1 T1.costs.length cc1, .slice ak1 T1.cls.length ck1]] rfl rfl rfl (by go_simp) (PL w5 hb45) ?_
  rintro e w6 ⟨⟨va, vc, vk, us6, rfl, hown6⟩, hb6⟩
  have htb6 := hown6.tb
  obtain ⟨aa4, ca4, rfl⟩ := htb6.rows.form
  obtain ⟨ac4, cc4, rfl⟩ := htb6.costs.form
  obtain ⟨ak4, ck4, rfl⟩ := htb6.cls.form
  have hb46 := hb45.trans (hb6.mono hb45.size)
  have b16 := Boxs.below BX1.out hb46
  have b26 := Boxs.below BX2.out hb46
  refine ⟨_, rfl, ?_⟩
  refine ⟨.inl (⟨b16.cell 0, b16.cell 1, b16.cell 2, b26.cell 0, b26.cell 1, b26.cell 2⟩), ?_⟩
  try simp only [Act.put, List.setIfInBounds_toArray, List.set_cons_zero, List.set_cons_succ]
  refine wpAnyEOne 9 (by kernel_rfl) ?_
  refine wpOpRun' (v := .slice (some ⟨w6.heap.size, 0, none⟩) 5 5) (w' := (w6.alloc (.cells #[.slice aa1 T1.rows.length ca1, .slice ac1 T1.costs.length cc1, .slice ak1 T1.cls.length ck1, .slice aa2 T2.rows.length ca2, .slice ac2 T2.costs.length cc2, .slice ak2 T2.cls.length ck2, .slice aa3 T3.rows.length ca3, .slice ac3 T3.costs.length cc3, .slice ak3 T3.cls.length ck3, .slice aa4 T4.rows.length ca4, .slice ac4 T4.costs.length cc4, .slice ak4 T4.cls.length ck4, .slice none 0 0, .slice none 0 0, .slice none 0 0] 25))) (some 33) rfl rfl rfl (by go_simp <;> rfl) ?_
  have hb7 := alloc_below w6 (.cells #[.slice aa1 T1.rows.length ca1, .slice ac1 T1.costs.length cc1, .slice ak1 T1.cls.length ck1, .slice aa2 T2.rows.length ca2, .slice ac2 T2.costs.length cc2, .slice ak2 T2.cls.length ck2, .slice aa3 T3.rows.length ca3, .slice ac3 T3.costs.length cc3, .slice ak3 T3.cls.length ck3, .slice aa4 T4.rows.length ca4, .slice ac4 T4.costs.length cc4, .slice ak4 T4.cls.length ck4, .slice none 0 0, .slice none 0 0, .slice none 0 0] 25)
  have b17 := Boxs.below b16 hb7
  have b27 := Boxs.below b26 hb7
  refine ⟨.inl (⟨b17.cell 0, b17.cell 1, b17.cell 2, b27.cell 0, b27.cell 1, b27.cell 2⟩), ?_⟩
  try simp only [Act.put, List.setIfInBounds_toArray, List.set_cons_zero, List.set_cons_succ]
  refine wpAnyEOne 10 (by kernel_rfl) ?_
  refine wpOpRun' (v := .slice (some ⟨w6.heap.size, 0, none⟩) 5 5) (w' := (w6.alloc (.cells #[.slice aa1 T1.rows.length ca1, .slice ac1 T1.costs.length cc1, .slice ak1 T1.cls.length ck1, .slice aa2 T2.rows.length ca2, .slice ac2 T2.costs.length cc2, .slice ak2 T2.cls.length ck2, .slice aa3 T3.rows.length ca3, .slice ac3 T3.costs.length cc3, .slice ak3 T3.cls.length ck3, .slice aa4 T4.rows.length ca4, .slice ac4 T4.costs.length cc4, .slice ak4 T4.cls.length ck4, .slice none 0 0, .slice none 0 0, .slice none 0 0] 25))) (some 9) rfl rfl rfl (by rfl) ?_
  refine ⟨.inr (allUp_of (by kernel_rfl)), ?_⟩
  try simp only [Act.put, List.setIfInBounds_toArray, List.set_cons_zero, List.set_cons_succ]
  refine wpAnyE_done (by kernel_rfl) ?_ _
  have TS := Lib.hid (TbS.five (HT1.out.below hb46) (HT2.out.below hb46) (htb.below hb6) htb6)
  have hb47 := hb46.trans (hb7.mono hb46.size)
  have hsz := HB.out.size
  have HB := Lib.hid (HB.out.trans (hb47.mono hsz))
  obtain ⟨g, hg⟩ : ∃ g, w6.heap.size = g := ⟨_, rfl⟩
  rw [hg] at TS ⊢
  clear hb46 hb6 hb7 b17 b27 b16 b26 b15 b25 htb6 hown6 hown htb hb hb45 hb47 hsz SP PL HT1 HT2 BX1 BX2 H2 H3 H4 HOK HS1 HS2
  generalize (w6.alloc (.cells #[.slice aa1 T1.rows.length ca1, .slice ac1 T1.costs.length cc1, .slice ak1 T1.cls.length ck1, .slice aa2 T2.rows.length ca2, .slice ac2 T2.costs.length cc2, .slice ak2 T2.cls.length ck2, .slice aa3 T3.rows.length ca3, .slice ac3 T3.costs.length cc3, .slice ak3 T3.cls.length ck3, .slice aa4 T4.rows.length ca4, .slice ac4 T4.costs.length cc4, .slice ak4 T4.cls.length ck4, .slice none 0 0, .slice none 0 0, .slice none 0 0] 25)) = w7 at *
  clear hg
  go_wp2_with fail
  go_loopw [10] (fun iv wr => ∃ i : Nat, i ≤ 5 ∧ iv = .int .i64 i ∧ Below w7.heap.size w7 wr) (fun iv _ => 5 - (intOf iv).toNat)
  case atStart => exact ⟨0, by omega, rfl, Below.refl _ _⟩
  case round =>
    obtain ⟨i, hi, rfl, hbr⟩ := hrel
    have hi0 : (0 : Int) ≤ (i : Int) := Int.natCast_nonneg _
    have HBR := Lib.hid hbr
    clear hbr
    by_cases hlt : i < 5
    · have hi1 : (i : Int) < 5 := by omega
      obtain ⟨T, hT⟩ := elem_at (show i < [T1, T2, T3, T4, tb0].length from hlt)
      obtain ⟨aa, ca, ac, cc, ak, ck, hte⟩ := (TS.out.below HBR.out) i T hT
      have HE := Lib.hid hte
      have OW := fun (W : World) => own_any aa ac ak T.rows.length T.costs.length T.cls.length ca cc ck W
      clear hT hte
      have c0 := HE.out.c0; have c1 := HE.out.c1; have c2 := HE.out.c2; have hgl := HE.out.lt
      have XX := OW wr
      go_wp2_with fail
      with_reducible refine XX.mono ?_
      rintro e w8 ⟨rfl, hb⟩
      have HE := Lib.hid (HE.out.below hb)
      have HBR := Lib.hid (HBR.out.trans (hb.mono HBR.out.size))
      clear hb XX c0 c1 c2 hgl
      have c0 := HE.out.c0; have c1 := HE.out.c1; have c2 := HE.out.c2; have hgl := HE.out.lt
      have XX := twins_any _ _ _ T w8 HE.out.rd
      unfold TwOut at XX
      go_wp2_with fail
      with_reducible refine XX.mono ?_
      rintro e w9 ⟨⟨x, y, tw, rfl, htw⟩, hb⟩
      have HE := Lib.hid (HE.out.below hb)
      have HBR := Lib.hid (HBR.out.trans (hb.mono HBR.out.size))
      clear hb XX c0 c1 c2 hgl
      have HTW := Lib.hid htw
      clear htw
      have hb := alloc_below w9 (.cells #[.int .i64 x, .int .i64 y] 30)
      obtain ⟨b11, hB11⟩ : ∃ b, w9.heap.size = b := ⟨_, rfl⟩
      have hbx := Boxs.new w9 30 #[.int .i64 x, .int .i64 y]
      obtain ⟨W11, hW11⟩ : ∃ W', w9.alloc (.cells #[.int .i64 x, .int .i64 y] 30) = W' := ⟨_, rfl⟩
      rw [hB11, hW11] at hbx
      rw [hW11] at hb
      have HE := Lib.hid (HE.out.below hb)
      have HBR := Lib.hid (HBR.out.trans (hb.mono HBR.out.size))
      have BX11 := Lib.hid hbx
      clear hb hbx
      have c0 := HE.out.c0; have c1 := HE.out.c1; have c2 := HE.out.c2; have hgl := HE.out.lt
      have XX := rtwins_any _ _ _ T W11 HE.out.rd
      unfold TwOut at XX
      go_wp2_with fail
      with_reducible refine XX.mono ?_
      rintro e w12 ⟨⟨x2, y2, tw2, rfl, htw2⟩, hb⟩
      obtain ⟨rfl, rfl, rfl⟩ := htw2.uniq HTW.out
      have BX11 := Lib.hid (Boxs.below BX11.out hb)
      have HE := Lib.hid (HE.out.below hb)
      have HBR := Lib.hid (HBR.out.trans (hb.mono HBR.out.size))
      clear hb XX c0 c1 c2 hgl htw2 HTW hW11 hB11
      have hb := alloc_below w12 (.cells #[.int .i64 x2, .int .i64 y2] 30)
      obtain ⟨b13, hB13⟩ : ∃ b, w12.heap.size = b := ⟨_, rfl⟩
      have hbx := Boxs.new w12 30 #[.int .i64 x2, .int .i64 y2]
      obtain ⟨W13, hW13⟩ : ∃ W', w12.alloc (.cells #[.int .i64 x2, .int .i64 y2] 30) = W' := ⟨_, rfl⟩
      rw [hB13, hW13] at hbx
      rw [hW13] at hb
      have HE := Lib.hid (HE.out.below hb)
      have HBR := Lib.hid (HBR.out.trans (hb.mono HBR.out.size))
      have BX13 := Lib.hid hbx
      have BX11 := Lib.hid (Boxs.below BX11.out hb)
      clear hb hbx
      have c0 := HE.out.c0; have c1 := HE.out.c1; have c2 := HE.out.c2; have hgl := HE.out.lt
      have hvv : (validE T != validE T) = false := by simp
      have hbb : (tw2 != tw2) = false := by simp
      have hep : eqP (x2, y2) (x2, y2) = true := eqP_self _
      go_wp2_with fail
      clear hW13 hB13
      refine wp_region_E (fun W => W.cell? ⟨g, i * 3, none⟩ = some (.slice aa T.rows.length ca) ∧ W.cell? ⟨g, i * 3 + 1, none⟩ = some (.slice ac T.costs.length cc) ∧ W.cell? ⟨g, i * 3 + 2, none⟩ = some (.slice ak T.cls.length ck) ∧ W.cell? ⟨b11, 0, none⟩ = some (.int .i64 x2) ∧ W.cell? ⟨b11, 1, none⟩ = some (.int .i64 y2) ∧ W.cell? ⟨b13, 0, none⟩ = some (.int .i64 x2) ∧ W.cell? ⟨b13, 1, none⟩ = some (.int .i64 y2)) (by kernel_rfl) ?_
      have hdr : (W13).drew = { W13 with drawn := (W13).drawn + 1 } := rfl
      rw [← hdr]
      clear hdr
      change wpAnyE _ _ _ _ _ _ _ _ ((W13).drewN 1)
      refine wpAnyETake 0 (some 57) (.slice (some ⟨g, 0, none⟩) 5 5) rfl rfl (by kernel_rfl) (by kernel_rfl) (by kernel_rfl) (by kernel_rfl) (fun _ _ _ h => h) (by rfl) (fun _ _ => by rfl) (⟨HE.out.c0, HE.out.c1, HE.out.c2, BX11.out.cell 0, BX11.out.cell 1, BX13.out.cell 0, BX13.out.cell 1⟩) ?_
      try simp only [Act.put, List.setIfInBounds_toArray, List.set_cons_zero, List.set_cons_succ]
      refine wpAnyETake 1 (some 58) (.int .i64 (i : Int)) rfl rfl (by kernel_rfl) (by kernel_rfl) (by kernel_rfl) (by kernel_rfl) (fun _ _ _ h => h) (by rfl) (fun _ _ => by rfl) (⟨HE.out.c0, HE.out.c1, HE.out.c2, BX11.out.cell 0, BX11.out.cell 1, BX13.out.cell 0, BX13.out.cell 1⟩) ?_
      try simp only [Act.put, List.setIfInBounds_toArray, List.set_cons_zero, List.set_cons_succ]
      refine wpAnyETake 2 (some 59) (.pointer (some ⟨g, i * 3, none⟩)) rfl rfl (by kernel_rfl) (by kernel_rfl) (by kernel_rfl) (by kernel_rfl) (fun _ _ _ h => h) (by rfl) (fun _ _ => by go_simp) (⟨HE.out.c0, HE.out.c1, HE.out.c2, BX11.out.cell 0, BX11.out.cell 1, BX13.out.cell 0, BX13.out.cell 1⟩) ?_
      try simp only [Act.put, List.setIfInBounds_toArray, List.set_cons_zero, List.set_cons_succ]
      refine wpAnyETake 3 (some 60) (.agg #[.slice aa T.rows.length ca, .slice ac T.costs.length cc, .slice ak T.cls.length ck]) rfl rfl (by kernel_rfl) (by kernel_rfl) (by kernel_rfl) (by kernel_rfl) (fun _ _ _ h => h) (by rfl) (fun W hW => by obtain ⟨c0, c1, c2, p0, p1, q0, q1⟩ := hW; go_simp) (⟨HE.out.c0, HE.out.c1, HE.out.c2, BX11.out.cell 0, BX11.out.cell 1, BX13.out.cell 0, BX13.out.cell 1⟩) ?_
      try simp only [Act.put, List.setIfInBounds_toArray, List.set_cons_zero, List.set_cons_succ]
      refine wpAnyETake 6 (some 63) (.slice (some ⟨g, 0, none⟩) 5 5) rfl rfl (by kernel_rfl) (by kernel_rfl) (by kernel_rfl) (by kernel_rfl) (fun _ _ _ h => h) (by rfl) (fun _ _ => by rfl) (⟨HE.out.c0, HE.out.c1, HE.out.c2, BX11.out.cell 0, BX11.out.cell 1, BX13.out.cell 0, BX13.out.cell 1⟩) ?_
      try simp only [Act.put, List.setIfInBounds_toArray, List.set_cons_zero, List.set_cons_succ]
      refine wpAnyETake 7 (some 64) (.int .i64 (i : Int)) rfl rfl (by kernel_rfl) (by kernel_rfl) (by kernel_rfl) (by kernel_rfl) (fun _ _ _ h => h) (by rfl) (fun _ _ => by rfl) (⟨HE.out.c0, HE.out.c1, HE.out.c2, BX11.out.cell 0, BX11.out.cell 1, BX13.out.cell 0, BX13.out.cell 1⟩) ?_
      try simp only [Act.put, List.setIfInBounds_toArray, List.set_cons_zero, List.set_cons_succ]
      refine wpAnyETake 8 (some 65) (.pointer (some ⟨g, i * 3, none⟩)) rfl rfl (by kernel_rfl) (by kernel_rfl) (by kernel_rfl) (by kernel_rfl) (fun _ _ _ h => h) (by rfl) (fun _ _ => by go_simp) (⟨HE.out.c0, HE.out.c1, HE.out.c2, BX11.out.cell 0, BX11.out.cell 1, BX13.out.cell 0, BX13.out.cell 1⟩) ?_
      try simp only [Act.put, List.setIfInBounds_toArray, List.set_cons_zero, List.set_cons_succ]
      refine wpAnyETake 9 (some 66) (.agg #[.slice aa T.rows.length ca, .slice ac T.costs.length cc, .slice ak T.cls.length ck]) rfl rfl (by kernel_rfl) (by kernel_rfl) (by kernel_rfl) (by kernel_rfl) (fun _ _ _ h => h) (by rfl) (fun W hW => by obtain ⟨c0, c1, c2, p0, p1, q0, q1⟩ := hW; go_simp) (⟨HE.out.c0, HE.out.c1, HE.out.c2, BX11.out.cell 0, BX11.out.cell 1, BX13.out.cell 0, BX13.out.cell 1⟩) ?_
      try simp only [Act.put, List.setIfInBounds_toArray, List.set_cons_zero, List.set_cons_succ]
      have hbn := Below.dn (Below.refl W13.heap.size W13) 1
      refine wpAnyEOne 4 (by kernel_rfl) ?_
      refine wpOpCall (some 61) 14 #[.agg #[.slice aa T.rows.length ca, .slice ac T.costs.length cc, .slice ak T.cls.length ck]] rfl rfl rfl (by go_simp) (OW (W13.drewN 1)) ?_
      rintro e w14 ⟨rfl, hb⟩
      have hbn := hbn.trans (hb.mono hbn.size)
      have he := HE.out.below hbn
      have b1 := Boxs.below BX11.out hbn
      have b3 := Boxs.below BX13.out hbn
      refine ⟨_, rfl, ?_⟩
      refine ⟨.inl (⟨he.c0, he.c1, he.c2, b1.cell 0, b1.cell 1, b3.cell 0, b3.cell 1⟩), ?_⟩
      try simp only [Act.put, List.setIfInBounds_toArray, List.set_cons_zero, List.set_cons_succ]
      refine wpAnyEOne 5 (by kernel_rfl) ?_
      refine wpOpCall (some 62) 16 #[.agg #[.slice aa T.rows.length ca, .slice ac T.costs.length cc, .slice ak T.cls.length ck]] rfl rfl rfl (by go_simp) (valid_any _ _ _ T w14 he.rd) ?_
      rintro e w15 ⟨rfl, hb⟩
      have hbn := hbn.trans (hb.mono hbn.size)
      have he := HE.out.below hbn
      have b1 := Boxs.below BX11.out hbn
      have b3 := Boxs.below BX13.out hbn
      refine ⟨_, rfl, ?_⟩
      refine ⟨.inl (⟨he.c0, he.c1, he.c2, b1.cell 0, b1.cell 1, b3.cell 0, b3.cell 1⟩), ?_⟩
      try simp only [Act.put, List.setIfInBounds_toArray, List.set_cons_zero, List.set_cons_succ]
      refine wpAnyEOne 10 (by kernel_rfl) ?_
      refine wpOpCall (some 67) 17 #[.agg #[.slice aa T.rows.length ca, .slice ac T.costs.length cc, .slice ak T.cls.length ck]] rfl rfl rfl (by go_simp) (rvalid_any _ _ _ T w15 he.rd) ?_
      rintro e w16 ⟨rfl, hb⟩
      have hbn := hbn.trans (hb.mono hbn.size)
      have he := HE.out.below hbn
      have b1 := Boxs.below BX11.out hbn
      have b3 := Boxs.below BX13.out hbn
      refine ⟨_, rfl, ?_⟩
      refine ⟨.inl (⟨he.c0, he.c1, he.c2, b1.cell 0, b1.cell 1, b3.cell 0, b3.cell 1⟩), ?_⟩
      try simp only [Act.put, List.setIfInBounds_toArray, List.set_cons_zero, List.set_cons_succ]
      refine wpAnyETake 11 (some 68) (.bool false) rfl rfl (by kernel_rfl) (by kernel_rfl) (by kernel_rfl) (by kernel_rfl) (fun _ _ _ h => h) (by rfl) (fun _ _ => by go_simp) (⟨he.c0, he.c1, he.c2, b1.cell 0, b1.cell 1, b3.cell 0, b3.cell 1⟩) ?_
      try simp only [Act.put, List.setIfInBounds_toArray, List.set_cons_zero, List.set_cons_succ]
      refine wpAnyETake 12 (some 69) (.bool false) rfl rfl (by kernel_rfl) (by kernel_rfl) (by kernel_rfl) (by kernel_rfl) (fun _ _ _ h => h) (by rfl) (fun _ _ => by rfl) (⟨he.c0, he.c1, he.c2, b1.cell 0, b1.cell 1, b3.cell 0, b3.cell 1⟩) ?_
      try simp only [Act.put, List.setIfInBounds_toArray, List.set_cons_zero, List.set_cons_succ]
      refine wpAnyETake 13 (some 70) (.bool tw2) rfl rfl (by kernel_rfl) (by kernel_rfl) (by kernel_rfl) (by kernel_rfl) (fun _ _ _ h => h) (by rfl) (fun _ _ => by rfl) (⟨he.c0, he.c1, he.c2, b1.cell 0, b1.cell 1, b3.cell 0, b3.cell 1⟩) ?_
      try simp only [Act.put, List.setIfInBounds_toArray, List.set_cons_zero, List.set_cons_succ]
      refine wpAnyETake 14 (some 71) (.bool tw2) rfl rfl (by kernel_rfl) (by kernel_rfl) (by kernel_rfl) (by kernel_rfl) (fun _ _ _ h => h) (by rfl) (fun _ _ => by rfl) (⟨he.c0, he.c1, he.c2, b1.cell 0, b1.cell 1, b3.cell 0, b3.cell 1⟩) ?_
      try simp only [Act.put, List.setIfInBounds_toArray, List.set_cons_zero, List.set_cons_succ]
      refine wpAnyETake 15 (some 72) (.bool false) rfl rfl (by kernel_rfl) (by kernel_rfl) (by kernel_rfl) (by kernel_rfl) (fun _ _ _ h => h) (by rfl) (fun _ _ => by go_simp) (⟨he.c0, he.c1, he.c2, b1.cell 0, b1.cell 1, b3.cell 0, b3.cell 1⟩) ?_
      try simp only [Act.put, List.setIfInBounds_toArray, List.set_cons_zero, List.set_cons_succ]
      refine wpAnyETake 16 (some 73) (.bool false) rfl rfl (by kernel_rfl) (by kernel_rfl) (by kernel_rfl) (by kernel_rfl) (fun _ _ _ h => h) (by rfl) (fun _ _ => by go_simp) (⟨he.c0, he.c1, he.c2, b1.cell 0, b1.cell 1, b3.cell 0, b3.cell 1⟩) ?_
      try simp only [Act.put, List.setIfInBounds_toArray, List.set_cons_zero, List.set_cons_succ]
      refine wpAnyETake 17 (some 74) (.bool false) rfl rfl (by kernel_rfl) (by kernel_rfl) (by kernel_rfl) (by kernel_rfl) (fun _ _ _ h => h) (by rfl) (fun _ _ => by rfl) (⟨he.c0, he.c1, he.c2, b1.cell 0, b1.cell 1, b3.cell 0, b3.cell 1⟩) ?_
      try simp only [Act.put, List.setIfInBounds_toArray, List.set_cons_zero, List.set_cons_succ]
      refine wpAnyETake 18 (some 75) (.agg #[.int .i64 x2, .int .i64 y2]) rfl rfl (by kernel_rfl) (by kernel_rfl) (by kernel_rfl) (by kernel_rfl) (fun _ _ _ h => h) (by rfl) (fun W hW => by obtain ⟨c0, c1, c2, p0, p1, q0, q1⟩ := hW; go_simp) (⟨he.c0, he.c1, he.c2, b1.cell 0, b1.cell 1, b3.cell 0, b3.cell 1⟩) ?_
      try simp only [Act.put, List.setIfInBounds_toArray, List.set_cons_zero, List.set_cons_succ]
      refine wpAnyETake 19 (some 76) (.agg #[.int .i64 x2, .int .i64 y2]) rfl rfl (by kernel_rfl) (by kernel_rfl) (by kernel_rfl) (by kernel_rfl) (fun _ _ _ h => h) (by rfl) (fun W hW => by obtain ⟨c0, c1, c2, p0, p1, q0, q1⟩ := hW; go_simp) (⟨he.c0, he.c1, he.c2, b1.cell 0, b1.cell 1, b3.cell 0, b3.cell 1⟩) ?_
      try simp only [Act.put, List.setIfInBounds_toArray, List.set_cons_zero, List.set_cons_succ]
      refine wpAnyETake 20 (some 77) (.bool false) rfl rfl (by kernel_rfl) (by kernel_rfl) (by kernel_rfl) (by kernel_rfl) (fun _ _ _ h => h) (by rfl) (fun _ _ => by go_simp) (⟨he.c0, he.c1, he.c2, b1.cell 0, b1.cell 1, b3.cell 0, b3.cell 1⟩) ?_
      try simp only [Act.put, List.setIfInBounds_toArray, List.set_cons_zero, List.set_cons_succ]
      refine wpAnyEOne 21 (by kernel_rfl) ?_
      refine wpOpRun' (v := .bool false) (w' := w16) (some 78) rfl rfl rfl (by go_simp) ?_
      refine ⟨.inr (allUp_of (by kernel_rfl)), ?_⟩
      try simp only [Act.put, List.setIfInBounds_toArray, List.set_cons_zero, List.set_cons_succ]
      refine wpAnyE_done (by kernel_rfl) ?_ _
      have HE := Lib.hid (HE.out.below hbn)
      have HBR := Lib.hid (HBR.out.trans (hbn.mono HBR.out.size))
      clear hbn he b1 b3 hb c0 c1 c2 hgl hvv hbb hep BX11 BX13
      have c0 := HE.out.c0; have c1 := HE.out.c1; have c2 := HE.out.c2; have hgl := HE.out.lt
      have XX := OW w16
      go_wp2_with fail
      with_reducible refine XX.mono ?_
      rintro e w17 ⟨rfl, hb⟩
      have HE := Lib.hid (HE.out.below hb)
      have HBR := Lib.hid (HBR.out.trans (hb.mono HBR.out.size))
      clear hb XX c0 c1 c2 hgl
      have c0 := HE.out.c0; have c1 := HE.out.c1; have c2 := HE.out.c2; have hgl := HE.out.lt
      have XX := groups_any _ _ _ T w17 HE.out.rd
      unfold GrpOut at XX
      go_wp2_with fail
      with_reducible refine XX.mono ?_
      rintro e w18 ⟨⟨vg, us, rfl, hg1⟩, hb⟩
      obtain ⟨ag1, cg1, rfl⟩ := owns_form hg1.out
      have HG1 := Lib.hid hg1
      have HE := Lib.hid (HE.out.below hb)
      have HBR := Lib.hid (HBR.out.trans (hb.mono HBR.out.size))
      clear hb XX c0 c1 c2 hgl hg1
      have c0 := HE.out.c0; have c1 := HE.out.c1; have c2 := HE.out.c2; have hgl := HE.out.lt
      have XX := rgroups_any _ _ _ T w18 HE.out.rd
      unfold GrpOut at XX
      go_wp2_with fail
      with_reducible refine XX.mono ?_
      rintro e w19 ⟨⟨vh, vs, rfl, hg2⟩, hb⟩
      obtain ⟨ag2, cg2, rfl⟩ := owns_form hg2.out
      have HG2 := Lib.hid hg2
      have HG1 := Lib.hid (HG1.out.below hb)
      have HE := Lib.hid (HE.out.below hb)
      have HBR := Lib.hid (HBR.out.trans (hb.mono HBR.out.size))
      clear hb XX c0 c1 c2 hgl hg2
      have hll : (((groups T).length : Int) != ((groups T).length : Int)) = false := by simp
      have hg63 := hg_len T
      obtain ⟨w20, hw20⟩ : ∃ W, W = w19 := ⟨_, rfl⟩
      rw [← hw20] at HG1 HG2 HE HBR ⊢
      clear hw20
      go_wp2_with fail
      go_loopw [17] (fun kv wr => ∃ k : Nat, k ≤ (groups T).length ∧ kv = .int .i64 k ∧ Below w20.heap.size w20 wr) (fun kv _ => (groups T).length - (intOf kv).toNat)
      case atStart => exact ⟨0, Nat.zero_le _, rfl, Below.refl _ _⟩
      case round =>
        obtain ⟨k, hk, rfl, hbq⟩ := hrel
        have hk0 : (0 : Int) ≤ (k : Int) := Int.natCast_nonneg _
        have HBQ := Lib.hid hbq
        by_cases hkl : k < (groups T).length
        · have hk1 : (k : Int) < ((groups T).length : Int) := by omega
          have h1 := HG1.out.below hbq
          have h2 := HG2.out.below hbq
          obtain ⟨r, hr⟩ := elem_at hkl
          obtain ⟨u1, hu1, hur1⟩ := h1.row hr
          obtain ⟨u2, hu2, hur2⟩ := h2.row hr
          obtain ⟨x1, y1, rfl⟩ := owns_form hur1
          obtain ⟨x2', y2', rfl⟩ := owns_form hur2
          obtain ⟨g1, d1, hv1⟩ := ownsRow_some h1.out (by omega)
          obtain ⟨g2, d2, hv2⟩ := ownsRow_some h2.out (by omega)
          cases hv1; cases hv2
          have e1 := h1.out.cellAt k (show k < (groups T).length * 1 by omega)
          have e2 := h2.out.cellAt k (show k < (groups T).length * 1 by omega)
          rw [hu1] at e1
          rw [hu2] at e2
          have SM := sameInts_any _ _ r r (wr.drewN 1) (owns_ints hur1) (owns_ints hur2)
          rw [show decide (r = r) = true by simp] at SM
          clear h1 h2 hr hu1 hu2 hur1 hur2 hbq
          go_wp2_with fail
          refine wp_region_E (fun W => W.cell? ⟨g1, k, none⟩ = some (.slice x1 r.length y1) ∧ W.cell? ⟨g2, k, none⟩ = some (.slice x2' r.length y2')) (by kernel_rfl) ?_
          have hdr : (wr).drew = { wr with drawn := (wr).drawn + 1 } := rfl
          rw [← hdr]
          clear hdr
          change wpAnyE _ _ _ _ _ _ _ _ ((wr).drewN 1)
          refine wpAnyETake 0 (some 101) (.slice (some ⟨g1, 0, none⟩) (groups T).length cg1) rfl rfl (by kernel_rfl) (by kernel_rfl) (by kernel_rfl) (by kernel_rfl) (fun _ _ _ h => h) (by rfl) (fun _ _ => by rfl) (⟨e1, e2⟩) ?_
          try simp only [Act.put, List.setIfInBounds_toArray, List.set_cons_zero, List.set_cons_succ]
          refine wpAnyETake 1 (some 102) (.int .i64 (k : Int)) rfl rfl (by kernel_rfl) (by kernel_rfl) (by kernel_rfl) (by kernel_rfl) (fun _ _ _ h => h) (by rfl) (fun _ _ => by rfl) (⟨e1, e2⟩) ?_
          try simp only [Act.put, List.setIfInBounds_toArray, List.set_cons_zero, List.set_cons_succ]
          refine wpAnyETake 2 (some 103) (.pointer (some ⟨g1, k, none⟩)) rfl rfl (by kernel_rfl) (by kernel_rfl) (by kernel_rfl) (by kernel_rfl) (fun _ _ _ h => h) (by rfl) (fun _ _ => by go_simp) (⟨e1, e2⟩) ?_
          try simp only [Act.put, List.setIfInBounds_toArray, List.set_cons_zero, List.set_cons_succ]
          refine wpAnyETake 3 (some 104) (.slice x1 r.length y1) rfl rfl (by kernel_rfl) (by kernel_rfl) (by kernel_rfl) (by kernel_rfl) (fun _ _ _ h => h) (by rfl) (fun W hW => by obtain ⟨e1, e2⟩ := hW; go_simp) (⟨e1, e2⟩) ?_
          try simp only [Act.put, List.setIfInBounds_toArray, List.set_cons_zero, List.set_cons_succ]
          refine wpAnyETake 4 (some 105) (.slice (some ⟨g2, 0, none⟩) (groups T).length cg2) rfl rfl (by kernel_rfl) (by kernel_rfl) (by kernel_rfl) (by kernel_rfl) (fun _ _ _ h => h) (by rfl) (fun _ _ => by rfl) (⟨e1, e2⟩) ?_
          try simp only [Act.put, List.setIfInBounds_toArray, List.set_cons_zero, List.set_cons_succ]
          refine wpAnyETake 5 (some 106) (.int .i64 (k : Int)) rfl rfl (by kernel_rfl) (by kernel_rfl) (by kernel_rfl) (by kernel_rfl) (fun _ _ _ h => h) (by rfl) (fun _ _ => by rfl) (⟨e1, e2⟩) ?_
          try simp only [Act.put, List.setIfInBounds_toArray, List.set_cons_zero, List.set_cons_succ]
          refine wpAnyETake 6 (some 107) (.pointer (some ⟨g2, k, none⟩)) rfl rfl (by kernel_rfl) (by kernel_rfl) (by kernel_rfl) (by kernel_rfl) (fun _ _ _ h => h) (by rfl) (fun _ _ => by go_simp) (⟨e1, e2⟩) ?_
          try simp only [Act.put, List.setIfInBounds_toArray, List.set_cons_zero, List.set_cons_succ]
          refine wpAnyETake 7 (some 108) (.slice x2' r.length y2') rfl rfl (by kernel_rfl) (by kernel_rfl) (by kernel_rfl) (by kernel_rfl) (fun _ _ _ h => h) (by rfl) (fun W hW => by obtain ⟨e1, e2⟩ := hW; go_simp) (⟨e1, e2⟩) ?_
          try simp only [Act.put, List.setIfInBounds_toArray, List.set_cons_zero, List.set_cons_succ]
          refine wpAnyEOne 8 (by kernel_rfl) ?_
          refine wpOpCall (some 109) 20 #[.slice x1 r.length y1, .slice x2' r.length y2'] rfl rfl rfl (by go_simp) (SM) ?_
          rintro e w21 ⟨rfl, hb⟩
          have hbn := (Below.dn (Below.refl wr.heap.size wr) 1).trans hb
          refine ⟨_, rfl, ?_⟩
          have f1 := (hbn.cell (p := ⟨g1, k, none⟩) (cell_lt e1)).trans e1
          have f2 := (hbn.cell (p := ⟨g2, k, none⟩) (cell_lt e2)).trans e2
          refine ⟨.inl (⟨f1, f2⟩), ?_⟩
          try simp only [Act.put, List.setIfInBounds_toArray, List.set_cons_zero, List.set_cons_succ]
          refine wpAnyEOne 9 (by kernel_rfl) ?_
          refine wpOpRun' (v := .bool false) (w' := w21) (some 110) rfl rfl rfl (by go_simp) ?_
          refine ⟨.inr (allUp_of (by kernel_rfl)), ?_⟩
          try simp only [Act.put, List.setIfInBounds_toArray, List.set_cons_zero, List.set_cons_succ]
          refine wpAnyE_done (by kernel_rfl) ?_ _
          have HBQ := Lib.hid (HBQ.out.trans (hbn.mono HBQ.out.size))
          clear hb hbn f1 f2 e1 e2 SM
          go_wp2_with fail
          go_roundw
          case rel => exact ⟨k + 1, by omega, by go_num, HBQ.out⟩
          case measure => simp [intOf]; omega
        · have hk1 : ¬ (k : Int) < ((groups T).length : Int) := by omega
          clear hbq
          go_wp2_with fail
          go_roundw
          case rel => exact ⟨i + 1, by omega, by go_num, HBR.out.trans (HBQ.out.mono HBR.out.size)⟩
          case measure => simp [intOf]; omega
    · have hi1 : ¬ (i : Int) < 5 := by omega
      have LV := lives_any wr
      go_wp2_with fail
      with_reducible refine LV.mono ?_
      rintro e w8 ⟨rfl, hb⟩
      have HBB := Lib.hid (HB.out.trans ((HBR.out.trans (hb.mono HBR.out.size)).mono HB.out.size))
      clear hb LV
      go_wp2_with fail
      go_ret
      exact ⟨rfl, HBB.out⟩
end Go.Proofs.Ytmkkegigajmhkaa

