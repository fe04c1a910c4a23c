/- The walk of QuestionChecks. The walk of QuestionLeast. -/
import Derived.Test.YtmkkegigajmhkaaN26
import Derived.Test.YtmkkegigajmhkaaN22
import Derived.Test.YtmkkegigajmhkaaN30
set_option linter.unusedVariables false
namespace Go.Proofs.Ytmkkegigajmhkaa
open Go.RowKit Go.Maps

theorem TbS.three {w : World} {T1 T2 T3 : Tb} {aa1 ac1 ak1 : Option Addr} {ca1 cc1 ck1 : Nat} {aa2 ac2 ak2 : Option Addr} {ca2 cc2 ck2 : Nat} {aa3 ac3 ak3 : Option Addr} {ca3 cc3 ck3 : Nat}
    (h1 : TbR w (.slice aa1 T1.rows.length ca1) (.slice ac1 T1.costs.length cc1) (.slice ak1 T1.cls.length ck1) T1) (h2 : TbR w (.slice aa2 T2.rows.length ca2) (.slice ac2 T2.costs.length cc2) (.slice ak2 T2.cls.length ck2) T2) (h3 : TbR w (.slice aa3 T3.rows.length ca3) (.slice ac3 T3.costs.length cc3) (.slice ak3 T3.cls.length ck3) T3) :
    TbS (w.alloc (.cells #[.slice aa1 T1.rows.length ca1, .slice ac1 T1.costs.length cc1, .slice ak1 T1.cls.length ck1, .slice aa2 T2.rows.length ca2, .slice ac2 T2.costs.length cc2, .slice ak2 T2.cls.length ck2, .slice aa3 T3.rows.length ca3, .slice ac3 T3.costs.length cc3, .slice ak3 T3.cls.length ck3] 25)) w.heap.size [T1, T2, T3] := by
  intro i T hT
  have hb := alloc_below w (.cells #[.slice aa1 T1.rows.length ca1, .slice ac1 T1.costs.length cc1, .slice ak1 T1.cls.length ck1, .slice aa2 T2.rows.length ca2, .slice ac2 T2.costs.length cc2, .slice ak2 T2.cls.length ck2, .slice aa3 T3.rows.length ca3, .slice ac3 T3.costs.length cc3, .slice ak3 T3.cls.length ck3] 25)
  have hx := Boxs.new w 25 #[.slice aa1 T1.rows.length ca1, .slice ac1 T1.costs.length cc1, .slice ak1 T1.cls.length ck1, .slice aa2 T2.rows.length ca2, .slice ac2 T2.costs.length cc2, .slice ak2 T2.cls.length ck2, .slice aa3 T3.rows.length ca3, .slice ac3 T3.costs.length cc3, .slice ak3 T3.cls.length ck3]
  have hlt := hx.lt
  match i, hT with
  | 0, hT => cases hT; exact ⟨_, _, _, _, _, _, ⟨(hx.cell 0).trans rfl, (hx.cell 1).trans rfl, (hx.cell 2).trans rfl, h1.below hb, hlt⟩⟩
  | 1, hT => cases hT; exact ⟨_, _, _, _, _, _, ⟨(hx.cell 3).trans rfl, (hx.cell 4).trans rfl, (hx.cell 5).trans rfl, h2.below hb, hlt⟩⟩
  | 2, hT => cases hT; exact ⟨_, _, _, _, _, _, ⟨(hx.cell 6).trans rfl, (hx.cell 7).trans rfl, (hx.cell 8).trans rfl, h3.below hb, hlt⟩⟩
theorem plain_sm {T : Tb} (h : OkT T) : SmN 64 (plainT T) :=
  ⟨h.r64, h.c64, by have := foldG_len (groups T) T.cls; have := h.kl; have := h.r64; show ((groups T).foldl plainG T.cls).length ≤ _; omega, fun r hr => by have := h.rl r hr; have := h.c64; omega, by have := foldG_len (groups T) T.cls; have := h.kl; show T.rows.length ≤ ((groups T).foldl plainG T.cls).length; omega⟩
/-- a table and a tree, each in a block -/
structure CS (W : World) (N g k B i : Nat) (va vc vk u : Value) (T : Tb) (t : Tr) : Prop where
  te : TbE W g k va vc vk T
  cu : W.cell? ⟨B, i, none⟩ = some u
  lt : B < W.heap.size
  tr : TreeIn 105 (N ≤ ·) W u t
theorem CS.below {W W' : World} {N g k B i : Nat} {va vc vk u : Value} {T : Tb} {t : Tr} (h : CS W N g k B i va vc vk u T t) (hb : Below W.heap.size W W') : CS W' N g k B i va vc vk u T t :=
  ⟨h.te.below hb, (hb.cell (p := ⟨B, i, none⟩) h.lt).trans h.cu, Nat.lt_of_lt_of_le h.lt hb.size, h.tr.under hb⟩
theorem TreesOut.at {W : World} {B : Nat} {us : List Value} {ts : List Tr} {N i : Nat} (h : Rd W (.slice (some ⟨B, 0, none⟩) 6 6) us) (hl : us.length = 6) (hT : Trees 105 (N ≤ ·) W us ts) (hi : i < 6) :
    ∃ p t, W.cell? ⟨B, i, none⟩ = some (.pointer p) ∧ B < W.heap.size ∧ TreeIn 105 (N ≤ ·) W (.pointer p) t ∧ t ∈ ts := by
  obtain ⟨u, hu⟩ := elem_at (show i < us.length by omega)
  obtain ⟨t, ht⟩ := elem_at (show i < ts.length by rw [← hT.1]; omega)
  obtain ⟨b, off, e, h1, h2⟩ := h.at hu
  simp only [Option.some.injEq, Addr.mk.injEq, and_true] at e
  obtain ⟨rfl, rfl⟩ := e
  have h3 := hT.2 i u t hu ht
  obtain ⟨p, rfl⟩ := h3.form
  exact ⟨p, t, by simpa using h2, h1, h3, List.mem_of_getElem? ht⟩
set_option maxRecDepth 100000 in
set_option maxHeartbeats 16000000 in
theorem questionChecks_any (v vm : Value) (l ms : List Int) (how by_ also : Int) (w : World) (h : RdI w v l) (il : inI l) (hm : RdI w vm ms) (im : inI ms) (hh1 : -9223372036854775808 ≤ how) (hh2 : how ≤ 9223372036854775807) (hb1 : -9223372036854775808 ≤ by_) (hb2 : by_ ≤ 9223372036854775807) (ha1 : -9223372036854775808 ≤ also) (ha2 : also ≤ 9223372036854775807) :
    Calls Try.prog 5 #[v, vm, .int .i64 how, .int .i64 by_, .int .i64 also] w fun e w' => e = .returned (.bool true) ∧ Below w.heap.size w w' := by
  have MK := made_any v l w h il
  have hok := made_ok l
  have h7 := madeT_rows l
  obtain ⟨T0, hT0⟩ : ∃ T, madeT l = T := ⟨_, rfl⟩
  rw [hT0] at MK hok h7
  have hs1 := plain_sm hok
  have h71 : (plainT T0).rows.length ≤ 7 := h7
  obtain ⟨T1, hT1⟩ : ∃ T, plainT T0 = T := ⟨_, rfl⟩
  rw [hT1] at hs1 h71
  obtain ⟨T3, hT3⟩ : ∃ T, spoilT T1 also by_ = T := ⟨_, rfl⟩
  have H1 := Lib.hid hT1; have H3 := Lib.hid hT3; have HOK := Lib.hid hok; have HS1 := Lib.hid (hs1.sm (by omega))
  have H71 := Lib.hid h71
  obtain ⟨av, cv, rfl⟩ := h.form
  obtain ⟨am, cm, rfl⟩ := hm.form
  have HV := Lib.hid h; have HM := Lib.hid hm; have HT0 := Lib.hid hT0
  clear h hm hT0 hT1 hT3 hok hs1 h7 h71
  go_enter Try.func5, Try.ntmps5
  go_wp2_with fail
  with_reducible refine MK.mono ?_
  rintro e w1 ⟨⟨va, vc, vk, us, rfl, hown⟩, hb⟩
  have PL := plain_any va vc vk T0 w1 hown.tb HOK.out
  rw [H1.out] at PL
  obtain ⟨aa0, ca0, rfl⟩ := hown.tb.rows.form
  obtain ⟨ac0, cc0, rfl⟩ := hown.tb.costs.form
  obtain ⟨ak0, ck0, rfl⟩ := hown.tb.cls.form
  have HB := Lib.hid hb
  clear hown hb MK
  go_wp2_with fail
  with_reducible refine PL.mono ?_
  rintro e w2 ⟨⟨va, vc, vk, us, rfl, hown⟩, hb⟩
  have htb := hown.tb
  obtain ⟨aa1, ca1, rfl⟩ := htb.rows.form
  obtain ⟨ac1, cc1, rfl⟩ := htb.costs.form
  obtain ⟨ak1, ck1, rfl⟩ := htb.cls.form
  have hba := alloc_below w2 (.cells #[.slice aa1 T1.rows.length ca1, .slice ac1 T1.costs.length cc1, .slice ak1 T1.cls.length ck1] 25)
  obtain ⟨W2, hW2⟩ : ∃ W, w2.alloc (.cells #[.slice aa1 T1.rows.length ca1, .slice ac1 T1.costs.length cc1, .slice ak1 T1.cls.length ck1] 25) = W := ⟨_, rfl⟩
  have BX1 := Lib.hid (show Boxs W2 w2.heap.size 25 #[.slice aa1 T1.rows.length ca1, .slice ac1 T1.costs.length cc1, .slice ak1 T1.cls.length ck1] by rw [← hW2]; exact Boxs.new w2 25 _)
  rw [hW2] at hba
  have HT1 := Lib.hid (htb.below hba)
  have HB := Lib.hid (HB.out.trans ((hb.trans (hba.mono hb.size)).mono HB.out.size))
  obtain ⟨b1, hB1⟩ : ∃ b, w2.heap.size = b := ⟨_, rfl⟩
  rw [hB1] at BX1
  have TR := trees_any _ _ _ _ T1 ms how by_ W2 HT1.out H71.out (HM.out.below HB.out) im hh1 hh2 hb1 hb2
  clear hown htb hb hba PL
  have p0 := BX1.out.cell 0; have p1 := BX1.out.cell 1; have p2 := BX1.out.cell 2
  have q1 := BX1.out.lt
  simp only [List.getElem?_toArray, List.getElem?_cons_zero, List.getElem?_cons_succ] at p0 p1 p2
  go_wp2_with fail
  clear hW2 hB1
  with_reducible refine TR.mono ?_
  rintro e w3 ⟨⟨B, us, ts, rfl, hrd, hul, htr, hok⟩, hb⟩
  have HRD := Lib.hid hrd; have HTR := Lib.hid htr; have HTO := Lib.hid hok; have HUL := Lib.hid hul
  have HT1 := Lib.hid (HT1.out.below hb)
  have BX1 := Lib.hid (Boxs.below BX1.out hb)
  have HB := Lib.hid (HB.out.trans (hb.mono HB.out.size))
  have HV := Lib.hid (HV.out.below HB.out)
  clear TR hrd htr hok hb hul p0 p1 p2 q1
  generalize W2.heap.size = N at *
  go_upto_region 3 with fail
  go_cut [13] (fun s13 wx => ∃ g, s13 = .slice (some ⟨g, 0, none⟩) 3 3 ∧ TbS wx g [T1, T0, T3] ∧ Below w3.heap.size w3 wx)
  case first =>
    clear HRD HTR HTO HUL HM HB H71 HOK
    have MK := made_any _ l (w3.drewN 1) (HV.out.below (Below.dn (Below.refl w3.heap.size w3) 1)) il
    rw [HT0.out] at MK
    refine wp_region_E (fun W => W.cell? ⟨b1, 0, none⟩ = some (.slice aa1 T1.rows.length ca1) ∧ W.cell? ⟨b1, 1, none⟩ = some (.slice ac1 T1.costs.length cc1) ∧ W.cell? ⟨b1, 2, none⟩ = some (.slice ak1 T1.cls.length ck1)) (by kernel_rfl) ?_
    have hdr : (w3).drew = { w3 with drawn := (w3).drawn + 1 } := rfl
    rw [← hdr]
    clear hdr
    change wpAnyE _ _ _ _ _ _ _ _ ((w3).drewN 1)
    refine tk 0 28 rfl rfl (.agg #[.slice aa1 T1.rows.length ca1, .slice ac1 T1.costs.length cc1, .slice ak1 T1.cls.length ck1]) (fun W hW => by obtain ⟨k0, k1, k2⟩ := hW; go_simp) ⟨BX1.out.cell 0, BX1.out.cell 1, BX1.out.cell 2⟩ ?_
    try simp only [pa, pl]
    refine tm 1 29 rfl rfl (.slice av l.length cv) ⟨BX1.out.cell 0, BX1.out.cell 1, BX1.out.cell 2⟩ ?_
    try simp only [pa, pl]
    refine tk 3 31 rfl rfl (.agg #[.slice aa1 T1.rows.length ca1, .slice ac1 T1.costs.length cc1, .slice ak1 T1.cls.length ck1]) (fun W hW => by obtain ⟨k0, k1, k2⟩ := hW; go_simp) ⟨BX1.out.cell 0, BX1.out.cell 1, BX1.out.cell 2⟩ ?_
    try simp only [pa, pl]
    refine tm 4 32 rfl rfl (.int .i64 also) ⟨BX1.out.cell 0, BX1.out.cell 1, BX1.out.cell 2⟩ ?_
    try simp only [pa, pl]
    refine tm 5 33 rfl rfl (.int .i64 by_) ⟨BX1.out.cell 0, BX1.out.cell 1, BX1.out.cell 2⟩ ?_
    try simp only [pa, pl]
    refine wpAnyEOne 2 (by kernel_rfl) ?_
    refine wpOpCall (some 30) 10 #[.slice av l.length cv] rfl rfl rfl (by go_simp) (MK) ?_
    rintro e w4 ⟨⟨va, vc, vk, us4, rfl, hown⟩, hb⟩
    have htb0 := hown.tb
    obtain ⟨aa0, ca0, rfl⟩ := htb0.rows.form
    obtain ⟨ac0, cc0, rfl⟩ := htb0.costs.form
    obtain ⟨ak0, ck0, rfl⟩ := htb0.cls.form
    have hb34 := (Below.dn (Below.refl w3.heap.size w3) 1).trans hb
    have x1 := Boxs.below BX1.out hb34
    have SP := spoil_any _ _ _ T1 also by_ w4 (HT1.out.below hb34) HS1.out hb1 hb2 ha1 ha2
    rw [H3.out] at SP
    clear hown hb MK
    refine ⟨_, rfl, ?_⟩
    refine ⟨.inl (⟨x1.cell 0, x1.cell 1, x1.cell 2⟩), ?_⟩
    try simp only [pa, pl]
    refine wpAnyEOne 6 (by kernel_rfl) ?_
    refine wpOpCall (some 34) 11 #[.agg #[.slice aa1 T1.rows.length ca1, .slice ac1 T1.costs.length cc1, .slice ak1 T1.cls.length ck1], .int .i64 also, .int .i64 by_] rfl rfl rfl (by go_simp) (SP) ?_
    rintro e w5 ⟨⟨va, vc, vk, us5, rfl, hown⟩, hb⟩
    have htb3 := hown.tb
    obtain ⟨aa3, ca3, rfl⟩ := htb3.rows.form
    obtain ⟨ac3, cc3, rfl⟩ := htb3.costs.form
    obtain ⟨ak3, ck3, rfl⟩ := htb3.cls.form
    have htb0 := htb0.below hb
    have hb35 := hb34.trans (hb.mono hb34.size)
    have x1 := Boxs.below BX1.out hb35
    clear hown hb SP hb34
    refine ⟨_, rfl, ?_⟩
    refine ⟨.inl (⟨x1.cell 0, x1.cell 1, x1.cell 2⟩), ?_⟩
    try simp only [pa, pl]
    refine wpAnyEOne 7 (by kernel_rfl) ?_
    refine wpOpRun' (v := .slice (some ⟨w5.heap.size, 0, none⟩) 3 3) (w' := (w5.alloc (.cells #[.slice aa1 T1.rows.length ca1, .slice ac1 T1.costs.length cc1, .slice ak1 T1.cls.length ck1, .slice aa0 T0.rows.length ca0, .slice ac0 T0.costs.length cc0, .slice ak0 T0.cls.length ck0, .slice aa3 T3.rows.length ca3, .slice ac3 T3.costs.length cc3, .slice ak3 T3.cls.length ck3] 25))) (some 35) rfl rfl rfl (by go_simp <;> rfl) ?_
    have hal7 := alloc_below w5 (.cells #[.slice aa1 T1.rows.length ca1, .slice ac1 T1.costs.length cc1, .slice ak1 T1.cls.length ck1, .slice aa0 T0.rows.length ca0, .slice ac0 T0.costs.length cc0, .slice ak0 T0.cls.length ck0, .slice aa3 T3.rows.length ca3, .slice ac3 T3.costs.length cc3, .slice ak3 T3.cls.length ck3] 25)
    have y1 := Boxs.below x1 hal7
    refine ⟨.inl (⟨y1.cell 0, y1.cell 1, y1.cell 2⟩), ?_⟩
    try simp only [pa, pl]
    refine wpAnyEOne 8 (by kernel_rfl) ?_
    refine wpOpRun' (v := .slice (some ⟨w5.heap.size, 0, none⟩) 3 3) (w' := (w5.alloc (.cells #[.slice aa1 T1.rows.length ca1, .slice ac1 T1.costs.length cc1, .slice ak1 T1.cls.length ck1, .slice aa0 T0.rows.length ca0, .slice ac0 T0.costs.length cc0, .slice ak0 T0.cls.length ck0, .slice aa3 T3.rows.length ca3, .slice ac3 T3.costs.length cc3, .slice ak3 T3.cls.length ck3] 25))) (some 13) rfl rfl rfl (by rfl) ?_
    refine ⟨.inr (allUp_of (by kernel_rfl)), ?_⟩
    try simp only [pa, pl]
    refine wpAnyE_done (by kernel_rfl) ?_ _
    go_wp2_with fail
    go_meet
    exact ⟨_, rfl, TbS.three (HT1.out.below hb35) htb0 htb3, hb35.trans (hal7.mono hb35.size)⟩
  case rest =>
    obtain ⟨g, rfl, hts, hbw⟩ := hcut
    have TS := Lib.hid hts
    have HRD := Lib.hid (HRD.out.below hbw); have HTR := Lib.hid (HTR.out.block fun i hi _ => hbw.block i hi)
    have HB7 := Lib.hid (HB.out.trans (hbw.mono HB.out.size))
    clear hts hbw HB HT1 BX1 HV HM H71 HOK HS1 H1 H3
    rename World => w7
    go_wp2_with fail
    go_loopw [14] (fun iv wr => ∃ i : Nat, i ≤ 6 ∧ iv = .int .i64 i ∧ Below w7.heap.size w7 wr) (fun iv _ => 6 - (intOf iv).toNat)
    case atStart => exact ⟨0, by omega, rfl, Below.refl _ _⟩
    case round =>
      obtain ⟨i, hi, rfl, hbr⟩ := hrel
      have hi0 : (0 : Int) ≤ (i : Int) := Int.natCast_nonneg _
      have HBR := Lib.hid hbr
      clear hbr
      by_cases hlt6 : i < 6
      · have hi1 : (i : Int) < 6 := by omega
        have HI6 := Lib.hid hlt6
        clear hlt6
        rename World => w8
        go_wp2_with fail
        go_loopw [15] (fun kv wr => ∃ k : Nat, k ≤ 3 ∧ kv = .int .i64 k ∧ Below w7.heap.size w7 wr) (fun kv _ => 3 - (intOf kv).toNat)
        case atStart => exact ⟨0, by omega, rfl, HBR.out⟩
        case round =>
          obtain ⟨k, hk, rfl, hbr⟩ := hrel
          have hk0 : (0 : Int) ≤ (k : Int) := Int.natCast_nonneg _
          have HBR := Lib.hid hbr
          clear hbr
          by_cases hlt3 : k < 3
          · have hk1 : (k : Int) < 3 := by omega
            obtain ⟨T, hT⟩ := elem_at (show k < [T1, T0, T3].length from hlt3)
            obtain ⟨aa, ca, ac, cc, ak, ck, hte⟩ := (TS.out.below HBR.out) k T hT
            obtain ⟨p, t, hcu, hBl, htr, htm⟩ := TreesOut.at HRD.out HUL.out HTR.out HI6.out
            have hto := HTO.out t htm
            have hsk := smK_wd t (by have := hto.w; omega); have hst := smT_wd t (by have := hto.w; omega); have hdp : depT t ≤ 100000 := by have := hto.d; omega
            have SB : ∀ {W W' : World}, CS W N g k B i (.slice aa T.rows.length ca) (.slice ac T.costs.length cc) (.slice ak T.cls.length ck) (.pointer p) T t → Below W.heap.size W W' → CS W' N g k B i (.slice aa T.rows.length ca) (.slice ac T.costs.length cc) (.slice ak T.cls.length ck) (.pointer p) T t := fun h hb => h.below hb
            have hcs : CS wr N g k B i (.slice aa T.rows.length ca) (.slice ac T.costs.length cc) (.slice ak T.cls.length ck) (.pointer p) T t := ⟨hte, (HBR.out.cell (p := ⟨B, i, none⟩) hBl).trans hcu, Nat.lt_of_lt_of_le hBl HBR.out.size, htr.under HBR.out⟩
            have HCS := Lib.hid hcs
            have G1 := Lib.hid (hcs.below (Below.dn (Below.refl wr.heap.size wr) 1))
            have HBD := Lib.hid (Below.dn (Below.refl wr.heap.size wr) 1)
            have OW := own_any aa ac ak T.rows.length T.costs.length T.cls.length ca cc ck (wr.drewN 1)
            clear hte hcu hBl htr htm hto hT hcs
            go_wp2_with fail
            refine wp_region_held (S := fun W => CS W N g k B i (.slice aa T.rows.length ca) (.slice ac T.costs.length cc) (.slice ak T.cls.length ck) (.pointer p) T t) (by kernel_rfl) ?_
            have hdr : (wr).drew = { wr with drawn := (wr).drawn + 1 } := rfl
            rw [← hdr]
            clear hdr
            refine wpAnyHTake 0 (some 49) (.slice (some ⟨g, 0, none⟩) 3 3) rfl rfl (by kernel_rfl) (by kernel_rfl) (by kernel_rfl) (fun _ _ _ h => h) (by rfl) (fun _ _ => by rfl) (G1.out) ?_
            simp only [Act.put, List.setIfInBounds_toArray, List.set_cons_zero, List.set_cons_succ]
            refine wpAnyHTake 1 (some 50) (.int .i64 (k : Int)) rfl rfl (by kernel_rfl) (by kernel_rfl) (by kernel_rfl) (fun _ _ _ h => h) (by rfl) (fun _ _ => by rfl) (G1.out) ?_
            simp only [Act.put, List.setIfInBounds_toArray, List.set_cons_zero, List.set_cons_succ]
            refine wpAnyHTake 2 (some 51) (.pointer (some ⟨g, k * 3, none⟩)) rfl rfl (by kernel_rfl) (by kernel_rfl) (by kernel_rfl) (fun _ _ _ h => h) (by rfl) (fun _ _ => by go_simp) (G1.out) ?_
            simp only [Act.put, List.setIfInBounds_toArray, List.set_cons_zero, List.set_cons_succ]
            refine wpAnyHTake 3 (some 52) (.agg #[.slice aa T.rows.length ca, .slice ac T.costs.length cc, .slice ak T.cls.length ck]) rfl rfl (by kernel_rfl) (by kernel_rfl) (by kernel_rfl) (fun _ _ _ h => h) (by rfl) (fun W hW => by obtain ⟨⟨c0, c1, c2, _, _⟩, cu, _, _⟩ := hW; go_simp) (G1.out) ?_
            simp only [Act.put, List.setIfInBounds_toArray, List.set_cons_zero, List.set_cons_succ]
            refine wpAnyHTake 5 (some 54) (.slice (some ⟨B, 0, none⟩) 6 6) rfl rfl (by kernel_rfl) (by kernel_rfl) (by kernel_rfl) (fun _ _ _ h => h) (by rfl) (fun _ _ => by rfl) (G1.out) ?_
            simp only [Act.put, List.setIfInBounds_toArray, List.set_cons_zero, List.set_cons_succ]
            refine wpAnyHTake 6 (some 55) (.int .i64 (i : Int)) rfl rfl (by kernel_rfl) (by kernel_rfl) (by kernel_rfl) (fun _ _ _ h => h) (by rfl) (fun _ _ => by rfl) (G1.out) ?_
            simp only [Act.put, List.setIfInBounds_toArray, List.set_cons_zero, List.set_cons_succ]
            refine wpAnyHTake 7 (some 56) (.pointer (some ⟨B, i, none⟩)) rfl rfl (by kernel_rfl) (by kernel_rfl) (by kernel_rfl) (fun _ _ _ h => h) (by rfl) (fun _ _ => by go_simp) (G1.out) ?_
            simp only [Act.put, List.setIfInBounds_toArray, List.set_cons_zero, List.set_cons_succ]
            refine wpAnyHTake 8 (some 57) (.pointer p) rfl rfl (by kernel_rfl) (by kernel_rfl) (by kernel_rfl) (fun _ _ _ h => h) (by rfl) (fun W hW => by obtain ⟨⟨c0, c1, c2, _, _⟩, cu, _, _⟩ := hW; go_simp) (G1.out) ?_
            simp only [Act.put, List.setIfInBounds_toArray, List.set_cons_zero, List.set_cons_succ]
            refine wpAnyHCall 4 (some 53) 14 #[.agg #[.slice aa T.rows.length ca, .slice ac T.costs.length cc, .slice ak T.cls.length ck]] (by kernel_rfl) rfl rfl (by rfl) (by go_simp) (OW) ?_
            rintro e xc2 ⟨rfl, hb9⟩
            have G2 := Lib.hid (SB G1.out hb9)
            have HBD := Lib.hid (HBD.out.trans (hb9.mono HBD.out.size))
            have TN := treeN_any G2.out.tr hsk xc2 (Below.refl _ _)
            unfold ConvOut at TN
            clear hb9 OW
            refine ⟨_, rfl, G2.out, ?_⟩
            simp only [Act.put, List.setIfInBounds_toArray, List.set_cons_zero, List.set_cons_succ]
            refine wpAnyHCall 9 (some 58) 30 #[.pointer p] (by kernel_rfl) rfl rfl (by rfl) (by go_simp) (TN) ?_
            rintro e xc3 ⟨⟨p8, rfl, hx8⟩, hb9⟩
            have G3 := Lib.hid (SB G2.out hb9)
            have HBD := Lib.hid (HBD.out.trans (hb9.mono HBD.out.size))
            obtain ⟨q8, rfl⟩ := hx8.form
            have CK := check_any hx8 hst hdp _ _ _ T xc3 (Below.refl _ _) G3.out.te.rd
            clear hx8
            clear hb9 TN
            refine ⟨_, rfl, G3.out, ?_⟩
            simp only [Act.put, List.setIfInBounds_toArray, List.set_cons_zero, List.set_cons_succ]
            refine wpAnyHCall 10 (some 59) 29 #[.agg #[.slice aa T.rows.length ca, .slice ac T.costs.length cc, .slice ak T.cls.length ck], .pointer q8] (by kernel_rfl) rfl rfl (by rfl) (by go_simp) (CK) ?_
            rintro e xc4 ⟨⟨c9, x9, rfl, hck⟩, hb9⟩
            have G4 := Lib.hid (SB G3.out hb9)
            have HBD := Lib.hid (HBD.out.trans (hb9.mono HBD.out.size))
            have HCK := Lib.hid hck
            clear hck
            clear hb9 CK
            refine ⟨_, rfl, G4.out, ?_⟩
            simp only [Act.put, List.setIfInBounds_toArray, List.set_cons_zero, List.set_cons_succ]
            refine wpAnyHTake 11 (some 48) (.tuple #[.int .i64 c9, .int .i64 x9]) rfl rfl (by kernel_rfl) (by kernel_rfl) (by kernel_rfl) (fun _ _ _ h => h) (by rfl) (fun _ _ => by rfl) (G4.out) ?_
            simp only [Act.put, List.setIfInBounds_toArray, List.set_cons_zero, List.set_cons_succ]
            refine wpAnyHTake 12 (some 60) (.int .i64 c9) rfl rfl (by kernel_rfl) (by kernel_rfl) (by kernel_rfl) (fun _ _ _ h => h) (by rfl) (fun _ _ => by rfl) (G4.out) ?_
            simp only [Act.put, List.setIfInBounds_toArray, List.set_cons_zero, List.set_cons_succ]
            refine wpAnyHTake 13 (some 61) (.int .i64 x9) rfl rfl (by kernel_rfl) (by kernel_rfl) (by kernel_rfl) (fun _ _ _ h => h) (by rfl) (fun _ _ => by rfl) (G4.out) ?_
            simp only [Act.put, List.setIfInBounds_toArray, List.set_cons_zero, List.set_cons_succ]
            refine wpAnyHTake 14 (some 16) (.int .i64 c9) rfl rfl (by kernel_rfl) (by kernel_rfl) (by kernel_rfl) (fun _ _ _ h => h) (by rfl) (fun _ _ => by rfl) (G4.out) ?_
            simp only [Act.put, List.setIfInBounds_toArray, List.set_cons_zero, List.set_cons_succ]
            refine wpAnyHTake 15 (some 17) (.int .i64 x9) rfl rfl (by kernel_rfl) (by kernel_rfl) (by kernel_rfl) (fun _ _ _ h => h) (by rfl) (fun _ _ => by rfl) (G4.out) ?_
            simp only [Act.put, List.setIfInBounds_toArray, List.set_cons_zero, List.set_cons_succ]
            refine wpAnyH_done (by kernel_rfl) ?_ _
            have HCS := Lib.hid G4.out
            have G1 := Lib.hid (HCS.out.below (Below.dn (Below.refl _ _) 1))
            have HBD := Lib.hid (Below.dn HBD.out 1)
            clear G2 G3 G4
            go_wp2_with fail
            refine wp_region_held (S := fun W => CS W N g k B i (.slice aa T.rows.length ca) (.slice ac T.costs.length cc) (.slice ak T.cls.length ck) (.pointer p) T t) (by kernel_rfl) ?_
            have hdr : (xc4).drew = { xc4 with drawn := (xc4).drawn + 1 } := rfl
            rw [← hdr]
            clear hdr
            have RC := rcheck_any G1.out.tr hdp _ _ _ T (xc4.drewN 1) (Below.refl _ _) G1.out.te.rd
            refine wpAnyHTake 0 (some 63) (.slice (some ⟨g, 0, none⟩) 3 3) rfl rfl (by kernel_rfl) (by kernel_rfl) (by kernel_rfl) (fun _ _ _ h => h) (by rfl) (fun _ _ => by rfl) (G1.out) ?_
            simp only [Act.put, List.setIfInBounds_toArray, List.set_cons_zero, List.set_cons_succ]
            refine wpAnyHTake 1 (some 64) (.int .i64 (k : Int)) rfl rfl (by kernel_rfl) (by kernel_rfl) (by kernel_rfl) (fun _ _ _ h => h) (by rfl) (fun _ _ => by rfl) (G1.out) ?_
            simp only [Act.put, List.setIfInBounds_toArray, List.set_cons_zero, List.set_cons_succ]
            refine wpAnyHTake 2 (some 65) (.pointer (some ⟨g, k * 3, none⟩)) rfl rfl (by kernel_rfl) (by kernel_rfl) (by kernel_rfl) (fun _ _ _ h => h) (by rfl) (fun _ _ => by go_simp) (G1.out) ?_
            simp only [Act.put, List.setIfInBounds_toArray, List.set_cons_zero, List.set_cons_succ]
            refine wpAnyHTake 3 (some 66) (.agg #[.slice aa T.rows.length ca, .slice ac T.costs.length cc, .slice ak T.cls.length ck]) rfl rfl (by kernel_rfl) (by kernel_rfl) (by kernel_rfl) (fun _ _ _ h => h) (by rfl) (fun W hW => by obtain ⟨⟨c0, c1, c2, _, _⟩, cu, _, _⟩ := hW; go_simp) (G1.out) ?_
            simp only [Act.put, List.setIfInBounds_toArray, List.set_cons_zero, List.set_cons_succ]
            refine wpAnyHTake 4 (some 67) (.slice (some ⟨B, 0, none⟩) 6 6) rfl rfl (by kernel_rfl) (by kernel_rfl) (by kernel_rfl) (fun _ _ _ h => h) (by rfl) (fun _ _ => by rfl) (G1.out) ?_
            simp only [Act.put, List.setIfInBounds_toArray, List.set_cons_zero, List.set_cons_succ]
            refine wpAnyHTake 5 (some 68) (.int .i64 (i : Int)) rfl rfl (by kernel_rfl) (by kernel_rfl) (by kernel_rfl) (fun _ _ _ h => h) (by rfl) (fun _ _ => by rfl) (G1.out) ?_
            simp only [Act.put, List.setIfInBounds_toArray, List.set_cons_zero, List.set_cons_succ]
            refine wpAnyHTake 6 (some 69) (.pointer (some ⟨B, i, none⟩)) rfl rfl (by kernel_rfl) (by kernel_rfl) (by kernel_rfl) (fun _ _ _ h => h) (by rfl) (fun _ _ => by go_simp) (G1.out) ?_
            simp only [Act.put, List.setIfInBounds_toArray, List.set_cons_zero, List.set_cons_succ]
            refine wpAnyHTake 7 (some 70) (.pointer p) rfl rfl (by kernel_rfl) (by kernel_rfl) (by kernel_rfl) (fun _ _ _ h => h) (by rfl) (fun W hW => by obtain ⟨⟨c0, c1, c2, _, _⟩, cu, _, _⟩ := hW; go_simp) (G1.out) ?_
            simp only [Act.put, List.setIfInBounds_toArray, List.set_cons_zero, List.set_cons_succ]
            refine wpAnyHCall 8 (some 71) 31 #[.agg #[.slice aa T.rows.length ca, .slice ac T.costs.length cc, .slice ak T.cls.length ck], .pointer p] (by kernel_rfl) rfl rfl (by rfl) (by go_simp) (RC) ?_
            rintro e xd2 ⟨⟨c8, x8, rfl, hck2⟩, hb9⟩
            have G2 := Lib.hid (SB G1.out hb9)
            have HBD := Lib.hid (HBD.out.trans (hb9.mono HBD.out.size))
            obtain ⟨rfl, rfl⟩ := hck2.uniq HCK.out
            clear hck2
            clear hb9 RC
            refine ⟨_, rfl, G2.out, ?_⟩
            simp only [Act.put, List.setIfInBounds_toArray, List.set_cons_zero, List.set_cons_succ]
            refine wpAnyHTake 9 (some 62) (.tuple #[.int .i64 c8, .int .i64 x8]) rfl rfl (by kernel_rfl) (by kernel_rfl) (by kernel_rfl) (fun _ _ _ h => h) (by rfl) (fun _ _ => by rfl) (G2.out) ?_
            simp only [Act.put, List.setIfInBounds_toArray, List.set_cons_zero, List.set_cons_succ]
            refine wpAnyHTake 10 (some 72) (.int .i64 c8) rfl rfl (by kernel_rfl) (by kernel_rfl) (by kernel_rfl) (fun _ _ _ h => h) (by rfl) (fun _ _ => by rfl) (G2.out) ?_
            simp only [Act.put, List.setIfInBounds_toArray, List.set_cons_zero, List.set_cons_succ]
            refine wpAnyHTake 11 (some 73) (.int .i64 x8) rfl rfl (by kernel_rfl) (by kernel_rfl) (by kernel_rfl) (fun _ _ _ h => h) (by rfl) (fun _ _ => by rfl) (G2.out) ?_
            simp only [Act.put, List.setIfInBounds_toArray, List.set_cons_zero, List.set_cons_succ]
            refine wpAnyHTake 12 (some 18) (.int .i64 c8) rfl rfl (by kernel_rfl) (by kernel_rfl) (by kernel_rfl) (fun _ _ _ h => h) (by rfl) (fun _ _ => by rfl) (G2.out) ?_
            simp only [Act.put, List.setIfInBounds_toArray, List.set_cons_zero, List.set_cons_succ]
            refine wpAnyHTake 13 (some 19) (.int .i64 x8) rfl rfl (by kernel_rfl) (by kernel_rfl) (by kernel_rfl) (fun _ _ _ h => h) (by rfl) (fun _ _ => by rfl) (G2.out) ?_
            simp only [Act.put, List.setIfInBounds_toArray, List.set_cons_zero, List.set_cons_succ]
            refine wpAnyH_done (by kernel_rfl) ?_ _
            have hc9 : (c8 != c8) = false := by simp
            have hx9 : (x8 != x8) = false := by simp
            go_wp2_with fail
            go_roundw
            case rel => exact ⟨k + 1, by omega, by go_num, HBR.out.trans (HBD.out.mono HBR.out.size)⟩
            case measure => simp [intOf]; omega
          · have hk1 : ¬ (k : Int) < 3 := by omega
            go_wp2_with fail
            go_roundw
            case rel => exact ⟨i + 1, by have := HI6.out; omega, by go_num, HBR.out⟩
            case measure => have := HI6.out; simp [intOf]; omega
      · have hi1 : ¬ (i : Int) < 6 := by omega
        rename World => wz
        have LV := lives_any wz
        go_wp2_with fail
        with_reducible refine LV.mono ?_
        rintro e w8 ⟨rfl, hb⟩
        have HBB := Lib.hid (HB7.out.trans ((HBR.out.trans (hb.mono HBR.out.size)).mono HB7.out.size))
        clear hb LV
        go_wp2_with fail
        go_ret
        exact ⟨rfl, HBB.out⟩
end Go.Proofs.Ytmkkegigajmhkaa

namespace Go.Proofs.Ytmkkegigajmhkaa
open Go.RowKit Go.Maps

/-- the table's own block and a tree's -/
structure TS3 (W : World) (N b1 B i : Nat) (va vc vk u : Value) (T : Tb) (t : Tr) : Prop where
  bx : Boxs W b1 25 #[va, vc, vk]
  rd : TbR W va vc vk T
  cu : W.cell? ⟨B, i, none⟩ = some u
  lt : B < W.heap.size
  tr : TreeIn 105 (N ≤ ·) W u t
theorem TS3.below {W W' : World} {N b1 B i : Nat} {va vc vk u : Value} {T : Tb} {t : Tr} (h : TS3 W N b1 B i va vc vk u T t) (hb : Below W.heap.size W W') : TS3 W' N b1 B i va vc vk u T t :=
  ⟨Boxs.below h.bx hb, h.rd.below hb, (hb.cell (p := ⟨B, i, none⟩) h.lt).trans h.cu, Nat.lt_of_lt_of_le h.lt hb.size, h.tr.under hb⟩
theorem TS3.cells {W : World} {N b1 B i : Nat} {va vc vk u : Value} {T : Tb} {t : Tr} (h : TS3 W N b1 B i va vc vk u T t) : W.cell? ⟨b1, 0, none⟩ = some va ∧ W.cell? ⟨b1, 1, none⟩ = some vc ∧ W.cell? ⟨b1, 2, none⟩ = some vk ∧ W.cell? ⟨B, i, none⟩ = some u :=
  ⟨h.bx.cell 0, h.bx.cell 1, h.bx.cell 2, h.cu⟩
theorem tw_exE {T : Tb} (ho : OkT T) : exE T = if hasTw T = true then 14 else 0 := by unfold exE; rw [if_neg (by simpa using (okT_iff T).2 ho)]
/-- whatever of a table that is no greater than ten worlds -/
theorem least_law {T : Tb} (ho : OkT T) (h10 : T.rows.length ≤ 10) {is : Bool} {x y : Int} (htw : TwRes T x y is) {cg xg : Int} (hg : Gr T cg xg) :
    (∀ (t : Tr) (c e : Int), Ck T t c e → e = 0 → is = false ∧ ¬ c < bestC T) ∧
    ((is = true ∧ bestErr T = 14 ∧ xg = 14 ∧ bestTr T = .nil ∧ greTr T = .nil) ∨
     (is = false ∧ bestErr T = 0 ∧ xg = 0 ∧ bestC T ≤ cg ∧ (∀ c e, Ck T (bestTr T) c e → e = 0 ∧ c = bestC T) ∧ (∀ c e, Ck T (greTr T) c e → e = 0 ∧ c = cg))) := by
  have hv := (okT_iff T).2 ho
  have his := htw.is hv
  have hex := tw_exE ho
  cases h : hasTw T with
  | true =>
    rw [h] at his hex
    have hbe : bestErr T = 14 := by unfold bestErr; rw [if_pos (by rw [hex]; decide), hex]; rfl
    refine ⟨fun t c e hk he => ?_, .inl ⟨his, hbe, ?_, by unfold bestTr; rw [hbe]; rfl, by unfold greTr; rw [hex]; rfl⟩⟩
    · exfalso
      have hn := ck_noTw hk he
      have ht : hasTw T = false := by
        cases htw with
        | bad h9 => exact absurd hv h9
        | none h9 hn9 => exact hasTw_none hn9
        | hit h9 a b hh => exact absurd hn (noTw_hit ho hh)
      rw [h] at ht; cases ht
    · cases hg with
      | bad h9 => rw [hex]; rfl
      | good h9 hc => rw [hex] at h9; cases h9
  | false =>
    rw [h] at his hex
    have hex0 : exE T = 0 := by rw [hex]; rfl
    have hbe : bestErr T = 0 := by unfold bestErr; rw [if_neg (by rw [hex0]; simp), if_neg (by omega)]
    have hcg : Ck T (greTr T) cg xg := by
      cases hg with
      | bad h9 => exact absurd hex0 h9
      | good h9 hc => exact hc
    have hx0 := greTr_ck hex0 hcg
    refine ⟨fun t c e hk he => ⟨his, by have := bestC_least hbe hk he; omega⟩, .inr ⟨his, hbe, hx0, bestC_least hbe hcg hx0, fun c e hk => bestTr_ck hbe hk, fun c e hk => ?_⟩⟩
    obtain ⟨e1, e2⟩ := hk.uniq hcg
    exact ⟨by omega, e1⟩
set_option maxRecDepth 100000 in
set_option maxHeartbeats 16000000 in
theorem questionLeast_any (v vm : Value) (l ms : List Int) (how by_ : Int) (w : World) (h : RdI w v l) (il : inI l) (hm : RdI w vm ms) (im : inI ms) (hh1 : -9223372036854775808 ≤ how) (hh2 : how ≤ 9223372036854775807) (hb1 : -9223372036854775808 ≤ by_) (hb2 : by_ ≤ 9223372036854775807) :
    Calls Try.prog 7 #[v, vm, .int .i64 how, .int .i64 by_] w fun e w' => e = .returned (.bool true) ∧ Below w.heap.size w w' := by
  have MK := made_any v l w h il
  have hok := made_ok l
  have h7 := madeT_rows l
  obtain ⟨T, hT⟩ : ∃ T, madeT l = T := ⟨_, rfl⟩
  rw [hT] at MK hok h7
  have h71 : (plainT T).rows.length ≤ 7 := h7
  have HOK := Lib.hid hok; have H71 := Lib.hid h71; have H7 := Lib.hid h7
  obtain ⟨av, cv, rfl⟩ := h.form
  obtain ⟨am, cm, rfl⟩ := hm.form
  have HM := Lib.hid hm
  clear h hm hT hok h7 h71
  go_enter Try.func7, Try.ntmps7
  go_wp2_with fail
  with_reducible refine MK.mono ?_
  rintro e w2 ⟨⟨va, vc, vk, us, rfl, hown⟩, hb⟩
  have htb := hown.tb
  obtain ⟨aa, ca, rfl⟩ := htb.rows.form
  obtain ⟨ac, cc, rfl⟩ := htb.costs.form
  obtain ⟨ak, ck, rfl⟩ := htb.cls.form
  have hba := alloc_below w2 (.cells #[.slice aa T.rows.length ca, .slice ac T.costs.length cc, .slice ak T.cls.length ck] 25)
  obtain ⟨W2, hW2⟩ : ∃ W, w2.alloc (.cells #[.slice aa T.rows.length ca, .slice ac T.costs.length cc, .slice ak T.cls.length ck] 25) = W := ⟨_, rfl⟩
  have BX := Lib.hid (show Boxs W2 w2.heap.size 25 #[.slice aa T.rows.length ca, .slice ac T.costs.length cc, .slice ak T.cls.length ck] by rw [← hW2]; exact Boxs.new w2 25 _)
  rw [hW2] at hba
  have HT := Lib.hid (htb.below hba)
  have HB := Lib.hid (hb.trans (hba.mono hb.size))
  obtain ⟨b1, hB1⟩ : ∃ b, w2.heap.size = b := ⟨_, rfl⟩
  rw [hB1] at BX
  clear hown htb hb hba MK
  have OW := fun (W : World) => own_any aa ac ak T.rows.length T.costs.length T.cls.length ca cc ck W
  have p0 := BX.out.cell 0; have p1 := BX.out.cell 1; have p2 := BX.out.cell 2
  have q1 := BX.out.lt
  simp only [List.getElem?_toArray, List.getElem?_cons_zero, List.getElem?_cons_succ] at p0 p1 p2
  have XX := OW W2
  go_wp2_with fail
  clear hW2 hB1
  with_reducible refine XX.mono ?_
  rintro e w3 ⟨rfl, hb⟩
  have BX := Lib.hid (Boxs.below BX.out hb)
  have HT := Lib.hid (HT.out.below hb)
  have HB := Lib.hid (HB.out.trans (hb.mono HB.out.size))
  clear hb XX
  clear p0 p1 p2 q1
  have XX := bestP_any _ _ _ T w3 HT.out
  unfold SolveOut at XX
  go_wp2_with fail
  with_reducible refine XX.mono ?_
  rintro e w4 ⟨⟨px, rfl, htx⟩, hb⟩
  obtain ⟨qx, rfl⟩ := htx.form
  have TX := Lib.hid htx
  clear htx
  have BX := Lib.hid (Boxs.below BX.out hb)
  have HT := Lib.hid (HT.out.below hb)
  have HB := Lib.hid (HB.out.trans (hb.mono HB.out.size))
  clear hb XX
  have p0 := BX.out.cell 0; have p1 := BX.out.cell 1; have p2 := BX.out.cell 2
  have q1 := BX.out.lt
  simp only [List.getElem?_toArray, List.getElem?_cons_zero, List.getElem?_cons_succ] at p0 p1 p2
  have XX := OW w4
  go_wp2_with fail
  with_reducible refine XX.mono ?_
  rintro e w5 ⟨rfl, hb⟩
  have BX := Lib.hid (Boxs.below BX.out hb)
  have HT := Lib.hid (HT.out.below hb)
  have TX := Lib.hid (TX.out.under hb)
  have HB := Lib.hid (HB.out.trans (hb.mono HB.out.size))
  clear hb XX
  clear p0 p1 p2 q1
  have XX := greedyP_any _ _ _ T w5 HT.out
  unfold SolveOut at XX
  go_wp2_with fail
  with_reducible refine XX.mono ?_
  rintro e w6 ⟨⟨cg, xg, ⟨py, rfl, hty⟩, hgr⟩, hb⟩
  obtain ⟨qy, rfl⟩ := hty.form
  have TY := Lib.hid hty
  have HGR := Lib.hid hgr
  clear hty hgr
  have BX := Lib.hid (Boxs.below BX.out hb)
  have HT := Lib.hid (HT.out.below hb)
  have TX := Lib.hid (TX.out.under hb)
  have HB := Lib.hid (HB.out.trans (hb.mono HB.out.size))
  clear hb XX
  have p0 := BX.out.cell 0; have p1 := BX.out.cell 1; have p2 := BX.out.cell 2
  have q1 := BX.out.lt
  simp only [List.getElem?_toArray, List.getElem?_cons_zero, List.getElem?_cons_succ] at p0 p1 p2
  have XX := OW w6
  go_wp2_with fail
  with_reducible refine XX.mono ?_
  rintro e w7 ⟨rfl, hb⟩
  have BX := Lib.hid (Boxs.below BX.out hb)
  have HT := Lib.hid (HT.out.below hb)
  have TX := Lib.hid (TX.out.under hb)
  have TY := Lib.hid (TY.out.under hb)
  have HB := Lib.hid (HB.out.trans (hb.mono HB.out.size))
  clear hb XX
  clear p0 p1 p2 q1
  have XX := twins_any _ _ _ T w7 HT.out
  unfold TwOut at XX
  go_wp2_with fail
  with_reducible refine XX.mono ?_
  rintro e w8 ⟨⟨xt, yt, is, rfl, htw⟩, hb⟩
  obtain ⟨hall, hcas⟩ := least_law HOK.out (by have := H7.out; omega) htw HGR.out
  have HALL := Lib.hid hall; have HCAS := Lib.hid hcas
  clear htw hall hcas
  have BX := Lib.hid (Boxs.below BX.out hb)
  have HT := Lib.hid (HT.out.below hb)
  have TX := Lib.hid (TX.out.under hb)
  have TY := Lib.hid (TY.out.under hb)
  have HB := Lib.hid (HB.out.trans (hb.mono HB.out.size))
  clear hb XX
  have hb := alloc_below w8 (.cells #[.int .i64 xt, .int .i64 yt] 30)
  have BX := Lib.hid (Boxs.below BX.out hb)
  have HT := Lib.hid (HT.out.below hb)
  have TX := Lib.hid (TX.out.under hb)
  have TY := Lib.hid (TY.out.under hb)
  have HB := Lib.hid (HB.out.trans (hb.mono HB.out.size))
  clear hb
  have p0 := BX.out.cell 0; have p1 := BX.out.cell 1; have p2 := BX.out.cell 2
  have q1 := BX.out.lt
  simp only [List.getElem?_toArray, List.getElem?_cons_zero, List.getElem?_cons_succ] at p0 p1 p2
  have XX := plain_any _ _ _ T _ HT.out HOK.out
  go_wp2_with fail
  generalize w8.alloc (.cells #[.int .i64 xt, .int .i64 yt] 30) = w9 at *
  with_reducible refine XX.mono ?_
  rintro e wa ⟨⟨va1, vc1, vk1, us1, rfl, hown⟩, hb⟩
  have HT1 := Lib.hid hown.tb
  obtain ⟨aa1, ca1, rfl⟩ := hown.tb.rows.form
  obtain ⟨ac1, cc1, rfl⟩ := hown.tb.costs.form
  obtain ⟨ak1, ck1, rfl⟩ := hown.tb.cls.form
  have BX := Lib.hid (Boxs.below BX.out hb)
  have HT := Lib.hid (HT.out.below hb)
  have TX := Lib.hid (TX.out.under hb)
  have TY := Lib.hid (TY.out.under hb)
  have HB := Lib.hid (HB.out.trans (hb.mono HB.out.size))
  clear hb XX hown p0 p1 p2 q1
  have XX := trees_any _ _ _ _ (plainT T) ms how by_ wa HT1.out H71.out (HM.out.below HB.out) im hh1 hh2 hb1 hb2
  go_wp2_with fail
  with_reducible refine XX.mono ?_
  rintro e wb ⟨⟨B, us, ts, rfl, hrd, hul, htr, hok⟩, hb⟩
  have HRD := Lib.hid hrd; have HTR := Lib.hid htr; have HTO := Lib.hid hok; have HUL := Lib.hid hul
  have BX := Lib.hid (Boxs.below BX.out hb)
  have HT := Lib.hid (HT.out.below hb)
  have TX := Lib.hid (TX.out.under hb)
  have TY := Lib.hid (TY.out.under hb)
  have HB := Lib.hid (HB.out.trans (hb.mono HB.out.size))
  clear hb XX hrd htr hok hul HT1 HM H71
  generalize wa.heap.size = N at *
  go_wp2_with fail
  go_loopw [19] (fun iv wr => ∃ i : Nat, i ≤ 6 ∧ iv = .int .i64 i ∧ Below wb.heap.size wb wr) (fun iv _ => 6 - (intOf iv).toNat)
  case atStart => exact ⟨0, by omega, rfl, Below.refl _ _⟩
  case round =>
    obtain ⟨i, hi, rfl, hbr⟩ := hrel
    have hi0 : (0 : Int) ≤ (i : Int) := Int.natCast_nonneg _
    have HBR := Lib.hid hbr
    clear hbr
    by_cases hlt6 : i < 6
    · have hi1 : (i : Int) < 6 := by omega
      obtain ⟨p, t, hcu, hBl, htr, htm⟩ := TreesOut.at HRD.out HUL.out HTR.out hlt6
      have hto := HTO.out t htm
      have hsk := smK_wd t (by have := hto.w; omega); have hst := smT_wd t (by have := hto.w; omega); have hdp : depT t ≤ 100000 := by have := hto.d; omega
      have SB : ∀ {W W' : World}, TS3 W N b1 B i (.slice aa T.rows.length ca) (.slice ac T.costs.length cc) (.slice ak T.cls.length ck) (.pointer p) T t → Below W.heap.size W W' → TS3 W' N b1 B i (.slice aa T.rows.length ca) (.slice ac T.costs.length cc) (.slice ak T.cls.length ck) (.pointer p) T t := fun h hb => h.below hb
      have hc2 := (show TS3 wb N b1 B i (.slice aa T.rows.length ca) (.slice ac T.costs.length cc) (.slice ak T.cls.length ck) (.pointer p) T t from ⟨BX.out, HT.out, hcu, hBl, htr⟩).below HBR.out
      have G1 := Lib.hid (hc2.below (Below.dn (Below.refl wr.heap.size wr) 1))
      have HBD := Lib.hid (Below.dn (Below.refl wr.heap.size wr) 1)
      have OW1 := OW (wr.drewN 1)
      clear hcu hBl htr htm hto hc2
      go_wp2_with fail
      refine wp_region_held (S := fun W => TS3 W N b1 B i (.slice aa T.rows.length ca) (.slice ac T.costs.length cc) (.slice ak T.cls.length ck) (.pointer p) T t) (by kernel_rfl) ?_
      have hdr : (wr).drew = { wr with drawn := (wr).drawn + 1 } := rfl
      rw [← hdr]
      clear hdr
      refine wpAnyHTake 0 (some 61) (.agg #[.slice aa T.rows.length ca, .slice ac T.costs.length cc, .slice ak T.cls.length ck]) rfl rfl (by kernel_rfl) (by kernel_rfl) (by kernel_rfl) (fun _ _ _ h => h) (by rfl) (fun W hW => by obtain ⟨c0, c1, c2, cu⟩ := hW.cells; go_simp) (G1.out) ?_
      simp only [Act.put, List.setIfInBounds_toArray, List.set_cons_zero, List.set_cons_succ]
      refine wpAnyHTake 2 (some 63) (.slice (some ⟨B, 0, none⟩) 6 6) rfl rfl (by kernel_rfl) (by kernel_rfl) (by kernel_rfl) (fun _ _ _ h => h) (by rfl) (fun _ _ => by rfl) (G1.out) ?_
      simp only [Act.put, List.setIfInBounds_toArray, List.set_cons_zero, List.set_cons_succ]
      refine wpAnyHTake 3 (some 64) (.int .i64 (i : Int)) rfl rfl (by kernel_rfl) (by kernel_rfl) (by kernel_rfl) (fun _ _ _ h => h) (by rfl) (fun _ _ => by rfl) (G1.out) ?_
      simp only [Act.put, List.setIfInBounds_toArray, List.set_cons_zero, List.set_cons_succ]
      refine wpAnyHTake 4 (some 65) (.pointer (some ⟨B, i, none⟩)) rfl rfl (by kernel_rfl) (by kernel_rfl) (by kernel_rfl) (fun _ _ _ h => h) (by rfl) (fun _ _ => by go_simp) (G1.out) ?_
      simp only [Act.put, List.setIfInBounds_toArray, List.set_cons_zero, List.set_cons_succ]
      refine wpAnyHTake 5 (some 66) (.pointer p) rfl rfl (by kernel_rfl) (by kernel_rfl) (by kernel_rfl) (fun _ _ _ h => h) (by rfl) (fun W hW => by obtain ⟨c0, c1, c2, cu⟩ := hW.cells; go_simp) (G1.out) ?_
      simp only [Act.put, List.setIfInBounds_toArray, List.set_cons_zero, List.set_cons_succ]
      refine wpAnyHCall 1 (some 62) 14 #[.agg #[.slice aa T.rows.length ca, .slice ac T.costs.length cc, .slice ak T.cls.length ck]] (by kernel_rfl) rfl rfl (by rfl) (by go_simp) (OW1) ?_
      rintro e xc2 ⟨rfl, hb9⟩
      have G2 := Lib.hid (SB G1.out hb9)
      have HBD := Lib.hid (HBD.out.trans (hb9.mono HBD.out.size))
      have TN := treeN_any G2.out.tr hsk xc2 (Below.refl _ _)
      unfold ConvOut at TN
      clear hb9 OW1
      refine ⟨_, rfl, G2.out, ?_⟩
      simp only [Act.put, List.setIfInBounds_toArray, List.set_cons_zero, List.set_cons_succ]
      refine wpAnyHCall 6 (some 67) 30 #[.pointer p] (by kernel_rfl) rfl rfl (by rfl) (by go_simp) (TN) ?_
      rintro e xc3 ⟨⟨p8, rfl, hx8⟩, hb9⟩
      have G3 := Lib.hid (SB G2.out hb9)
      have HBD := Lib.hid (HBD.out.trans (hb9.mono HBD.out.size))
      obtain ⟨q8, rfl⟩ := hx8.form
      have CK := check_any hx8 hst hdp _ _ _ T xc3 (Below.refl _ _) G3.out.rd
      clear hx8
      clear hb9 TN
      refine ⟨_, rfl, G3.out, ?_⟩
      simp only [Act.put, List.setIfInBounds_toArray, List.set_cons_zero, List.set_cons_succ]
      refine wpAnyHCall 7 (some 68) 29 #[.agg #[.slice aa T.rows.length ca, .slice ac T.costs.length cc, .slice ak T.cls.length ck], .pointer q8] (by kernel_rfl) rfl rfl (by rfl) (by go_simp) (CK) ?_
      rintro e xc4 ⟨⟨c7, x7, rfl, hck⟩, hb9⟩
      have G4 := Lib.hid (SB G3.out hb9)
      have HBD := Lib.hid (HBD.out.trans (hb9.mono HBD.out.size))
      have HCK := Lib.hid hck
      clear hck
      clear hb9 CK
      refine ⟨_, rfl, G4.out, ?_⟩
      simp only [Act.put, List.setIfInBounds_toArray, List.set_cons_zero, List.set_cons_succ]
      refine wpAnyHTake 8 (some 60) (.tuple #[.int .i64 c7, .int .i64 x7]) rfl rfl (by kernel_rfl) (by kernel_rfl) (by kernel_rfl) (fun _ _ _ h => h) (by rfl) (fun _ _ => by rfl) (G4.out) ?_
      simp only [Act.put, List.setIfInBounds_toArray, List.set_cons_zero, List.set_cons_succ]
      refine wpAnyHTake 9 (some 69) (.int .i64 c7) rfl rfl (by kernel_rfl) (by kernel_rfl) (by kernel_rfl) (fun _ _ _ h => h) (by rfl) (fun _ _ => by rfl) (G4.out) ?_
      simp only [Act.put, List.setIfInBounds_toArray, List.set_cons_zero, List.set_cons_succ]
      refine wpAnyHTake 10 (some 70) (.int .i64 x7) rfl rfl (by kernel_rfl) (by kernel_rfl) (by kernel_rfl) (fun _ _ _ h => h) (by rfl) (fun _ _ => by rfl) (G4.out) ?_
      simp only [Act.put, List.setIfInBounds_toArray, List.set_cons_zero, List.set_cons_succ]
      refine wpAnyHTake 11 (some 20) (.int .i64 c7) rfl rfl (by kernel_rfl) (by kernel_rfl) (by kernel_rfl) (fun _ _ _ h => h) (by rfl) (fun _ _ => by rfl) (G4.out) ?_
      simp only [Act.put, List.setIfInBounds_toArray, List.set_cons_zero, List.set_cons_succ]
      refine wpAnyHTake 12 (some 21) (.int .i64 x7) rfl rfl (by kernel_rfl) (by kernel_rfl) (by kernel_rfl) (fun _ _ _ h => h) (by rfl) (fun _ _ => by rfl) (G4.out) ?_
      simp only [Act.put, List.setIfInBounds_toArray, List.set_cons_zero, List.set_cons_succ]
      refine wpAnyH_done (by kernel_rfl) ?_ _
      have HBN := Lib.hid (HBR.out.trans (HBD.out.mono HBR.out.size))
      go_upto_region 10 with fail
      by_cases hx0 : x7 = 0
      · obtain ⟨hisf, hcn⟩ := HALL.out t c7 x7 HCK.out hx0
        subst hx0 hisf
        clear HCAS
        go_wp2_with fail
        go_roundw
        case rel => exact ⟨i + 1, by omega, by go_num, HBN.out⟩
        case measure => simp [intOf]; omega
      · have hx1 : (x7 == 0) = false := by simpa using hx0
        clear hx0
        go_wp2_with fail
        go_roundw
        case rel => exact ⟨i + 1, by omega, by go_num, HBN.out⟩
        case measure => simp [intOf]; omega
    · have hi1 : ¬ (i : Int) < 6 := by omega
      have BX := Lib.hid (Boxs.below BX.out HBR.out)
      have HT := Lib.hid (HT.out.below HBR.out)
      have TX := Lib.hid (TX.out.under HBR.out)
      have TY := Lib.hid (TY.out.under HBR.out)
      have HB := Lib.hid (HB.out.trans (HBR.out.mono HB.out.size))
      clear HBR HRD HTR HTO HUL HALL
      rename World => wz
      rcases HCAS.out with ⟨rfl, he, hf, hx, hy⟩ | ⟨rfl, he, hf, hle, hb1k, hg1k⟩
      · have hqx : qx = none := by have := TX.out; rw [hx] at this; simpa using this.isNil
        have hqy : qy = none := by have := TY.out; rw [hy] at this; simpa using this.isNil
        have LV := lives_any wz
        subst hqx hqy hf
        rw [he]
        clear HCAS he hx hy TX TY
        go_wp2_with fail
        with_reducible refine LV.mono ?_
        rintro e wy ⟨rfl, hb⟩
        have HBB := Lib.hid (HB.out.trans (hb.mono HB.out.size))
        clear hb LV
        go_wp2_with fail
        go_ret
        exact ⟨rfl, HBB.out⟩
      · rw [he]
        subst hf
        have HB1K := Lib.hid hb1k; have HG1K := Lib.hid hg1k
        have hsx := bestTr_sm2 T; have hsy := greTr_sm2 T
        have HSX := Lib.hid hsx; have HSY := Lib.hid hsy
        clear HCAS he hb1k hg1k hsx hsy
        have p0 := BX.out.cell 0; have p1 := BX.out.cell 1; have p2 := BX.out.cell 2
        have q1 := BX.out.lt
        simp only [List.getElem?_toArray, List.getElem?_cons_zero, List.getElem?_cons_succ] at p0 p1 p2
        have XX := OW wz
        go_wp2_with fail
        with_reducible refine XX.mono ?_
        rintro e x1 ⟨rfl, hb⟩
        have BX := Lib.hid (Boxs.below BX.out hb)
        have HT := Lib.hid (HT.out.below hb)
        have TX := Lib.hid (TX.out.under hb)
        have TY := Lib.hid (TY.out.under hb)
        have HB := Lib.hid (HB.out.trans (hb.mono HB.out.size))
        clear hb XX
        clear p0 p1 p2 q1
        have XX := check_any TX.out HSX.out.1 HSX.out.2 _ _ _ T x1 (Below.refl _ _) HT.out
        go_wp2_with fail
        with_reducible refine XX.mono ?_
        rintro e x2 ⟨⟨c1, e1, rfl, hck⟩, hb⟩
        obtain ⟨rfl, hcb⟩ := HB1K.out _ _ hck
        subst hcb
        clear hck
        have BX := Lib.hid (Boxs.below BX.out hb)
        have HT := Lib.hid (HT.out.below hb)
        have TX := Lib.hid (TX.out.under hb)
        have TY := Lib.hid (TY.out.under hb)
        have HB := Lib.hid (HB.out.trans (hb.mono HB.out.size))
        clear hb XX
        have p0 := BX.out.cell 0; have p1 := BX.out.cell 1; have p2 := BX.out.cell 2
        have q1 := BX.out.lt
        simp only [List.getElem?_toArray, List.getElem?_cons_zero, List.getElem?_cons_succ] at p0 p1 p2
        have XX := OW x2
        go_wp2_with fail
        with_reducible refine XX.mono ?_
        rintro e x3 ⟨rfl, hb⟩
        have BX := Lib.hid (Boxs.below BX.out hb)
        have HT := Lib.hid (HT.out.below hb)
        have TX := Lib.hid (TX.out.under hb)
        have TY := Lib.hid (TY.out.under hb)
        have HB := Lib.hid (HB.out.trans (hb.mono HB.out.size))
        clear hb XX
        clear p0 p1 p2 q1
        have XX := check_any TY.out HSY.out.1 HSY.out.2 _ _ _ T x3 (Below.refl _ _) HT.out
        go_wp2_with fail
        with_reducible refine XX.mono ?_
        rintro e x4 ⟨⟨c2, e2, rfl, hck⟩, hb⟩
        obtain ⟨rfl, rfl⟩ := HG1K.out _ _ hck
        clear hck
        have BX := Lib.hid (Boxs.below BX.out hb)
        have HT := Lib.hid (HT.out.below hb)
        have TX := Lib.hid (TX.out.under hb)
        have TY := Lib.hid (TY.out.under hb)
        have HB := Lib.hid (HB.out.trans (hb.mono HB.out.size))
        clear hb XX
        have LV := lives_any x4
        have hbb : (bestC T == bestC T) = true := by simp
        have hcc : (c2 == c2) = true := by simp
        clear HB1K HG1K HSX HSY TX TY HT BX OW
        go_wp2_with fail
        with_reducible refine LV.mono ?_
        rintro e wy ⟨rfl, hb⟩
        have HBB := Lib.hid (HB.out.trans (hb.mono HB.out.size))
        clear hb LV
        go_wp2_with fail
        go_ret
        exact ⟨rfl, HBB.out⟩
end Go.Proofs.Ytmkkegigajmhkaa

