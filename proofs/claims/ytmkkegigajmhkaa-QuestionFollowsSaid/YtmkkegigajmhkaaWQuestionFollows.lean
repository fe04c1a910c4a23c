/- The walk of QuestionChecks. The walk of QuestionFollows. -/
import Derived.Test.YtmkkegigajmhkaaN26
import Derived.Test.YtmkkegigajmhkaaN22
import Derived.Test.YtmkkegigajmhkaaN27
set_option linter.unusedVariables false
namespace Go.Proofs.Ytmkkegigajmhkaa
open Go.RowKit Go.Maps

theorem TbS.three {w : World} {T1 T2 T3 : Tb} {aa1 ac1 ak1 : Option Addr} {ca1 cc1 ck1 : Nat} {aa2 ac2 ak2 : Option Addr} {ca2 cc2 ck2 : Nat} {aa3 ac3 ak3 : Option Addr} {ca3 cc3 ck3 : Nat}
    (h1 : TbR w (.slice aa1 T1.rows.length ca1) (.slice ac1 T1.costs.length cc1) (.slice ak1 T1.cls.length ck1) T1) (h2 : TbR w (.slice aa2 T2.rows.length ca2) (.slice ac2 T2.costs.length cc2) (.slice ak2 T2.cls.length ck2) T2) (h3 : TbR w (.slice aa3 T3.rows.length ca3) (.slice ac3 T3.costs.length cc3) (.slice ak3 T3.cls.length ck3) T3) :
    TbS (w.alloc (.cells #[.slice aa1 T1.rows.length ca1, .slice ac1 T1.costs.length cc1, .slice ak1 T1.cls.length ck1, .slice aa2 T2.rows.length ca2, .slice ac2 T2.costs.length cc2, .slice ak2 T2.cls.length ck2, .slice aa3 T3.rows.length ca3, .slice ac3 T3.costs.length cc3, .slice ak3 T3.cls.length ck3] 25)) w.heap.size [T1, T2, T3] := by
  intro i T hT
  have hb := alloc_below w (.cells #[.slice aa1 T1.rows.length ca1, .slice ac1 T1.costs.length cc1, .slice ak1 T1.cls.length ck1, .slice aa2 T2.rows.length ca2, .slice ac2 T2.costs.length cc2, .slice ak2 T2.cls.length ck2, .slice aa3 T3.rows.length ca3, .slice ac3 T3.costs.length cc3, .slice ak3 T3.cls.length ck3] 25)
  have hx := Boxs.new w 25 #[.slice aa1 T1.rows.length ca1, .slice ac1 T1.costs.length cc1, .slice ak1 T1.cls.length ck1, .slice aa2 T2.rows.length ca2, .slice ac2 T2.costs.length cc2, .slice ak2 T2.cls.length ck2, .slice aa3 T3.rows.length ca3, .slice ac3 T3.costs.length cc3, .slice ak3 T3.cls.length ck3]
  have hlt := hx.lt
  match i, hT with
  | 0, hT => cases hT; exact ⟨_, _, _, _, _, _, ⟨(hx.cell 0).trans rfl, (hx.cell 1).trans rfl, (hx.cell 2).trans rfl, h1.below hb, hlt⟩⟩
  | 1, hT => cases hT; exact ⟨_, _, _, _, _, _, ⟨(hx.cell 3).trans rfl, (hx.cell 4).trans rfl, (hx.cell 5).trans rfl, h2.below hb, hlt⟩⟩
  | 2, hT => cases hT; exact ⟨_, _, _, _, _, _, ⟨(hx.cell 6).trans rfl, (hx.cell 7).trans rfl, (hx.cell 8).trans rfl, h3.below hb, hlt⟩⟩
theorem plain_sm {T : Tb} (h : OkT T) : SmN 64 (plainT T) :=
  ⟨h.r64, h.c64, by have := foldG_len (groups T) T.cls; have := h.kl; have := h.r64; show ((groups T).foldl plainG T.cls).length ≤ _; omega, fun r hr => by have := h.rl r hr; have := h.c64; omega, by have := foldG_len (groups T) T.cls; have := h.kl; show T.rows.length ≤ ((groups T).foldl plainG T.cls).length; omega⟩
/-- a table and a tree, each in a block -/
structure CS (W : World) (N g k B i : Nat) (va vc vk u : Value) (T : Tb) (t : Tr) : Prop where
  te : TbE W g k va vc vk T
  cu : W.cell? ⟨B, i, none⟩ = some u
  lt : B < W.heap.size
  tr : TreeIn 105 (N ≤ ·) W u t
theorem CS.below {W W' : World} {N g k B i : Nat} {va vc vk u : Value} {T : Tb} {t : Tr} (h : CS W N g k B i va vc vk u T t) (hb : Below W.heap.size W W') : CS W' N g k B i va vc vk u T t :=
  ⟨h.te.below hb, (hb.cell (p := ⟨B, i, none⟩) h.lt).trans h.cu, Nat.lt_of_lt_of_le h.lt hb.size, h.tr.under hb⟩
theorem TreesOut.at {W : World} {B : Nat} {us : List Value} {ts : List Tr} {N i : Nat} (h : Rd W (.slice (some ⟨B, 0, none⟩) 6 6) us) (hl : us.length = 6) (hT : Trees 105 (N ≤ ·) W us ts) (hi : i < 6) :
    ∃ p t, W.cell? ⟨B, i, none⟩ = some (.pointer p) ∧ B < W.heap.size ∧ TreeIn 105 (N ≤ ·) W (.pointer p) t ∧ t ∈ ts := by
  obtain ⟨u, hu⟩ := elem_at (show i < us.length by omega)
  obtain ⟨t, ht⟩ := elem_at (show i < ts.length by rw [← hT.1]; omega)
  obtain ⟨b, off, e, h1, h2⟩ := h.at hu
  simp only [Option.some.injEq, Addr.mk.injEq, and_true] at e
  obtain ⟨rfl, rfl⟩ := e
  have h3 := hT.2 i u t hu ht
  obtain ⟨p, rfl⟩ := h3.form
  exact ⟨p, t, by simpa using h2, h1, h3, List.mem_of_getElem? ht⟩
set_option maxRecDepth 100000 in
set_option maxHeartbeats 16000000 in
theorem questionChecks_any (v vm : Value) (l ms : List Int) (how by_ also : Int) (w : World) (h : RdI w v l) (il : inI l) (hm : RdI w vm ms) (im : inI ms) (hh1 : -9223372036854775808 ≤ how) (hh2 : how ≤ 9223372036854775807) (hb1 : -9223372036854775808 ≤ by_) (hb2 : by_ ≤ 9223372036854775807) (ha1 : -9223372036854775808 ≤ also) (ha2 : also ≤ 9223372036854775807) :
    Calls Try.prog 5 #[v, vm, .int .i64 how, .int .i64 by_, .int .i64 also] w fun e w' => e = .returned (.bool true) ∧ Below w.heap.size w w' := by
  have MK := made_any v l w h il
  have hok := made_ok l
  have h7 := madeT_rows l
  obtain ⟨T0, hT0⟩ : ∃ T, madeT l = T := ⟨_, rfl⟩
  rw [hT0] at MK hok h7
  have hs1 := plain_sm hok
  have h71 : (plainT T0).rows.length ≤ 7 := h7
  obtain ⟨T1, hT1⟩ : ∃ T, plainT T0 = T := ⟨_, rfl⟩
  rw [hT1] at hs1 h71
  obtain ⟨T3, hT3⟩ : ∃ T, spoilT T1 also by_ = T := ⟨_, rfl⟩
  have H1 := Lib.hid hT1; have H3 := Lib.hid hT3; have HOK := Lib.hid hok; have HS1 := Lib.hid (hs1.sm (by omega))
  have H71 := Lib.hid h71
  obtain ⟨av, cv, rfl⟩ := h.form
  obtain ⟨am, cm, rfl⟩ := hm.form
  have HV := Lib.hid h; have HM := Lib.hid hm; have HT0 := Lib.hid hT0
  clear h hm hT0 hT1 hT3 hok hs1 h7 h71
  go_enter Try.func5, Try.ntmps5
  go_wp2_with fail
  with_reducible refine MK.mono ?_
  rintro e w1 ⟨⟨va, vc, vk, us, rfl, hown⟩, hb⟩
  have PL := plain_any va vc vk T0 w1 hown.tb HOK.out
  rw [H1.out] at PL
  obtain ⟨aa0, ca0, rfl⟩ := hown.tb.rows.form
  obtain ⟨ac0, cc0, rfl⟩ := hown.tb.costs.form
  obtain ⟨ak0, ck0, rfl⟩ := hown.tb.cls.form
  have HB := Lib.hid hb
  clear hown hb MK
  go_wp2_with fail
  with_reducible refine PL.mono ?_
  rintro e w2 ⟨⟨va, vc, vk, us, rfl, hown⟩, hb⟩
  have htb := hown.tb
  obtain ⟨aa1, ca1, rfl⟩ := htb.rows.form
  obtain ⟨ac1, cc1, rfl⟩ := htb.costs.form
  obtain ⟨ak1, ck1, rfl⟩ := htb.cls.form
  have hba := alloc_below w2 (.cells #[.slice aa1 T1.rows.length ca1, .slice ac1 T1.costs.length cc1, .slice ak1 T1.cls.length ck1] 25)
  obtain ⟨W2, hW2⟩ : ∃ W, w2.alloc (.cells #[.slice aa1 T1.rows.length ca1, .slice ac1 T1.costs.length cc1, .slice ak1 T1.cls.length ck1] 25) = W := ⟨_, rfl⟩
  have BX1 := Lib.hid (show Boxs W2 w2.heap.size 25 #[.slice aa1 T1.rows.length ca1, .slice ac1 T1.costs.length cc1, .slice ak1 T1.cls.length ck1] by rw [← hW2]; exact Boxs.new w2 25 _)
  rw [hW2] at hba
  have HT1 := Lib.hid (htb.below hba)
  have HB := Lib.hid (HB.out.trans ((hb.trans (hba.mono hb.size)).mono HB.out.size))
  obtain ⟨b1, hB1⟩ : ∃ b, w2.heap.size = b := ⟨_, rfl⟩
  rw [hB1] at BX1
  have TR := trees_any _ _ _ _ T1 ms how by_ W2 HT1.out H71.out (HM.out.below HB.out) im hh1 hh2 hb1 hb2
  clear hown htb hb hba PL
  have p0 := BX1.out.cell 0; have p1 := BX1.out.cell 1; have p2 := BX1.out.cell 2
  have q1 := BX1.out.lt
  simp only [List.getElem?_toArray, List.getElem?_cons_zero, List.getElem?_cons_succ] at p0 p1 p2
  go_wp2_with fail
  clear hW2 hB1
  with_reducible refine TR.mono ?_
  rintro e w3 ⟨⟨B, us, ts, rfl, hrd, hul, htr, hok⟩, hb⟩
  have HRD := Lib.hid hrd; have HTR := Lib.hid htr; have HTO := Lib.hid hok; have HUL := Lib.hid hul
  have HT1 := Lib.hid (HT1.out.below hb)
  have BX1 := Lib.hid (Boxs.below BX1.out hb)
  have HB := Lib.hid (HB.out.trans (hb.mono HB.out.size))
  have HV := Lib.hid (HV.out.below HB.out)
  clear TR hrd htr hok hb hul p0 p1 p2 q1
  generalize W2.heap.size = N at *
  go_upto_region 3 with fail
  go_cut [13] (fun s13 wx => ∃ g, s13 = .slice (some ⟨g, 0, none⟩) 3 3 ∧ TbS wx g [T1, T0, T3] ∧ Below w3.heap.size w3 wx)
  case first =>
    clear HRD HTR HTO HUL HM HB H71 HOK
    have MK := made_any _ l (w3.drewN 1) (HV.out.below (Below.dn (Below.refl w3.heap.size w3) 1)) il
    rw [HT0.out] at MK
    refine wp_region_E (fun W => W.cell? ⟨b1, 0, none⟩ = some (.slice aa1 T1.rows.length ca1) ∧ W.cell? ⟨b1, 1, none⟩ = some (.slice ac1 T1.costs.length cc1) ∧ W.cell? ⟨b1, 2, none⟩ = some (.slice ak1 T1.cls.length ck1)) (by kernel_rfl) ?_
    have hdr : (w3).drew = { w3 with drawn := (w3).drawn + 1 } := rfl
    rw [← hdr]
    clear hdr
    change wpAnyE _ _ _ _ _ _ _ _ ((w3).drewN 1)
    refine tk 0 28 rfl rfl (.agg #[.slice aa1 T1.rows.length ca1, .slice ac1 T1.costs.length cc1, .slice ak1 T1.cls.length ck1]) (fun W hW => by obtain ⟨k0, k1, k2⟩ := hW; go_simp) ⟨BX1.out.cell 0, BX1.out.cell 1, BX1.out.cell 2⟩ ?_
    try simp only [pa, pl]
    refine tm 1 29 rfl rfl (.slice av l.length cv) ⟨BX1.out.cell 0, BX1.out.cell 1, BX1.out.cell 2⟩ ?_
    try simp only [pa, pl]
    refine tk 3 31 rfl rfl (.agg #[.slice aa1 T1.rows.length ca1, .slice ac1 T1.costs.length cc1, .slice ak1 T1.cls.length ck1]) (fun W hW => by obtain ⟨k0, k1, k2⟩ := hW; go_simp) ⟨BX1.out.cell 0, BX1.out.cell 1, BX1.out.cell 2⟩ ?_
    try simp only [pa, pl]
    refine tm 4 32 rfl rfl (.int .i64 also) ⟨BX1.out.cell 0, BX1.out.cell 1, BX1.out.cell 2⟩ ?_
    try simp only [pa, pl]
    refine tm 5 33 rfl rfl (.int .i64 by_) ⟨BX1.out.cell 0, BX1.out.cell 1, BX1.out.cell 2⟩ ?_
    try simp only [pa, pl]
    refine wpAnyEOne 2 (by kernel_rfl) ?_
    refine wpOpCall (some 30) 10 #[.slice av l.length cv] rfl rfl rfl (by go_simp) (MK) ?_
    rintro e w4 ⟨⟨va, vc, vk, us4, rfl, hown⟩, hb⟩
    have htb0 := hown.tb
    obtain ⟨aa0, ca0, rfl⟩ := htb0.rows.form
    obtain ⟨ac0, cc0, rfl⟩ := htb0.costs.form
    obtain ⟨ak0, ck0, rfl⟩ := htb0.cls.form
    have hb34 := (Below.dn (Below.refl w3.heap.size w3) 1).trans hb
    have x1 := Boxs.below BX1.out hb34
    have SP := spoil_any _ _ _ T1 also by_ w4 (HT1.out.below hb34) HS1.out hb1 hb2 ha1 ha2
    rw [H3.out] at SP
    clear hown hb MK
    refine ⟨_, rfl, ?_⟩
    refine ⟨.inl (⟨x1.cell 0, x1.cell 1, x1.cell 2⟩), ?_⟩
    try simp only [pa, pl]
    refine wpAnyEOne 6 (by kernel_rfl) ?_
    refine wpOpCall (some 34) 11 #[.agg #[.slice aa1 T1.rows.length ca1, .slice ac1 T1.costs.length cc1, .slice ak1 T1.cls.length ck1], .int .i64 also, .int .i64 by_] rfl rfl rfl (by go_simp) (SP) ?_
    rintro e w5 ⟨⟨va, vc, vk, us5, rfl, hown⟩, hb⟩
    have htb3 := hown.tb
    obtain ⟨aa3, ca3, rfl⟩ := htb3.rows.form
    obtain ⟨ac3, cc3, rfl⟩ := htb3.costs.form
    obtain ⟨ak3, ck3, rfl⟩ := htb3.cls.form
    have htb0 := htb0.below hb
    have hb35 := hb34.trans (hb.mono hb34.size)
    have x1 := Boxs.below BX1.out hb35
    clear hown hb SP hb34
    refine ⟨_, rfl, ?_⟩
    refine ⟨.inl (⟨x1.cell 0, x1.cell 1, x1.cell 2⟩), ?_⟩
    try simp only [pa, pl]
    refine wpAnyEOne 7 (by kernel_rfl) ?_
    refine wpOpRun' (v := .slice (some ⟨w5.heap.size, 0, none⟩) 3 3) (w' := (w5.alloc (.cells #[.slice aa1 T1.rows.length ca1, .slice ac1 T1.costs.length cc1, .slice ak1 T1.cls.length ck1, .slice aa0 T0.rows.length ca0, .slice ac0 T0.costs.length cc0, .slice ak0 T0.cls.length ck0, .slice aa3 T3.rows.length ca3, .slice ac3 T3.costs.length cc3, .slice ak3 T3.cls.length ck3] 25))) (some 35) rfl rfl rfl (by go_simp <;> rfl) ?_
    have hal7 := alloc_below w5 (.cells #[.slice aa1 T1.rows.length ca1, .slice ac1 T1.costs.length cc1, .slice ak1 T1.cls.length ck1, .slice aa0 T0.rows.length ca0, .slice ac0 T0.costs.length cc0, .slice ak0 T0.cls.length ck0, .slice aa3 T3.rows.length ca3, .slice ac3 T3.costs.length cc3, .slice ak3 T3.cls.length ck3] 25)
    have y1 := Boxs.below x1 hal7
    refine ⟨.inl (⟨y1.cell 0, y1.cell 1, y1.cell 2⟩), ?_⟩
    try simp only [pa, pl]
    refine wpAnyEOne 8 (by kernel_rfl) ?_
    refine wpOpRun' (v := .slice (some ⟨w5.heap.size, 0, none⟩) 3 3) (w' := (w5.alloc (.cells #[.slice aa1 T1.rows.length ca1, .slice ac1 T1.costs.length cc1, .slice ak1 T1.cls.length ck1, .slice aa0 T0.rows.length ca0, .slice ac0 T0.costs.length cc0, .slice ak0 T0.cls.length ck0, .slice aa3 T3.rows.length ca3, .slice ac3 T3.costs.length cc3, .slice ak3 T3.cls.length ck3] 25))) (some 13) rfl rfl rfl (by rfl) ?_
    refine ⟨.inr (allUp_of (by kernel_rfl)), ?_⟩
    try simp only [pa, pl]
    refine wpAnyE_done (by kernel_rfl) ?_ _
    go_wp2_with fail
    go_meet
    exact ⟨_, rfl, TbS.three (HT1.out.below hb35) htb0 htb3, hb35.trans (hal7.mono hb35.size)⟩
  case rest =>
    obtain ⟨g, rfl, hts, hbw⟩ := hcut
    have TS := Lib.hid hts
    have HRD := Lib.hid (HRD.out.below hbw); have HTR := Lib.hid (HTR.out.block fun i hi _ => hbw.block i hi)
    have HB7 := Lib.hid (HB.out.trans (hbw.mono HB.out.size))
    clear hts hbw HB HT1 BX1 HV HM H71 HOK HS1 H1 H3
    rename World => w7
    go_wp2_with fail
    go_loopw [14] (fun iv wr => ∃ i : Nat, i ≤ 6 ∧ iv = .int .i64 i ∧ Below w7.heap.size w7 wr) (fun iv _ => 6 - (intOf iv).toNat)
    case atStart => exact ⟨0, by omega, rfl, Below.refl _ _⟩
    case round =>
      obtain ⟨i, hi, rfl, hbr⟩ := hrel
      have hi0 : (0 : Int) ≤ (i : Int) := Int.natCast_nonneg _
      have HBR := Lib.hid hbr
      clear hbr
      by_cases hlt6 : i < 6
      · have hi1 : (i : Int) < 6 := by omega
        have HI6 := Lib.hid hlt6
        clear hlt6
        rename World => w8
        go_wp2_with fail
        go_loopw [15] (fun kv wr => ∃ k : Nat, k ≤ 3 ∧ kv = .int .i64 k ∧ Below w7.heap.size w7 wr) (fun kv _ => 3 - (intOf kv).toNat)
        case atStart => exact ⟨0, by omega, rfl, HBR.out⟩
        case round =>
          obtain ⟨k, hk, rfl, hbr⟩ := hrel
          have hk0 : (0 : Int) ≤ (k : Int) := Int.natCast_nonneg _
          have HBR := Lib.hid hbr
          clear hbr
          by_cases hlt3 : k < 3
          · have hk1 : (k : Int) < 3 := by omega
            obtain ⟨T, hT⟩ := elem_at (show k < [T1, T0, T3].length from hlt3)
            obtain ⟨aa, ca, ac, cc, ak, ck, hte⟩ := (TS.out.below HBR.out) k T hT
            obtain ⟨p, t, hcu, hBl, htr, htm⟩ := TreesOut.at HRD.out HUL.out HTR.out HI6.out
            have hto := HTO.out t htm
            have hsk := smK_wd t (by have := hto.w; omega); have hst := smT_wd t (by have := hto.w; omega); have hdp : depT t ≤ 100000 := by have := hto.d; omega
            have SB : ∀ {W W' : World}, CS W N g k B i (.slice aa T.rows.length ca) (.slice ac T.costs.length cc) (.slice ak T.cls.length ck) (.pointer p) T t → Below W.heap.size W W' → CS W' N g k B i (.slice aa T.rows.length ca) (.slice ac T.costs.length cc) (.slice ak T.cls.length ck) (.pointer p) T t := fun h hb => h.below hb
            have hcs : CS wr N g k B i (.slice aa T.rows.length ca) (.slice ac T.costs.length cc) (.slice ak T.cls.length ck) (.pointer p) T t := ⟨hte, (HBR.out.cell (p := ⟨B, i, none⟩) hBl).trans hcu, Nat.lt_of_lt_of_le hBl HBR.out.size, htr.under HBR.out⟩
            have HCS := Lib.hid hcs
            have G1 := Lib.hid (hcs.below (Below.dn (Below.refl wr.heap.size wr) 1))
            have HBD := Lib.hid (Below.dn (Below.refl wr.heap.size wr) 1)
            have OW := own_any aa ac ak T.rows.length T.costs.length T.cls.length ca cc ck (wr.drewN 1)
            clear hte hcu hBl htr htm hto hT hcs
            go_wp2_with fail
            refine wp_region_held (S := fun W => CS W N g k B i (.slice aa T.rows.length ca) (.slice ac T.costs.length cc) (.slice ak T.cls.length ck) (.pointer p) T t) (by kernel_rfl) ?_
            have hdr : (wr).drew = { wr with drawn := (wr).drawn + 1 } := rfl
            rw [← hdr]
            clear hdr
            refine wpAnyHTake 0 (some 49) (.slice (some ⟨g, 0, none⟩) 3 3) rfl rfl (by kernel_rfl) (by kernel_rfl) (by kernel_rfl) (fun _ _ _ h => h) (by rfl) (fun _ _ => by rfl) (G1.out) ?_
            simp only [Act.put, List.setIfInBounds_toArray, List.set_cons_zero, List.set_cons_succ]
            refine wpAnyHTake 1 (some 50) (.int .i64 (k : Int)) rfl rfl (by kernel_rfl) (by kernel_rfl) (by kernel_rfl) (fun _ _ _ h => h) (by rfl) (fun _ _ => by rfl) (G1.out) ?_
            simp only [Act.put, List.setIfInBounds_toArray, List.set_cons_zero, List.set_cons_succ]
            refine wpAnyHTake 2 (some 51) (.pointer (some ⟨g, k * 3, none⟩)) rfl rfl (by kernel_rfl) (by kernel_rfl) (by kernel_rfl) (fun _ _ _ h => h) (by rfl) (fun _ _ => by go_simp) (G1.out) ?_
            simp only [Act.put, List.setIfInBounds_toArray, List.set_cons_zero, List.set_cons_succ]
            refine wpAnyHTake 3 (some 52) (.agg #[.slice aa T.rows.length ca, .slice ac T.costs.length cc, .slice ak T.cls.length ck]) rfl rfl (by kernel_rfl) (by kernel_rfl) (by kernel_rfl) (fun _ _ _ h => h) (by rfl) (fun W hW => by obtain ⟨⟨c0, c1, c2, _, _⟩, cu, _, _⟩ := hW; go_simp) (G1.out) ?_
            simp only [Act.put, List.setIfInBounds_toArray, List.set_cons_zero, List.set_cons_succ]
            refine wpAnyHTake 5 (some 54) (.slice (some ⟨B, 0, none⟩) 6 6) rfl rfl (by kernel_rfl) (by kernel_rfl) (by kernel_rfl) (fun _ _ _ h => h) (by rfl) (fun _ _ => by rfl) (G1.out) ?_
            simp only [Act.put, List.setIfInBounds_toArray, List.set_cons_zero, List.set_cons_succ]
            refine wpAnyHTake 6 (some 55) (.int .i64 (i : Int)) rfl rfl (by kernel_rfl) (by kernel_rfl) (by kernel_rfl) (fun _ _ _ h => h) (by rfl) (fun _ _ => by rfl) (G1.out) ?_
            simp only [Act.put, List.setIfInBounds_toArray, List.set_cons_zero, List.set_cons_succ]
            refine wpAnyHTake 7 (some 56) (.pointer (some ⟨B, i, none⟩)) rfl rfl (by kernel_rfl) (by kernel_rfl) (by kernel_rfl) (fun _ _ _ h => h) (by rfl) (fun _ _ => by go_simp) (G1.out) ?_
            simp only [Act.put, List.setIfInBounds_toArray, List.set_cons_zero, List.set_cons_succ]
            refine wpAnyHTake 8 (some 57) (.pointer p) rfl rfl (by kernel_rfl) (by kernel_rfl) (by kernel_rfl) (fun _ _ _ h => h) (by rfl) (fun W hW => by obtain ⟨⟨c0, c1, c2, _, _⟩, cu, _, _⟩ := hW; go_simp) (G1.out) ?_
            simp only [Act.put, List.setIfInBounds_toArray, List.set_cons_zero, List.set_cons_succ]
            refine wpAnyHCall 4 (some 53) 14 #[.agg #[.slice aa T.rows.length ca, .slice ac T.costs.length cc, .slice ak T.cls.length ck]] (by kernel_rfl) rfl rfl (by rfl) (by go_simp) (OW) ?_
            rintro e xc2 ⟨rfl, hb9⟩
            have G2 := Lib.hid (SB G1.out hb9)
            have HBD := Lib.hid (HBD.out.trans (hb9.mono HBD.out.size))
            have TN := treeN_any G2.out.tr hsk xc2 (Below.refl _ _)
            unfold ConvOut at TN
            clear hb9 OW
            refine ⟨_, rfl, G2.out, ?_⟩
            simp only [Act.put, List.setIfInBounds_toArray, List.set_cons_zero, List.set_cons_succ]
            refine wpAnyHCall 9 (some 58) 30 #[.pointer p] (by kernel_rfl) rfl rfl (by rfl) (by go_simp) (TN) ?_
            rintro e xc3 ⟨⟨p8, rfl, hx8⟩, hb9⟩
            have G3 := Lib.hid (SB G2.out hb9)
            have HBD := Lib.hid (HBD.out.trans (hb9.mono HBD.out.size))
            obtain ⟨q8, rfl⟩ := hx8.form
            have CK := check_any hx8 hst hdp _ _ _ T xc3 (Below.refl _ _) G3.out.te.rd
            clear hx8
            clear hb9 TN
            refine ⟨_, rfl, G3.out, ?_⟩
            simp only [Act.put, List.setIfInBounds_toArray, List.set_cons_zero, List.set_cons_succ]
            refine wpAnyHCall 10 (some 59) 29 #[.agg #[.slice aa T.rows.length ca, .slice ac T.costs.length cc, .slice ak T.cls.length ck], .pointer q8] (by kernel_rfl) rfl rfl (by rfl) (by go_simp) (CK) ?_
            rintro e xc4 ⟨⟨c9, x9, rfl, hck⟩, hb9⟩
            have G4 := Lib.hid (SB G3.out hb9)
            have HBD := Lib.hid (HBD.out.trans (hb9.mono HBD.out.size))
            have HCK := Lib.hid hck
            clear hck
            clear hb9 CK
            refine ⟨_, rfl, G4.out, ?_⟩
            simp only [Act.put, List.setIfInBounds_toArray, List.set_cons_zero, List.set_cons_succ]
            refine wpAnyHTake 11 (some 48) (.tuple #[.int .i64 c9, .int .i64 x9]) rfl rfl (by kernel_rfl) (by kernel_rfl) (by kernel_rfl) (fun _ _ _ h => h) (by rfl) (fun _ _ => by rfl) (G4.out) ?_
            simp only [Act.put, List.setIfInBounds_toArray, List.set_cons_zero, List.set_cons_succ]
            refine wpAnyHTake 12 (some 60) (.int .i64 c9) rfl rfl (by kernel_rfl) (by kernel_rfl) (by kernel_rfl) (fun _ _ _ h => h) (by rfl) (fun _ _ => by rfl) (G4.out) ?_
            simp only [Act.put, List.setIfInBounds_toArray, List.set_cons_zero, List.set_cons_succ]
            refine wpAnyHTake 13 (some 61) (.int .i64 x9) rfl rfl (by kernel_rfl) (by kernel_rfl) (by kernel_rfl) (fun _ _ _ h => h) (by rfl) (fun _ _ => by rfl) (G4.out) ?_
            simp only [Act.put, List.setIfInBounds_toArray, List.set_cons_zero, List.set_cons_succ]
            refine wpAnyHTake 14 (some 16) (.int .i64 c9) rfl rfl (by kernel_rfl) (by kernel_rfl) (by kernel_rfl) (fun _ _ _ h => h) (by rfl) (fun _ _ => by rfl) (G4.out) ?_
            simp only [Act.put, List.setIfInBounds_toArray, List.set_cons_zero, List.set_cons_succ]
            refine wpAnyHTake 15 (some 17) (.int .i64 x9) rfl rfl (by kernel_rfl) (by kernel_rfl) (by kernel_rfl) (fun _ _ _ h => h) (by rfl) (fun _ _ => by rfl) (G4.out) ?_
            simp only [Act.put, List.setIfInBounds_toArray, List.set_cons_zero, List.set_cons_succ]
            refine wpAnyH_done (by kernel_rfl) ?_ _
            have HCS := Lib.hid G4.out
            have G1 := Lib.hid (HCS.out.below (Below.dn (Below.refl _ _) 1))
            have HBD := Lib.hid (Below.dn HBD.out 1)
            clear G2 G3 G4
            go_wp2_with fail
            refine wp_region_held (S := fun W => CS W N g k B i (.slice aa T.rows.length ca) (.slice ac T.costs.length cc) (.slice ak T.cls.length ck) (.pointer p) T t) (by kernel_rfl) ?_
            have hdr : (xc4).drew = { xc4 with drawn := (xc4).drawn + 1 } := rfl
            rw [← hdr]
            clear hdr
            have RC := rcheck_any G1.out.tr hdp _ _ _ T (xc4.drewN 1) (Below.refl _ _) G1.out.te.rd
            refine wpAnyHTake 0 (some 63) (.slice (some ⟨g, 0, none⟩) 3 3) rfl rfl (by kernel_rfl) (by kernel_rfl) (by kernel_rfl) (fun _ _ _ h => h) (by rfl) (fun _ _ => by rfl) (G1.out) ?_
            simp only [Act.put, List.setIfInBounds_toArray, List.set_cons_zero, List.set_cons_succ]
            refine wpAnyHTake 1 (some 64) (.int .i64 (k : Int)) rfl rfl (by kernel_rfl) (by kernel_rfl) (by kernel_rfl) (fun _ _ _ h => h) (by rfl) (fun _ _ => by rfl) (G1.out) ?_
            simp only [Act.put, List.setIfInBounds_toArray, List.set_cons_zero, List.set_cons_succ]
            refine wpAnyHTake 2 (some 65) (.pointer (some ⟨g, k * 3, none⟩)) rfl rfl (by kernel_rfl) (by kernel_rfl) (by kernel_rfl) (fun _ _ _ h => h) (by rfl) (fun _ _ => by go_simp) (G1.out) ?_
            simp only [Act.put, List.setIfInBounds_toArray, List.set_cons_zero, List.set_cons_succ]
            refine wpAnyHTake 3 (some 66) (.agg #[.slice aa T.rows.length ca, .slice ac T.costs.length cc, .slice ak T.cls.length ck]) rfl rfl (by kernel_rfl) (by kernel_rfl) (by kernel_rfl) (fun _ _ _ h => h) (by rfl) (fun W hW => by obtain ⟨⟨c0, c1, c2, _, _⟩, cu, _, _⟩ := hW; go_simp) (G1.out) ?_
            simp only [Act.put, List.setIfInBounds_toArray, List.set_cons_zero, List.set_cons_succ]
            refine wpAnyHTake 4 (some 67) (.slice (some ⟨B, 0, none⟩) 6 6) rfl rfl (by kernel_rfl) (by kernel_rfl) (by kernel_rfl) (fun _ _ _ h => h) (by rfl) (fun _ _ => by rfl) (G1.out) ?_
            simp only [Act.put, List.setIfInBounds_toArray, List.set_cons_zero, List.set_cons_succ]
            refine wpAnyHTake 5 (some 68) (.int .i64 (i : Int)) rfl rfl (by kernel_rfl) (by kernel_rfl) (by kernel_rfl) (fun _ _ _ h => h) (by rfl) (fun _ _ => by rfl) (G1.out) ?_
            simp only [Act.put, List.setIfInBounds_toArray, List.set_cons_zero, List.set_cons_succ]
            refine wpAnyHTake 6 (some 69) (.pointer (some ⟨B, i, none⟩)) rfl rfl (by kernel_rfl) (by kernel_rfl) (by kernel_rfl) (fun _ _ _ h => h) (by rfl) (fun _ _ => by go_simp) (G1.out) ?_
            simp only [Act.put, List.setIfInBounds_toArray, List.set_cons_zero, List.set_cons_succ]
            refine wpAnyHTake 7 (some 70) (.pointer p) rfl rfl (by kernel_rfl) (by kernel_rfl) (by kernel_rfl) (fun _ _ _ h => h) (by rfl) (fun W hW => by obtain ⟨⟨c0, c1, c2, _, _⟩, cu, _, _⟩ := hW; go_simp) (G1.out) ?_
            simp only [Act.put, List.setIfInBounds_toArray, List.set_cons_zero, List.set_cons_succ]
            refine wpAnyHCall 8 (some 71) 31 #[.agg #[.slice aa T.rows.length ca, .slice ac T.costs.length cc, .slice ak T.cls.length ck], .pointer p] (by kernel_rfl) rfl rfl (by rfl) (by go_simp) (RC) ?_
            rintro e xd2 ⟨⟨c8, x8, rfl, hck2⟩, hb9⟩
            have G2 := Lib.hid (SB G1.out hb9)
            have HBD := Lib.hid (HBD.out.trans (hb9.mono HBD.out.size))
            obtain ⟨rfl, rfl⟩ := hck2.uniq HCK.out
            clear hck2
            clear hb9 RC
            refine ⟨_, rfl, G2.out, ?_⟩
            simp only [Act.put, List.setIfInBounds_toArray, List.set_cons_zero, List.set_cons_succ]
            refine wpAnyHTake 9 (some 62) (.tuple #[.int .i64 c8, .int .i64 x8]) rfl rfl (by kernel_rfl) (by kernel_rfl) (by kernel_rfl) (fun _ _ _ h => h) (by rfl) (fun _ _ => by rfl) (G2.out) ?_
            simp only [Act.put, List.setIfInBounds_toArray, List.set_cons_zero, List.set_cons_succ]
            refine wpAnyHTake 10 (some 72) (.int .i64 c8) rfl rfl (by kernel_rfl) (by kernel_rfl) (by kernel_rfl) (fun _ _ _ h => h) (by rfl) (fun _ _ => by rfl) (G2.out) ?_
            simp only [Act.put, List.setIfInBounds_toArray, List.set_cons_zero, List.set_cons_succ]
            refine wpAnyHTake 11 (some 73) (.int .i64 x8) rfl rfl (by kernel_rfl) (by kernel_rfl) (by kernel_rfl) (fun _ _ _ h => h) (by rfl) (fun _ _ => by rfl) (G2.out) ?_
            simp only [Act.put, List.setIfInBounds_toArray, List.set_cons_zero, List.set_cons_succ]
            refine wpAnyHTake 12 (some 18) (.int .i64 c8) rfl rfl (by kernel_rfl) (by kernel_rfl) (by kernel_rfl) (fun _ _ _ h => h) (by rfl) (fun _ _ => by rfl) (G2.out) ?_
            simp only [Act.put, List.setIfInBounds_toArray, List.set_cons_zero, List.set_cons_succ]
            refine wpAnyHTake 13 (some 19) (.int .i64 x8) rfl rfl (by kernel_rfl) (by kernel_rfl) (by kernel_rfl) (fun _ _ _ h => h) (by rfl) (fun _ _ => by rfl) (G2.out) ?_
            simp only [Act.put, List.setIfInBounds_toArray, List.set_cons_zero, List.set_cons_succ]
            refine wpAnyH_done (by kernel_rfl) ?_ _
            have hc9 : (c8 != c8) = false := by simp
            have hx9 : (x8 != x8) = false := by simp
            go_wp2_with fail
            go_roundw
            case rel => exact ⟨k + 1, by omega, by go_num, HBR.out.trans (HBD.out.mono HBR.out.size)⟩
            case measure => simp [intOf]; omega
          · have hk1 : ¬ (k : Int) < 3 := by omega
            go_wp2_with fail
            go_roundw
            case rel => exact ⟨i + 1, by have := HI6.out; omega, by go_num, HBR.out⟩
            case measure => have := HI6.out; simp [intOf]; omega
      · have hi1 : ¬ (i : Int) < 6 := by omega
        rename World => wz
        have LV := lives_any wz
        go_wp2_with fail
        with_reducible refine LV.mono ?_
        rintro e w8 ⟨rfl, hb⟩
        have HBB := Lib.hid (HB7.out.trans ((HBR.out.trans (hb.mono HBR.out.size)).mono HB7.out.size))
        clear hb LV
        go_wp2_with fail
        go_ret
        exact ⟨rfl, HBB.out⟩
end Go.Proofs.Ytmkkegigajmhkaa

namespace Go.Proofs.Ytmkkegigajmhkaa
open Go.RowKit Go.Maps

/-- rows in a block -/
def RowS (W : World) (g : Nat) (rows : List (List Int)) : Prop := g < W.heap.size ∧ ∀ (k : Nat) (r : List Int), rows[k]? = some r → ∃ a c, W.cell? ⟨g, k, none⟩ = some (.slice a r.length c) ∧ RdI W (.slice a r.length c) r
theorem RowS.below {W W' : World} {g : Nat} {rows : List (List Int)} (h : RowS W g rows) (hb : Below W.heap.size W W') : RowS W' g rows := ⟨Nat.lt_of_lt_of_le h.1 hb.size, fun k r hr => by
  obtain ⟨a, c, h1, h2⟩ := h.2 k r hr
  exact ⟨a, c, (hb.cell (p := ⟨g, k, none⟩) h.1).trans h1, h2.below hb⟩⟩
/-- what an accepted tree does with each row -/
theorem CkL.all {T : Tb} {t : Tr} {i : Nat} {most c e : Int} (h : CkL T t i most c e) : e = 0 → most ≤ c ∧ ∀ k r, i ≤ k → T.rows[k]? = some r → ∃ qs, Wk r t [] (clsAt T k) qs 0 ∧ sumQ T qs ≤ c := by
  induction h with
  | done h => intro _; exact ⟨Int.le_refl _, fun k r hk hr => by have := (List.getElem?_eq_some_iff.1 hr).1; omega⟩
  | none hr hw hx => intro he; cases he
  | differ hr hw hc => intro he; cases he
  | step hr hw hn ih =>
    intro he
    obtain ⟨h1, h2⟩ := ih he
    refine ⟨by omega, fun k r hk hr' => ?_⟩
    rcases Nat.eq_or_lt_of_le hk with e | e
    · subst e
      rw [hr] at hr'; cases hr'
      exact ⟨_, hw, by omega⟩
    · exact h2 k r e hr'
theorem Ck.all {T : Tb} {t : Tr} {c e : Int} (h : Ck T t c e) (he : e = 0) : OkT T ∧ isT t = true ∧ 0 ≤ c ∧ ∀ k r, T.rows[k]? = some r → ∃ qs, Wk r t [] (clsAt T k) qs 0 ∧ sumQ T qs ≤ c := by
  cases h with
  | bad h => exact absurd he h
  | form h hi => cases he
  | good h hi hc =>
    have := hc.all he
    exact ⟨(okT_iff T).1 h, hi, this.1, fun k r hr => this.2 k r (Nat.zero_le _) hr⟩
/-- a tree and a row, each in a block -/
structure FS (W : World) (N g k B i : Nat) (vr u : Value) (r : List Int) (t : Tr) : Prop where
  cr : W.cell? ⟨g, k, none⟩ = some vr
  gl : g < W.heap.size
  rd : RdI W vr r
  cu : W.cell? ⟨B, i, none⟩ = some u
  lt : B < W.heap.size
  tr : TreeIn 105 (N ≤ ·) W u t
theorem FS.below {W W' : World} {N g k B i : Nat} {vr u : Value} {r : List Int} {t : Tr} (h : FS W N g k B i vr u r t) (hb : Below W.heap.size W W') : FS W' N g k B i vr u r t :=
  ⟨(hb.cell (p := ⟨g, k, none⟩) h.gl).trans h.cr, Nat.lt_of_lt_of_le h.gl hb.size, h.rd.below hb, (hb.cell (p := ⟨B, i, none⟩) h.lt).trans h.cu, Nat.lt_of_lt_of_le h.lt hb.size, h.tr.under hb⟩
/-- the table's own block and a tree's -/
structure TS2 (W : World) (N b1 B i : Nat) (va vc vk u : Value) (T : Tb) (t : Tr) : Prop where
  bx : Boxs W b1 25 #[va, vc, vk]
  rd : TbR W va vc vk T
  cu : W.cell? ⟨B, i, none⟩ = some u
  lt : B < W.heap.size
  tr : TreeIn 105 (N ≤ ·) W u t
theorem TS2.below {W W' : World} {N b1 B i : Nat} {va vc vk u : Value} {T : Tb} {t : Tr} (h : TS2 W N b1 B i va vc vk u T t) (hb : Below W.heap.size W W') : TS2 W' N b1 B i va vc vk u T t :=
  ⟨Boxs.below h.bx hb, h.rd.below hb, (hb.cell (p := ⟨B, i, none⟩) h.lt).trans h.cu, Nat.lt_of_lt_of_le h.lt hb.size, h.tr.under hb⟩
theorem TS2.cells {W : World} {N b1 B i : Nat} {va vc vk u : Value} {T : Tb} {t : Tr} (h : TS2 W N b1 B i va vc vk u T t) : W.cell? ⟨b1, 0, none⟩ = some va ∧ W.cell? ⟨b1, 1, none⟩ = some vc ∧ W.cell? ⟨b1, 2, none⟩ = some vk ∧ W.cell? ⟨B, i, none⟩ = some u :=
  ⟨h.bx.cell 0, h.bx.cell 1, h.bx.cell 2, h.cu⟩
set_option maxRecDepth 100000 in
set_option maxHeartbeats 16000000 in
theorem questionFollows_any (v vm vn : Value) (l ms ns : List Int) (how by_ : Int) (w : World) (h : RdI w v l) (il : inI l) (hm : RdI w vm ms) (im : inI ms) (hn : RdI w vn ns) (hh1 : -9223372036854775808 ≤ how) (hh2 : how ≤ 9223372036854775807) (hb1 : -9223372036854775808 ≤ by_) (hb2 : by_ ≤ 9223372036854775807) :
    Calls Try.prog 6 #[v, vm, .int .i64 how, .int .i64 by_, vn] w fun e w' => e = .returned (.bool true) ∧ Below w.heap.size w w' := by
  have MK := made_any v l w h il
  have hok := made_ok l
  have h7 := madeT_rows l
  obtain ⟨T0, hT0⟩ : ∃ T, madeT l = T := ⟨_, rfl⟩
  rw [hT0] at MK hok h7
  have hs1 := plain_sm hok
  have h71 : (plainT T0).rows.length ≤ 7 := h7
  obtain ⟨T1, hT1⟩ : ∃ T, plainT T0 = T := ⟨_, rfl⟩
  rw [hT1] at hs1 h71
  have H1 := Lib.hid hT1; have HOK := Lib.hid hok; have HS1 := Lib.hid (hs1.sm (by omega))
  have H71 := Lib.hid h71
  obtain ⟨av, cv, rfl⟩ := h.form
  obtain ⟨am, cm, rfl⟩ := hm.form
  obtain ⟨an, cn, rfl⟩ := hn.form
  have HNN := Lib.hid hn
  have HV := Lib.hid h; have HM := Lib.hid hm; have HT0 := Lib.hid hT0
  clear h hm hn hT0 hT1 hok hs1 h7 h71
  go_enter Try.func6, Try.ntmps6
  go_wp2_with fail
  with_reducible refine MK.mono ?_
  rintro e w1 ⟨⟨va, vc, vk, us, rfl, hown⟩, hb⟩
  have PL := plain_any va vc vk T0 w1 hown.tb HOK.out
  rw [H1.out] at PL
  obtain ⟨aa0, ca0, rfl⟩ := hown.tb.rows.form
  obtain ⟨ac0, cc0, rfl⟩ := hown.tb.costs.form
  obtain ⟨ak0, ck0, rfl⟩ := hown.tb.cls.form
  have HB := Lib.hid hb
  clear hown hb MK
  go_wp2_with fail
  with_reducible refine PL.mono ?_
  rintro e w2 ⟨⟨va, vc, vk, us, rfl, hown⟩, hb⟩
  have htb := hown.tb
  obtain ⟨aa1, ca1, rfl⟩ := htb.rows.form
  obtain ⟨ac1, cc1, rfl⟩ := htb.costs.form
  obtain ⟨ak1, ck1, rfl⟩ := htb.cls.form
  have hba := alloc_below w2 (.cells #[.slice aa1 T1.rows.length ca1, .slice ac1 T1.costs.length cc1, .slice ak1 T1.cls.length ck1] 25)
  obtain ⟨W2, hW2⟩ : ∃ W, w2.alloc (.cells #[.slice aa1 T1.rows.length ca1, .slice ac1 T1.costs.length cc1, .slice ak1 T1.cls.length ck1] 25) = W := ⟨_, rfl⟩
  have BX1 := Lib.hid (show Boxs W2 w2.heap.size 25 #[.slice aa1 T1.rows.length ca1, .slice ac1 T1.costs.length cc1, .slice ak1 T1.cls.length ck1] by rw [← hW2]; exact Boxs.new w2 25 _)
  rw [hW2] at hba
  have HT1 := Lib.hid (htb.below hba)
  have HB := Lib.hid (HB.out.trans ((hb.trans (hba.mono hb.size)).mono HB.out.size))
  obtain ⟨b1, hB1⟩ : ∃ b, w2.heap.size = b := ⟨_, rfl⟩
  rw [hB1] at BX1
  have TR := trees_any _ _ _ _ T1 ms how by_ W2 HT1.out H71.out (HM.out.below HB.out) im hh1 hh2 hb1 hb2
  clear hown htb hb hba PL
  have p0 := BX1.out.cell 0; have p1 := BX1.out.cell 1; have p2 := BX1.out.cell 2
  have q1 := BX1.out.lt
  simp only [List.getElem?_toArray, List.getElem?_cons_zero, List.getElem?_cons_succ] at p0 p1 p2
  go_wp2_with fail
  clear hW2 hB1
  with_reducible refine TR.mono ?_
  rintro e w3 ⟨⟨B, us, ts, rfl, hrd, hul, htr, hok⟩, hb⟩
  have HRD := Lib.hid hrd; have HTR := Lib.hid htr; have HTO := Lib.hid hok; have HUL := Lib.hid hul
  have HT1 := Lib.hid (HT1.out.below hb)
  have BX1 := Lib.hid (Boxs.below BX1.out hb)
  have HB := Lib.hid (HB.out.trans (hb.mono HB.out.size))
  have HV := Lib.hid (HV.out.below HB.out)
  clear TR hrd htr hok hb hul p0 p1 p2 q1
  generalize W2.heap.size = N at *
  have hba9 := HB.out.size
  go_upto_region 3 with fail
  obtain ⟨tks, htk⟩ : ∃ x, ns.take 6 = x := ⟨_, rfl⟩
  have hrl := HS1.out.r
  obtain ⟨m, hm⟩ : ∃ m, T1.rows.length + 1 = m := ⟨_, rfl⟩
  go_cut [13] (fun s13 wx => ∃ g c, s13 = .slice (some ⟨g, 0, none⟩) m c ∧ RowS wx g (tks :: T1.rows) ∧ Below w3.heap.size w3 wx)
  case first =>
    clear HRD HTR HTO HUL H71 HOK HV
    have TK := take_any _ ns 6 (by omega) (w3.drewN 1) (HNN.out.below ((HB.out).trans ((Below.dn (Below.refl w3.heap.size w3) 1).mono HB.out.size)))
    rw [htk] at TK
    have HTK := Lib.hid htk
    have HM9 := Lib.hid hm
    clear htk hm
    refine wp_region_E (fun W => W.cell? ⟨b1, 0, none⟩ = some (.slice aa1 T1.rows.length ca1)) (by kernel_rfl) ?_
    have hdr : (w3).drew = { w3 with drawn := (w3).drawn + 1 } := rfl
    rw [← hdr]
    clear hdr
    change wpAnyE _ _ _ _ _ _ _ _ ((w3).drewN 1)
    refine tm 0 32 rfl rfl (.slice an ns.length cn) ((BX1.out.cell 0)) ?_
    try simp only [pa, pl]
    refine tg 3 35 rfl rfl (.pointer (some ⟨b1, 0, none⟩)) ((BX1.out.cell 0)) ?_
    try simp only [pa, pl]
    refine tk 4 36 rfl rfl (.slice aa1 T1.rows.length ca1) (fun W hW => by obtain k0 := hW; go_simp) ((BX1.out.cell 0)) ?_
    try simp only [pa, pl]
    refine wpAnyEOne 1 (by kernel_rfl) ?_
    refine wpOpCall (some 33) 32 #[.slice an ns.length cn, .int .i64 ((6 : Nat) : Int)] rfl rfl rfl (by go_simp) (TK) ?_
    rintro e w4 ⟨⟨vt, rfl, hown⟩, hb⟩
    obtain ⟨at4, ct4, rfl⟩ := owns_form hown
    have hb34 := (Below.dn (Below.refl w3.heap.size w3) 1).trans hb
    have x1 := Boxs.below BX1.out hb34
    clear TK
    refine ⟨_, rfl, ?_⟩
    refine ⟨.inl ((x1.cell 0)), ?_⟩
    try simp only [pa, pl]
    refine wpAnyEOne 2 (by kernel_rfl) ?_
    refine wpOpRun' (v := .slice (some ⟨w4.heap.size, 0, none⟩) 1 1) (w' := (w4.alloc (.cells #[.slice at4 tks.length ct4] 22))) (some 34) rfl rfl rfl (by go_simp <;> rfl) ?_
    have hal := alloc_below w4 (.cells #[.slice at4 tks.length ct4] 22)
    have hb35 := hb34.trans (hal.mono hb34.size)
    have x1 := Boxs.below BX1.out hb35
    have hs3 := hb34.size
    have how := owns_block (base := w3.heap.size) (Boxs.new w4 22 #[.slice at4 tks.length ct4]) hs3 (xs := [.slice at4 tks.length ct4]) rfl (n := 1) (size := 1) rfl (by omega)
    obtain ⟨us5, hrd3, hul5, hrr5⟩ := HT1.out.rows
    have hrd5 := hrd3.below hb35
    refine ⟨.inl ((x1.cell 0)), ?_⟩
    try simp only [pa, pl]
    refine wpAnyEOne 5 (by kernel_rfl) ?_
    refine wpOpAppR (base := w3.heap.size) 5 (some 37) rfl rfl rfl (.tmp 34) (.tmp 36) rfl (.slice (some ⟨w4.heap.size, 0, none⟩) 1 1) 1 [.slice at4 tks.length ct4] rfl how (.slice aa1 T1.rows.length ca1) us5 rfl hrd5 (by intro u hu; obtain ⟨j, hj⟩ := List.getElem?_of_mem hu; obtain ⟨r, hr⟩ := elem_at (show j < T1.rows.length by rw [← hul5]; exact (List.getElem?_eq_some_iff.1 hj).1); obtain ⟨a, c, e⟩ := (hrr5 j u r hj hr).form; rw [e]; rfl) (by omega) hb35.size fun v6 w6 happ => ?_
    have hfin := happ.1
    have hbl6 := happ.below hb35 how (Nat.le_refl _) hb35.size
    obtain ⟨g, c6, rfl⟩ := ownsRow_some hfin (by omega)
    have x6 : w6.cell? ⟨b1, 0, none⟩ = some (.slice aa1 T1.rows.length ca1) := (Boxs.below BX1.out hbl6).cell 0
    refine ⟨.inl (x6), ?_⟩
    try simp only [pa, pl]
    refine wpAnyEOne 6 (by kernel_rfl) ?_
    refine wpOpRun' (v := .slice (some ⟨g, 0, none⟩) (1 + us5.length) c6) (w' := w6) (some 13) rfl rfl rfl (by rfl) ?_
    refine ⟨.inr (allUp_of (by kernel_rfl)), ?_⟩
    try simp only [pa, pl]
    refine wpAnyE_done (by kernel_rfl) ?_ _
    have hm1 : 1 + us5.length = m := by rw [hul5, ← HM9.out]; omega
    rw [hm1] at hfin ⊢
    go_wp2_with fail
    go_meet
    refine ⟨g, c6, rfl, ⟨(hfin.lt g rfl).2, fun k r hr => ?_⟩, hbl6⟩
    have hul : ([Value.slice at4 tks.length ct4] ++ us5).length = m := by rw [List.length_append, ← hm1]; rfl
    have hkm : k < m := by have := (List.getElem?_eq_some_iff.1 hr).1; rw [List.length_cons] at this; rw [← HM9.out]; omega
    have hce := hfin.cellAt k (by omega)
    cases k with
    | zero =>
      cases hr
      exact ⟨at4, ct4, hce, owns_ints (owns_app (owns_below hown hal) how happ (by decide))⟩
    | succ k =>
      obtain ⟨u, hu⟩ := elem_at (show k < us5.length by omega)
      have hrd := hrr5 k u r hu (by simpa using hr)
      obtain ⟨a, c, rfl⟩ := hrd.form
      exact ⟨a, c, by rw [hce]; simp [hu], hrd.below hbl6⟩
  case rest =>
    obtain ⟨g, cR, rfl, hrs, hbw⟩ := hcut
    have RS := Lib.hid hrs
    have HRD := Lib.hid (HRD.out.below hbw); have HTR := Lib.hid (HTR.out.block fun i hi _ => hbw.block i hi)
    have HB7 := Lib.hid (HB.out.trans (hbw.mono HB.out.size))
    have HT1 := Lib.hid (HT1.out.below hbw); have BX1 := Lib.hid (Boxs.below BX1.out hbw)
    have HM9 := Lib.hid hm
    have hml : m ≤ 1000000 := by omega
    clear hrs hbw HB HV HM H71 HOK HS1 H1 HNN hm htk hrl hba9
    rename World => w7
    go_wp2_with fail
    go_loopw [14] (fun iv wr => ∃ i : Nat, i ≤ 6 ∧ iv = .int .i64 i ∧ Below w7.heap.size w7 wr) (fun iv _ => 6 - (intOf iv).toNat)
    case atStart => exact ⟨0, by omega, rfl, Below.refl _ _⟩
    case round =>
      obtain ⟨i, hi, rfl, hbr⟩ := hrel
      have hi0 : (0 : Int) ≤ (i : Int) := Int.natCast_nonneg _
      have HBR := Lib.hid hbr
      clear hbr
      by_cases hlt6 : i < 6
      · have hi1 : (i : Int) < 6 := by omega
        have HI6 := Lib.hid hlt6
        clear hlt6
        obtain ⟨p, t, hcu, hBl, htr, htm⟩ := TreesOut.at HRD.out HUL.out HTR.out HI6.out
        have hto := HTO.out t htm
        have hsk := smK_wd t (by have := hto.w; omega); have hst := smT_wd t (by have := hto.w; omega); have hdp : depT t ≤ 100000 := by have := hto.d; omega
        have SB : ∀ {W W' : World}, TS2 W N b1 B i (.slice aa1 T1.rows.length ca1) (.slice ac1 T1.costs.length cc1) (.slice ak1 T1.cls.length ck1) (.pointer p) T1 t → Below W.heap.size W W' → TS2 W' N b1 B i (.slice aa1 T1.rows.length ca1) (.slice ac1 T1.costs.length cc1) (.slice ak1 T1.cls.length ck1) (.pointer p) T1 t := fun h hb => h.below hb
        have T72 : TS2 w7 N b1 B i (.slice aa1 T1.rows.length ca1) (.slice ac1 T1.costs.length cc1) (.slice ak1 T1.cls.length ck1) (.pointer p) T1 t := ⟨BX1.out, HT1.out, hcu, hBl, htr⟩
        have HC7 := Lib.hid T72
        have hc2 := T72.below HBR.out
        have HCS := Lib.hid hc2
        have G1 := Lib.hid (hc2.below (Below.dn (Below.refl wr.heap.size wr) 1))
        have HBD := Lib.hid (Below.dn (Below.refl wr.heap.size wr) 1)
        have OW := own_any aa1 ac1 ak1 T1.rows.length T1.costs.length T1.cls.length ca1 cc1 ck1 (wr.drewN 1)
        clear hcu hBl htr htm hto T72 hc2
        go_wp2_with fail
        refine wp_region_held (S := fun W => TS2 W N b1 B i (.slice aa1 T1.rows.length ca1) (.slice ac1 T1.costs.length cc1) (.slice ak1 T1.cls.length ck1) (.pointer p) T1 t) (by kernel_rfl) ?_
        have hdr : (wr).drew = { wr with drawn := (wr).drawn + 1 } := rfl
        rw [← hdr]
        clear hdr
        refine wpAnyHTake 0 (some 45) (.agg #[.slice aa1 T1.rows.length ca1, .slice ac1 T1.costs.length cc1, .slice ak1 T1.cls.length ck1]) rfl rfl (by kernel_rfl) (by kernel_rfl) (by kernel_rfl) (fun _ _ _ h => h) (by rfl) (fun W hW => by obtain ⟨c0, c1, c2, cu⟩ := hW.cells; go_simp) (G1.out) ?_
        simp only [Act.put, List.setIfInBounds_toArray, List.set_cons_zero, List.set_cons_succ]
        refine wpAnyHTake 2 (some 47) (.slice (some ⟨B, 0, none⟩) 6 6) rfl rfl (by kernel_rfl) (by kernel_rfl) (by kernel_rfl) (fun _ _ _ h => h) (by rfl) (fun _ _ => by rfl) (G1.out) ?_
        simp only [Act.put, List.setIfInBounds_toArray, List.set_cons_zero, List.set_cons_succ]
        refine wpAnyHTake 3 (some 48) (.int .i64 (i : Int)) rfl rfl (by kernel_rfl) (by kernel_rfl) (by kernel_rfl) (fun _ _ _ h => h) (by rfl) (fun _ _ => by rfl) (G1.out) ?_
        simp only [Act.put, List.setIfInBounds_toArray, List.set_cons_zero, List.set_cons_succ]
        refine wpAnyHTake 4 (some 49) (.pointer (some ⟨B, i, none⟩)) rfl rfl (by kernel_rfl) (by kernel_rfl) (by kernel_rfl) (fun _ _ _ h => h) (by rfl) (fun _ _ => by go_simp) (G1.out) ?_
        simp only [Act.put, List.setIfInBounds_toArray, List.set_cons_zero, List.set_cons_succ]
        refine wpAnyHTake 5 (some 50) (.pointer p) rfl rfl (by kernel_rfl) (by kernel_rfl) (by kernel_rfl) (fun _ _ _ h => h) (by rfl) (fun W hW => by obtain ⟨c0, c1, c2, cu⟩ := hW.cells; go_simp) (G1.out) ?_
        simp only [Act.put, List.setIfInBounds_toArray, List.set_cons_zero, List.set_cons_succ]
        refine wpAnyHCall 1 (some 46) 14 #[.agg #[.slice aa1 T1.rows.length ca1, .slice ac1 T1.costs.length cc1, .slice ak1 T1.cls.length ck1]] (by kernel_rfl) rfl rfl (by rfl) (by go_simp) (OW) ?_
        rintro e xc2 ⟨rfl, hb9⟩
        have G2 := Lib.hid (SB G1.out hb9)
        have HBD := Lib.hid (HBD.out.trans (hb9.mono HBD.out.size))
        have TN := treeN_any G2.out.tr hsk xc2 (Below.refl _ _)
        unfold ConvOut at TN
        clear hb9 OW
        refine ⟨_, rfl, G2.out, ?_⟩
        simp only [Act.put, List.setIfInBounds_toArray, List.set_cons_zero, List.set_cons_succ]
        refine wpAnyHCall 6 (some 51) 30 #[.pointer p] (by kernel_rfl) rfl rfl (by rfl) (by go_simp) (TN) ?_
        rintro e xc3 ⟨⟨p8, rfl, hx8⟩, hb9⟩
        have G3 := Lib.hid (SB G2.out hb9)
        have HBD := Lib.hid (HBD.out.trans (hb9.mono HBD.out.size))
        obtain ⟨q8, rfl⟩ := hx8.form
        have CK := check_any hx8 hst hdp _ _ _ T1 xc3 (Below.refl _ _) G3.out.rd
        clear hx8
        clear hb9 TN
        refine ⟨_, rfl, G3.out, ?_⟩
        simp only [Act.put, List.setIfInBounds_toArray, List.set_cons_zero, List.set_cons_succ]
        refine wpAnyHCall 7 (some 52) 29 #[.agg #[.slice aa1 T1.rows.length ca1, .slice ac1 T1.costs.length cc1, .slice ak1 T1.cls.length ck1], .pointer q8] (by kernel_rfl) rfl rfl (by rfl) (by go_simp) (CK) ?_
        rintro e xc4 ⟨⟨c7, x7, rfl, hck⟩, hb9⟩
        have G4 := Lib.hid (SB G3.out hb9)
        have HBD := Lib.hid (HBD.out.trans (hb9.mono HBD.out.size))
        have HCK := Lib.hid hck
        clear hck
        clear hb9 CK
        refine ⟨_, rfl, G4.out, ?_⟩
        simp only [Act.put, List.setIfInBounds_toArray, List.set_cons_zero, List.set_cons_succ]
        refine wpAnyHTake 8 (some 44) (.tuple #[.int .i64 c7, .int .i64 x7]) rfl rfl (by kernel_rfl) (by kernel_rfl) (by kernel_rfl) (fun _ _ _ h => h) (by rfl) (fun _ _ => by rfl) (G4.out) ?_
        simp only [Act.put, List.setIfInBounds_toArray, List.set_cons_zero, List.set_cons_succ]
        refine wpAnyHTake 9 (some 53) (.int .i64 c7) rfl rfl (by kernel_rfl) (by kernel_rfl) (by kernel_rfl) (fun _ _ _ h => h) (by rfl) (fun _ _ => by rfl) (G4.out) ?_
        simp only [Act.put, List.setIfInBounds_toArray, List.set_cons_zero, List.set_cons_succ]
        refine wpAnyHTake 10 (some 54) (.int .i64 x7) rfl rfl (by kernel_rfl) (by kernel_rfl) (by kernel_rfl) (fun _ _ _ h => h) (by rfl) (fun _ _ => by rfl) (G4.out) ?_
        simp only [Act.put, List.setIfInBounds_toArray, List.set_cons_zero, List.set_cons_succ]
        refine wpAnyHTake 11 (some 15) (.int .i64 c7) rfl rfl (by kernel_rfl) (by kernel_rfl) (by kernel_rfl) (fun _ _ _ h => h) (by rfl) (fun _ _ => by rfl) (G4.out) ?_
        simp only [Act.put, List.setIfInBounds_toArray, List.set_cons_zero, List.set_cons_succ]
        refine wpAnyHTake 12 (some 16) (.int .i64 x7) rfl rfl (by kernel_rfl) (by kernel_rfl) (by kernel_rfl) (fun _ _ _ h => h) (by rfl) (fun _ _ => by rfl) (G4.out) ?_
        simp only [Act.put, List.setIfInBounds_toArray, List.set_cons_zero, List.set_cons_succ]
        refine wpAnyH_done (by kernel_rfl) ?_ _
        have HB8 := Lib.hid (HBR.out.trans (HBD.out.mono HBR.out.size))
        clear HBR HBD G2 G3 G4 HCS SB
        go_wp2_with fail
        go_loopw [17] (fun kv wr => ∃ k : Nat, k ≤ m ∧ kv = .int .i64 k ∧ Below w7.heap.size w7 wr) (fun kv _ => m - (intOf kv).toNat)
        case atStart => exact ⟨0, Nat.zero_le _, rfl, HB8.out⟩
        case round =>
          obtain ⟨k, hk, rfl, hbr⟩ := hrel
          have hk0 : (0 : Int) ≤ (k : Int) := Int.natCast_nonneg _
          have HBR := Lib.hid hbr
          clear hbr
          by_cases hltm : k < m
          · have hk1 : (k : Int) < (m : Int) := by omega
            obtain ⟨r, hr⟩ := elem_at (show k < (tks :: T1.rows).length by rw [List.length_cons, HM9.out]; exact hltm)
            have HR := Lib.hid hr
            obtain ⟨au, cu, hcr, hrd⟩ := (RS.out.below HBR.out).2 k r hr
            have hgl := (RS.out.below HBR.out).1
            have hc9 := HC7.out.below HBR.out
            have SB : ∀ {W W' : World}, FS W N g k B i (.slice au r.length cu) (.pointer p) r t → Below W.heap.size W W' → FS W' N g k B i (.slice au r.length cu) (.pointer p) r t := fun h hb => h.below hb
            have hfs : FS wr N g k B i (.slice au r.length cu) (.pointer p) r t := ⟨hcr, hgl, hrd, hc9.cu, hc9.lt, hc9.tr⟩
            have HCS := Lib.hid hfs
            have G1 := Lib.hid (hfs.below (Below.dn (Below.refl wr.heap.size wr) 1))
            have HBD := Lib.hid (Below.dn (Below.refl wr.heap.size wr) 1)
            have TN := treeN_any G1.out.tr hsk (wr.drewN 1) (Below.refl _ _)
            unfold ConvOut at TN
            clear hcr hrd hgl hc9 hfs hr
            go_wp2_with fail
            refine wp_region_held (S := fun W => FS W N g k B i (.slice au r.length cu) (.pointer p) r t) (by kernel_rfl) ?_
            have hdr : (wr).drew = { wr with drawn := (wr).drawn + 1 } := rfl
            rw [← hdr]
            clear hdr
            refine wpAnyHTake 0 (some 62) (.slice (some ⟨B, 0, none⟩) 6 6) rfl rfl (by kernel_rfl) (by kernel_rfl) (by kernel_rfl) (fun _ _ _ h => h) (by rfl) (fun _ _ => by rfl) (G1.out) ?_
            simp only [Act.put, List.setIfInBounds_toArray, List.set_cons_zero, List.set_cons_succ]
            refine wpAnyHTake 1 (some 63) (.int .i64 (i : Int)) rfl rfl (by kernel_rfl) (by kernel_rfl) (by kernel_rfl) (fun _ _ _ h => h) (by rfl) (fun _ _ => by rfl) (G1.out) ?_
            simp only [Act.put, List.setIfInBounds_toArray, List.set_cons_zero, List.set_cons_succ]
            refine wpAnyHTake 2 (some 64) (.pointer (some ⟨B, i, none⟩)) rfl rfl (by kernel_rfl) (by kernel_rfl) (by kernel_rfl) (fun _ _ _ h => h) (by rfl) (fun _ _ => by go_simp) (G1.out) ?_
            simp only [Act.put, List.setIfInBounds_toArray, List.set_cons_zero, List.set_cons_succ]
            refine wpAnyHTake 3 (some 65) (.pointer p) rfl rfl (by kernel_rfl) (by kernel_rfl) (by kernel_rfl) (fun _ _ _ h => h) (by rfl) (fun W hW => by obtain ⟨c0, _, _, cu, _, _⟩ := hW; go_simp) (G1.out) ?_
            simp only [Act.put, List.setIfInBounds_toArray, List.set_cons_zero, List.set_cons_succ]
            refine wpAnyHTake 5 (some 67) (.slice (some ⟨g, 0, none⟩) m cR) rfl rfl (by kernel_rfl) (by kernel_rfl) (by kernel_rfl) (fun _ _ _ h => h) (by rfl) (fun _ _ => by rfl) (G1.out) ?_
            simp only [Act.put, List.setIfInBounds_toArray, List.set_cons_zero, List.set_cons_succ]
            refine wpAnyHTake 6 (some 68) (.int .i64 (k : Int)) rfl rfl (by kernel_rfl) (by kernel_rfl) (by kernel_rfl) (fun _ _ _ h => h) (by rfl) (fun _ _ => by rfl) (G1.out) ?_
            simp only [Act.put, List.setIfInBounds_toArray, List.set_cons_zero, List.set_cons_succ]
            refine wpAnyHTake 7 (some 69) (.pointer (some ⟨g, k, none⟩)) rfl rfl (by kernel_rfl) (by kernel_rfl) (by kernel_rfl) (fun _ _ _ h => h) (by rfl) (fun _ _ => by go_simp) (G1.out) ?_
            simp only [Act.put, List.setIfInBounds_toArray, List.set_cons_zero, List.set_cons_succ]
            refine wpAnyHTake 8 (some 70) (.slice au r.length cu) rfl rfl (by kernel_rfl) (by kernel_rfl) (by kernel_rfl) (fun _ _ _ h => h) (by rfl) (fun W hW => by obtain ⟨c0, _, _, cu, _, _⟩ := hW; go_simp) (G1.out) ?_
            simp only [Act.put, List.setIfInBounds_toArray, List.set_cons_zero, List.set_cons_succ]
            refine wpAnyHCall 4 (some 66) 30 #[.pointer p] (by kernel_rfl) rfl rfl (by rfl) (by go_simp) (TN) ?_
            rintro e xd2 ⟨⟨p8, rfl, hx8⟩, hb9⟩
            have G2 := Lib.hid (SB G1.out hb9)
            have HBD := Lib.hid (HBD.out.trans (hb9.mono HBD.out.size))
            obtain ⟨q8, rfl⟩ := hx8.form
            have FO := follow_any hx8 hst hdp (.slice au r.length cu) r xd2 (Below.refl _ _) G2.out.rd
            unfold FollowOut at FO
            clear hx8
            clear hb9 TN
            refine ⟨_, rfl, G2.out, ?_⟩
            simp only [Act.put, List.setIfInBounds_toArray, List.set_cons_zero, List.set_cons_succ]
            refine wpAnyHCall 9 (some 71) 33 #[.pointer q8, .slice au r.length cu] (by kernel_rfl) rfl rfl (by rfl) (by go_simp) (FO) ?_
            rintro e xd3 ⟨⟨c9, q9, x9, vq, rfl, hfo, hown⟩, hb9⟩
            have G3 := Lib.hid (SB G2.out hb9)
            have HBD := Lib.hid (HBD.out.trans (hb9.mono HBD.out.size))
            have HFO := Lib.hid hfo
            have HQ1 := Lib.hid (owns_ints hown)
            obtain ⟨avq, cvq, rfl⟩ := owns_form hown
            clear hfo hown
            clear hb9 FO
            refine ⟨_, rfl, G3.out, ?_⟩
            simp only [Act.put, List.setIfInBounds_toArray, List.set_cons_zero, List.set_cons_succ]
            refine wpAnyHTake 10 (some 61) (.tuple #[.int .i64 c9, .slice avq q9.length cvq, .int .i64 x9]) rfl rfl (by kernel_rfl) (by kernel_rfl) (by kernel_rfl) (fun _ _ _ h => h) (by rfl) (fun _ _ => by rfl) (G3.out) ?_
            simp only [Act.put, List.setIfInBounds_toArray, List.set_cons_zero, List.set_cons_succ]
            refine wpAnyHTake 11 (some 72) (.int .i64 c9) rfl rfl (by kernel_rfl) (by kernel_rfl) (by kernel_rfl) (fun _ _ _ h => h) (by rfl) (fun _ _ => by rfl) (G3.out) ?_
            simp only [Act.put, List.setIfInBounds_toArray, List.set_cons_zero, List.set_cons_succ]
            refine wpAnyHTake 12 (some 73) (.slice avq q9.length cvq) rfl rfl (by kernel_rfl) (by kernel_rfl) (by kernel_rfl) (fun _ _ _ h => h) (by rfl) (fun _ _ => by rfl) (G3.out) ?_
            simp only [Act.put, List.setIfInBounds_toArray, List.set_cons_zero, List.set_cons_succ]
            refine wpAnyHTake 13 (some 74) (.int .i64 x9) rfl rfl (by kernel_rfl) (by kernel_rfl) (by kernel_rfl) (fun _ _ _ h => h) (by rfl) (fun _ _ => by rfl) (G3.out) ?_
            simp only [Act.put, List.setIfInBounds_toArray, List.set_cons_zero, List.set_cons_succ]
            refine wpAnyHTake 14 (some 18) (.int .i64 c9) rfl rfl (by kernel_rfl) (by kernel_rfl) (by kernel_rfl) (fun _ _ _ h => h) (by rfl) (fun _ _ => by rfl) (G3.out) ?_
            simp only [Act.put, List.setIfInBounds_toArray, List.set_cons_zero, List.set_cons_succ]
            refine wpAnyHTake 15 (some 19) (.slice avq q9.length cvq) rfl rfl (by kernel_rfl) (by kernel_rfl) (by kernel_rfl) (fun _ _ _ h => h) (by rfl) (fun _ _ => by rfl) (G3.out) ?_
            simp only [Act.put, List.setIfInBounds_toArray, List.set_cons_zero, List.set_cons_succ]
            refine wpAnyHTake 16 (some 20) (.int .i64 x9) rfl rfl (by kernel_rfl) (by kernel_rfl) (by kernel_rfl) (fun _ _ _ h => h) (by rfl) (fun _ _ => by rfl) (G3.out) ?_
            simp only [Act.put, List.setIfInBounds_toArray, List.set_cons_zero, List.set_cons_succ]
            refine wpAnyH_done (by kernel_rfl) ?_ _
            have HCS := Lib.hid G3.out
            have G1 := Lib.hid (HCS.out.below (Below.dn (Below.refl _ _) 1))
            have HBD := Lib.hid (Below.dn HBD.out 1)
            have HQ1 := Lib.hid (HQ1.out.below (Below.dn (Below.refl _ _) 1))
            clear G2 G3
            go_wp2_with fail
            refine wp_region_held (S := fun W => FS W N g k B i (.slice au r.length cu) (.pointer p) r t) (by kernel_rfl) ?_
            have hdr : (xd3).drew = { xd3 with drawn := (xd3).drawn + 1 } := rfl
            rw [← hdr]
            clear hdr
            have RF := rfollow_any G1.out.tr hdp (.slice au r.length cu) r (xd3.drewN 1) (Below.refl _ _) G1.out.rd
            unfold FollowOut at RF
            refine wpAnyHTake 0 (some 76) (.slice (some ⟨B, 0, none⟩) 6 6) rfl rfl (by kernel_rfl) (by kernel_rfl) (by kernel_rfl) (fun _ _ _ h => h) (by rfl) (fun _ _ => by rfl) (G1.out) ?_
            simp only [Act.put, List.setIfInBounds_toArray, List.set_cons_zero, List.set_cons_succ]
            refine wpAnyHTake 1 (some 77) (.int .i64 (i : Int)) rfl rfl (by kernel_rfl) (by kernel_rfl) (by kernel_rfl) (fun _ _ _ h => h) (by rfl) (fun _ _ => by rfl) (G1.out) ?_
            simp only [Act.put, List.setIfInBounds_toArray, List.set_cons_zero, List.set_cons_succ]
            refine wpAnyHTake 2 (some 78) (.pointer (some ⟨B, i, none⟩)) rfl rfl (by kernel_rfl) (by kernel_rfl) (by kernel_rfl) (fun _ _ _ h => h) (by rfl) (fun _ _ => by go_simp) (G1.out) ?_
            simp only [Act.put, List.setIfInBounds_toArray, List.set_cons_zero, List.set_cons_succ]
            refine wpAnyHTake 3 (some 79) (.pointer p) rfl rfl (by kernel_rfl) (by kernel_rfl) (by kernel_rfl) (fun _ _ _ h => h) (by rfl) (fun W hW => by obtain ⟨c0, _, _, cu, _, _⟩ := hW; go_simp) (G1.out) ?_
            simp only [Act.put, List.setIfInBounds_toArray, List.set_cons_zero, List.set_cons_succ]
            refine wpAnyHTake 4 (some 80) (.slice (some ⟨g, 0, none⟩) m cR) rfl rfl (by kernel_rfl) (by kernel_rfl) (by kernel_rfl) (fun _ _ _ h => h) (by rfl) (fun _ _ => by rfl) (G1.out) ?_
            simp only [Act.put, List.setIfInBounds_toArray, List.set_cons_zero, List.set_cons_succ]
            refine wpAnyHTake 5 (some 81) (.int .i64 (k : Int)) rfl rfl (by kernel_rfl) (by kernel_rfl) (by kernel_rfl) (fun _ _ _ h => h) (by rfl) (fun _ _ => by rfl) (G1.out) ?_
            simp only [Act.put, List.setIfInBounds_toArray, List.set_cons_zero, List.set_cons_succ]
            refine wpAnyHTake 6 (some 82) (.pointer (some ⟨g, k, none⟩)) rfl rfl (by kernel_rfl) (by kernel_rfl) (by kernel_rfl) (fun _ _ _ h => h) (by rfl) (fun _ _ => by go_simp) (G1.out) ?_
            simp only [Act.put, List.setIfInBounds_toArray, List.set_cons_zero, List.set_cons_succ]
            refine wpAnyHTake 7 (some 83) (.slice au r.length cu) rfl rfl (by kernel_rfl) (by kernel_rfl) (by kernel_rfl) (fun _ _ _ h => h) (by rfl) (fun W hW => by obtain ⟨c0, _, _, cu, _, _⟩ := hW; go_simp) (G1.out) ?_
            simp only [Act.put, List.setIfInBounds_toArray, List.set_cons_zero, List.set_cons_succ]
            refine wpAnyHCall 8 (some 84) 34 #[.pointer p, .slice au r.length cu] (by kernel_rfl) rfl rfl (by rfl) (by go_simp) (RF) ?_
            rintro e xe2 ⟨⟨c8, q8, x8, vr, rfl, hfo, hown⟩, hb9⟩
            have G2 := Lib.hid (SB G1.out hb9)
            have HQ1 := Lib.hid (HQ1.out.below hb9)
            have HBD := Lib.hid (HBD.out.trans (hb9.mono HBD.out.size))
            obtain ⟨rfl, rfl, rfl⟩ := hfo.uniq HFO.out
            have HQ2 := Lib.hid (owns_ints hown)
            obtain ⟨avr, cvr, rfl⟩ := owns_form hown
            clear hfo hown
            clear hb9 RF
            refine ⟨_, rfl, G2.out, ?_⟩
            simp only [Act.put, List.setIfInBounds_toArray, List.set_cons_zero, List.set_cons_succ]
            refine wpAnyHTake 9 (some 75) (.tuple #[.int .i64 c8, .slice avr q8.length cvr, .int .i64 x8]) rfl rfl (by kernel_rfl) (by kernel_rfl) (by kernel_rfl) (fun _ _ _ h => h) (by rfl) (fun _ _ => by rfl) (G2.out) ?_
            simp only [Act.put, List.setIfInBounds_toArray, List.set_cons_zero, List.set_cons_succ]
            refine wpAnyHTake 10 (some 85) (.int .i64 c8) rfl rfl (by kernel_rfl) (by kernel_rfl) (by kernel_rfl) (fun _ _ _ h => h) (by rfl) (fun _ _ => by rfl) (G2.out) ?_
            simp only [Act.put, List.setIfInBounds_toArray, List.set_cons_zero, List.set_cons_succ]
            refine wpAnyHTake 11 (some 86) (.slice avr q8.length cvr) rfl rfl (by kernel_rfl) (by kernel_rfl) (by kernel_rfl) (fun _ _ _ h => h) (by rfl) (fun _ _ => by rfl) (G2.out) ?_
            simp only [Act.put, List.setIfInBounds_toArray, List.set_cons_zero, List.set_cons_succ]
            refine wpAnyHTake 12 (some 87) (.int .i64 x8) rfl rfl (by kernel_rfl) (by kernel_rfl) (by kernel_rfl) (fun _ _ _ h => h) (by rfl) (fun _ _ => by rfl) (G2.out) ?_
            simp only [Act.put, List.setIfInBounds_toArray, List.set_cons_zero, List.set_cons_succ]
            refine wpAnyHTake 13 (some 21) (.int .i64 c8) rfl rfl (by kernel_rfl) (by kernel_rfl) (by kernel_rfl) (fun _ _ _ h => h) (by rfl) (fun _ _ => by rfl) (G2.out) ?_
            simp only [Act.put, List.setIfInBounds_toArray, List.set_cons_zero, List.set_cons_succ]
            refine wpAnyHTake 14 (some 22) (.slice avr q8.length cvr) rfl rfl (by kernel_rfl) (by kernel_rfl) (by kernel_rfl) (fun _ _ _ h => h) (by rfl) (fun _ _ => by rfl) (G2.out) ?_
            simp only [Act.put, List.setIfInBounds_toArray, List.set_cons_zero, List.set_cons_succ]
            refine wpAnyHTake 15 (some 23) (.int .i64 x8) rfl rfl (by kernel_rfl) (by kernel_rfl) (by kernel_rfl) (fun _ _ _ h => h) (by rfl) (fun _ _ => by rfl) (G2.out) ?_
            simp only [Act.put, List.setIfInBounds_toArray, List.set_cons_zero, List.set_cons_succ]
            refine wpAnyH_done (by kernel_rfl) ?_ _
            have hcc : (c8 != c8) = false := by simp
            have hxx : (x8 != x8) = false := by simp
            have SI := sameInts_any _ _ q8 q8 xe2 HQ1.out HQ2.out
            rw [decide_eq_true rfl] at SI
            go_wp2_with fail
            refine SI.mono ?_
            rintro e y1 ⟨rfl, hb9⟩
            have HQ1 := Lib.hid (HQ1.out.below hb9)
            have HBD := Lib.hid (HBD.out.trans (hb9.mono HBD.out.size))
            have HBY := Lib.hid (HBR.out.trans (HBD.out.mono HBR.out.size))
            clear hb9 SI HQ2 HCS HBD
            go_upto_region 15 with fail
            by_cases hk9 : k = 0
            · have hkz : ¬ (0 : Int) < (k : Int) := by omega
              have hkn : ¬ 0 < k := by omega
              clear hk9
              go_wp2_with fail
              go_roundw
              case rel => exact ⟨k + 1, by omega, by go_num, HBY.out⟩
              case measure => simp [intOf]; omega
            · have hkz : (0 : Int) < (k : Int) := by omega
              have hkn : 0 < k := by omega
              by_cases hx0 : x7 = 0
              · obtain ⟨hok9, hit, hc09, hall⟩ := Ck.all HCK.out hx0
                obtain ⟨j, hj⟩ : ∃ j, k = j + 1 := ⟨k - 1, by omega⟩
                have hrj : T1.rows[j]? = some r := by have := HR.out; rw [hj, List.getElem?_cons_succ] at this; exact this
                obtain ⟨qs, hwk, hsum⟩ := hall j r hrj
                have hfo := HFO.out.uniq (Fo.good hit hwk)
                obtain ⟨h1, h2, h3⟩ := hfo
                have hwb := hwk.bound
                have hrlen := hok9.rl r (List.mem_of_getElem? hrj)
                have hjl : j < T1.rows.length := (List.getElem?_eq_some_iff.1 hrj).1
                have hkl := hok9.kl
                obtain ⟨cl, hcl⟩ := elem_at (show j < T1.cls.length by omega)
                rw [clsAt_of hcl] at h1
                obtain ⟨bk, ok, hak, hbk, hck⟩ := ints_at (HC7.out.below HBY.out).rd.cls hcl
                have hin : ∀ x, x ∈ q8 → 0 ≤ x ∧ x < T1.costs.length := by
                  rw [h2]; intro x hx
                  rcases hwb.1 x hx with h | h
                  · cases h
                  · rw [← hrlen]; exact h
                have hql : q8.length ≤ 1000000 := by rw [h2]; have := hwb.2; simp at this; omega
                have SU := rsum_any (.slice aa1 T1.rows.length ca1) (.slice ac1 T1.costs.length cc1) (.slice ak1 T1.cls.length ck1) _ T1 q8 y1 (HC7.out.below HBY.out).rd hok9 HQ1.out hin hql
                obtain ⟨p0, p1, p2, _⟩ := (HC7.out.below HBY.out).cells
                have q1 := (HC7.out.below HBY.out).bx.lt
                have hle : ¬ c7 < sumQ T1 q8 := by rw [h2]; omega
                have hkj : (k : Int) - 1 = (j : Int) := by omega
                have hcm : (cl != cl) = false := by simp
                have hj0 : (0 : Int) ≤ (j : Int) := by omega
                have hjc : (j : Int) < (T1.cls.length : Int) := by omega
                have HQL := Lib.hid h2
                subst hx0 h1 h3 hak
                clear hj hwk hsum hwb hrlen hkl hall hcl hrj h2 hin hql hjl
                go_wp2_with fail
                refine SU.mono ?_
                rintro e y2 ⟨rfl, hb9⟩
                have HBZ := Lib.hid (HBY.out.trans (hb9.mono HBY.out.size))
                clear hb9 SU p0 p1 p2 q1 hck
                go_wp2_with fail
                go_roundw
                case rel => exact ⟨k + 1, by omega, by go_num, HBZ.out⟩
                case measure => simp [intOf]; omega
              · have hx1 : (x7 == 0) = false := by simpa using hx0
                clear hx0
                go_wp2_with fail
                go_roundw
                case rel => exact ⟨k + 1, by omega, by go_num, HBY.out⟩
                case measure => simp [intOf]; omega
          · have hk1 : ¬ (k : Int) < (m : Int) := by omega
            go_wp2_with fail
            go_roundw
            case rel => exact ⟨i + 1, by have := HI6.out; omega, by go_num, HBR.out⟩
            case measure => have := HI6.out; simp [intOf]; omega
      · have hi1 : ¬ (i : Int) < 6 := by omega
        rename World => wz
        have LV := lives_any wz
        go_wp2_with fail
        with_reducible refine LV.mono ?_
        rintro e w8 ⟨rfl, hb⟩
        have HBB := Lib.hid (HB7.out.trans ((HBR.out.trans (hb.mono HBR.out.size)).mono HB7.out.size))
        clear hb LV
        go_wp2_with fail
        go_ret
        exact ⟨rfl, HBB.out⟩
end Go.Proofs.Ytmkkegigajmhkaa

