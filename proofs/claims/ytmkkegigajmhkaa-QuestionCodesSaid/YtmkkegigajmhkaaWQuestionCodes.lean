/- The walk of QuestionCodes. -/
import Derived.Test.YtmkkegigajmhkaaN37
import Derived.Test.YtmkkegigajmhkaaN39
import Derived.Test.YtmkkegigajmhkaaN35
import Derived.Test.YtmkkegigajmhkaaN22
set_option linter.unusedVariables false
namespace Go.Proofs.Ytmkkegigajmhkaa
open Go.RowKit Go.Maps

theorem TreesOut.at {W : World} {B : Nat} {us : List Value} {ts : List Tr} {N i : Nat} (h : Rd W (.slice (some ⟨B, 0, none⟩) 6 6) us) (hl : us.length = 6) (hT : Trees 105 (N ≤ ·) W us ts) (hi : i < 6) :
    ∃ p t, W.cell? ⟨B, i, none⟩ = some (.pointer p) ∧ B < W.heap.size ∧ TreeIn 105 (N ≤ ·) W (.pointer p) t ∧ t ∈ ts := by
  obtain ⟨u, hu⟩ := elem_at (show i < us.length by omega)
  obtain ⟨t, ht⟩ := elem_at (show i < ts.length by rw [← hT.1]; omega)
  obtain ⟨b, off, e, h1, h2⟩ := h.at hu
  simp only [Option.some.injEq, Addr.mk.injEq, and_true] at e
  obtain ⟨rfl, rfl⟩ := e
  have h3 := hT.2 i u t hu ht
  obtain ⟨p, rfl⟩ := h3.form
  exact ⟨p, t, by simpa using h2, h1, h3, List.mem_of_getElem? ht⟩
/-- a tree in a block -/
structure TI (W : World) (N B i : Nat) (u : Value) (t : Tr) : Prop where
  cu : W.cell? ⟨B, i, none⟩ = some u
  lt : B < W.heap.size
  tr : TreeIn 105 (N ≤ ·) W u t
theorem TI.below {W W' : World} {N B i : Nat} {u : Value} {t : Tr} (h : TI W N B i u t) (hb : Below W.heap.size W W') : TI W' N B i u t :=
  ⟨(hb.cell (p := ⟨B, i, none⟩) h.lt).trans h.cu, Nat.lt_of_lt_of_le h.lt hb.size, h.tr.under hb⟩
/-- six lists in memory, and what they decode to -/
structure CodesIn (W : World) (B : Nat) (us : List Value) (Ls : List (List Int)) : Prop where
  rd : Rd W (.slice (some ⟨B, 0, none⟩) 6 6) us
  len : us.length = 6
  len2 : Ls.length = 6
  rows : ∀ (k : Nat) (u : Value) (L : List Int), us[k]? = some u → Ls[k]? = some L → RdI W u L ∧ DecL L
theorem CodesIn.below {W W' : World} {B : Nat} {us : List Value} {Ls : List (List Int)} (h : CodesIn W B us Ls) (hb : Below W.heap.size W W') : CodesIn W' B us Ls :=
  ⟨h.rd.below hb, h.len, h.len2, fun k u L hu hL => ⟨(h.rows k u L hu hL).1.below hb, (h.rows k u L hu hL).2⟩⟩
theorem CodesIn.at {W : World} {B k : Nat} {us : List Value} {Ls : List (List Int)} (h : CodesIn W B us Ls) (hk : k < 6) :
    ∃ a c L, W.cell? ⟨B, k, none⟩ = some (.slice a L.length c) ∧ B < W.heap.size ∧ RdI W (.slice a L.length c) L ∧ DecL L := by
  obtain ⟨u, hu⟩ := elem_at (show k < us.length by rw [h.len]; omega)
  obtain ⟨L, hL⟩ := elem_at (show k < Ls.length by rw [h.len2]; omega)
  obtain ⟨b, off, e, h1, h2⟩ := h.rd.at hu
  simp only [Option.some.injEq, Addr.mk.injEq, and_true] at e
  obtain ⟨rfl, rfl⟩ := e
  obtain ⟨h3, h4⟩ := h.rows k u L hu hL
  obtain ⟨a, c, rfl⟩ := h3.form
  exact ⟨a, c, L, by simpa using h2, h1, h3, h4⟩
theorem CodesIn.six {W : World} {B : Nat} {u0 u1 u2 u3 u4 u5 : Value} {L0 L1 L2 L3 L4 L5 : List Int} (h : Rd W (.slice (some ⟨B, 0, none⟩) 6 6) [u0, u1, u2, u3, u4, u5])
    (r0 : RdI W u0 L0) (r1 : RdI W u1 L1) (r2 : RdI W u2 L2) (r3 : RdI W u3 L3) (r4 : RdI W u4 L4) (r5 : RdI W u5 L5) (d0 : DecL L0) (d1 : DecL L1) (d2 : DecL L2) (d3 : DecL L3) (d4 : DecL L4) (d5 : DecL L5) :
    CodesIn W B [u0, u1, u2, u3, u4, u5] [L0, L1, L2, L3, L4, L5] := by
  refine ⟨h, rfl, rfl, fun k u L hu hL => ?_⟩
  match k with
  | 0 => cases hu; cases hL; exact ⟨r0, d0⟩
  | 1 => cases hu; cases hL; exact ⟨r1, d1⟩
  | 2 => cases hu; cases hL; exact ⟨r2, d2⟩
  | 3 => cases hu; cases hL; exact ⟨r3, d3⟩
  | 4 => cases hu; cases hL; exact ⟨r4, d4⟩
  | 5 => cases hu; cases hL; exact ⟨r5, d5⟩
  | n + 6 => cases hu
theorem dec_zero {L : List Int} (h : decE L = 0) : codeT (decT L) = L := by
  unfold decE at h
  split at h
  · omega
  · rename_i h4
    split at h
    · rename_i hs
      obtain ⟨t, ht⟩ := Option.isSome_iff_exists.1 hs
      obtain ⟨e1, _⟩ := dec_some h4 ht
      rw [e1]
      exact (decO_code ht).2
    · omega
theorem makeZ5 (n : Nat) (hn : n ≤ 5000) (w : World) : (Instr.makeSlice 22 (.int .i64 n) (.int .i64 n)).run Try.prog w = .ok (.slice (some ⟨w.heap.size, 0, none⟩) n n) (w.alloc (.cells (madeCells #[.int .i64 0] n) 3)) :=
  run_make_row' 22 3 (.int .i64 0) 8 Try.underlying22 Try.info3 rfl .i64 .i64 n (by omega) (by omega) w
set_option maxRecDepth 100000 in
set_option maxHeartbeats 16000000 in
theorem questionCodes_any (v vm vn : Value) (l ms ns : List Int) (how by_ : Int) (w : World) (h : RdI w v l) (il : inI l) (hm : RdI w vm ms) (im : inI ms) (hn : RdI w vn ns) (hh1 : -9223372036854775808 ≤ how) (hh2 : how ≤ 9223372036854775807) (hb1 : -9223372036854775808 ≤ by_) (hb2 : by_ ≤ 9223372036854775807) :
    Calls Try.prog 9 #[v, vm, .int .i64 how, .int .i64 by_, vn] w fun e w' => e = .returned (.bool true) ∧ Below w.heap.size w w' := by
  have MK := made_any v l w h il
  have hok := made_ok l
  have h7 := madeT_rows l
  obtain ⟨T0, hT0⟩ : ∃ T, madeT l = T := ⟨_, rfl⟩
  rw [hT0] at MK hok h7
  have h71 : (plainT T0).rows.length ≤ 7 := h7
  obtain ⟨T1, hT1⟩ : ∃ T, plainT T0 = T := ⟨_, rfl⟩
  rw [hT1] at h71
  have H1 := Lib.hid hT1; have HOK := Lib.hid hok
  have H71 := Lib.hid h71
  obtain ⟨av, cv, rfl⟩ := h.form
  obtain ⟨am, cm, rfl⟩ := hm.form
  obtain ⟨an, cn, rfl⟩ := hn.form
  have HNN := Lib.hid hn
  have HV := Lib.hid h; have HM := Lib.hid hm; have HT0 := Lib.hid hT0
  clear h hm hn hT0 hT1 hok h7 h71
  go_enter Try.func9, Try.ntmps9
  go_wp2_with fail
  with_reducible refine MK.mono ?_
  rintro e w1 ⟨⟨va, vc, vk, us, rfl, hown⟩, hb⟩
  have PL := plain_any va vc vk T0 w1 hown.tb HOK.out
  rw [H1.out] at PL
  obtain ⟨aa0, ca0, rfl⟩ := hown.tb.rows.form
  obtain ⟨ac0, cc0, rfl⟩ := hown.tb.costs.form
  obtain ⟨ak0, ck0, rfl⟩ := hown.tb.cls.form
  have HB := Lib.hid hb
  clear hown hb MK
  go_wp2_with fail
  with_reducible refine PL.mono ?_
  rintro e w2 ⟨⟨va, vc, vk, us, rfl, hown⟩, hb⟩
  have htb := hown.tb
  obtain ⟨aa1, ca1, rfl⟩ := htb.rows.form
  obtain ⟨ac1, cc1, rfl⟩ := htb.costs.form
  obtain ⟨ak1, ck1, rfl⟩ := htb.cls.form
  have hba := alloc_below w2 (.cells #[.slice aa1 T1.rows.length ca1, .slice ac1 T1.costs.length cc1, .slice ak1 T1.cls.length ck1] 25)
  obtain ⟨W2, hW2⟩ : ∃ W, w2.alloc (.cells #[.slice aa1 T1.rows.length ca1, .slice ac1 T1.costs.length cc1, .slice ak1 T1.cls.length ck1] 25) = W := ⟨_, rfl⟩
  have BX1 := Lib.hid (show Boxs W2 w2.heap.size 25 #[.slice aa1 T1.rows.length ca1, .slice ac1 T1.costs.length cc1, .slice ak1 T1.cls.length ck1] by rw [← hW2]; exact Boxs.new w2 25 _)
  rw [hW2] at hba
  have HT1 := Lib.hid (htb.below hba)
  have HB := Lib.hid (HB.out.trans ((hb.trans (hba.mono hb.size)).mono HB.out.size))
  obtain ⟨b1, hB1⟩ : ∃ b, w2.heap.size = b := ⟨_, rfl⟩
  rw [hB1] at BX1
  have TR := trees_any _ _ _ _ T1 ms how by_ W2 HT1.out H71.out (HM.out.below HB.out) im hh1 hh2 hb1 hb2
  clear hown htb hb hba PL
  have p0 := BX1.out.cell 0; have p1 := BX1.out.cell 1; have p2 := BX1.out.cell 2
  have q1 := BX1.out.lt
  simp only [List.getElem?_toArray, List.getElem?_cons_zero, List.getElem?_cons_succ] at p0 p1 p2
  go_wp2_with fail
  clear hW2 hB1
  with_reducible refine TR.mono ?_
  rintro e w3 ⟨⟨B, us, ts, rfl, hrd, hul, htr, hok⟩, hb⟩
  have HRD := Lib.hid hrd; have HTR := Lib.hid htr; have HTO := Lib.hid hok; have HUL := Lib.hid hul
  have HT1 := Lib.hid (HT1.out.below hb)
  have BX1 := Lib.hid (Boxs.below BX1.out hb)
  have HB := Lib.hid (HB.out.trans (hb.mono HB.out.size))
  have HV := Lib.hid (HV.out.below HB.out)
  clear TR hrd htr hok hb hul p0 p1 p2 q1
  generalize W2.heap.size = N at *
  have HN3 := Lib.hid (HNN.out.below HB.out)
  clear HT1 BX1 HV HM H71 HOK H1 HT0 HNN
  go_wp2_with fail
  go_loopw [13] (fun iv wr => ∃ i : Nat, i ≤ 6 ∧ iv = .int .i64 i ∧ Below w3.heap.size w3 wr) (fun iv _ => 6 - (intOf iv).toNat)
  case atStart => exact ⟨0, by omega, rfl, Below.refl _ _⟩
  case round =>
    obtain ⟨i, hi, rfl, hbr⟩ := hrel
    have hi0 : (0 : Int) ≤ (i : Int) := Int.natCast_nonneg _
    have HBR := Lib.hid hbr
    clear hbr
    by_cases hlt6 : i < 6
    · have hi1 : (i : Int) < 6 := by omega
      have HI6 := Lib.hid hlt6
      clear hlt6
      obtain ⟨p, t, hcu, hBl, htr, htm⟩ := TreesOut.at HRD.out HUL.out HTR.out HI6.out
      obtain ⟨hto, hdp⟩ := HTO.out t htm
      have hsk := smK_wd t (by have := hto.w; omega)
      have hlc : (codeT t).length ≤ 400 := hdp.1
      have hd9 := hto.d
      have T3 : TI w3 N B i (.pointer p) t := ⟨hcu, hBl, htr⟩
      have T4 := T3.below HBR.out
      have HT := Lib.hid T4
      have HTO1 := Lib.hid hto; have HDP := Lib.hid hdp; have HLC := Lib.hid hlc; have HD9 := Lib.hid hd9; have HSK := Lib.hid hsk
      have HNR := Lib.hid (HN3.out.below HBR.out)
      have z1 := T4.cu; have z2 := T4.lt
      have CV := treeN_any T4.tr hsk wr (Below.refl _ _)
      unfold ConvOut at CV
      clear hcu hBl htr htm hto hdp hlc hd9 T3 T4 hsk
      go_wp2_with fail
      with_reducible refine CV.mono ?_
      rintro e w4 ⟨⟨vp, rfl, htp⟩, hb⟩
      have EN := encode_any htp (by have := HLC.out; omega) w4 (Below.refl _ _)
      unfold OwnI at EN
      obtain ⟨qp, rfl⟩ := htp.form
      have HB4 := Lib.hid hb
      clear CV htp hb z1 z2
      go_wp2_with fail
      with_reducible refine EN.mono ?_
      rintro e w5 ⟨⟨vc, rfl, hown⟩, hb⟩
      obtain ⟨L, hL⟩ : ∃ L, encT t = L := ⟨_, rfl⟩
      rw [hL] at hown
      have HL := Lib.hid hL
      have hll : L.length ≤ 400 := by rw [← hL]; unfold encT; split; exact HLC.out; simp
      have HLL := Lib.hid hll
      obtain ⟨ca, cc, rfl⟩ := owns_form hown
      have HB5 := Lib.hid (HB4.out.trans (hb.mono HB4.out.size))
      have HC := Lib.hid (owns_ints hown)
      clear EN hown hb HB4 hL hll
      have T5 := HT.out.below HB5.out
      have HT := Lib.hid T5
      have z1 := T5.cu; have z2 := T5.lt
      have RE := rencode_any T5.tr (by have := HLC.out; omega) w5 (Below.refl _ _)
      rw [HL.out] at RE
      unfold OwnI at RE
      clear T5
      go_wp2_with fail
      clear z1 z2
      with_reducible refine RE.mono ?_
      rintro e w6 ⟨⟨vd, rfl, hown⟩, hb⟩
      obtain ⟨da, dc, rfl⟩ := owns_form hown
      have HB6 := Lib.hid (HB5.out.trans (hb.mono HB5.out.size))
      have HC := Lib.hid (HC.out.below hb)
      have HT := Lib.hid (HT.out.below hb)
      have SI := sameInts_any _ _ L L w6 HC.out (owns_ints hown)
      rw [decide_eq_true rfl] at SI
      clear RE hown hb HB5
      go_wp2_with fail
      with_reducible refine SI.mono ?_
      rintro e w7 ⟨rfl, hb⟩
      have HB7 := Lib.hid (HB6.out.trans (hb.mono HB6.out.size))
      have HC := Lib.hid (HC.out.below hb)
      have HT := Lib.hid (HT.out.below hb)
      clear SI hb HB6
      have hal := alloc_below w7 (.cells #[] 3)
      have HC8 := Lib.hid (HC.out.below hal)
      have HT8 := Lib.hid (HT.out.below hal)
      have HB8 := Lib.hid (HB7.out.trans (hal.mono HB7.out.size))
      have HSZ := Lib.hid hal.size
      clear hal
      go_upto_region 10 with (at_builtin; refine wpList_appI (base := w7.heap.size) rfl _ _ rfl (.slice (some ⟨w7.heap.size, 0, none⟩) 0 0) [] rfl (owns_void w7 _ (Nat.le_refl _)) (.slice ca L.length cc) L rfl HC8.out (by have := HLL.out; simp; omega) HSZ.out ?_; intro v8 w8 happ)
      have hbe8 := happ.below (alloc_below w7 _) (owns_void w7 _ (Nat.le_refl _)) (Nat.le_refl _) HSZ.out
      have how8 := happ.1
      rw [List.nil_append] at how8
      obtain ⟨ba, bc, rfl⟩ := owns_form how8
      obtain ⟨N7, hN7⟩ : ∃ n, w7.heap.size = n := ⟨_, rfl⟩
      have HN7 := Lib.hid hN7
      have HB9 := Lib.hid hbe8; have HO8 := Lib.hid how8
      rw [hN7] at HO8
      clear happ hbe8 how8 hN7 HC8 HT8 HB8 HSZ
      go_upto_if 57 with fail

      go_cut [] (fun wx => ∃ (p : Nat) (v : Int), wx.ownsRow N7 3 1 (.slice ba L.length bc) L.length (ints (L.set p v)) ∧ Below w7.heap.size w7 wx)
      case first =>
        by_cases hz : 0 < L.length
        · have hzi : (0 : Int) < (L.length : Int) := by omega
          obtain ⟨g, gc, e⟩ := ownsRow_some HO8.out hz
          cases e
          obtain ⟨pn, hpn, hpl⟩ : ∃ p : Nat, around how (L.length : Int) = p ∧ (p : Int) < (L.length : Int) := by
            obtain ⟨q1, q2⟩ := around_bd how (L.length : Int) hzi
            exact ⟨(around how (L.length : Int)).toNat, by omega, by omega⟩
          obtain ⟨q9, hq9⟩ : ∃ q, around by_ 9 = q := ⟨_, rfl⟩
          have hqb := around_bd by_ 9 (by omega)
          rw [hq9] at hqb
          have hp0 : (0 : Int) ≤ (pn : Int) := Int.natCast_nonneg _
          have A1 := around_any how (L.length : Int) w8 hh1 hh2 hzi (by have := HLL.out; omega)
          have A2 := around_any by_ 9 w8 hb1 hb2 (by omega) (by omega)
          rw [hpn] at A1
          rw [hq9] at A2
          have hgc := HO8.out.cellAt pn (show pn < L.length * 1 by omega)
          have hgf := HO8.out.frozenAt pn
          have hgl := (HO8.out.lt g rfl).2
          obtain ⟨xo, hxo⟩ := elem_at (show pn < L.length by omega)
          rw [show (ints L)[pn]? = some (.int .i64 xo) by simp [ints, hxo]] at hgc
          clear hpn hq9 hqb hxo
          go_wp2_with fail
          refine A1.mono ?_
          rintro e w9 ⟨rfl, rfl⟩
          go_wp2_with fail
          refine A2.mono ?_
          rintro e w9 ⟨rfl, rfl⟩
          go_wp2_with fail
          go_meet
          refine ⟨pn, wrap64 (q9 - 2), ?_, HB9.out.setCell (p := ⟨g, pn, none⟩) (by rw [HN7.out]; exact (HO8.out.lt g rfl).1) _⟩
          have e : ints (L.set pn (wrap64 (q9 - 2))) = (ints L).set pn (.int .i64 (wrap64 (q9 - 2))) := by simp [ints, List.map_set]
          rw [e]
          exact (HO8.out.stored pn _).1
        · have hzi : ¬ (0 : Int) < (L.length : Int) := by omega
          go_wp2_with fail
          go_meet
          refine ⟨0, 0, ?_, HB9.out⟩
          rw [show L.set 0 0 = L by rw [List.length_eq_zero_iff.1 (show L.length = 0 by omega)]; rfl]
          exact HO8.out
      case rest =>
        rename World => u9
        obtain ⟨pn, xv, hob, hbb⟩ := hcut
        have HC9 := Lib.hid (HC.out.below hbb)
        have HT9 := Lib.hid (HT.out.below hbb)
        have HBW := Lib.hid (HB7.out.trans (hbb.mono HB7.out.size))
        have HN9 := Lib.hid (HNR.out.below HBW.out)
        have HO9 := Lib.hid (owns_ints hob)
        obtain ⟨nh, hnh, hnl, hnb⟩ : ∃ nh : Nat, IntKind.i64.wrap ((L.length : Int) / 2) = nh ∧ nh ≤ L.length ∧ nh ≤ 200 := by
          refine ⟨L.length / 2, ?_, by omega, by have := HLL.out; omega⟩
          rw [IntWalk.i64_in _ (by have := HLL.out; omega)]
          omega
        have HNH := Lib.hid hnh; have HNL := Lib.hid hnl; have HNB := Lib.hid hnb
        obtain ⟨q12, hq12⟩ : ∃ q, around by_ 12 = q := ⟨_, rfl⟩
        have hqb := around_bd by_ 12 (by omega)
        rw [hq12] at hqb
        obtain ⟨mz, hmz, hml⟩ : ∃ m : Nat, IntKind.i64.wrap (4090 + q12) = m ∧ m ≤ 5000 := by
          refine ⟨(4090 + q12).toNat, ?_, by omega⟩
          rw [IntWalk.i64_in _ (by omega)]
          omega
        have HQ12 := Lib.hid hq12; have HMZ := Lib.hid hmz; have HML := Lib.hid hml
        clear HC HT HB7 HNR HO8 HB9 hob hbb hnh hnl hnb hqb hq12 hmz hml
        have he0 : DecL L := by rw [← HL.out]; exact .code HDP.out HD9.out
        have he1 : DecL (L.set pn xv) := by rw [← HL.out]; exact .bent HDP.out _ _
        have he2 : DecL (L ++ [by_]) := by rw [← HL.out]; exact .more HDP.out _
        have he3 : DecL (L.take nh) := by rw [← HL.out]; exact .half HDP.out _ HNB.out
        have HE0 := Lib.hid he0; have HE1 := Lib.hid he1; have HE2 := Lib.hid he2; have HE3 := Lib.hid he3
        clear he0 he1 he2 he3
        go_upto_region 12 with fail
        go_cut [16] (fun s16 wx => ∃ B6 us Ls, s16 = .slice (some ⟨B6, 0, none⟩) 6 6 ∧ CodesIn wx B6 us Ls ∧ Below u9.heap.size u9 wx)
        case first =>
          refine wp_region_E (fun _ => True) (by kernel_rfl) ?_
          have hdr : (u9).drew = { u9 with drawn := (u9).drawn + 1 } := rfl
          rw [← hdr]
          clear hdr
          change wpAnyE _ _ _ _ _ _ _ _ ((u9).drewN 1)
          have hbl := Below.dn (Below.refl u9.heap.size u9) 1
          have hncc : nh ≤ cc := by
            have h8 := HC9.out
            have h7 := HNL.out
            obtain ⟨a9, c9, e9, h3, _, _⟩ := h8
            rw [ints_len] at e9 h3
            cases e9; omega
          refine tm 0 67 rfl rfl (.slice ca L.length cc) trivial ?_
          try simp only [pa, pl]
          refine tm 1 68 rfl rfl (.slice ba L.length bc) trivial ?_
          try simp only [pa, pl]
          refine tm 3 70 rfl rfl (.slice ca L.length cc) trivial ?_
          try simp only [pa, pl]
          refine tm 5 72 rfl rfl (.int .i64 by_) trivial ?_
          try simp only [pa, pl]
          refine tm 8 75 rfl rfl (.slice ca L.length cc) trivial ?_
          try simp only [pa, pl]
          refine tm 9 76 rfl rfl (.slice ca L.length cc) trivial ?_
          try simp only [pa, pl]
          refine tg 10 77 rfl rfl (.int .i64 (L.length : Int)) trivial ?_
          try simp only [pa, pl]
          refine tk 11 78 rfl rfl (.int .i64 (nh : Int)) (fun _ _ => by go_simp <;> rw [HNH.out]) trivial ?_
          try simp only [pa, pl]
          refine tg 12 79 rfl rfl (.slice ca nh cc) trivial ?_
          try simp only [pa, pl]
          refine tm 13 80 rfl rfl (.slice an ns.length cn) trivial ?_
          try simp only [pa, pl]
          refine tm 15 82 rfl rfl (.int .i64 by_) trivial ?_
          try simp only [pa, pl]
          refine wpAnyEBoth 2 6 (by kernel_rfl) ?_ ?_
          · refine wpOpRun' (v := .slice (some ⟨(u9.drewN 1).heap.size, 0, none⟩) 0 0) (w' := ((u9.drewN 1).alloc (.cells #[] 3))) (some 69) rfl rfl rfl (by go_simp <;> rfl) ?_
            have hA := owns_block (base := u9.heap.size) (Boxs.new (u9.drewN 1) 3 #[]) hbl.size (xs := []) rfl (n := 0) (size := 1) rfl (by omega)
            have hbl := hbl.alloc hbl.size (.cells #[] 3)
            refine ⟨.inl (trivial), ?_⟩
            try simp only [pa, pl]
            refine wpAnyEBoth 4 6 (by kernel_rfl) ?_ ?_
            · refine wpOpAppI 4 (some 71) rfl rfl rfl (.tmp 69) (.tmp 70) rfl (.slice (some ⟨(u9.drewN 1).heap.size, 0, none⟩) 0 0) ([]) rfl (hA) (.slice ca L.length cc) (L) rfl (RdI.below HC9.out hbl) (by have := HLL.out; simp; omega) (hbl.size) fun v2 W2 happ => ?_
              rw [List.nil_append] at happ
              obtain ⟨a2, k2, rfl⟩ := happ.form
              have hbl1 := happ.below hbl hA (Nat.le_refl _) hbl.size
              have hA := happ.1
              clear happ hbl
              have hbl := hbl1
              clear hbl1
              refine ⟨.inl (trivial), ?_⟩
              try simp only [pa, pl]
              refine wpAnyEOne 6 (by kernel_rfl) ?_
              refine wpOpRun' (v := .slice (some ⟨W2.heap.size, 0, none⟩) 1 1) (w' := (W2.alloc (.cells #[.int .i64 by_] 3))) (some 73) rfl rfl rfl (by go_simp <;> rfl) ?_
              have hB := owns_block (base := u9.heap.size) (Boxs.new W2 3 #[.int .i64 by_]) hbl.size (xs := ints [by_]) rfl (n := 1) (size := 1) rfl (by omega)
              have hA := owns_below hA (alloc_below W2 (.cells #[.int .i64 by_] 3))
              have hbl := hbl.alloc hbl.size (.cells #[.int .i64 by_] 3)
              refine ⟨.inl (trivial), ?_⟩
              try simp only [pa, pl]
              refine wpAnyEOne 7 (by kernel_rfl) ?_
              refine wpOpAppI 7 (some 74) rfl rfl rfl (.tmp 71) (.tmp 73) rfl (.slice a2 L.length k2) (L) rfl (hA) (.slice (some ⟨W2.heap.size, 0, none⟩) 1 1) ([by_]) rfl (owns_ints hB) (by have := HLL.out; simp; omega) (hbl.size) fun v3 W3 happ => ?_
              obtain ⟨a3, k3, rfl⟩ := happ.form
              have hbl1 := happ.below hbl hA (Nat.le_refl _) hbl.size
              have hM := owns_ints happ.1
              clear happ hbl hA hB
              have hbl := hbl1
              clear hbl1
              have TK := take_any _ ns 30 (by omega) W3 (HN9.out.below hbl)
              rw [show ((30 : Nat) : Int) = 30 from rfl] at TK
              refine ⟨.inl (trivial), ?_⟩
              try simp only [pa, pl]
              refine wpAnyEOne 14 (by kernel_rfl) ?_
              refine wpOpCall (some 81) 32 #[.slice an ns.length cn, .int .i64 30] rfl rfl rfl (by go_simp) (TK) ?_
              rintro e W4 ⟨⟨v4, rfl, hown⟩, hb⟩
              obtain ⟨a4, k4, rfl⟩ := owns_form hown
              have hT := owns_ints hown
              have hM := hM.below hb
              have hbl := hbl.trans (hb.mono hbl.size)
              have A3 := around_any by_ 12 W4 hb1 hb2 (by omega) (by omega)
              rw [HQ12.out] at A3
              clear hown hb TK
              refine ⟨_, rfl, ?_⟩
              refine ⟨.inl (trivial), ?_⟩
              try simp only [pa, pl]
              refine wpAnyEOne 16 (by kernel_rfl) ?_
              refine wpOpCall (some 83) 22 #[.int .i64 by_, .int .i64 12] rfl rfl rfl (by go_simp) (A3) ?_
              rintro e W5 ⟨rfl, rfl⟩
              refine ⟨_, rfl, ?_⟩
              refine ⟨.inl (trivial), ?_⟩
              try simp only [pa, pl]
              refine tk 17 84 rfl rfl (.int .i64 (mz : Int)) (fun _ _ => by go_simp <;> rw [HMZ.out]) trivial ?_
              try simp only [pa, pl]
              have MZ := makeZ5 mz HML.out W4
              refine wpAnyEOne 18 (by kernel_rfl) ?_
              refine wpOpRun' (v := .slice (some ⟨W4.heap.size, 0, none⟩) mz mz) (w' := (W4.alloc (.cells (madeCells #[.int .i64 0] mz) 3))) (some 85) rfl rfl rfl (by go_simp <;> rfl) ?_
              have hZ : RdI (W4.alloc (.cells (madeCells #[.int .i64 0] mz) 3)) (.slice (some ⟨W4.heap.size, 0, none⟩) mz mz) (List.replicate mz 0) := by
                have := Rd_block (Boxs.new W4 3 (madeCells #[.int .i64 0] mz)) (n := mz) (by have e := congrArg List.length (ints_rep mz); rw [Array.length_toList, ints_len, List.length_replicate] at e; exact e) (by have := HML.out; omega)
                rwa [ints_rep] at this
              have hb := alloc_below W4 (.cells (madeCells #[.int .i64 0] mz) 3)
              have hM := hM.below hb
              have hT := hT.below hb
              have hbl := hbl.trans (hb.mono hbl.size)
              clear hb MZ
              refine ⟨.inl (trivial), ?_⟩
              try simp only [pa, pl]
              refine wpAnyEOne 19 (by kernel_rfl) ?_
              refine wpOpRun' (v := .slice (some ⟨(W4.alloc (.cells (madeCells #[.int .i64 0] mz) 3)).heap.size, 0, none⟩) 6 6) (w' := ((W4.alloc (.cells (madeCells #[.int .i64 0] mz) 3)).alloc (.cells #[.slice ca L.length cc, .slice ba L.length bc, .slice a3 (L ++ [by_]).length k3, .slice ca nh cc, .slice a4 (ns.take 30).length k4, .slice (some ⟨W4.heap.size, 0, none⟩) mz mz] 22))) (some 86) rfl rfl rfl (by go_simp <;> rfl) ?_
              have hb := alloc_below (W4.alloc (.cells (madeCells #[.int .i64 0] mz) 3)) (.cells #[.slice ca L.length cc, .slice ba L.length bc, .slice a3 (L ++ [by_]).length k3, .slice ca nh cc, .slice a4 (ns.take 30).length k4, .slice (some ⟨W4.heap.size, 0, none⟩) mz mz] 22)
              have hS : Rd ((W4.alloc (.cells (madeCells #[.int .i64 0] mz) 3)).alloc (.cells #[.slice ca L.length cc, .slice ba L.length bc, .slice a3 (L ++ [by_]).length k3, .slice ca nh cc, .slice a4 (ns.take 30).length k4, .slice (some ⟨W4.heap.size, 0, none⟩) mz mz] 22)) (.slice (some ⟨(W4.alloc (.cells (madeCells #[.int .i64 0] mz) 3)).heap.size, 0, none⟩) 6 6) [.slice ca L.length cc, .slice ba L.length bc, .slice a3 (L ++ [by_]).length k3, .slice ca nh cc, .slice a4 (ns.take 30).length k4, .slice (some ⟨W4.heap.size, 0, none⟩) mz mz] := Rd_fresh (W4.alloc (.cells (madeCells #[.int .i64 0] mz) 3)) 22 #[.slice ca L.length cc, .slice ba L.length bc, .slice a3 (L ++ [by_]).length k3, .slice ca nh cc, .slice a4 (ns.take 30).length k4, .slice (some ⟨W4.heap.size, 0, none⟩) mz mz] 6 rfl (by omega)
              have hM := hM.below hb
              have hT := hT.below hb
              have hZ := hZ.below hb
              have hbl := hbl.trans (hb.mono hbl.size)
              clear hb
              refine ⟨.inl (trivial), ?_⟩
              try simp only [pa, pl]
              refine wpAnyEOne 20 (by kernel_rfl) ?_
              refine wpOpRun' (v := .slice (some ⟨(W4.alloc (.cells (madeCells #[.int .i64 0] mz) 3)).heap.size, 0, none⟩) 6 6) (w' := ((W4.alloc (.cells (madeCells #[.int .i64 0] mz) 3)).alloc (.cells #[.slice ca L.length cc, .slice ba L.length bc, .slice a3 (L ++ [by_]).length k3, .slice ca nh cc, .slice a4 (ns.take 30).length k4, .slice (some ⟨W4.heap.size, 0, none⟩) mz mz] 22))) (some 16) rfl rfl rfl (by rfl) ?_
              refine ⟨.inr (allUp_of (by kernel_rfl)), ?_⟩
              try simp only [pa, pl]
              refine wpAnyE_done (by kernel_rfl) ?_ _
              go_wp2_with fail
              go_meet
              exact ⟨_, _, _, rfl, CodesIn.six hS (HC9.out.below hbl) (HO9.out.below hbl) hM ((HC9.out.below hbl).take HNL.out) hT hZ HE0.out HE1.out HE2.out HE3.out (.short (by rw [List.length_take]; omega)) (.zero _ HML.out), hbl⟩
            · refine wpOpRun' (v := .slice (some ⟨((u9.drewN 1).alloc (.cells #[] 3)).heap.size, 0, none⟩) 1 1) (w' := (((u9.drewN 1).alloc (.cells #[] 3)).alloc (.cells #[.int .i64 by_] 3))) (some 73) rfl rfl rfl (by go_simp <;> rfl) ?_
              have hB := owns_block (base := u9.heap.size) (Boxs.new ((u9.drewN 1).alloc (.cells #[] 3)) 3 #[.int .i64 by_]) hbl.size (xs := ints [by_]) rfl (n := 1) (size := 1) rfl (by omega)
              have hA := owns_below hA (alloc_below ((u9.drewN 1).alloc (.cells #[] 3)) (.cells #[.int .i64 by_] 3))
              have hbl := hbl.alloc hbl.size (.cells #[.int .i64 by_] 3)
              refine ⟨.inl (trivial), ?_⟩
              try simp only [pa, pl]
              refine wpAnyEOne 4 (by kernel_rfl) ?_
              refine wpOpAppI 4 (some 71) rfl rfl rfl (.tmp 69) (.tmp 70) rfl (.slice (some ⟨(u9.drewN 1).heap.size, 0, none⟩) 0 0) ([]) rfl (hA) (.slice ca L.length cc) (L) rfl (RdI.below HC9.out hbl) (by have := HLL.out; simp; omega) (hbl.size) fun v2 W2 happ => ?_
              rw [List.nil_append] at happ
              obtain ⟨a2, k2, rfl⟩ := happ.form
              have hB := owns_grown hB happ.2.1 (fun b h1 h2 => by
                have h1 : ((u9.drewN 1).alloc (.cells #[] 3)).heap.size = b := Option.some.inj h1
                have h2 : (u9.drewN 1).heap.size = b := Option.some.inj h2
                simp only [World.size_alloc] at h1 h2
                omega)
              have hbl1 := happ.below hbl hA (Nat.le_refl _) hbl.size
              have hA := happ.1
              clear happ hbl
              have hbl := hbl1
              clear hbl1
              refine ⟨.inl (trivial), ?_⟩
              try simp only [pa, pl]
              refine wpAnyEOne 7 (by kernel_rfl) ?_
              refine wpOpAppI 7 (some 74) rfl rfl rfl (.tmp 71) (.tmp 73) rfl (.slice a2 L.length k2) (L) rfl (hA) (.slice (some ⟨((u9.drewN 1).alloc (.cells #[] 3)).heap.size, 0, none⟩) 1 1) ([by_]) rfl (owns_ints hB) (by have := HLL.out; simp; omega) (hbl.size) fun v3 W3 happ => ?_
              obtain ⟨a3, k3, rfl⟩ := happ.form
              have hbl1 := happ.below hbl hA (Nat.le_refl _) hbl.size
              have hM := owns_ints happ.1
              clear happ hbl hA hB
              have hbl := hbl1
              clear hbl1
              have TK := take_any _ ns 30 (by omega) W3 (HN9.out.below hbl)
              rw [show ((30 : Nat) : Int) = 30 from rfl] at TK
              refine ⟨.inl (trivial), ?_⟩
              try simp only [pa, pl]
              refine wpAnyEOne 14 (by kernel_rfl) ?_
              refine wpOpCall (some 81) 32 #[.slice an ns.length cn, .int .i64 30] rfl rfl rfl (by go_simp) (TK) ?_
              rintro e W4 ⟨⟨v4, rfl, hown⟩, hb⟩
              obtain ⟨a4, k4, rfl⟩ := owns_form hown
              have hT := owns_ints hown
              have hM := hM.below hb
              have hbl := hbl.trans (hb.mono hbl.size)
              have A3 := around_any by_ 12 W4 hb1 hb2 (by omega) (by omega)
              rw [HQ12.out] at A3
              clear hown hb TK
              refine ⟨_, rfl, ?_⟩
              refine ⟨.inl (trivial), ?_⟩
              try simp only [pa, pl]
              refine wpAnyEOne 16 (by kernel_rfl) ?_
              refine wpOpCall (some 83) 22 #[.int .i64 by_, .int .i64 12] rfl rfl rfl (by go_simp) (A3) ?_
              rintro e W5 ⟨rfl, rfl⟩
              refine ⟨_, rfl, ?_⟩
              refine ⟨.inl (trivial), ?_⟩
              try simp only [pa, pl]
              refine tk 17 84 rfl rfl (.int .i64 (mz : Int)) (fun _ _ => by go_simp <;> rw [HMZ.out]) trivial ?_
              try simp only [pa, pl]
              have MZ := makeZ5 mz HML.out W4
              refine wpAnyEOne 18 (by kernel_rfl) ?_
              refine wpOpRun' (v := .slice (some ⟨W4.heap.size, 0, none⟩) mz mz) (w' := (W4.alloc (.cells (madeCells #[.int .i64 0] mz) 3))) (some 85) rfl rfl rfl (by go_simp <;> rfl) ?_
              have hZ : RdI (W4.alloc (.cells (madeCells #[.int .i64 0] mz) 3)) (.slice (some ⟨W4.heap.size, 0, none⟩) mz mz) (List.replicate mz 0) := by
                have := Rd_block (Boxs.new W4 3 (madeCells #[.int .i64 0] mz)) (n := mz) (by have e := congrArg List.length (ints_rep mz); rw [Array.length_toList, ints_len, List.length_replicate] at e; exact e) (by have := HML.out; omega)
                rwa [ints_rep] at this
              have hb := alloc_below W4 (.cells (madeCells #[.int .i64 0] mz) 3)
              have hM := hM.below hb
              have hT := hT.below hb
              have hbl := hbl.trans (hb.mono hbl.size)
              clear hb MZ
              refine ⟨.inl (trivial), ?_⟩
              try simp only [pa, pl]
              refine wpAnyEOne 19 (by kernel_rfl) ?_
              refine wpOpRun' (v := .slice (some ⟨(W4.alloc (.cells (madeCells #[.int .i64 0] mz) 3)).heap.size, 0, none⟩) 6 6) (w' := ((W4.alloc (.cells (madeCells #[.int .i64 0] mz) 3)).alloc (.cells #[.slice ca L.length cc, .slice ba L.length bc, .slice a3 (L ++ [by_]).length k3, .slice ca nh cc, .slice a4 (ns.take 30).length k4, .slice (some ⟨W4.heap.size, 0, none⟩) mz mz] 22))) (some 86) rfl rfl rfl (by go_simp <;> rfl) ?_
              have hb := alloc_below (W4.alloc (.cells (madeCells #[.int .i64 0] mz) 3)) (.cells #[.slice ca L.length cc, .slice ba L.length bc, .slice a3 (L ++ [by_]).length k3, .slice ca nh cc, .slice a4 (ns.take 30).length k4, .slice (some ⟨W4.heap.size, 0, none⟩) mz mz] 22)
              have hS : Rd ((W4.alloc (.cells (madeCells #[.int .i64 0] mz) 3)).alloc (.cells #[.slice ca L.length cc, .slice ba L.length bc, .slice a3 (L ++ [by_]).length k3, .slice ca nh cc, .slice a4 (ns.take 30).length k4, .slice (some ⟨W4.heap.size, 0, none⟩) mz mz] 22)) (.slice (some ⟨(W4.alloc (.cells (madeCells #[.int .i64 0] mz) 3)).heap.size, 0, none⟩) 6 6) [.slice ca L.length cc, .slice ba L.length bc, .slice a3 (L ++ [by_]).length k3, .slice ca nh cc, .slice a4 (ns.take 30).length k4, .slice (some ⟨W4.heap.size, 0, none⟩) mz mz] := Rd_fresh (W4.alloc (.cells (madeCells #[.int .i64 0] mz) 3)) 22 #[.slice ca L.length cc, .slice ba L.length bc, .slice a3 (L ++ [by_]).length k3, .slice ca nh cc, .slice a4 (ns.take 30).length k4, .slice (some ⟨W4.heap.size, 0, none⟩) mz mz] 6 rfl (by omega)
              have hM := hM.below hb
              have hT := hT.below hb
              have hZ := hZ.below hb
              have hbl := hbl.trans (hb.mono hbl.size)
              clear hb
              refine ⟨.inl (trivial), ?_⟩
              try simp only [pa, pl]
              refine wpAnyEOne 20 (by kernel_rfl) ?_
              refine wpOpRun' (v := .slice (some ⟨(W4.alloc (.cells (madeCells #[.int .i64 0] mz) 3)).heap.size, 0, none⟩) 6 6) (w' := ((W4.alloc (.cells (madeCells #[.int .i64 0] mz) 3)).alloc (.cells #[.slice ca L.length cc, .slice ba L.length bc, .slice a3 (L ++ [by_]).length k3, .slice ca nh cc, .slice a4 (ns.take 30).length k4, .slice (some ⟨W4.heap.size, 0, none⟩) mz mz] 22))) (some 16) rfl rfl rfl (by rfl) ?_
              refine ⟨.inr (allUp_of (by kernel_rfl)), ?_⟩
              try simp only [pa, pl]
              refine wpAnyE_done (by kernel_rfl) ?_ _
              go_wp2_with fail
              go_meet
              exact ⟨_, _, _, rfl, CodesIn.six hS (HC9.out.below hbl) (HO9.out.below hbl) hM ((HC9.out.below hbl).take HNL.out) hT hZ HE0.out HE1.out HE2.out HE3.out (.short (by rw [List.length_take]; omega)) (.zero _ HML.out), hbl⟩
          · refine wpOpRun' (v := .slice (some ⟨(u9.drewN 1).heap.size, 0, none⟩) 1 1) (w' := ((u9.drewN 1).alloc (.cells #[.int .i64 by_] 3))) (some 73) rfl rfl rfl (by go_simp <;> rfl) ?_
            have hB := owns_block (base := u9.heap.size) (Boxs.new (u9.drewN 1) 3 #[.int .i64 by_]) hbl.size (xs := ints [by_]) rfl (n := 1) (size := 1) rfl (by omega)
            have hbl := hbl.alloc hbl.size (.cells #[.int .i64 by_] 3)
            refine ⟨.inl (trivial), ?_⟩
            try simp only [pa, pl]
            refine wpAnyEOne 2 (by kernel_rfl) ?_
            refine wpOpRun' (v := .slice (some ⟨((u9.drewN 1).alloc (.cells #[.int .i64 by_] 3)).heap.size, 0, none⟩) 0 0) (w' := (((u9.drewN 1).alloc (.cells #[.int .i64 by_] 3)).alloc (.cells #[] 3))) (some 69) rfl rfl rfl (by go_simp <;> rfl) ?_
            have hA := owns_block (base := u9.heap.size) (Boxs.new ((u9.drewN 1).alloc (.cells #[.int .i64 by_] 3)) 3 #[]) hbl.size (xs := []) rfl (n := 0) (size := 1) rfl (by omega)
            have hB := owns_below hB (alloc_below ((u9.drewN 1).alloc (.cells #[.int .i64 by_] 3)) (.cells #[] 3))
            have hbl := hbl.alloc hbl.size (.cells #[] 3)
            refine ⟨.inl (trivial), ?_⟩
            try simp only [pa, pl]
            refine wpAnyEOne 4 (by kernel_rfl) ?_
            refine wpOpAppI 4 (some 71) rfl rfl rfl (.tmp 69) (.tmp 70) rfl (.slice (some ⟨((u9.drewN 1).alloc (.cells #[.int .i64 by_] 3)).heap.size, 0, none⟩) 0 0) ([]) rfl (hA) (.slice ca L.length cc) (L) rfl (RdI.below HC9.out hbl) (by have := HLL.out; simp; omega) (hbl.size) fun v2 W2 happ => ?_
            rw [List.nil_append] at happ
            obtain ⟨a2, k2, rfl⟩ := happ.form
            have hB := owns_grown hB happ.2.1 (fun b h1 h2 => by
              have h1 : (u9.drewN 1).heap.size = b := Option.some.inj h1
              have h2 : ((u9.drewN 1).alloc (.cells #[.int .i64 by_] 3)).heap.size = b := Option.some.inj h2
              simp only [World.size_alloc] at h1 h2
              omega)
            have hbl1 := happ.below hbl hA (Nat.le_refl _) hbl.size
            have hA := happ.1
            clear happ hbl
            have hbl := hbl1
            clear hbl1
            refine ⟨.inl (trivial), ?_⟩
            try simp only [pa, pl]
            refine wpAnyEOne 7 (by kernel_rfl) ?_
            refine wpOpAppI 7 (some 74) rfl rfl rfl (.tmp 71) (.tmp 73) rfl (.slice a2 L.length k2) (L) rfl (hA) (.slice (some ⟨(u9.drewN 1).heap.size, 0, none⟩) 1 1) ([by_]) rfl (owns_ints hB) (by have := HLL.out; simp; omega) (hbl.size) fun v3 W3 happ => ?_
            obtain ⟨a3, k3, rfl⟩ := happ.form
            have hbl1 := happ.below hbl hA (Nat.le_refl _) hbl.size
            have hM := owns_ints happ.1
            clear happ hbl hA hB
            have hbl := hbl1
            clear hbl1
            have TK := take_any _ ns 30 (by omega) W3 (HN9.out.below hbl)
            rw [show ((30 : Nat) : Int) = 30 from rfl] at TK
            refine ⟨.inl (trivial), ?_⟩
            try simp only [pa, pl]
            refine wpAnyEOne 14 (by kernel_rfl) ?_
            refine wpOpCall (some 81) 32 #[.slice an ns.length cn, .int .i64 30] rfl rfl rfl (by go_simp) (TK) ?_
            rintro e W4 ⟨⟨v4, rfl, hown⟩, hb⟩
            obtain ⟨a4, k4, rfl⟩ := owns_form hown
            have hT := owns_ints hown
            have hM := hM.below hb
            have hbl := hbl.trans (hb.mono hbl.size)
            have A3 := around_any by_ 12 W4 hb1 hb2 (by omega) (by omega)
            rw [HQ12.out] at A3
            clear hown hb TK
            refine ⟨_, rfl, ?_⟩
            refine ⟨.inl (trivial), ?_⟩
            try simp only [pa, pl]
            refine wpAnyEOne 16 (by kernel_rfl) ?_
            refine wpOpCall (some 83) 22 #[.int .i64 by_, .int .i64 12] rfl rfl rfl (by go_simp) (A3) ?_
            rintro e W5 ⟨rfl, rfl⟩
            refine ⟨_, rfl, ?_⟩
            refine ⟨.inl (trivial), ?_⟩
            try simp only [pa, pl]
            refine tk 17 84 rfl rfl (.int .i64 (mz : Int)) (fun _ _ => by go_simp <;> rw [HMZ.out]) trivial ?_
            try simp only [pa, pl]
            have MZ := makeZ5 mz HML.out W4
            refine wpAnyEOne 18 (by kernel_rfl) ?_
            refine wpOpRun' (v := .slice (some ⟨W4.heap.size, 0, none⟩) mz mz) (w' := (W4.alloc (.cells (madeCells #[.int .i64 0] mz) 3))) (some 85) rfl rfl rfl (by go_simp <;> rfl) ?_
            have hZ : RdI (W4.alloc (.cells (madeCells #[.int .i64 0] mz) 3)) (.slice (some ⟨W4.heap.size, 0, none⟩) mz mz) (List.replicate mz 0) := by
              have := Rd_block (Boxs.new W4 3 (madeCells #[.int .i64 0] mz)) (n := mz) (by have e := congrArg List.length (ints_rep mz); rw [Array.length_toList, ints_len, List.length_replicate] at e; exact e) (by have := HML.out; omega)
              rwa [ints_rep] at this
            have hb := alloc_below W4 (.cells (madeCells #[.int .i64 0] mz) 3)
            have hM := hM.below hb
            have hT := hT.below hb
            have hbl := hbl.trans (hb.mono hbl.size)
            clear hb MZ
            refine ⟨.inl (trivial), ?_⟩
            try simp only [pa, pl]
            refine wpAnyEOne 19 (by kernel_rfl) ?_
            refine wpOpRun' (v := .slice (some ⟨(W4.alloc (.cells (madeCells #[.int .i64 0] mz) 3)).heap.size, 0, none⟩) 6 6) (w' := ((W4.alloc (.cells (madeCells #[.int .i64 0] mz) 3)).alloc (.cells #[.slice ca L.length cc, .slice ba L.length bc, .slice a3 (L ++ [by_]).length k3, .slice ca nh cc, .slice a4 (ns.take 30).length k4, .slice (some ⟨W4.heap.size, 0, none⟩) mz mz] 22))) (some 86) rfl rfl rfl (by go_simp <;> rfl) ?_
            have hb := alloc_below (W4.alloc (.cells (madeCells #[.int .i64 0] mz) 3)) (.cells #[.slice ca L.length cc, .slice ba L.length bc, .slice a3 (L ++ [by_]).length k3, .slice ca nh cc, .slice a4 (ns.take 30).length k4, .slice (some ⟨W4.heap.size, 0, none⟩) mz mz] 22)
            have hS : Rd ((W4.alloc (.cells (madeCells #[.int .i64 0] mz) 3)).alloc (.cells #[.slice ca L.length cc, .slice ba L.length bc, .slice a3 (L ++ [by_]).length k3, .slice ca nh cc, .slice a4 (ns.take 30).length k4, .slice (some ⟨W4.heap.size, 0, none⟩) mz mz] 22)) (.slice (some ⟨(W4.alloc (.cells (madeCells #[.int .i64 0] mz) 3)).heap.size, 0, none⟩) 6 6) [.slice ca L.length cc, .slice ba L.length bc, .slice a3 (L ++ [by_]).length k3, .slice ca nh cc, .slice a4 (ns.take 30).length k4, .slice (some ⟨W4.heap.size, 0, none⟩) mz mz] := Rd_fresh (W4.alloc (.cells (madeCells #[.int .i64 0] mz) 3)) 22 #[.slice ca L.length cc, .slice ba L.length bc, .slice a3 (L ++ [by_]).length k3, .slice ca nh cc, .slice a4 (ns.take 30).length k4, .slice (some ⟨W4.heap.size, 0, none⟩) mz mz] 6 rfl (by omega)
            have hM := hM.below hb
            have hT := hT.below hb
            have hZ := hZ.below hb
            have hbl := hbl.trans (hb.mono hbl.size)
            clear hb
            refine ⟨.inl (trivial), ?_⟩
            try simp only [pa, pl]
            refine wpAnyEOne 20 (by kernel_rfl) ?_
            refine wpOpRun' (v := .slice (some ⟨(W4.alloc (.cells (madeCells #[.int .i64 0] mz) 3)).heap.size, 0, none⟩) 6 6) (w' := ((W4.alloc (.cells (madeCells #[.int .i64 0] mz) 3)).alloc (.cells #[.slice ca L.length cc, .slice ba L.length bc, .slice a3 (L ++ [by_]).length k3, .slice ca nh cc, .slice a4 (ns.take 30).length k4, .slice (some ⟨W4.heap.size, 0, none⟩) mz mz] 22))) (some 16) rfl rfl rfl (by rfl) ?_
            refine ⟨.inr (allUp_of (by kernel_rfl)), ?_⟩
            try simp only [pa, pl]
            refine wpAnyE_done (by kernel_rfl) ?_ _
            go_wp2_with fail
            go_meet
            exact ⟨_, _, _, rfl, CodesIn.six hS (HC9.out.below hbl) (HO9.out.below hbl) hM ((HC9.out.below hbl).take HNL.out) hT hZ HE0.out HE1.out HE2.out HE3.out (.short (by rw [List.length_take]; omega)) (.zero _ HML.out), hbl⟩
        case rest =>
          rename World => u10
          obtain ⟨B6, us6, Ls, rfl, hci, hb⟩ := hcut
          have HCI := Lib.hid hci
          have HC10 := Lib.hid (HC9.out.below hb)
          have HT10 := Lib.hid (HT9.out.below hb)
          have HBW := Lib.hid (HBW.out.trans (hb.mono HBW.out.size))
          clear hci hb HC9 HT9 HN9 HO9 HNH HNL HNB HQ12 HMZ HML HE0 HE1 HE2 HE3
          go_wp2_with fail
          go_loopw [17] (fun kv wx => ∃ k : Nat, k ≤ 6 ∧ kv = .int .i64 k ∧ Below u10.heap.size u10 wx) (fun kv _ => 6 - (intOf kv).toNat)
          case atStart => exact ⟨0, by omega, rfl, Below.refl _ _⟩
          case round =>
            rename World => wx
            obtain ⟨k, hk, rfl, hbx⟩ := hrel
            have hk0 : (0 : Int) ≤ (k : Int) := Int.natCast_nonneg _
            have HBX := Lib.hid hbx
            clear hbx
            by_cases hlt6 : k < 6
            · have hk1 : (k : Int) < 6 := by omega
              have HK6 := Lib.hid hlt6
              clear hlt6
              obtain ⟨aL, cL, Lk, z1, z2, hrd, hdl⟩ := (HCI.out.below HBX.out).at HK6.out
              have HDL := Lib.hid hdl
              have HR := Lib.hid hrd
              have DC := decode_any _ Lk wx hrd hdl.len
              unfold DecodeOut at DC
              obtain ⟨e9, he9⟩ : ∃ e, decE Lk = e := ⟨_, rfl⟩
              have HE9 := Lib.hid he9
              rw [he9] at DC
              clear hrd hdl he9
              by_cases he0 : e9 = 0
              · subst he0
                go_wp2_with fail
                with_reducible refine DC.mono ?_
                rintro e y1 ⟨⟨p1, rfl, ht1⟩, hb⟩
                have hrd1 := HR.out.below hb
                have RC := rdecode_any _ Lk y1 hrd1 HDL.out.len
                unfold DecodeOut at RC
                rw [HE9.out] at RC
                have x1 := (hb.cell (p := ⟨B6, k, none⟩) z2).trans z1
                have x2 := Nat.lt_of_lt_of_le z2 hb.size
                have HY1 := Lib.hid hb
                have HT1 := Lib.hid ht1
                clear DC z1 z2 hb ht1 hrd1
                go_wp2_with fail
                with_reducible refine RC.mono ?_
                rintro e y2 ⟨⟨p2, rfl, ht2⟩, hb⟩
                have HT1 := Lib.hid (HT1.out.under hb)
                have HT2 := Lib.hid ht2
                have KC2 := Lib.hid ((hb.cell (p := ⟨B6, k, none⟩) x2).trans x1)
                have KB2 := Lib.hid (Nat.lt_of_lt_of_le x2 hb.size)
                have HY2 := Lib.hid (HY1.out.trans (hb.mono HY1.out.size))
                have KR2 := Lib.hid (HR.out.below HY2.out)
                clear RC x1 x2 ht2 hb HY1
                have HZ := Lib.hid (dec_zero HE9.out)
                have HEN := Lib.hid (HDL.out.enc HE9.out)
                go_wp2_with fail
                refine wp_region_E (fun W => W.cell? ⟨B6, k, none⟩ = some (.slice aL Lk.length cL)) (by kernel_rfl) ?_
                have hdr : (y2).drew = { y2 with drawn := (y2).drawn + 1 } := rfl
                rw [← hdr]
                clear hdr
                change wpAnyE _ _ _ _ _ _ _ _ ((y2).drewN 1)
                have SA := same_any HT1.out HT2.out HDL.out.sm HDL.out.dep (y2.drewN 1) (Below.dn (Below.refl y2.heap.size y2) 1)
                refine tm 0 109 rfl rfl (.int .i64 0) KC2.out ?_
                try simp only [pa, pl]
                refine tm 1 110 rfl rfl (.int .i64 0) KC2.out ?_
                try simp only [pa, pl]
                refine tg 2 111 rfl rfl (.bool false) KC2.out ?_
                try simp only [pa, pl]
                refine tm 3 112 rfl rfl (.bool false) KC2.out ?_
                try simp only [pa, pl]
                refine tm 4 113 rfl rfl (.pointer p1) KC2.out ?_
                try simp only [pa, pl]
                refine tm 5 114 rfl rfl (.pointer p2) KC2.out ?_
                try simp only [pa, pl]
                refine wpAnyEOne 6 (by kernel_rfl) ?_
                refine wpOpCall (some 115) 25 #[.pointer p1, .pointer p2] rfl rfl rfl (by go_simp) (SA) ?_
                rintro e y3 ⟨rfl, hb⟩
                have hbl := (Below.dn (Below.refl y2.heap.size y2) 1).trans hb
                clear hb SA
                have KC2 := Lib.hid ((hbl.cell (p := ⟨B6, k, none⟩) KB2.out).trans KC2.out)
                have EN := encode_any HT1.out (by rw [HZ.out]; have := HDL.out.len; omega) y3 hbl
                unfold OwnI at EN
                rw [HEN.out] at EN
                refine ⟨_, rfl, ?_⟩
                refine ⟨.inl (KC2.out), ?_⟩
                try simp only [pa, pl]
                refine tg 7 116 rfl rfl (.bool false) KC2.out ?_
                try simp only [pa, pl]
                refine tg 8 117 rfl rfl (.bool false) KC2.out ?_
                try simp only [pa, pl]
                refine tm 9 118 rfl rfl (.bool false) KC2.out ?_
                try simp only [pa, pl]
                refine tm 10 119 rfl rfl (.int .i64 0) KC2.out ?_
                try simp only [pa, pl]
                refine tg 11 120 rfl rfl (.bool true) KC2.out ?_
                try simp only [pa, pl]
                refine tm 12 121 rfl rfl (.bool true) KC2.out ?_
                try simp only [pa, pl]
                refine tm 13 122 rfl rfl (.pointer p1) KC2.out ?_
                try simp only [pa, pl]
                refine tm 15 124 rfl rfl (.slice (some ⟨B6, 0, none⟩) 6 6) KC2.out ?_
                try simp only [pa, pl]
                refine tm 16 125 rfl rfl (.int .i64 (k : Int)) KC2.out ?_
                try simp only [pa, pl]
                refine tg 17 126 rfl rfl (.pointer (some ⟨B6, k, none⟩)) KC2.out ?_
                try simp only [pa, pl]
                refine tk 18 127 rfl rfl (.slice aL Lk.length cL) (fun W hW => by go_simp) KC2.out ?_
                try simp only [pa, pl]
                refine wpAnyEOne 14 (by kernel_rfl) ?_
                refine wpOpCall (some 123) 38 #[.pointer p1] rfl rfl rfl (by go_simp) (EN) ?_
                rintro e y4 ⟨⟨v4, rfl, hown⟩, hb⟩
                obtain ⟨a4, c4, rfl⟩ := owns_form hown
                have KR2 := Lib.hid (RdI.below KR2.out (hbl.trans (hb.mono hbl.size)))
                have KC2 := Lib.hid ((hb.cell (p := ⟨B6, k, none⟩) (Nat.lt_of_lt_of_le KB2.out hbl.size)).trans KC2.out)
                have SI := sameInts_any _ _ Lk Lk y4 (owns_ints hown) KR2.out
                rw [decide_eq_true rfl] at SI
                have hbl := hbl.trans (hb.mono hbl.size)
                clear hb hown EN
                refine ⟨_, rfl, ?_⟩
                refine ⟨.inl (KC2.out), ?_⟩
                try simp only [pa, pl]
                refine wpAnyEOne 19 (by kernel_rfl) ?_
                refine wpOpCall (some 128) 20 #[.slice a4 Lk.length c4, .slice aL Lk.length cL] rfl rfl rfl (by go_simp) (SI) ?_
                rintro e y5 ⟨rfl, hb⟩
                have KC2 := Lib.hid ((hb.cell (p := ⟨B6, k, none⟩) (Nat.lt_of_lt_of_le KB2.out hbl.size)).trans KC2.out)
                have hbl := hbl.trans (hb.mono hbl.size)
                clear hb SI
                refine ⟨_, rfl, ?_⟩
                refine ⟨.inl (KC2.out), ?_⟩
                try simp only [pa, pl]
                refine tg 20 129 rfl rfl (.bool false) KC2.out ?_
                try simp only [pa, pl]
                refine tg 21 130 rfl rfl (.bool false) KC2.out ?_
                try simp only [pa, pl]
                refine wpAnyEOne 22 (by kernel_rfl) ?_
                refine wpOpRun' (v := .bool false) (w' := y5) (some 131) rfl rfl rfl (by go_simp <;> rfl) ?_
                refine ⟨.inr (allUp_of (by kernel_rfl)), ?_⟩
                try simp only [pa, pl]
                refine wpAnyE_done (by kernel_rfl) ?_ _
                go_wp2_with fail
                go_roundw
                case rel => exact ⟨k + 1, by have := HK6.out; omega, by go_num, HBX.out.trans ((HY2.out.trans (hbl.mono HY2.out.size)).mono HBX.out.size)⟩
                case measure => have := HK6.out; simp [intOf]; omega
              · have HE0 := Lib.hid he0
                clear he0
                go_wp2_with fail
                with_reducible refine DC.mono ?_
                rintro e y1 ⟨⟨p1, rfl, ht1⟩, hb⟩
                have hrd1 := HR.out.below hb
                have RC := rdecode_any _ Lk y1 hrd1 HDL.out.len
                unfold DecodeOut at RC
                rw [HE9.out] at RC
                have x1 := (hb.cell (p := ⟨B6, k, none⟩) z2).trans z1
                have x2 := Nat.lt_of_lt_of_le z2 hb.size
                have HY1 := Lib.hid hb
                have HT1 := Lib.hid ht1
                clear DC z1 z2 hb ht1 hrd1
                go_wp2_with fail
                with_reducible refine RC.mono ?_
                rintro e y2 ⟨⟨p2, rfl, ht2⟩, hb⟩
                have HT1 := Lib.hid (HT1.out.under hb)
                have HT2 := Lib.hid ht2
                have KC2 := Lib.hid ((hb.cell (p := ⟨B6, k, none⟩) x2).trans x1)
                have KB2 := Lib.hid (Nat.lt_of_lt_of_le x2 hb.size)
                have HY2 := Lib.hid (HY1.out.trans (hb.mono HY1.out.size))
                have KR2 := Lib.hid (HR.out.below HY2.out)
                clear RC x1 x2 ht2 hb HY1
                go_wp2_with fail
                refine wp_region_E (fun _ => True) (by kernel_rfl) ?_
                have hdr : (y2).drew = { y2 with drawn := (y2).drawn + 1 } := rfl
                rw [← hdr]
                clear hdr
                change wpAnyE _ _ _ _ _ _ _ _ ((y2).drewN 1)
                have SA := same_any HT1.out HT2.out HDL.out.sm HDL.out.dep (y2.drewN 1) (Below.dn (Below.refl y2.heap.size y2) 1)
                refine tm 0 109 rfl rfl (.int .i64 e9) trivial ?_
                try simp only [pa, pl]
                refine tm 1 110 rfl rfl (.int .i64 e9) trivial ?_
                try simp only [pa, pl]
                refine tk 2 111 rfl rfl (.bool false) (fun _ _ => by go_simp <;> simp) trivial ?_
                try simp only [pa, pl]
                refine tm 3 112 rfl rfl (.bool false) trivial ?_
                try simp only [pa, pl]
                refine tm 4 113 rfl rfl (.pointer p1) trivial ?_
                try simp only [pa, pl]
                refine tm 5 114 rfl rfl (.pointer p2) trivial ?_
                try simp only [pa, pl]
                refine wpAnyEOne 6 (by kernel_rfl) ?_
                refine wpOpCall (some 115) 25 #[.pointer p1, .pointer p2] rfl rfl rfl (by go_simp) (SA) ?_
                rintro e y3 ⟨rfl, hb⟩
                have hbl := (Below.dn (Below.refl y2.heap.size y2) 1).trans hb
                clear hb SA
                refine ⟨_, rfl, ?_⟩
                refine ⟨.inl (trivial), ?_⟩
                try simp only [pa, pl]
                refine tg 7 116 rfl rfl (.bool false) trivial ?_
                try simp only [pa, pl]
                refine tg 8 117 rfl rfl (.bool false) trivial ?_
                try simp only [pa, pl]
                refine tm 9 118 rfl rfl (.bool false) trivial ?_
                try simp only [pa, pl]
                refine tm 10 119 rfl rfl (.int .i64 e9) trivial ?_
                try simp only [pa, pl]
                refine tk 11 120 rfl rfl (.bool false) (fun _ _ => by go_simp <;> simp [HE0.out]) trivial ?_
                try simp only [pa, pl]
                refine tm 12 121 rfl rfl (.bool false) trivial ?_
                try simp only [pa, pl]
                refine ps 13 122 rfl rfl trivial ?_
                try simp only [pa, pl]
                refine ps 14 123 rfl rfl trivial ?_
                try simp only [pa, pl]
                refine ps 15 124 rfl rfl trivial ?_
                try simp only [pa, pl]
                refine ps 16 125 rfl rfl trivial ?_
                try simp only [pa, pl]
                refine ps 17 126 rfl rfl trivial ?_
                try simp only [pa, pl]
                refine ps 18 127 rfl rfl trivial ?_
                try simp only [pa, pl]
                refine ps 19 128 rfl rfl trivial ?_
                try simp only [pa, pl]
                refine ps 20 129 rfl rfl trivial ?_
                try simp only [pa, pl]
                refine tg 21 130 rfl rfl (.bool false) trivial ?_
                try simp only [pa, pl]
                refine wpAnyEOne 22 (by kernel_rfl) ?_
                refine wpOpRun' (v := .bool false) (w' := y3) (some 131) rfl rfl rfl (by go_simp <;> rfl) ?_
                refine ⟨.inr (allUp_of (by kernel_rfl)), ?_⟩
                try simp only [pa, pl]
                refine wpAnyE_done (by kernel_rfl) ?_ _
                go_wp2_with fail
                go_roundw
                case rel => exact ⟨k + 1, by have := HK6.out; omega, by go_num, HBX.out.trans ((HY2.out.trans (hbl.mono HY2.out.size)).mono HBX.out.size)⟩
                case measure => have := HK6.out; simp [intOf]; omega
            · have hk1 : ¬ (k : Int) < 6 := by omega
              have HC11 := Lib.hid (HC10.out.below HBX.out)
              have HT11 := Lib.hid (HT10.out.below HBX.out)
              have HBW := Lib.hid (HBW.out.trans (HBX.out.mono HBW.out.size))
              have DC := decode_any _ L wx HC11.out (by have := HLL.out; omega)
              unfold DecodeOut at DC
              obtain ⟨e9, he9⟩ : ∃ e, decE L = e := ⟨_, rfl⟩
              have HE9 := Lib.hid he9
              rw [he9] at DC
              clear he9
              go_wp2_with fail
              with_reducible refine DC.mono ?_
              rintro e y1 ⟨⟨p1, rfl, ht1⟩, hb⟩
              have HT1 := Lib.hid (HT11.out.below hb)
              have HBY := Lib.hid (HBW.out.trans (hb.mono HBW.out.size))
              have KC2 := Lib.hid HT1.out.cu
              cases his : isT t with
              | true =>
                have HIS := Lib.hid his
                have hdc := dec_code his HDP.out
                rw [HL.out] at hdc
                have hx1 := ht1
                rw [hdc.1] at hx1
                have HX1 := Lib.hid hx1
                obtain rfl : e9 = 0 := by rw [← HE9.out]; exact hdc.2
                clear his hdc hx1 ht1 hb DC HE9
                have z1 := HT1.out.cu; have z2 := HT1.out.lt
                have IS := ris_any HT1.out.tr y1 (Below.refl y1.heap.size y1)
                rw [HIS.out] at IS
                clear KC2
                go_wp2_with fail
                with_reducible refine IS.mono ?_
                rintro e y2 ⟨rfl, hbl⟩
                have z3 := (hbl.cell (p := ⟨B, i, none⟩) z2).trans z1
                have z4 := Nat.lt_of_lt_of_le z2 hbl.size
                have SA := same_any HX1.out HT1.out.tr HSK.out (by have := HD9.out; omega) y2 hbl
                have HBL := Lib.hid hbl
                clear z1 z2 hbl IS
                go_wp2_with fail
                with_reducible refine SA.mono ?_
                rintro e y3 ⟨rfl, hb⟩
                have hbl := HBL.out.trans (hb.mono HBL.out.size)
                clear z3 z4 hb SA HBL
                have HBL := Lib.hid hbl
                clear hbl
                go_wp2_with fail
                go_roundw
                case rel => exact ⟨i + 1, by have := HI6.out; omega, by go_num, HBR.out.trans ((HBY.out.trans (HBL.out.mono HBY.out.size)).mono HBR.out.size)⟩
                case measure => have := HI6.out; simp [intOf]; omega
              | false =>
                have HIS := Lib.hid his
                clear his ht1 hb DC HE9
                have z1 := HT1.out.cu; have z2 := HT1.out.lt
                have IS := ris_any HT1.out.tr y1 (Below.refl y1.heap.size y1)
                rw [HIS.out] at IS
                clear KC2
                go_wp2_with fail
                with_reducible refine IS.mono ?_
                rintro e y2 ⟨rfl, hbl⟩
                clear z1 z2 IS
                have HBL := Lib.hid hbl
                clear hbl
                go_wp2_with fail
                go_roundw
                case rel => exact ⟨i + 1, by have := HI6.out; omega, by go_num, HBR.out.trans ((HBY.out.trans (HBL.out.mono HBY.out.size)).mono HBR.out.size)⟩
                case measure => have := HI6.out; simp [intOf]; omega
    · have hi1 : ¬ (i : Int) < 6 := by omega
      rename World => wz
      have LV := lives_any wz
      go_wp2_with fail
      with_reducible refine LV.mono ?_
      rintro e w8 ⟨rfl, hb⟩
      have HBB := Lib.hid (HB.out.trans ((HBR.out.trans (hb.mono HBR.out.size)).mono HB.out.size))
      clear hb LV
      go_wp2_with fail
      go_ret
      exact ⟨rfl, HBB.out⟩
end Go.Proofs.Ytmkkegigajmhkaa

