/- Spoilt: a table with one thing changed (case 7). Spoilt: a table with one thing changed. -/
import Derived.Test.YtmkkegigajmhkaaN15
import Derived.Test.YtmkkegigajmhkaaN07
import Derived.Lib.MinMax
import Derived.Test.YtmkkegigajmhkaaN16
set_option linter.unusedVariables false
namespace Go.Proofs.Ytmkkegigajmhkaa
open Go.RowKit Go.Maps

set_option maxRecDepth 100000 in
set_option maxHeartbeats 16000000 in
theorem spoil7_any (va vc vk : Value) (T : Tb) (how by_ : Int) (w : World) (h : TbR w va vc vk T) (hs : SmT T) (hb1 : -9223372036854775808 ≤ by_) (hb2 : by_ ≤ 9223372036854775807) (hh1 : -9223372036854775808 ≤ how) (hh2 : how ≤ 9223372036854775807) (hc : around how 10 = 7) :
    Calls Try.prog 11 #[.agg #[va, vc, vk], .int .i64 how, .int .i64 by_] w fun e w' => CopyOut w.heap.size (spoilC T by_ (spI T by_) (spK T by_) 7) e w' ∧ Below w.heap.size w w' := by
  obtain ⟨aa, ca, rfl⟩ := h.rows.form
  obtain ⟨ac, cc, rfl⟩ := h.costs.form
  obtain ⟨ak, ck, rfl⟩ := h.cls.form
  have HBX := Lib.hid ((alloc_below w (.cells #[.slice aa T.rows.length ca, .slice ac T.costs.length cc, .slice ak T.cls.length ck] 25)).alloc (by rw [World.size_alloc]; omega) (.cells #[.slice none 0 0, .slice none 0 0, .slice none 0 0] 25))
  have HTB := h.below HBX.out
  have HT2 := Lib.hid (show Boxs ((w.alloc (.cells #[.slice aa T.rows.length ca, .slice ac T.costs.length cc, .slice ak T.cls.length ck] 25)).alloc (.cells #[.slice none 0 0, .slice none 0 0, .slice none 0 0] 25)) (w.heap.size + 1) 25 #[.slice none 0 0, .slice none 0 0, .slice none 0 0] from by have := Boxs.new (w.alloc (.cells #[.slice aa T.rows.length ca, .slice ac T.costs.length cc, .slice ak T.cls.length ck] 25)) 25 #[.slice none 0 0, .slice none 0 0, .slice none 0 0]; rwa [World.size_alloc] at this)
  have CP := copy_any (.slice aa T.rows.length ca) (.slice ac T.costs.length cc) (.slice ak T.cls.length ck) T ((w.alloc (.cells #[.slice aa T.rows.length ca, .slice ac T.costs.length cc, .slice ak T.cls.length ck] 25)).alloc (.cells #[.slice none 0 0, .slice none 0 0, .slice none 0 0] 25)) HTB ⟨hs.r, hs.c, hs.k, hs.e⟩
  have HS := Lib.hid hs
  have hr1000 := hs.r; have hc1000 := hs.c; have hk1000 := hs.k; have hrk := hs.rk
  obtain ⟨hi1, hi2, hi3⟩ := spI_bd T by_
  obtain ⟨hk1, hk2, hk3⟩ := spK_bd T by_
  obtain ⟨i, hi⟩ : ∃ i, spI T by_ = i := ⟨_, rfl⟩
  obtain ⟨k, hk⟩ : ∃ k, spK T by_ = k := ⟨_, rfl⟩
  rw [hi] at hi1 hi2 hi3 ⊢
  rw [hk] at hk1 hk2 hk3 ⊢
  have HI1 := Lib.hid hi1; have HK1 := Lib.hid hk1; have HI2 := Lib.hid hi2; have HK2 := Lib.hid hk2; have HI3 := Lib.hid hi3; have HK3 := Lib.hid hk3; have HC := Lib.hid hc
  have ht8 := tdiv8 by_ hb1 hb2
  have HT8 := Lib.hid ht8
  clear h HTB hs hi hk hi1 hk1 hi2 hk2 hi3 hk3 hc ht8
  go_enter Try.func11, Try.ntmps11
  go_wp2_with fail
  obtain ⟨B2, hB2⟩ : ∃ B, w.heap.size + 1 = B := ⟨_, rfl⟩
  have hwB2 : w.heap.size ≤ B2 := by omega
  rw [hB2] at HT2 ⊢
  generalize (w.alloc (.cells #[.slice aa T.rows.length ca, .slice ac T.costs.length cc, .slice ak T.cls.length ck] 25)).alloc (.cells #[.slice none 0 0, .slice none 0 0, .slice none 0 0] 25) = w1 at *
  refine CP.mono ?_
  rintro e w2 ⟨⟨ua, uc, uk, us, rfl, hown⟩, hb9⟩
  have hs1 : w.heap.size ≤ w1.heap.size := HBX.out.size
  have HOT := Lib.hid (hown.le hs1)
  have HB2 := Lib.hid (HBX.out.trans (hb9.mono hs1))
  have HT2 := Lib.hid (Boxs.below HT2.out hb9)
  obtain ⟨aa1, ca1, rfl⟩ := owns_form hown.out
  obtain ⟨ac1, cc1, rfl⟩ := owns_form (hown.rs.inn 0 _ _ rfl rfl)
  obtain ⟨ak1, ck1, rfl⟩ := owns_form (hown.rs.inn 1 _ _ rfl rfl)
  clear hown hb9 CP HBX hs1
  obtain ⟨b, hb⟩ : ∃ b, w2.heap.size = b := ⟨_, rfl⟩
  have hs2 : w.heap.size ≤ w2.heap.size := HB2.out.size
  have hltB2 := HT2.out.lt
  have HM := Lib.hid (MT.of (HOT.out.below (alloc_below w2 (.cells #[.slice aa1 T.rows.length ca1, .slice ac1 T.costs.length cc1, .slice ak1 T.cls.length ck1] 25))) (Nat.le_refl _) (HB2.out.alloc hs2 (.cells #[.slice aa1 T.rows.length ca1, .slice ac1 T.costs.length cc1, .slice ak1 T.cls.length ck1] 25)) hs2 hwB2 (Nat.ne_of_gt hltB2) (Boxs.new w2 25 #[.slice aa1 T.rows.length ca1, .slice ac1 T.costs.length cc1, .slice ak1 T.cls.length ck1]) (Boxs.below HT2.out (alloc_below w2 _)))
  rw [hb] at HM
  clear HB2 HT2 HOT hltB2 hs2 hB2
  have z0 := HM.out.cell 0; have z1 := HM.out.cell 1; have z2 := HM.out.cell 2
  have zf := HM.out.box.frozen 0
  simp only [List.getElem?_toArray, List.getElem?_cons_zero, List.getElem?_cons_succ] at z0 z1 z2
  go_wp2_with fail
  refine (around_any by_ _ _ hb1 hb2 (by omega) (by omega)).mono ?_
  rintro e w4 ⟨rfl, rfl⟩
  rw [HI1.out]
  go_wp2_with fail
  refine (around_any (by_.tdiv 8) _ _ HT8.out.1 HT8.out.2 (by omega) (by omega)).mono ?_
  rintro e w4 ⟨rfl, rfl⟩
  rw [HK1.out]
  go_wp2_with fail
  refine (around_any how _ _ hh1 hh2 (by omega) (by omega)).mono ?_
  rintro e w4 ⟨rfl, rfl⟩
  rw [HC.out]
  generalize w2.alloc (.cells #[.slice aa1 T.rows.length ca1, .slice ac1 T.costs.length cc1, .slice ak1 T.cls.length ck1] 25) = w3 at *
  clear hb HI1 HK1 HC HT8 hh1 hh2
  have hne := HM.out.ne
  by_cases hn : 0 < T.rows.length
  · have hn1 : (0 : Int) < (T.rows.length : Int) := by omega
    have hin := HI2.out hn
    have hrk2 := HS.out.rk
    obtain ⟨r, hr⟩ := elem_at hin
    obtain ⟨c, hc⟩ := elem_at (show i < T.cls.length by omega)
    have hra := rowAt_of hr
    have hcl := clsAt_of hc
    have hr1 := HS.out.e r (List.mem_of_getElem? hr)
    have har := around_bd by_ 6 (by omega)
    obtain ⟨q, hq⟩ : ∃ q : Nat, around by_ 6 = q := ⟨(around by_ 6).toNat, by omega⟩
    have hq6 : q < 6 := by omega
    have HE := Lib.hid (show spoilC T by_ i k 7 = ⟨T.rows ++ List.replicate (60 + q) r, T.costs, T.cls ++ List.replicate (60 + q) c⟩ by
      show (if T.rows.length = 0 then T else _) = _
      rw [if_neg (by omega), hq, hra, hcl, show ((60 : Int) + (q : Int)).toNat = 60 + q by omega])
    have HQ := Lib.hid hq; have HR := Lib.hid hr; have HCL := Lib.hid hc
    have hi0 : (0 : Int) ≤ (i : Int) := Int.natCast_nonneg _
    clear hra hcl hr hc har hq z0 z1 z2 zf
    have hltr := HM.out.res.lt
    have x0 := HM.out.res.cell 0; have x1 := HM.out.res.cell 1; have x2 := HM.out.res.cell 2
    have y0 := HM.out.res.frozen 0; have y1 := HM.out.res.frozen 1; have y2 := HM.out.res.frozen 2
    have hltb := HM.out.box.lt
    have z0 := HM.out.box.cell 0; have z1 := HM.out.box.cell 1; have z2 := HM.out.box.cell 2
    have zf0 := HM.out.box.frozen 0; have zf1 := HM.out.box.frozen 1; have zf2 := HM.out.box.frozen 2
    simp only [List.getElem?_toArray, List.getElem?_cons_zero, List.getElem?_cons_succ] at x0 x1 x2 z0 z1 z2
    go_wp2_with fail
    clear z0 z1 z2 zf0 zf1 zf2 hltb hltr x0 x1 x2 y0 y1 y2
    go_loopw [12] (fun jv wr => ∃ (j : Nat) (va vk : Value) (us' : List Value), j ≤ 60 + q ∧ jv = .int .i64 j ∧ MT w.heap.size w wr b B2 #[va, .slice ac1 T.costs.length cc1, vk] #[.slice none 0 0, .slice none 0 0, .slice none 0 0] va (T.rows.length + j) us' (.slice ac1 T.costs.length cc1 :: vk :: us') (T.costs :: (T.cls ++ List.replicate j c) :: (T.rows ++ List.replicate j r))) (fun jv _ => 60 + q - (intOf jv).toNat)
    case atStart => exact ⟨0, _, _, us, Nat.zero_le _, rfl, by simpa using HM.out⟩
    case round =>
      clear HM
      obtain ⟨j, va, vk, us', hj, rfl, hm⟩ := hrel
      have hj0 : (0 : Int) ≤ (j : Int) := Int.natCast_nonneg _
      obtain ⟨ga, ca3, rfl⟩ := ownsRow_some hm.out (by omega)
      have hkr := hm.rs.inn 1 vk _ rfl rfl
      obtain ⟨gk, ck3, hvk⟩ := ownsRow_some hkr (by simp; omega)
      rw [show (T.cls ++ List.replicate j c).length = T.cls.length + j by simp] at hvk
      subst hvk
      have HM := Lib.hid hm
      have hrj : (T.rows ++ List.replicate j r)[i]? = some r := by rw [List.getElem?_append_left hin]; exact HR.out
      have hcj : (T.cls ++ List.replicate j c)[i]? = some c := by rw [List.getElem?_append_left (by omega)]; exact HCL.out
      obtain ⟨u, hu, hur⟩ := hm.rs.tail.tail.row hrj
      obtain ⟨au, cu, rfl⟩ := owns_form hur
      have hca := hm.out.cellAt i (show i < (T.rows.length + j) * 1 by omega)
      rw [hu] at hca
      have HU := Lib.hid hu; have HRJ := Lib.hid hrj; have HCJ := Lib.hid hcj
      have hz := hm.box.cell 0
      simp only [List.getElem?_toArray, List.getElem?_cons_zero] at hz
      have XX := hur
      clear hm hkr hrj hcj hu hur
      go_wp2_with fail
      refine (around_any by_ 6 _ hb1 hb2 (by omega) (by omega)).mono ?_
      rintro e w8 ⟨rfl, rfl⟩
      rw [HQ.out]
      by_cases hlt : j < 60 + q
      · have hj1 : (j : Int) < 60 + (q : Int) := by omega
        have hi1 : (i : Int) < (T.rows.length : Int) + (j : Int) := by omega
        have hla := (HM.out.out.lt ga rfl).2
        go_wp2_with fail
        refine wp_region_E (fun W => W.cell? ⟨b, 0, none⟩ = some (.slice (some ⟨ga, 0, none⟩) (T.rows.length + j) ca3)) (by kernel_rfl) ?_
        have hdr : (wr).drew = { wr with drawn := (wr).drawn + 1 } := rfl
        rw [← hdr]
        clear hdr
        change wpAnyE _ _ _ _ _ _ _ _ ((wr).drewN 1)
        refine tg 0 170 rfl rfl (.pointer (some ⟨b, 0, none⟩)) hz ?_
        try simp only [pa, pl]
        refine tk 1 171 rfl rfl (.slice (some ⟨ga, 0, none⟩) (T.rows.length + j) ca3) (fun W hW => by have hz := hW; go_simp) hz ?_
        try simp only [pa, pl]
        refine tg 3 173 rfl rfl (.pointer (some ⟨b, 0, none⟩)) hz ?_
        try simp only [pa, pl]
        refine tk 4 174 rfl rfl (.slice (some ⟨ga, 0, none⟩) (T.rows.length + j) ca3) (fun W hW => by have hz := hW; go_simp) hz ?_
        try simp only [pa, pl]
        refine tm 5 175 rfl rfl (.int .i64 (i : Int)) hz ?_
        try simp only [pa, pl]
        refine tg 6 176 rfl rfl (.pointer (some ⟨ga, i, none⟩)) hz ?_
        try simp only [pa, pl]
        have HM8 := HM.out.dn.newL [] (by simp)
        have hz8 := HM8.box.cell 0
        simp only [List.getElem?_toArray, List.getElem?_cons_zero] at hz8
        have hc8 : ((wr.drewN 1).alloc (.cells #[] 3)).cell? ⟨ga, i, none⟩ = some (.slice au r.length cu) := by
          have h2 := HM8.out.cellAt i (show i < (T.rows.length + j) * 1 by omega)
          rw [HU.out] at h2; exact h2
        have hil : i < us'.length := (List.getElem?_eq_some_iff.1 HU.out).1
        have hrd := owns_ints (HM8.rs.inn (i + 2) (.slice au r.length cu) r (by simp only [List.cons_append, List.getElem?_cons_succ]; rw [List.getElem?_append_left hil]; exact HU.out) (by simp only [List.cons_append, List.getElem?_cons_succ]; rw [List.getElem?_append_left (by simp; omega)]; exact HRJ.out))
        refine wpAnyEBoth 2 7 (by kernel_rfl) ?_ ?_
        · refine wpOpRun' (v := .slice (some ⟨wr.heap.size, 0, none⟩) 0 0) (w' := ((wr.drewN 1).alloc (.cells #[] 3))) (some 172) rfl rfl rfl (by go_simp <;> rfl) ?_
          refine ⟨.inl (hz8), ?_⟩
          try simp only [pa, pl]
          refine wpAnyEOne 7 (by kernel_rfl) ?_
          refine wpOpRun' (v := .slice au r.length cu) (w' := ((wr.drewN 1).alloc (.cells #[] 3))) (some 177) rfl rfl rfl (by go_simp) ?_
          refine ⟨.inl (hz8), ?_⟩
          try simp only [pa, pl]
          refine wpAnyEOne 8 (by kernel_rfl) ?_
          refine wpOpAppI 8 (some 178) rfl rfl rfl (.tmp 172) (.tmp 177) rfl (.slice (some ⟨wr.heap.size, 0, none⟩) 0 0) ([]) rfl (HM8.rs.last) (.slice au r.length cu) (r) rfl (hrd) (by simp; omega) (HM8.sz) fun v9 w9 happ => ?_
          have hm9 := HM8.appL happ
          obtain ⟨a9, k9, he9⟩ := happ.form
          rw [List.nil_append] at he9 hm9
          subst he9
          have hz9 := hm9.box.cell 0
          simp only [List.getElem?_toArray, List.getElem?_cons_zero] at hz9
          refine ⟨.inl (hz9), ?_⟩
          try simp only [pa, pl]
          refine wpAnyEOne 9 (by kernel_rfl) ?_
          refine wpOpRun' (v := .slice (some ⟨w9.heap.size, 0, none⟩) 1 1) (w' := (w9.alloc (.cells #[.slice a9 r.length k9] 22))) (some 179) rfl rfl rfl (by go_simp <;> rfl) ?_
          have hm10 := hm9.alloc (.cells #[.slice a9 r.length k9] 22)
          have hz10 := hm10.box.cell 0
          simp only [List.getElem?_toArray, List.getElem?_cons_zero] at hz10
          refine ⟨.inl (hz10), ?_⟩
          try simp only [pa, pl]
          refine wpAnyEOne 10 (by kernel_rfl) ?_
          refine wpOpAppR (base := w.heap.size) 10 (some 180) rfl rfl rfl (.tmp 171) (.tmp 179) rfl (.slice (some ⟨ga, 0, none⟩) (T.rows.length + j) ca3) (T.rows.length + j) us' rfl hm10.out (.slice (some ⟨w9.heap.size, 0, none⟩) 1 1) [.slice a9 r.length k9] rfl (Rd_fresh w9 22 #[.slice a9 r.length k9] 1 rfl (by omega)) (by intro u hu; rw [List.mem_singleton.1 hu]; rfl) (by simp only [List.length_cons, List.length_nil]; omega) hm10.sz fun v11 w11 happ2 => ?_
          have hm11 := hm10.appR happ2
          obtain ⟨a11, k11, rfl⟩ := happ2.form
          simp only [List.length_cons, List.length_nil, Nat.zero_add] at hm11
          have hz11 := hm11.box.cell 0
          have hf11 := hm11.box.frozen 0
          have hl11 := hm11.box.lt
          simp only [List.getElem?_toArray, List.getElem?_cons_zero] at hz11
          refine ⟨.inl (hz11), ?_⟩
          try simp only [pa, pl]
          refine wpAnyEOne 11 (by kernel_rfl) ?_
          refine wpOpRun' (v := .pointer (some ⟨b, 0, none⟩)) (w' := w11) (some 181) rfl rfl rfl (by go_simp <;> rfl) ?_
          refine ⟨.inl (hz11), ?_⟩
          try simp only [pa, pl]
          refine wpAnyEOne 12 (by kernel_rfl) ?_
          refine wpOpSkip (w' := w11.setCell ⟨b, 0, none⟩ (.slice a11 (T.rows.length + j + 1) k11)) 12 rfl rfl rfl (by go_simp <;> rfl) ?_
          refine ⟨.inr (allUp_of (by kernel_rfl)), ?_⟩
          try simp only [pa, pl]
          refine wpAnyE_done (by kernel_rfl) ?_ _
          have HM12 := Lib.hid (hm11.put 0 (.slice a11 (T.rows.length + j + 1) k11))
          simp only [List.setIfInBounds_toArray, List.set_cons_zero, List.cons_append] at HM12
          clear hm11 hz11 hf11 hl11 hm10 hz10 hm9 hz9 happ happ2 hrd hc8 hz8 HM8 XX hca hz HM
          generalize w11.setCell ⟨b, 0, none⟩ (.slice a11 (T.rows.length + j + 1) k11) = w12 at *
          have hz := HM12.out.box.cell 2
          simp only [List.getElem?_toArray, List.getElem?_cons_zero, List.getElem?_cons_succ] at hz
          have hkr := HM12.out.rs.inn 1 _ _ rfl rfl
          rw [show (T.cls ++ List.replicate j c).length = T.cls.length + j by simp] at hkr
          have hcc := hkr.cellAt i (show i < (T.cls.length + j) * 1 by omega)
          rw [show (ints (T.cls ++ List.replicate j c))[i]? = some (.int .i64 c) by unfold ints; rw [List.getElem?_map, HCJ.out]; rfl] at hcc
          have hki : (i : Int) < (T.cls.length : Int) + (j : Int) := by omega
          have hmin := Lib.hid (show min (i : Int) ((T.cls.length : Int) + (j : Int) - 1) = (i : Int) by omega)
          have hw1 := Lib.hid (show IntKind.i64.wrap ((T.cls.length : Int) + (j : Int) - 1) = (T.cls.length : Int) + (j : Int) - 1 from IntWalk.i64_in _ (by omega))
          have XX := hkr
          clear hkr
          go_wp2_with fail
          refine wp_region_E (fun W => W.cell? ⟨b, 2, none⟩ = some (.slice (some ⟨gk, 0, none⟩) (T.cls.length + j) ck3)) (by kernel_rfl) ?_
          have hdr : (w12).drew = { w12 with drawn := (w12).drawn + 1 } := rfl
          rw [← hdr]
          clear hdr
          change wpAnyE _ _ _ _ _ _ _ _ ((w12).drewN 1)
          refine tg 0 182 rfl rfl (.pointer (some ⟨b, 2, none⟩)) hz ?_
          try simp only [pa, pl]
          refine tk 1 183 rfl rfl (.slice (some ⟨gk, 0, none⟩) (T.cls.length + j) ck3) (fun W hW => by have hz := hW; go_simp) hz ?_
          try simp only [pa, pl]
          refine tg 2 184 rfl rfl (.pointer (some ⟨b, 2, none⟩)) hz ?_
          try simp only [pa, pl]
          refine tk 3 185 rfl rfl (.slice (some ⟨gk, 0, none⟩) (T.cls.length + j) ck3) (fun W hW => by have hz := hW; go_simp) hz ?_
          try simp only [pa, pl]
          refine tm 4 186 rfl rfl (.int .i64 (i : Int)) hz ?_
          try simp only [pa, pl]
          refine tg 5 187 rfl rfl (.pointer (some ⟨b, 2, none⟩)) hz ?_
          try simp only [pa, pl]
          refine tk 6 188 rfl rfl (.slice (some ⟨gk, 0, none⟩) (T.cls.length + j) ck3) (fun W hW => by have hz := hW; go_simp) hz ?_
          try simp only [pa, pl]
          refine tg 7 189 rfl rfl (.int .i64 ((T.cls.length : Int) + (j : Int))) hz ?_
          try simp only [pa, pl]
          refine tk 8 190 rfl rfl (.int .i64 ((T.cls.length : Int) + (j : Int) - 1)) (fun _ _ => by go_simp <;> exact hw1.out) hz ?_
          try simp only [pa, pl]
          refine tk 9 191 rfl rfl (.int .i64 (i : Int)) (fun _ _ => by go_simp <;> exact hmin.out) hz ?_
          try simp only [pa, pl]
          refine tg 10 192 rfl rfl (.pointer (some ⟨gk, i, none⟩)) hz ?_
          try simp only [pa, pl]
          refine wpAnyEOne 11 (by kernel_rfl) ?_
          refine wpOpRun' (v := .int .i64 c) (w' := w12.drewN 1) (some 193) rfl rfl rfl (by go_simp) ?_
          refine ⟨.inl (hz), ?_⟩
          try simp only [pa, pl]
          refine wpAnyEOne 12 (by kernel_rfl) ?_
          refine wpOpRun' (v := .slice (some ⟨w12.heap.size, 0, none⟩) 1 1) (w' := ((w12.drewN 1).alloc (.cells #[.int .i64 c] 3))) (some 194) rfl rfl rfl (by go_simp <;> rfl) ?_
          have HM13 := HM12.out.dn.alloc (.cells #[.int .i64 c] 3)
          have hz13 := HM13.box.cell 2
          simp only [List.getElem?_toArray, List.getElem?_cons_zero, List.getElem?_cons_succ] at hz13
          have hk13 := HM13.rs.inn 1 _ _ rfl rfl
          refine ⟨.inl (hz13), ?_⟩
          try simp only [pa, pl]
          refine wpAnyEOne 13 (by kernel_rfl) ?_
          refine wpOpAppI 13 (some 195) rfl rfl rfl (.tmp 183) (.tmp 194) rfl (.slice (some ⟨gk, 0, none⟩) (T.cls.length + j) ck3) (T.cls ++ List.replicate j c) rfl (hk13) (.slice (some ⟨w12.heap.size, 0, none⟩) 1 1) ([c]) rfl (Rd_fresh (w12.drewN 1) 3 #[.int .i64 c] 1 rfl (by omega)) (by simp; omega) (HM13.sz) fun v14 w14 happ3 => ?_
          have hm14 := HM13.appI 1 rfl happ3
          simp only [List.set_cons_succ, List.set_cons_zero, List.append_assoc, ← List.replicate_succ'] at hm14
          obtain ⟨a14, k14, he14⟩ := happ3.form
          rw [show (T.cls ++ List.replicate j c ++ [c]).length = T.cls.length + (j + 1) by simp] at he14
          subst he14
          have hz14 := hm14.box.cell 2
          have hf14 := hm14.box.frozen 2
          have hl14 := hm14.box.lt
          simp only [List.getElem?_toArray, List.getElem?_cons_zero, List.getElem?_cons_succ] at hz14
          refine ⟨.inl (hz14), ?_⟩
          try simp only [pa, pl]
          refine wpAnyEOne 14 (by kernel_rfl) ?_
          refine wpOpRun' (v := .pointer (some ⟨b, 2, none⟩)) (w' := w14) (some 196) rfl rfl rfl (by go_simp <;> rfl) ?_
          refine ⟨.inl (hz14), ?_⟩
          try simp only [pa, pl]
          refine wpAnyEOne 15 (by kernel_rfl) ?_
          refine wpOpSkip (w' := w14.setCell ⟨b, 2, none⟩ (.slice a14 (T.cls.length + (j + 1)) k14)) 15 rfl rfl rfl (by go_simp <;> rfl) ?_
          refine ⟨.inr (allUp_of (by kernel_rfl)), ?_⟩
          try simp only [pa, pl]
          refine wpAnyE_done (by kernel_rfl) ?_ _
          have HM15 := Lib.hid (hm14.put 2 (.slice a14 (T.cls.length + (j + 1)) k14))
          simp only [List.setIfInBounds_toArray, List.set_cons_zero, List.set_cons_succ] at HM15
          clear hm14 hz14 hf14 hl14 hk13 hz13 HM13 happ3 XX hmin hw1 hcc hz HM12
          go_wp2_with fail
          go_roundw
          case rel => exact ⟨j + 1, _, _, _, by omega, by go_num, HM15.out⟩
          case measure => simp [intOf]; omega
        · refine wpOpRun' (v := .slice au r.length cu) (w' := wr.drewN 1) (some 177) rfl rfl rfl (by go_simp) ?_
          refine ⟨.inl (hz), ?_⟩
          try simp only [pa, pl]
          refine wpAnyEOne 2 (by kernel_rfl) ?_
          refine wpOpRun' (v := .slice (some ⟨wr.heap.size, 0, none⟩) 0 0) (w' := ((wr.drewN 1).alloc (.cells #[] 3))) (some 172) rfl rfl rfl (by go_simp <;> rfl) ?_
          refine ⟨.inl (hz8), ?_⟩
          try simp only [pa, pl]
          refine wpAnyEOne 8 (by kernel_rfl) ?_
          refine wpOpAppI 8 (some 178) rfl rfl rfl (.tmp 172) (.tmp 177) rfl (.slice (some ⟨wr.heap.size, 0, none⟩) 0 0) ([]) rfl (HM8.rs.last) (.slice au r.length cu) (r) rfl (hrd) (by simp; omega) (HM8.sz) fun v9 w9 happ => ?_
          have hm9 := HM8.appL happ
          obtain ⟨a9, k9, he9⟩ := happ.form
          rw [List.nil_append] at he9 hm9
          subst he9
          have hz9 := hm9.box.cell 0
          simp only [List.getElem?_toArray, List.getElem?_cons_zero] at hz9
          refine ⟨.inl (hz9), ?_⟩
          try simp only [pa, pl]
          refine wpAnyEOne 9 (by kernel_rfl) ?_
          refine wpOpRun' (v := .slice (some ⟨w9.heap.size, 0, none⟩) 1 1) (w' := (w9.alloc (.cells #[.slice a9 r.length k9] 22))) (some 179) rfl rfl rfl (by go_simp <;> rfl) ?_
          have hm10 := hm9.alloc (.cells #[.slice a9 r.length k9] 22)
          have hz10 := hm10.box.cell 0
          simp only [List.getElem?_toArray, List.getElem?_cons_zero] at hz10
          refine ⟨.inl (hz10), ?_⟩
          try simp only [pa, pl]
          refine wpAnyEOne 10 (by kernel_rfl) ?_
          refine wpOpAppR (base := w.heap.size) 10 (some 180) rfl rfl rfl (.tmp 171) (.tmp 179) rfl (.slice (some ⟨ga, 0, none⟩) (T.rows.length + j) ca3) (T.rows.length + j) us' rfl hm10.out (.slice (some ⟨w9.heap.size, 0, none⟩) 1 1) [.slice a9 r.length k9] rfl (Rd_fresh w9 22 #[.slice a9 r.length k9] 1 rfl (by omega)) (by intro u hu; rw [List.mem_singleton.1 hu]; rfl) (by simp only [List.length_cons, List.length_nil]; omega) hm10.sz fun v11 w11 happ2 => ?_
          have hm11 := hm10.appR happ2
          obtain ⟨a11, k11, rfl⟩ := happ2.form
          simp only [List.length_cons, List.length_nil, Nat.zero_add] at hm11
          have hz11 := hm11.box.cell 0
          have hf11 := hm11.box.frozen 0
          have hl11 := hm11.box.lt
          simp only [List.getElem?_toArray, List.getElem?_cons_zero] at hz11
          refine ⟨.inl (hz11), ?_⟩
          try simp only [pa, pl]
          refine wpAnyEOne 11 (by kernel_rfl) ?_
          refine wpOpRun' (v := .pointer (some ⟨b, 0, none⟩)) (w' := w11) (some 181) rfl rfl rfl (by go_simp <;> rfl) ?_
          refine ⟨.inl (hz11), ?_⟩
          try simp only [pa, pl]
          refine wpAnyEOne 12 (by kernel_rfl) ?_
          refine wpOpSkip (w' := w11.setCell ⟨b, 0, none⟩ (.slice a11 (T.rows.length + j + 1) k11)) 12 rfl rfl rfl (by go_simp <;> rfl) ?_
          refine ⟨.inr (allUp_of (by kernel_rfl)), ?_⟩
          try simp only [pa, pl]
          refine wpAnyE_done (by kernel_rfl) ?_ _
          have HM12 := Lib.hid (hm11.put 0 (.slice a11 (T.rows.length + j + 1) k11))
          simp only [List.setIfInBounds_toArray, List.set_cons_zero, List.cons_append] at HM12
          clear hm11 hz11 hf11 hl11 hm10 hz10 hm9 hz9 happ happ2 hrd hc8 hz8 HM8 XX hca hz HM
          generalize w11.setCell ⟨b, 0, none⟩ (.slice a11 (T.rows.length + j + 1) k11) = w12 at *
          have hz := HM12.out.box.cell 2
          simp only [List.getElem?_toArray, List.getElem?_cons_zero, List.getElem?_cons_succ] at hz
          have hkr := HM12.out.rs.inn 1 _ _ rfl rfl
          rw [show (T.cls ++ List.replicate j c).length = T.cls.length + j by simp] at hkr
          have hcc := hkr.cellAt i (show i < (T.cls.length + j) * 1 by omega)
          rw [show (ints (T.cls ++ List.replicate j c))[i]? = some (.int .i64 c) by unfold ints; rw [List.getElem?_map, HCJ.out]; rfl] at hcc
          have hki : (i : Int) < (T.cls.length : Int) + (j : Int) := by omega
          have hmin := Lib.hid (show min (i : Int) ((T.cls.length : Int) + (j : Int) - 1) = (i : Int) by omega)
          have hw1 := Lib.hid (show IntKind.i64.wrap ((T.cls.length : Int) + (j : Int) - 1) = (T.cls.length : Int) + (j : Int) - 1 from IntWalk.i64_in _ (by omega))
          have XX := hkr
          clear hkr
          go_wp2_with fail
          refine wp_region_E (fun W => W.cell? ⟨b, 2, none⟩ = some (.slice (some ⟨gk, 0, none⟩) (T.cls.length + j) ck3)) (by kernel_rfl) ?_
          have hdr : (w12).drew = { w12 with drawn := (w12).drawn + 1 } := rfl
          rw [← hdr]
          clear hdr
          change wpAnyE _ _ _ _ _ _ _ _ ((w12).drewN 1)
          refine tg 0 182 rfl rfl (.pointer (some ⟨b, 2, none⟩)) hz ?_
          try simp only [pa, pl]
          refine tk 1 183 rfl rfl (.slice (some ⟨gk, 0, none⟩) (T.cls.length + j) ck3) (fun W hW => by have hz := hW; go_simp) hz ?_
          try simp only [pa, pl]
          refine tg 2 184 rfl rfl (.pointer (some ⟨b, 2, none⟩)) hz ?_
          try simp only [pa, pl]
          refine tk 3 185 rfl rfl (.slice (some ⟨gk, 0, none⟩) (T.cls.length + j) ck3) (fun W hW => by have hz := hW; go_simp) hz ?_
          try simp only [pa, pl]
          refine tm 4 186 rfl rfl (.int .i64 (i : Int)) hz ?_
          try simp only [pa, pl]
          refine tg 5 187 rfl rfl (.pointer (some ⟨b, 2, none⟩)) hz ?_
          try simp only [pa, pl]
          refine tk 6 188 rfl rfl (.slice (some ⟨gk, 0, none⟩) (T.cls.length + j) ck3) (fun W hW => by have hz := hW; go_simp) hz ?_
          try simp only [pa, pl]
          refine tg 7 189 rfl rfl (.int .i64 ((T.cls.length : Int) + (j : Int))) hz ?_
          try simp only [pa, pl]
          refine tk 8 190 rfl rfl (.int .i64 ((T.cls.length : Int) + (j : Int) - 1)) (fun _ _ => by go_simp <;> exact hw1.out) hz ?_
          try simp only [pa, pl]
          refine tk 9 191 rfl rfl (.int .i64 (i : Int)) (fun _ _ => by go_simp <;> exact hmin.out) hz ?_
          try simp only [pa, pl]
          refine tg 10 192 rfl rfl (.pointer (some ⟨gk, i, none⟩)) hz ?_
          try simp only [pa, pl]
          refine wpAnyEOne 11 (by kernel_rfl) ?_
          refine wpOpRun' (v := .int .i64 c) (w' := w12.drewN 1) (some 193) rfl rfl rfl (by go_simp) ?_
          refine ⟨.inl (hz), ?_⟩
          try simp only [pa, pl]
          refine wpAnyEOne 12 (by kernel_rfl) ?_
          refine wpOpRun' (v := .slice (some ⟨w12.heap.size, 0, none⟩) 1 1) (w' := ((w12.drewN 1).alloc (.cells #[.int .i64 c] 3))) (some 194) rfl rfl rfl (by go_simp <;> rfl) ?_
          have HM13 := HM12.out.dn.alloc (.cells #[.int .i64 c] 3)
          have hz13 := HM13.box.cell 2
          simp only [List.getElem?_toArray, List.getElem?_cons_zero, List.getElem?_cons_succ] at hz13
          have hk13 := HM13.rs.inn 1 _ _ rfl rfl
          refine ⟨.inl (hz13), ?_⟩
          try simp only [pa, pl]
          refine wpAnyEOne 13 (by kernel_rfl) ?_
          refine wpOpAppI 13 (some 195) rfl rfl rfl (.tmp 183) (.tmp 194) rfl (.slice (some ⟨gk, 0, none⟩) (T.cls.length + j) ck3) (T.cls ++ List.replicate j c) rfl (hk13) (.slice (some ⟨w12.heap.size, 0, none⟩) 1 1) ([c]) rfl (Rd_fresh (w12.drewN 1) 3 #[.int .i64 c] 1 rfl (by omega)) (by simp; omega) (HM13.sz) fun v14 w14 happ3 => ?_
          have hm14 := HM13.appI 1 rfl happ3
          simp only [List.set_cons_succ, List.set_cons_zero, List.append_assoc, ← List.replicate_succ'] at hm14
          obtain ⟨a14, k14, he14⟩ := happ3.form
          rw [show (T.cls ++ List.replicate j c ++ [c]).length = T.cls.length + (j + 1) by simp] at he14
          subst he14
          have hz14 := hm14.box.cell 2
          have hf14 := hm14.box.frozen 2
          have hl14 := hm14.box.lt
          simp only [List.getElem?_toArray, List.getElem?_cons_zero, List.getElem?_cons_succ] at hz14
          refine ⟨.inl (hz14), ?_⟩
          try simp only [pa, pl]
          refine wpAnyEOne 14 (by kernel_rfl) ?_
          refine wpOpRun' (v := .pointer (some ⟨b, 2, none⟩)) (w' := w14) (some 196) rfl rfl rfl (by go_simp <;> rfl) ?_
          refine ⟨.inl (hz14), ?_⟩
          try simp only [pa, pl]
          refine wpAnyEOne 15 (by kernel_rfl) ?_
          refine wpOpSkip (w' := w14.setCell ⟨b, 2, none⟩ (.slice a14 (T.cls.length + (j + 1)) k14)) 15 rfl rfl rfl (by go_simp <;> rfl) ?_
          refine ⟨.inr (allUp_of (by kernel_rfl)), ?_⟩
          try simp only [pa, pl]
          refine wpAnyE_done (by kernel_rfl) ?_ _
          have HM15 := Lib.hid (hm14.put 2 (.slice a14 (T.cls.length + (j + 1)) k14))
          simp only [List.setIfInBounds_toArray, List.set_cons_zero, List.set_cons_succ] at HM15
          clear hm14 hz14 hf14 hl14 hk13 hz13 HM13 happ3 XX hmin hw1 hcc hz HM12
          go_wp2_with fail
          go_roundw
          case rel => exact ⟨j + 1, _, _, _, by omega, by go_num, HM15.out⟩
          case measure => simp [intOf]; omega
      · obtain rfl : j = 60 + q := by omega
        have hj1 : ¬ ((60 + q : Nat) : Int) < 60 + (q : Int) := by omega
        have hcs : ((60 + q : Nat) : Int) = 60 + (q : Int) := by omega
        have hlr : (T.rows ++ List.replicate (60 + q) r).length = T.rows.length + (60 + q) := by simp
        have HLR := Lib.hid hlr
        have HM7 := HM
        clear hlr hz hca XX
        have hltr := HM.out.res.lt
        have x0 := HM.out.res.cell 0; have x1 := HM.out.res.cell 1; have x2 := HM.out.res.cell 2
        have y0 := HM.out.res.frozen 0; have y1 := HM.out.res.frozen 1; have y2 := HM.out.res.frozen 2
        have hltb := HM.out.box.lt
        have z0 := HM.out.box.cell 0; have z1 := HM.out.box.cell 1; have z2 := HM.out.box.cell 2
        have zf0 := HM.out.box.frozen 0; have zf1 := HM.out.box.frozen 1; have zf2 := HM.out.box.frozen 2
        simp only [List.getElem?_toArray, List.getElem?_cons_zero, List.getElem?_cons_succ] at x0 x1 x2 z0 z1 z2
        go_wp2_with fail
        have hm3 := ((HM7.out.putres 0 (.slice (some ⟨ga, 0, none⟩) (T.rows.length + (60 + q)) ca3)).putres 1 (.slice ac1 T.costs.length cc1)).putres 2 (.slice (some ⟨gk, 0, none⟩) (T.cls.length + (60 + q)) ck3)
        have e0 := hm3.res.cell 0; have e1 := hm3.res.cell 1; have e2 := hm3.res.cell 2
        simp only [List.setIfInBounds_toArray, List.set_cons_zero, List.set_cons_succ, List.getElem?_toArray, List.getElem?_cons_zero, List.getElem?_cons_succ] at e0 e1 e2
        refine bodyPost_ret (v := .agg #[.slice (some ⟨ga, 0, none⟩) (T.rows.length + (60 + q)) ca3, .slice ac1 T.costs.length cc1, .slice (some ⟨gk, 0, none⟩) (T.cls.length + (60 + q)) ck3]) ?_ rfl ⟨?_, hm3.bel⟩
        · simp only [results, Try.results11]
          simp [go_sem, e0, e1, e2]
        · rw [HE.out]; exact ⟨_, _, _, us', rfl, ⟨by show World.ownsRow _ _ _ _ _ (T.rows ++ List.replicate (60 + q) r).length _; rw [HLR.out]; exact hm3.out, hm3.rs⟩⟩
  · have hn1 : ¬ (0 : Int) < (T.rows.length : Int) := by omega
    have HE := Lib.hid (show spoilC T by_ i k 7 = T by
      show (if T.rows.length = 0 then T else _) = _
      rw [if_pos (by omega)])
    clear z0 z1 z2 zf
    go_wp2_with fail
    go_loopw [12] (fun jv wr => jv = .int .i64 0 ∧ wr = w3) (fun _ _ => 0)
    case atStart => exact ⟨rfl, rfl⟩
    case round =>
      obtain ⟨rfl, rfl⟩ := hrel
      have har := around_bd by_ 6 (by omega)
      have HM7 := HM
      have hltr := HM.out.res.lt
      have x0 := HM.out.res.cell 0; have x1 := HM.out.res.cell 1; have x2 := HM.out.res.cell 2
      have y0 := HM.out.res.frozen 0; have y1 := HM.out.res.frozen 1; have y2 := HM.out.res.frozen 2
      have hltb := HM.out.box.lt
      have z0 := HM.out.box.cell 0; have z1 := HM.out.box.cell 1; have z2 := HM.out.box.cell 2
      have zf0 := HM.out.box.frozen 0; have zf1 := HM.out.box.frozen 1; have zf2 := HM.out.box.frozen 2
      simp only [List.getElem?_toArray, List.getElem?_cons_zero, List.getElem?_cons_succ] at x0 x1 x2 z0 z1 z2
      go_wp2_with fail
      refine (around_any by_ 6 _ hb1 hb2 (by omega) (by omega)).mono ?_
      rintro e w8 ⟨rfl, rfl⟩
      have hj1 : (0 : Int) < 60 + around by_ 6 := by omega
      go_wp2_with fail
      have hm3 := ((HM7.out.putres 0 (.slice aa1 T.rows.length ca1)).putres 1 (.slice ac1 T.costs.length cc1)).putres 2 (.slice ak1 T.cls.length ck1)
      have e0 := hm3.res.cell 0; have e1 := hm3.res.cell 1; have e2 := hm3.res.cell 2
      simp only [List.setIfInBounds_toArray, List.set_cons_zero, List.set_cons_succ, List.getElem?_toArray, List.getElem?_cons_zero, List.getElem?_cons_succ] at e0 e1 e2
      refine bodyPost_ret (v := .agg #[.slice aa1 T.rows.length ca1, .slice ac1 T.costs.length cc1, .slice ak1 T.cls.length ck1]) ?_ rfl ⟨?_, hm3.bel⟩
      · simp only [results, Try.results11]
        simp [go_sem, e0, e1, e2]
      · rw [HE.out]; exact ⟨_, _, _, us, rfl, ⟨hm3.out, hm3.rs⟩⟩
end Go.Proofs.Ytmkkegigajmhkaa

namespace Go.Proofs.Ytmkkegigajmhkaa
open Go.RowKit Go.Maps

theorem spoil_any (va vc vk : Value) (T : Tb) (how by_ : Int) (w : World) (h : TbR w va vc vk T) (hs : SmT T) (hb1 : -9223372036854775808 ≤ by_) (hb2 : by_ ≤ 9223372036854775807) (hh1 : -9223372036854775808 ≤ how) (hh2 : how ≤ 9223372036854775807) :
    Calls Try.prog 11 #[.agg #[va, vc, vk], .int .i64 how, .int .i64 by_] w fun e w' => CopyOut w.heap.size (spoilT T how by_) e w' ∧ Below w.heap.size w w' := by
  have hb := around_bd how 10 (by omega)
  unfold spoilT
  obtain ⟨c, hc⟩ : ∃ c, around how 10 = c := ⟨_, rfl⟩
  rw [hc] at hb ⊢
  rcases (show c = 0 ∨ c = 1 ∨ c = 2 ∨ c = 3 ∨ c = 4 ∨ c = 5 ∨ c = 6 ∨ c = 7 ∨ c = 8 ∨ c = 9 by omega) with rfl | rfl | rfl | rfl | rfl | rfl | rfl | rfl | rfl | rfl
  · exact spoil0_any va vc vk T how by_ w h hs hb1 hb2 hh1 hh2 hc
  · exact spoil1_any va vc vk T how by_ w h hs hb1 hb2 hh1 hh2 hc
  · exact spoil2_any va vc vk T how by_ w h hs hb1 hb2 hh1 hh2 hc
  · exact spoil3_any va vc vk T how by_ w h hs hb1 hb2 hh1 hh2 hc
  · exact spoil4_any va vc vk T how by_ w h hs hb1 hb2 hh1 hh2 hc
  · exact spoil5_any va vc vk T how by_ w h hs hb1 hb2 hh1 hh2 hc
  · exact spoil6_any va vc vk T how by_ w h hs hb1 hb2 hh1 hh2 hc
  · exact spoil7_any va vc vk T how by_ w h hs hb1 hb2 hh1 hh2 hc
  · exact spoil8_any va vc vk T how by_ w h hs hb1 hb2 hh1 hh2 hc
  · exact spoil9_any va vc vk T how by_ w h hs hb1 hb2 hh1 hh2 hc
/-- a very small table -/
structure SmN (n : Nat) (T : Tb) : Prop where
  r : T.rows.length ≤ n
  c : T.costs.length ≤ n
  k : T.cls.length ≤ n
  e : ∀ r, r ∈ T.rows → r.length ≤ n
  rk : T.rows.length ≤ T.cls.length
theorem SmN.sm {n : Nat} {T : Tb} (h : SmN n T) (hn : n ≤ 1000) : SmT T := ⟨Nat.le_trans h.r hn, Nat.le_trans h.c hn, Nat.le_trans h.k hn, fun r hr => Nat.le_trans (h.e r hr) hn, h.rk⟩
theorem rowAt_len {T : Tb} {n : Nat} (h : ∀ r, r ∈ T.rows → r.length ≤ n) (i : Nat) : (rowAt T i).length ≤ n := by
  unfold rowAt
  cases hx : T.rows[i]? with
  | none => simp
  | some r => exact h r (List.mem_of_getElem? hx)
theorem spoilT_sm {n : Nat} {T : Tb} (h : SmN n T) (how by_ : Int) : SmN (n + 66) (spoilT T how by_) := by
  have hb := around_bd how 10 (by omega)
  have h1 := h.r; have h2 := h.c; have h3 := h.k; have h5 := h.rk
  have hrow := rowAt_len h.e
  have hset : ∀ (i : Nat) (x : List Int), x.length ≤ n + 66 → ∀ r, r ∈ T.rows.set i x → r.length ≤ n + 66 := fun i x hx r hr => by
    rcases List.mem_or_eq_of_mem_set hr with h9 | h9
    · have := h.e r h9; omega
    · rw [h9]; exact hx
  have ha6 := around_bd by_ 6 (by omega)
  have ha3 := around_bd by_ 3 (by omega)
  have h0 : SmN (n + 66) T := ⟨by omega, by omega, by omega, fun r hr => by have := h.e r hr; omega, h5⟩
  unfold spoilT spoilC
  split
  · split
    · exact ⟨by simp; omega, by show T.costs.length ≤ _; omega, by show T.cls.length ≤ _; omega, hset _ _ (by have := hrow (spI T by_); simp; omega), by simp; omega⟩
    · exact h0
  split
  · exact ⟨by show T.rows.length ≤ _; omega, by simp; omega, by show T.cls.length ≤ _; omega, h0.e, h5⟩
  split
  · exact ⟨by show T.rows.length ≤ _; omega, by show T.costs.length ≤ _; omega, by simp; omega, h0.e, by simp; omega⟩
  split
  · exact ⟨by simp; omega, by show T.costs.length ≤ _; omega, by show T.cls.length ≤ _; omega, hset _ _ (by have := hrow (spI T by_); simp; omega), by simp; omega⟩
  split
  · exact ⟨by simp; omega, by show T.costs.length ≤ _; omega, by show T.cls.length ≤ _; omega, hset _ _ (by have := hrow 0; omega), by simp; omega⟩
  split
  · exact ⟨by show T.rows.length ≤ _; omega, by show T.costs.length ≤ _; omega, by simp; omega, h0.e, by simp; omega⟩
  split
  · refine ⟨by rw [lsF_len]; omega, by simp; omega, by show T.cls.length ≤ _; omega, fun r hr => ?_, by rw [lsF_len]; exact h5⟩
    obtain ⟨k, _, rfl⟩ := lsF_mem hr
    have := hrow k
    simp; omega
  split
  · split
    · exact h0
    · refine ⟨by simp; omega, by show T.costs.length ≤ _; omega, by simp; omega, fun r hr => ?_, by simp; omega⟩
      rcases List.mem_append.1 hr with h9 | h9
      · have := h.e r h9; omega
      · rw [(List.mem_replicate.1 h9).2]; have := hrow (spI T by_); omega
  split
  · exact ⟨by simp, by show T.costs.length ≤ _; omega, by simp, fun r hr => (by cases hr), by simp⟩
  · exact ⟨by show T.rows.length ≤ _; omega, by simp; omega, by show T.cls.length ≤ _; omega, h0.e, h5⟩
theorem ok_sm {T : Tb} (h : OkT T) : SmN 64 T := ⟨h.r64, h.c64, by have := h.kl; have := h.r64; omega, fun r hr => by have := h.rl r hr; have := h.c64; omega, by have := h.kl; omega⟩
end Go.Proofs.Ytmkkegigajmhkaa

