/- Spoilt: a table with one thing changed (case 4). Spoilt: a table with one thing changed (case 6). Spoilt: a table with one thing changed (case 8). Spoilt: a table with one thing changed (case 9). -/
import Derived.Test.YtmkkegigajmhkaaN15
import Derived.Test.YtmkkegigajmhkaaN07
import Derived.Lib.MinMax
set_option linter.unusedVariables false
namespace Go.Proofs.Ytmkkegigajmhkaa
open Go.RowKit Go.Maps

set_option maxRecDepth 100000 in
set_option maxHeartbeats 16000000 in
theorem spoil4_any (va vc vk : Value) (T : Tb) (how by_ : Int) (w : World) (h : TbR w va vc vk T) (hs : SmT T) (hb1 : -9223372036854775808 ≤ by_) (hb2 : by_ ≤ 9223372036854775807) (hh1 : -9223372036854775808 ≤ how) (hh2 : how ≤ 9223372036854775807) (hc : around how 10 = 4) :
    Calls Try.prog 11 #[.agg #[va, vc, vk], .int .i64 how, .int .i64 by_] w fun e w' => CopyOut w.heap.size (spoilC T by_ (spI T by_) (spK T by_) 4) e w' ∧ Below w.heap.size w w' := by
  obtain ⟨aa, ca, rfl⟩ := h.rows.form
  obtain ⟨ac, cc, rfl⟩ := h.costs.form
  obtain ⟨ak, ck, rfl⟩ := h.cls.form
  have HBX := Lib.hid ((alloc_below w (.cells #[.slice aa T.rows.length ca, .slice ac T.costs.length cc, .slice ak T.cls.length ck] 25)).alloc (by rw [World.size_alloc]; omega) (.cells #[.slice none 0 0, .slice none 0 0, .slice none 0 0] 25))
  have HTB := h.below HBX.out
  have HT2 := Lib.hid (show Boxs ((w.alloc (.cells #[.slice aa T.rows.length ca, .slice ac T.costs.length cc, .slice ak T.cls.length ck] 25)).alloc (.cells #[.slice none 0 0, .slice none 0 0, .slice none 0 0] 25)) (w.heap.size + 1) 25 #[.slice none 0 0, .slice none 0 0, .slice none 0 0] from by have := Boxs.new (w.alloc (.cells #[.slice aa T.rows.length ca, .slice ac T.costs.length cc, .slice ak T.cls.length ck] 25)) 25 #[.slice none 0 0, .slice none 0 0, .slice none 0 0]; rwa [World.size_alloc] at this)
  have CP := copy_any (.slice aa T.rows.length ca) (.slice ac T.costs.length cc) (.slice ak T.cls.length ck) T ((w.alloc (.cells #[.slice aa T.rows.length ca, .slice ac T.costs.length cc, .slice ak T.cls.length ck] 25)).alloc (.cells #[.slice none 0 0, .slice none 0 0, .slice none 0 0] 25)) HTB ⟨hs.r, hs.c, hs.k, hs.e⟩
  have HS := Lib.hid hs
  have hr1000 := hs.r; have hc1000 := hs.c; have hk1000 := hs.k; have hrk := hs.rk
  obtain ⟨hi1, hi2, hi3⟩ := spI_bd T by_
  obtain ⟨hk1, hk2, hk3⟩ := spK_bd T by_
  obtain ⟨i, hi⟩ : ∃ i, spI T by_ = i := ⟨_, rfl⟩
  obtain ⟨k, hk⟩ : ∃ k, spK T by_ = k := ⟨_, rfl⟩
  rw [hi] at hi1 hi2 hi3 ⊢
  rw [hk] at hk1 hk2 hk3 ⊢
  have HI1 := Lib.hid hi1; have HK1 := Lib.hid hk1; have HI2 := Lib.hid hi2; have HK2 := Lib.hid hk2; have HI3 := Lib.hid hi3; have HK3 := Lib.hid hk3; have HC := Lib.hid hc
  have ht8 := tdiv8 by_ hb1 hb2
  have HT8 := Lib.hid ht8
  clear h HTB hs hi hk hi1 hk1 hi2 hk2 hi3 hk3 hc ht8
  go_enter Try.func11, Try.ntmps11
  go_wp2_with fail
  obtain ⟨B2, hB2⟩ : ∃ B, w.heap.size + 1 = B := ⟨_, rfl⟩
  have hwB2 : w.heap.size ≤ B2 := by omega
  rw [hB2] at HT2 ⊢
  generalize (w.alloc (.cells #[.slice aa T.rows.length ca, .slice ac T.costs.length cc, .slice ak T.cls.length ck] 25)).alloc (.cells #[.slice none 0 0, .slice none 0 0, .slice none 0 0] 25) = w1 at *
  refine CP.mono ?_
  rintro e w2 ⟨⟨ua, uc, uk, us, rfl, hown⟩, hb9⟩
  have hs1 : w.heap.size ≤ w1.heap.size := HBX.out.size
  have HOT := Lib.hid (hown.le hs1)
  have HB2 := Lib.hid (HBX.out.trans (hb9.mono hs1))
  have HT2 := Lib.hid (Boxs.below HT2.out hb9)
  obtain ⟨aa1, ca1, rfl⟩ := owns_form hown.out
  obtain ⟨ac1, cc1, rfl⟩ := owns_form (hown.rs.inn 0 _ _ rfl rfl)
  obtain ⟨ak1, ck1, rfl⟩ := owns_form (hown.rs.inn 1 _ _ rfl rfl)
  clear hown hb9 CP HBX hs1
  obtain ⟨b, hb⟩ : ∃ b, w2.heap.size = b := ⟨_, rfl⟩
  have hs2 : w.heap.size ≤ w2.heap.size := HB2.out.size
  have hltB2 := HT2.out.lt
  have HM := Lib.hid (MT.of (HOT.out.below (alloc_below w2 (.cells #[.slice aa1 T.rows.length ca1, .slice ac1 T.costs.length cc1, .slice ak1 T.cls.length ck1] 25))) (Nat.le_refl _) (HB2.out.alloc hs2 (.cells #[.slice aa1 T.rows.length ca1, .slice ac1 T.costs.length cc1, .slice ak1 T.cls.length ck1] 25)) hs2 hwB2 (Nat.ne_of_gt hltB2) (Boxs.new w2 25 #[.slice aa1 T.rows.length ca1, .slice ac1 T.costs.length cc1, .slice ak1 T.cls.length ck1]) (Boxs.below HT2.out (alloc_below w2 _)))
  rw [hb] at HM
  clear HB2 HT2 HOT hltB2 hs2 hB2
  have z0 := HM.out.cell 0; have z1 := HM.out.cell 1; have z2 := HM.out.cell 2
  have zf := HM.out.box.frozen 0
  simp only [List.getElem?_toArray, List.getElem?_cons_zero, List.getElem?_cons_succ] at z0 z1 z2
  go_wp2_with fail
  refine (around_any by_ _ _ hb1 hb2 (by omega) (by omega)).mono ?_
  rintro e w4 ⟨rfl, rfl⟩
  rw [HI1.out]
  go_wp2_with fail
  refine (around_any (by_.tdiv 8) _ _ HT8.out.1 HT8.out.2 (by omega) (by omega)).mono ?_
  rintro e w4 ⟨rfl, rfl⟩
  rw [HK1.out]
  go_wp2_with fail
  refine (around_any how _ _ hh1 hh2 (by omega) (by omega)).mono ?_
  rintro e w4 ⟨rfl, rfl⟩
  rw [HC.out]
  generalize w2.alloc (.cells #[.slice aa1 T.rows.length ca1, .slice ac1 T.costs.length cc1, .slice ak1 T.cls.length ck1] 25) = w3 at *
  clear hb HI1 HK1 HC HT8 hh1 hh2
  have hne := HM.out.ne
  by_cases hn : 0 < T.rows.length
  · have hin := HI2.out hn
    obtain ⟨r, hr⟩ := elem_at hin
    have hra := rowAt_of hr
    obtain ⟨u, hu, hur⟩ := HM.out.rs.tail.tail.row hr
    obtain ⟨au, cu, rfl⟩ := owns_form hur
    have hr1 := HS.out.e r (List.mem_of_getElem? hr)
    obtain ⟨ga, ca2, hva⟩ := ownsRow_some HM.out.out hn
    cases hva
    have hca := HM.out.out.cellAt i (show i < T.rows.length * 1 by omega)
    rw [hu] at hca
    have hfa := HM.out.out.frozenAt i
    have hla := (HM.out.out.lt ga rfl).2
    have hn1 : (0 : Int) < (T.rows.length : Int) := by omega
    have hi0 : (0 : Int) ≤ (i : Int) := Int.natCast_nonneg _
    have hi1 : (i : Int) < (T.rows.length : Int) := by omega
    have HU := Lib.hid hu; have HR := Lib.hid hr; have HUR := Lib.hid hur
    obtain ⟨r0, hr0⟩ := elem_at hn
    have hra0 := rowAt_of hr0
    obtain ⟨u0, hu0, hur0⟩ := HM.out.rs.tail.tail.row hr0
    obtain ⟨au0, cu0, rfl⟩ := owns_form hur0
    have hr01 := HS.out.e r0 (List.mem_of_getElem? hr0)
    have hca0 := HM.out.out.cellAt 0 (show 0 < T.rows.length * 1 by omega)
    rw [hu0] at hca0
    have HU0 := Lib.hid hu0; have HR0 := Lib.hid hr0
    have HE := Lib.hid (show spoilC T by_ i k 4 = ⟨T.rows.set i r0, T.costs, T.cls⟩ by rw [← hra0]; rfl)
    have hz := HM.out.box.cell 0
    simp only [List.getElem?_toArray, List.getElem?_cons_zero] at hz
    have XX := hur
    have HUS := Lib.hid (show us.length = T.rows.length by have := HM.out.rs.tail.tail.len; exact this)
    clear hra hra0 z0 z1 z2 zf hur hu hr hur0 hu0 hr0
    go_wp2_with fail
    refine wp_region_E (fun W => W.cell? ⟨b, 0, none⟩ = some (.slice (some ⟨ga, 0, none⟩) T.rows.length ca1) ∧ W.cell? ⟨ga, 0, none⟩ = some (.slice au0 r0.length cu0)) (by kernel_rfl) ?_
    have hdr : (w3).drew = { w3 with drawn := (w3).drawn + 1 } := rfl
    rw [← hdr]
    clear hdr
    change wpAnyE _ _ _ _ _ _ _ _ ((w3).drewN 1)
    refine tg 0 112 rfl rfl (.pointer (some ⟨b, 0, none⟩)) ⟨hz, hca0⟩ ?_
    try simp only [pa, pl]
    refine tk 1 113 rfl rfl (.slice (some ⟨ga, 0, none⟩) T.rows.length ca1) (fun W hW => by obtain ⟨hz, hca0⟩ := hW; go_simp) ⟨hz, hca0⟩ ?_
    try simp only [pa, pl]
    refine tm 2 114 rfl rfl (.int .i64 (i : Int)) ⟨hz, hca0⟩ ?_
    try simp only [pa, pl]
    refine tg 4 116 rfl rfl (.pointer (some ⟨b, 0, none⟩)) ⟨hz, hca0⟩ ?_
    try simp only [pa, pl]
    refine tk 5 117 rfl rfl (.slice (some ⟨ga, 0, none⟩) T.rows.length ca1) (fun W hW => by obtain ⟨hz, hca0⟩ := hW; go_simp) ⟨hz, hca0⟩ ?_
    try simp only [pa, pl]
    refine tg 6 118 rfl rfl (.pointer (some ⟨ga, 0, none⟩)) ⟨hz, hca0⟩ ?_
    try simp only [pa, pl]
    refine tk 7 119 rfl rfl (.slice au0 r0.length cu0) (fun W hW => by obtain ⟨hz, hca0⟩ := hW; go_simp) ⟨hz, hca0⟩ ?_
    try simp only [pa, pl]
    refine wpAnyEOne 3 (by kernel_rfl) ?_
    refine wpOpRun' (v := .slice (some ⟨w3.heap.size, 0, none⟩) 0 0) (w' := ((w3.drewN 1).alloc (.cells #[] 3))) (some 115) rfl rfl rfl (by go_simp <;> rfl) ?_
    have HM8 := HM.out.dn.newL [] (by simp)
    have hz8 := HM8.box.cell 0
    simp only [List.getElem?_toArray, List.getElem?_cons_zero] at hz8
    have hc8 := HM8.out.cellAt 0 (show 0 < T.rows.length * 1 by omega)
    rw [HU0.out] at hc8
    have hrd := owns_ints (HM8.rs.inn 2 _ r0 (by simp only [List.cons_append, List.getElem?_cons_succ]; rw [List.getElem?_append_left (by rw [HUS.out]; omega)]; exact HU0.out) (by simp only [List.cons_append, List.getElem?_cons_succ]; rw [List.getElem?_append_left hn]; exact HR0.out))
    refine ⟨.inl (⟨hz8, hc8⟩), ?_⟩
    try simp only [pa, pl]
    refine wpAnyEOne 8 (by kernel_rfl) ?_
    refine wpOpAppI 8 (some 120) rfl rfl rfl (.tmp 115) (.tmp 119) rfl (.slice (some ⟨w3.heap.size, 0, none⟩) 0 0) ([]) rfl (HM8.rs.last) (.slice au0 r0.length cu0) (r0) rfl (hrd) (by simp; omega) (HM8.sz) fun v9 w9 happ => ?_
    have hm9 := HM8.appL happ
    obtain ⟨a9, k9, he9⟩ := happ.form
    rw [List.nil_append] at he9 hm9
    subst he9
    have hz9 := hm9.box.cell 0
    simp only [List.getElem?_toArray, List.getElem?_cons_zero] at hz9
    have hc9 : w9.cell? ⟨ga, 0, none⟩ = some (.slice au0 r0.length cu0) := by
      have h2 := hm9.out.cellAt 0 (show 0 < T.rows.length * 1 by omega)
      rw [HU0.out] at h2; exact h2
    have hc9i : w9.cell? ⟨ga, i, none⟩ = some (.slice au r.length cu) := by
      have h2 := hm9.out.cellAt i (show i < T.rows.length * 1 by omega)
      rw [HU.out] at h2; exact h2
    have hf9 := hm9.out.frozenAt i
    have hl9 := (hm9.out.lt ga rfl).2
    refine ⟨.inl (⟨hz9, hc9⟩), ?_⟩
    try simp only [pa, pl]
    refine wpAnyEOne 9 (by kernel_rfl) ?_
    refine wpOpRun' (v := .pointer (some ⟨ga, i, none⟩)) (w' := w9) (some 121) rfl rfl rfl (by go_simp <;> rfl) ?_
    refine ⟨.inl (⟨hz9, hc9⟩), ?_⟩
    try simp only [pa, pl]
    refine wpAnyEOne 10 (by kernel_rfl) ?_
    refine wpOpSkip (w' := w9.setCell ⟨ga, i, none⟩ (.slice a9 r0.length k9)) 10 rfl rfl rfl (by go_simp <;> rfl) ?_
    refine ⟨.inr (allUp_of (by kernel_rfl)), ?_⟩
    try simp only [pa, pl]
    refine wpAnyE_done (by kernel_rfl) ?_ _
    have hm10 := hm9.putu (j := i) (.slice a9 r0.length k9)
    have hmv := hm10.rs.move (by simp [HUS.out]) (i + 2)
    simp only [List.set_cons_succ] at hmv
    have HM7 := Lib.hid (show MT w.heap.size w (w9.setCell ⟨ga, i, none⟩ (.slice a9 r0.length k9)) b B2 _ _ _ _ (us.set i (.slice a9 r0.length k9)) (.slice ac1 T.costs.length cc1 :: .slice ak1 T.cls.length ck1 :: us.set i (.slice a9 r0.length k9)) (T.costs :: T.cls :: T.rows.set i r0) from ⟨hm10.hb, hm10.hB2, hm10.ne, hm10.sz, hm10.bel, hm10.box, hm10.res, hm10.out, hmv⟩)
    clear hm9 hm10 hmv hz9 hc9 hc9i hf9 hl9 hz8 hc8 HM8 XX hca hca0 hfa hla hz HM happ hrd
    generalize w9.setCell ⟨ga, i, none⟩ (.slice a9 r0.length k9) = w7 at *
    have hltr := HM7.out.res.lt
    have x0 := HM7.out.res.cell 0; have x1 := HM7.out.res.cell 1; have x2 := HM7.out.res.cell 2
    have y0 := HM7.out.res.frozen 0; have y1 := HM7.out.res.frozen 1; have y2 := HM7.out.res.frozen 2
    have hltb := HM7.out.box.lt
    have z0 := HM7.out.box.cell 0; have z1 := HM7.out.box.cell 1; have z2 := HM7.out.box.cell 2
    have zf0 := HM7.out.box.frozen 0; have zf1 := HM7.out.box.frozen 1; have zf2 := HM7.out.box.frozen 2
    simp only [List.getElem?_toArray, List.getElem?_cons_zero, List.getElem?_cons_succ] at x0 x1 x2 z0 z1 z2
    go_wp2_with fail
    have hm3 := ((HM7.out.putres 0 (.slice (some ⟨ga, 0, none⟩) T.rows.length ca1)).putres 1 (.slice ac1 T.costs.length cc1)).putres 2 (.slice ak1 T.cls.length ck1)
    have e0 := hm3.res.cell 0; have e1 := hm3.res.cell 1; have e2 := hm3.res.cell 2
    simp only [List.setIfInBounds_toArray, List.set_cons_zero, List.set_cons_succ, List.getElem?_toArray, List.getElem?_cons_zero, List.getElem?_cons_succ] at e0 e1 e2
    refine bodyPost_ret (v := .agg #[.slice (some ⟨ga, 0, none⟩) T.rows.length ca1, .slice ac1 T.costs.length cc1, .slice ak1 T.cls.length ck1]) ?_ rfl ⟨?_, hm3.bel⟩
    · simp only [results, Try.results11]
      simp [go_sem, e0, e1, e2]
    · rw [HE.out]; exact ⟨_, _, _, (us.set i (.slice a9 r0.length k9)), rfl, ⟨by have := hm3.out; rwa [List.length_set], hm3.rs⟩⟩
  · have h0 := HI3.out (by omega)
    subst h0
    have HE := Lib.hid (show spoilC T by_ 0 k 4 = T by show (⟨T.rows.set 0 _, T.costs, T.cls⟩ : Tb) = T; rw [List.set_eq_of_length_le (by omega)])
    have hn1 : ¬ (0 : Int) < (T.rows.length : Int) := by omega
    have HM7 := Lib.hid HM.out
    clear z0 z1 z2 zf
    have hltr := HM.out.res.lt
    have x0 := HM.out.res.cell 0; have x1 := HM.out.res.cell 1; have x2 := HM.out.res.cell 2
    have y0 := HM.out.res.frozen 0; have y1 := HM.out.res.frozen 1; have y2 := HM.out.res.frozen 2
    have hltb := HM.out.box.lt
    have z0 := HM.out.box.cell 0; have z1 := HM.out.box.cell 1; have z2 := HM.out.box.cell 2
    have zf0 := HM.out.box.frozen 0; have zf1 := HM.out.box.frozen 1; have zf2 := HM.out.box.frozen 2
    simp only [List.getElem?_toArray, List.getElem?_cons_zero, List.getElem?_cons_succ] at x0 x1 x2 z0 z1 z2
    go_wp2_with fail
    have hm3 := ((HM7.out.putres 0 (.slice aa1 T.rows.length ca1)).putres 1 (.slice ac1 T.costs.length cc1)).putres 2 (.slice ak1 T.cls.length ck1)
    have e0 := hm3.res.cell 0; have e1 := hm3.res.cell 1; have e2 := hm3.res.cell 2
    simp only [List.setIfInBounds_toArray, List.set_cons_zero, List.set_cons_succ, List.getElem?_toArray, List.getElem?_cons_zero, List.getElem?_cons_succ] at e0 e1 e2
    refine bodyPost_ret (v := .agg #[.slice aa1 T.rows.length ca1, .slice ac1 T.costs.length cc1, .slice ak1 T.cls.length ck1]) ?_ rfl ⟨?_, hm3.bel⟩
    · simp only [results, Try.results11]
      simp [go_sem, e0, e1, e2]
    · rw [HE.out]; exact ⟨_, _, _, us, rfl, ⟨hm3.out, hm3.rs⟩⟩
end Go.Proofs.Ytmkkegigajmhkaa

namespace Go.Proofs.Ytmkkegigajmhkaa
open Go.RowKit Go.Maps

set_option maxRecDepth 100000 in
set_option maxHeartbeats 16000000 in
theorem spoil6_any (va vc vk : Value) (T : Tb) (how by_ : Int) (w : World) (h : TbR w va vc vk T) (hs : SmT T) (hb1 : -9223372036854775808 ≤ by_) (hb2 : by_ ≤ 9223372036854775807) (hh1 : -9223372036854775808 ≤ how) (hh2 : how ≤ 9223372036854775807) (hc : around how 10 = 6) :
    Calls Try.prog 11 #[.agg #[va, vc, vk], .int .i64 how, .int .i64 by_] w fun e w' => CopyOut w.heap.size (spoilC T by_ (spI T by_) (spK T by_) 6) e w' ∧ Below w.heap.size w w' := by
  obtain ⟨aa, ca, rfl⟩ := h.rows.form
  obtain ⟨ac, cc, rfl⟩ := h.costs.form
  obtain ⟨ak, ck, rfl⟩ := h.cls.form
  have HBX := Lib.hid ((alloc_below w (.cells #[.slice aa T.rows.length ca, .slice ac T.costs.length cc, .slice ak T.cls.length ck] 25)).alloc (by rw [World.size_alloc]; omega) (.cells #[.slice none 0 0, .slice none 0 0, .slice none 0 0] 25))
  have HTB := h.below HBX.out
  have HT2 := Lib.hid (show Boxs ((w.alloc (.cells #[.slice aa T.rows.length ca, .slice ac T.costs.length cc, .slice ak T.cls.length ck] 25)).alloc (.cells #[.slice none 0 0, .slice none 0 0, .slice none 0 0] 25)) (w.heap.size + 1) 25 #[.slice none 0 0, .slice none 0 0, .slice none 0 0] from by have := Boxs.new (w.alloc (.cells #[.slice aa T.rows.length ca, .slice ac T.costs.length cc, .slice ak T.cls.length ck] 25)) 25 #[.slice none 0 0, .slice none 0 0, .slice none 0 0]; rwa [World.size_alloc] at this)
  have CP := copy_any (.slice aa T.rows.length ca) (.slice ac T.costs.length cc) (.slice ak T.cls.length ck) T ((w.alloc (.cells #[.slice aa T.rows.length ca, .slice ac T.costs.length cc, .slice ak T.cls.length ck] 25)).alloc (.cells #[.slice none 0 0, .slice none 0 0, .slice none 0 0] 25)) HTB ⟨hs.r, hs.c, hs.k, hs.e⟩
  have HS := Lib.hid hs
  have hr1000 := hs.r; have hc1000 := hs.c; have hk1000 := hs.k; have hrk := hs.rk
  obtain ⟨hi1, hi2, hi3⟩ := spI_bd T by_
  obtain ⟨hk1, hk2, hk3⟩ := spK_bd T by_
  obtain ⟨i, hi⟩ : ∃ i, spI T by_ = i := ⟨_, rfl⟩
  obtain ⟨k, hk⟩ : ∃ k, spK T by_ = k := ⟨_, rfl⟩
  rw [hi] at hi1 hi2 hi3 ⊢
  rw [hk] at hk1 hk2 hk3 ⊢
  have HI1 := Lib.hid hi1; have HK1 := Lib.hid hk1; have HI2 := Lib.hid hi2; have HK2 := Lib.hid hk2; have HI3 := Lib.hid hi3; have HK3 := Lib.hid hk3; have HC := Lib.hid hc
  have ht8 := tdiv8 by_ hb1 hb2
  have HT8 := Lib.hid ht8
  clear h HTB hs hi hk hi1 hk1 hi2 hk2 hi3 hk3 hc ht8
  go_enter Try.func11, Try.ntmps11
  go_wp2_with fail
  obtain ⟨B2, hB2⟩ : ∃ B, w.heap.size + 1 = B := ⟨_, rfl⟩
  have hwB2 : w.heap.size ≤ B2 := by omega
  rw [hB2] at HT2 ⊢
  generalize (w.alloc (.cells #[.slice aa T.rows.length ca, .slice ac T.costs.length cc, .slice ak T.cls.length ck] 25)).alloc (.cells #[.slice none 0 0, .slice none 0 0, .slice none 0 0] 25) = w1 at *
  refine CP.mono ?_
  rintro e w2 ⟨⟨ua, uc, uk, us, rfl, hown⟩, hb9⟩
  have hs1 : w.heap.size ≤ w1.heap.size := HBX.out.size
  have HOT := Lib.hid (hown.le hs1)
  have HB2 := Lib.hid (HBX.out.trans (hb9.mono hs1))
  have HT2 := Lib.hid (Boxs.below HT2.out hb9)
  obtain ⟨aa1, ca1, rfl⟩ := owns_form hown.out
  obtain ⟨ac1, cc1, rfl⟩ := owns_form (hown.rs.inn 0 _ _ rfl rfl)
  obtain ⟨ak1, ck1, rfl⟩ := owns_form (hown.rs.inn 1 _ _ rfl rfl)
  clear hown hb9 CP HBX hs1
  obtain ⟨b, hb⟩ : ∃ b, w2.heap.size = b := ⟨_, rfl⟩
  have hs2 : w.heap.size ≤ w2.heap.size := HB2.out.size
  have hltB2 := HT2.out.lt
  have HM := Lib.hid (MT.of (HOT.out.below (alloc_below w2 (.cells #[.slice aa1 T.rows.length ca1, .slice ac1 T.costs.length cc1, .slice ak1 T.cls.length ck1] 25))) (Nat.le_refl _) (HB2.out.alloc hs2 (.cells #[.slice aa1 T.rows.length ca1, .slice ac1 T.costs.length cc1, .slice ak1 T.cls.length ck1] 25)) hs2 hwB2 (Nat.ne_of_gt hltB2) (Boxs.new w2 25 #[.slice aa1 T.rows.length ca1, .slice ac1 T.costs.length cc1, .slice ak1 T.cls.length ck1]) (Boxs.below HT2.out (alloc_below w2 _)))
  rw [hb] at HM
  clear HB2 HT2 HOT hltB2 hs2 hB2
  have z0 := HM.out.cell 0; have z1 := HM.out.cell 1; have z2 := HM.out.cell 2
  have zf := HM.out.box.frozen 0
  simp only [List.getElem?_toArray, List.getElem?_cons_zero, List.getElem?_cons_succ] at z0 z1 z2
  go_wp2_with fail
  refine (around_any by_ _ _ hb1 hb2 (by omega) (by omega)).mono ?_
  rintro e w4 ⟨rfl, rfl⟩
  rw [HI1.out]
  go_wp2_with fail
  refine (around_any (by_.tdiv 8) _ _ HT8.out.1 HT8.out.2 (by omega) (by omega)).mono ?_
  rintro e w4 ⟨rfl, rfl⟩
  rw [HK1.out]
  go_wp2_with fail
  refine (around_any how _ _ hh1 hh2 (by omega) (by omega)).mono ?_
  rintro e w4 ⟨rfl, rfl⟩
  rw [HC.out]
  generalize w2.alloc (.cells #[.slice aa1 T.rows.length ca1, .slice ac1 T.costs.length cc1, .slice ak1 T.cls.length ck1] 25) = w3 at *
  clear hb HI1 HK1 HC HT8 hh1 hh2 HI2 HI3 HK2 HK3
  have HE := Lib.hid (show spoilC T by_ i k 6 = ⟨lsF (fun j => rowAt T j ++ [around (by_.tdiv ((j : Int) + 1)) 2]) T.rows.length, T.costs ++ [1], T.cls⟩ from rfl)
  obtain ⟨f, hf⟩ : ∃ f : Nat → List Int, (fun j : Nat => rowAt T j ++ [around (by_.tdiv ((j : Int) + 1)) 2]) = f := ⟨_, rfl⟩
  rw [hf] at HE
  have HF := Lib.hid (fun j : Nat => (congrFun hf j).symm)
  have hne := HM.out.ne
  clear z0 z1 z2 zf hf
  have hltr := HM.out.res.lt
  have x0 := HM.out.res.cell 0; have x1 := HM.out.res.cell 1; have x2 := HM.out.res.cell 2
  have y0 := HM.out.res.frozen 0; have y1 := HM.out.res.frozen 1; have y2 := HM.out.res.frozen 2
  have hltb := HM.out.box.lt
  have z0 := HM.out.box.cell 0; have z1 := HM.out.box.cell 1; have z2 := HM.out.box.cell 2
  have zf0 := HM.out.box.frozen 0; have zf1 := HM.out.box.frozen 1; have zf2 := HM.out.box.frozen 2
  simp only [List.getElem?_toArray, List.getElem?_cons_zero, List.getElem?_cons_succ] at x0 x1 x2 z0 z1 z2
  go_wp2_with (at_builtin; refine wpList_appI (base := w.heap.size) rfl _ _ rfl (.slice ac1 T.costs.length cc1) (T.costs) rfl ((HM.out.alloc (.cells #[.int .i64 1] 3)).row (k := 0) rfl rfl) (.slice (some ⟨w3.heap.size, 0, none⟩) 1 1) [1] rfl (Rd_fresh w3 3 #[.int .i64 1] 1 rfl (by omega)) (by simp; omega) (by have := HM.out.sz; simp; omega) ?_; intro v6 w6 happ; have hm6 := (HM.out.alloc (.cells #[.int .i64 1] 3)).appI 0 rfl happ; simp only [List.set_cons_zero] at hm6; obtain ⟨a6, k6, rfl⟩ := happ.form; rw [show ((T.costs) ++ [1] : List Int).length = (T.costs).length + 1 by simp] at hm6; have HM6 := Lib.hid hm6; clear z0 z1 z2 zf0 zf1 zf2 hltb hltr x0 x1 x2 y0 y1 y2; have hltr := hm6.res.lt; have x0 := hm6.res.cell 0; have x1 := hm6.res.cell 1; have x2 := hm6.res.cell 2; have y0 := hm6.res.frozen 0; have y1 := hm6.res.frozen 1; have y2 := hm6.res.frozen 2; have hltb := hm6.box.lt; have z0 := hm6.box.cell 0; have z1 := hm6.box.cell 1; have z2 := hm6.box.cell 2; have zf0 := hm6.box.frozen 0; have zf1 := hm6.box.frozen 1; have zf2 := hm6.box.frozen 2; simp only [List.getElem?_toArray, List.getElem?_cons_zero, List.getElem?_cons_succ] at x0 x1 x2 z0 z1 z2; clear hm6 happ)
  have HM7 := Lib.hid (HM6.out.put 1 (.slice a6 (T.costs.length + 1) k6))
  clear HM6 z0 z1 z2 zf0 zf1 zf2 hltb hltr x0 x1 x2 y0 y1 y2 HM
  generalize w6.setCell ⟨b, 1, none⟩ (.slice a6 (T.costs.length + 1) k6) = w7 at *
  go_loopw [11] (fun jv wr => ∃ (j : Nat) (us' : List Value), j ≤ T.rows.length ∧ jv = .int .i64 j ∧ MT w.heap.size w wr b B2 #[.slice aa1 T.rows.length ca1, .slice a6 (T.costs.length + 1) k6, .slice ak1 T.cls.length ck1] #[.slice none 0 0, .slice none 0 0, .slice none 0 0] (.slice aa1 T.rows.length ca1) T.rows.length us' (.slice a6 (T.costs.length + 1) k6 :: .slice ak1 T.cls.length ck1 :: us') ((T.costs ++ [1]) :: T.cls :: (lsF f j ++ T.rows.drop j))) (fun jv _ => T.rows.length - (intOf jv).toNat)
  case atStart => exact ⟨0, us, Nat.zero_le _, rfl, HM7.out⟩
  case round =>
    clear HM7
    obtain ⟨j, us', hj, rfl, hm⟩ := hrel
    have HM := Lib.hid hm
    have hj0 : (0 : Int) ≤ (j : Int) := Int.natCast_nonneg _
    clear hm
    by_cases hlt : j < T.rows.length
    · have hj1 : (j : Int) < (T.rows.length : Int) := by omega
      obtain ⟨r, hr⟩ := elem_at hlt
      have hra := rowAt_of hr
      have hrj : (lsF f j ++ T.rows.drop j)[j]? = some r := by
        rw [List.getElem?_append_right (by rw [lsF_len]; omega), lsF_len, List.getElem?_drop]
        simpa using hr
      obtain ⟨u, hu, hur⟩ := HM.out.rs.tail.tail.row hrj
      obtain ⟨au, cu, rfl⟩ := owns_form hur
      have hr1 := HS.out.e r (List.mem_of_getElem? hr)
      obtain ⟨ga, ca2, hva⟩ := ownsRow_some HM.out.out (by omega)
      cases hva
      have hca := HM.out.out.cellAt j (show j < T.rows.length * 1 by omega)
      rw [hu] at hca
      have hset : (lsF f j ++ T.rows.drop j).set j (r ++ [around (by_.tdiv ((j : Int) + 1)) 2]) = lsF f (j + 1) ++ T.rows.drop (j + 1) := by
        rw [List.set_append_right _ _ (by rw [lsF_len]; omega), lsF_len, Nat.sub_self, lsF_succ, HF.out j, hra, List.append_assoc]
        congr 1
        rw [List.drop_eq_getElem_cons hlt]
        rfl
      have HSET := Lib.hid hset
      have HU := Lib.hid hu; have HR := Lib.hid hrj
      have htb := tdiv_bd by_ ((j : Int) + 1) hb1 hb2 (by omega)
      have HTB := Lib.hid htb
      have hwq := Lib.hid (show IntKind.i64.wrap (by_.tdiv ((j : Int) + 1)) = by_.tdiv ((j : Int) + 1) from IntWalk.i64_in _ htb)
      have hws := Lib.hid (show IntKind.i64.wrap ((j : Int) + 1) = (j : Int) + 1 from IntWalk.i64_in _ (by omega))
      have hz := HM.out.box.cell 0
      simp only [List.getElem?_toArray, List.getElem?_cons_zero] at hz
      have XX := hur
      clear hra hur hu hr hrj hset htb
      go_wp2_with fail
      refine wp_region_E (fun W => W.cell? ⟨b, 0, none⟩ = some (.slice (some ⟨ga, 0, none⟩) T.rows.length ca1) ∧ W.cell? ⟨ga, j, none⟩ = some (.slice au r.length cu)) (by kernel_rfl) ?_
      have hdr : (wr).drew = { wr with drawn := (wr).drawn + 1 } := rfl
      rw [← hdr]
      clear hdr
      change wpAnyE _ _ _ _ _ _ _ _ ((wr).drewN 1)
      refine tg 0 141 rfl rfl (.pointer (some ⟨b, 0, none⟩)) ⟨hz, hca⟩ ?_
      try simp only [pa, pl]
      refine tk 1 142 rfl rfl (.slice (some ⟨ga, 0, none⟩) T.rows.length ca1) (fun W hW => by obtain ⟨hz, hca⟩ := hW; go_simp) ⟨hz, hca⟩ ?_
      try simp only [pa, pl]
      refine tm 2 143 rfl rfl (.int .i64 (j : Int)) ⟨hz, hca⟩ ?_
      try simp only [pa, pl]
      refine tg 3 144 rfl rfl (.pointer (some ⟨b, 0, none⟩)) ⟨hz, hca⟩ ?_
      try simp only [pa, pl]
      refine tk 4 145 rfl rfl (.slice (some ⟨ga, 0, none⟩) T.rows.length ca1) (fun W hW => by obtain ⟨hz, hca⟩ := hW; go_simp) ⟨hz, hca⟩ ?_
      try simp only [pa, pl]
      refine tm 5 146 rfl rfl (.int .i64 (j : Int)) ⟨hz, hca⟩ ?_
      try simp only [pa, pl]
      refine tg 6 147 rfl rfl (.pointer (some ⟨ga, j, none⟩)) ⟨hz, hca⟩ ?_
      try simp only [pa, pl]
      refine tk 7 148 rfl rfl (.slice au r.length cu) (fun W hW => by obtain ⟨hz, hca⟩ := hW; go_simp) ⟨hz, hca⟩ ?_
      try simp only [pa, pl]
      refine tm 8 149 rfl rfl (.int .i64 by_) ⟨hz, hca⟩ ?_
      try simp only [pa, pl]
      refine tm 9 150 rfl rfl (.int .i64 (j : Int)) ⟨hz, hca⟩ ?_
      try simp only [pa, pl]
      refine tk 10 151 rfl rfl (.int .i64 ((j : Int) + 1)) (fun _ _ => by go_simp <;> exact hws.out) ⟨hz, hca⟩ ?_
      try simp only [pa, pl]
      refine tk 11 152 rfl rfl (.int .i64 (by_.tdiv ((j : Int) + 1))) (fun _ _ => by go_simp <;> rw [if_neg (show ¬ (j : Int) + 1 = 0 by omega), hwq.out]) ⟨hz, hca⟩ ?_
      try simp only [pa, pl]
      refine wpAnyEOne 12 (by kernel_rfl) ?_
      refine wpOpCall (some 153) 22 #[.int .i64 (by_.tdiv ((j : Int) + 1)), .int .i64 2] rfl rfl rfl (by go_simp) (around_any (by_.tdiv ((j : Int) + 1)) 2 (wr.drewN 1) HTB.out.1 HTB.out.2 (by omega) (by omega)) ?_
      rintro e w8 ⟨rfl, rfl⟩
      refine ⟨_, rfl, ?_⟩
      refine ⟨.inl (⟨hz, hca⟩), ?_⟩
      try simp only [pa, pl]
      refine wpAnyEOne 13 (by kernel_rfl) ?_
      refine wpOpRun' (v := .slice (some ⟨wr.heap.size, 0, none⟩) 1 1) (w' := ((wr.drewN 1).alloc (.cells #[.int .i64 (around (by_.tdiv ((j : Int) + 1)) 2)] 3))) (some 154) rfl rfl rfl (by go_simp <;> rfl) ?_
      have HM8 := HM.out.dn.alloc (.cells #[.int .i64 (around (by_.tdiv ((j : Int) + 1)) 2)] 3)
      have hz8 := HM8.box.cell 0
      simp only [List.getElem?_toArray, List.getElem?_cons_zero] at hz8
      have hc8 := HM8.out.cellAt j (show j < T.rows.length * 1 by omega)
      rw [HU.out] at hc8
      refine ⟨.inl (⟨hz8, hc8⟩), ?_⟩
      try simp only [pa, pl]
      refine wpAnyEOne 14 (by kernel_rfl) ?_
      refine wpOpAppI 14 (some 155) rfl rfl rfl (.tmp 148) (.tmp 154) rfl (.slice au r.length cu) (r) rfl (HM8.rs.inn (j + 2) _ _ (by simpa using HU.out) (by simpa using HR.out)) (.slice (some ⟨wr.heap.size, 0, none⟩) 1 1) ([around (by_.tdiv ((j : Int) + 1)) 2]) rfl (Rd_fresh (wr.drewN 1) 3 #[.int .i64 (around (by_.tdiv ((j : Int) + 1)) 2)] 1 rfl (by omega)) (by simp; omega) (HM8.sz) fun v9 w9 happ => ?_
      have hm9 := HM8.appI (j + 2) (by simpa using HU.out) happ
      simp only [List.set_cons_succ] at hm9
      rw [HSET.out] at hm9
      obtain ⟨a9, k9, he9⟩ := happ.form
      rw [show (r ++ [around (by_.tdiv ((j : Int) + 1)) 2] : List Int).length = r.length + 1 by simp] at he9
      subst he9
      have hz9 := hm9.box.cell 0
      simp only [List.getElem?_toArray, List.getElem?_cons_zero] at hz9
      have hc9 : w9.cell? ⟨ga, j, none⟩ = some (.slice au r.length cu) := by
        have h1 := owns_app HM8.out (HM8.rs.inn (j + 2) _ r (by simpa using HU.out) (by simpa using HR.out)) happ (by decide)
        have h2 := h1.cellAt j (show j < T.rows.length * 1 by omega)
        rw [HU.out] at h2; exact h2
      have hf9 := hm9.out.frozenAt j
      have hl9 := (hm9.out.lt ga rfl).2
      refine ⟨.inl (⟨hz9, hc9⟩), ?_⟩
      try simp only [pa, pl]
      refine wpAnyEOne 15 (by kernel_rfl) ?_
      refine wpOpRun' (v := .pointer (some ⟨ga, j, none⟩)) (w' := w9) (some 156) rfl rfl rfl (by go_simp <;> rfl) ?_
      refine ⟨.inl (⟨hz9, hc9⟩), ?_⟩
      try simp only [pa, pl]
      refine wpAnyEOne 16 (by kernel_rfl) ?_
      refine wpOpSkip (w' := w9.setCell ⟨ga, j, none⟩ (.slice a9 (r.length + 1) k9)) 16 rfl rfl rfl (by go_simp <;> rfl) ?_
      refine ⟨.inr (allUp_of (by kernel_rfl)), ?_⟩
      try simp only [pa, pl]
      refine wpAnyE_done (by kernel_rfl) ?_ _
      have HM7 := Lib.hid (hm9.putu (j := j) (.slice a9 (r.length + 1) k9))
      clear hm9 hz9 hc9 hf9 hl9 hz8 hc8 HM8 XX hca hz HM happ HSET HU HR HTB hwq hws
      go_wp2_with fail
      go_roundw
      case rel => exact ⟨j + 1, _, by omega, by go_num, HM7.out⟩
      case measure => simp [intOf]; omega
    · obtain rfl : j = T.rows.length := by omega
      have hj1 : ¬ (T.rows.length : Int) < (T.rows.length : Int) := by omega
      have hd : lsF f T.rows.length ++ T.rows.drop T.rows.length = lsF f T.rows.length := by rw [List.drop_length, List.append_nil]
      rw [hd] at HM
      have HM7 := HM
      clear hd
      have hltr := HM.out.res.lt
      have x0 := HM.out.res.cell 0; have x1 := HM.out.res.cell 1; have x2 := HM.out.res.cell 2
      have y0 := HM.out.res.frozen 0; have y1 := HM.out.res.frozen 1; have y2 := HM.out.res.frozen 2
      have hltb := HM.out.box.lt
      have z0 := HM.out.box.cell 0; have z1 := HM.out.box.cell 1; have z2 := HM.out.box.cell 2
      have zf0 := HM.out.box.frozen 0; have zf1 := HM.out.box.frozen 1; have zf2 := HM.out.box.frozen 2
      simp only [List.getElem?_toArray, List.getElem?_cons_zero, List.getElem?_cons_succ] at x0 x1 x2 z0 z1 z2
      go_wp2_with fail
      have hm3 := ((HM7.out.putres 0 (.slice aa1 T.rows.length ca1)).putres 1 (.slice a6 (T.costs.length + 1) k6)).putres 2 (.slice ak1 T.cls.length ck1)
      have e0 := hm3.res.cell 0; have e1 := hm3.res.cell 1; have e2 := hm3.res.cell 2
      simp only [List.setIfInBounds_toArray, List.set_cons_zero, List.set_cons_succ, List.getElem?_toArray, List.getElem?_cons_zero, List.getElem?_cons_succ] at e0 e1 e2
      refine bodyPost_ret (v := .agg #[.slice aa1 T.rows.length ca1, .slice a6 (T.costs.length + 1) k6, .slice ak1 T.cls.length ck1]) ?_ rfl ⟨?_, hm3.bel⟩
      · simp only [results, Try.results11]
        simp [go_sem, e0, e1, e2]
      · rw [HE.out]; exact ⟨_, _, _, us', rfl, ⟨by have := hm3.out; rwa [lsF_len], hm3.rs⟩⟩
end Go.Proofs.Ytmkkegigajmhkaa

namespace Go.Proofs.Ytmkkegigajmhkaa
open Go.RowKit Go.Maps

set_option maxRecDepth 100000 in
set_option maxHeartbeats 16000000 in
theorem spoil8_any (va vc vk : Value) (T : Tb) (how by_ : Int) (w : World) (h : TbR w va vc vk T) (hs : SmT T) (hb1 : -9223372036854775808 ≤ by_) (hb2 : by_ ≤ 9223372036854775807) (hh1 : -9223372036854775808 ≤ how) (hh2 : how ≤ 9223372036854775807) (hc : around how 10 = 8) :
    Calls Try.prog 11 #[.agg #[va, vc, vk], .int .i64 how, .int .i64 by_] w fun e w' => CopyOut w.heap.size (spoilC T by_ (spI T by_) (spK T by_) 8) e w' ∧ Below w.heap.size w w' := by
  obtain ⟨aa, ca, rfl⟩ := h.rows.form
  obtain ⟨ac, cc, rfl⟩ := h.costs.form
  obtain ⟨ak, ck, rfl⟩ := h.cls.form
  have HBX := Lib.hid ((alloc_below w (.cells #[.slice aa T.rows.length ca, .slice ac T.costs.length cc, .slice ak T.cls.length ck] 25)).alloc (by rw [World.size_alloc]; omega) (.cells #[.slice none 0 0, .slice none 0 0, .slice none 0 0] 25))
  have HTB := h.below HBX.out
  have HT2 := Lib.hid (show Boxs ((w.alloc (.cells #[.slice aa T.rows.length ca, .slice ac T.costs.length cc, .slice ak T.cls.length ck] 25)).alloc (.cells #[.slice none 0 0, .slice none 0 0, .slice none 0 0] 25)) (w.heap.size + 1) 25 #[.slice none 0 0, .slice none 0 0, .slice none 0 0] from by have := Boxs.new (w.alloc (.cells #[.slice aa T.rows.length ca, .slice ac T.costs.length cc, .slice ak T.cls.length ck] 25)) 25 #[.slice none 0 0, .slice none 0 0, .slice none 0 0]; rwa [World.size_alloc] at this)
  have CP := copy_any (.slice aa T.rows.length ca) (.slice ac T.costs.length cc) (.slice ak T.cls.length ck) T ((w.alloc (.cells #[.slice aa T.rows.length ca, .slice ac T.costs.length cc, .slice ak T.cls.length ck] 25)).alloc (.cells #[.slice none 0 0, .slice none 0 0, .slice none 0 0] 25)) HTB ⟨hs.r, hs.c, hs.k, hs.e⟩
  have HS := Lib.hid hs
  have hr1000 := hs.r; have hc1000 := hs.c; have hk1000 := hs.k; have hrk := hs.rk
  obtain ⟨hi1, hi2, hi3⟩ := spI_bd T by_
  obtain ⟨hk1, hk2, hk3⟩ := spK_bd T by_
  obtain ⟨i, hi⟩ : ∃ i, spI T by_ = i := ⟨_, rfl⟩
  obtain ⟨k, hk⟩ : ∃ k, spK T by_ = k := ⟨_, rfl⟩
  rw [hi] at hi1 hi2 hi3 ⊢
  rw [hk] at hk1 hk2 hk3 ⊢
  have HI1 := Lib.hid hi1; have HK1 := Lib.hid hk1; have HI2 := Lib.hid hi2; have HK2 := Lib.hid hk2; have HI3 := Lib.hid hi3; have HK3 := Lib.hid hk3; have HC := Lib.hid hc
  have ht8 := tdiv8 by_ hb1 hb2
  have HT8 := Lib.hid ht8
  clear h HTB hs hi hk hi1 hk1 hi2 hk2 hi3 hk3 hc ht8
  go_enter Try.func11, Try.ntmps11
  go_wp2_with fail
  obtain ⟨B2, hB2⟩ : ∃ B, w.heap.size + 1 = B := ⟨_, rfl⟩
  have hwB2 : w.heap.size ≤ B2 := by omega
  rw [hB2] at HT2 ⊢
  generalize (w.alloc (.cells #[.slice aa T.rows.length ca, .slice ac T.costs.length cc, .slice ak T.cls.length ck] 25)).alloc (.cells #[.slice none 0 0, .slice none 0 0, .slice none 0 0] 25) = w1 at *
  refine CP.mono ?_
  rintro e w2 ⟨⟨ua, uc, uk, us, rfl, hown⟩, hb9⟩
  have hs1 : w.heap.size ≤ w1.heap.size := HBX.out.size
  have HOT := Lib.hid (hown.le hs1)
  have HB2 := Lib.hid (HBX.out.trans (hb9.mono hs1))
  have HT2 := Lib.hid (Boxs.below HT2.out hb9)
  obtain ⟨aa1, ca1, rfl⟩ := owns_form hown.out
  obtain ⟨ac1, cc1, rfl⟩ := owns_form (hown.rs.inn 0 _ _ rfl rfl)
  obtain ⟨ak1, ck1, rfl⟩ := owns_form (hown.rs.inn 1 _ _ rfl rfl)
  clear hown hb9 CP HBX hs1
  obtain ⟨b, hb⟩ : ∃ b, w2.heap.size = b := ⟨_, rfl⟩
  have hs2 : w.heap.size ≤ w2.heap.size := HB2.out.size
  have hltB2 := HT2.out.lt
  have HM := Lib.hid (MT.of (HOT.out.below (alloc_below w2 (.cells #[.slice aa1 T.rows.length ca1, .slice ac1 T.costs.length cc1, .slice ak1 T.cls.length ck1] 25))) (Nat.le_refl _) (HB2.out.alloc hs2 (.cells #[.slice aa1 T.rows.length ca1, .slice ac1 T.costs.length cc1, .slice ak1 T.cls.length ck1] 25)) hs2 hwB2 (Nat.ne_of_gt hltB2) (Boxs.new w2 25 #[.slice aa1 T.rows.length ca1, .slice ac1 T.costs.length cc1, .slice ak1 T.cls.length ck1]) (Boxs.below HT2.out (alloc_below w2 _)))
  rw [hb] at HM
  clear HB2 HT2 HOT hltB2 hs2 hB2
  have z0 := HM.out.cell 0; have z1 := HM.out.cell 1; have z2 := HM.out.cell 2
  have zf := HM.out.box.frozen 0
  simp only [List.getElem?_toArray, List.getElem?_cons_zero, List.getElem?_cons_succ] at z0 z1 z2
  go_wp2_with fail
  refine (around_any by_ _ _ hb1 hb2 (by omega) (by omega)).mono ?_
  rintro e w4 ⟨rfl, rfl⟩
  rw [HI1.out]
  go_wp2_with fail
  refine (around_any (by_.tdiv 8) _ _ HT8.out.1 HT8.out.2 (by omega) (by omega)).mono ?_
  rintro e w4 ⟨rfl, rfl⟩
  rw [HK1.out]
  go_wp2_with fail
  refine (around_any how _ _ hh1 hh2 (by omega) (by omega)).mono ?_
  rintro e w4 ⟨rfl, rfl⟩
  rw [HC.out]
  generalize w2.alloc (.cells #[.slice aa1 T.rows.length ca1, .slice ac1 T.costs.length cc1, .slice ak1 T.cls.length ck1] 25) = w3 at *
  clear hb HI1 HK1 HC HT8 hh1 hh2
  have HE := Lib.hid (show spoilC T by_ i k 8 = ⟨[], T.costs, []⟩ from rfl)
  have hne := HM.out.ne
  clear z0 z1 z2 zf
  have hltr := HM.out.res.lt
  have x0 := HM.out.res.cell 0; have x1 := HM.out.res.cell 1; have x2 := HM.out.res.cell 2
  have y0 := HM.out.res.frozen 0; have y1 := HM.out.res.frozen 1; have y2 := HM.out.res.frozen 2
  have hltb := HM.out.box.lt
  have z0 := HM.out.box.cell 0; have z1 := HM.out.box.cell 1; have z2 := HM.out.box.cell 2
  have zf0 := HM.out.box.frozen 0; have zf1 := HM.out.box.frozen 1; have zf2 := HM.out.box.frozen 2
  simp only [List.getElem?_toArray, List.getElem?_cons_zero, List.getElem?_cons_succ] at x0 x1 x2 z0 z1 z2
  go_wp2_with fail
  have HM7 := Lib.hid ((HM.out.put 0 (.slice none 0 0)).put 2 (.slice none 0 0))
  have hm3 := ((HM7.out.putres 0 (.slice none 0 0)).putres 1 (.slice ac1 T.costs.length cc1)).putres 2 (.slice none 0 0)
  have e0 := hm3.res.cell 0; have e1 := hm3.res.cell 1; have e2 := hm3.res.cell 2
  simp only [List.setIfInBounds_toArray, List.set_cons_zero, List.set_cons_succ, List.getElem?_toArray, List.getElem?_cons_zero, List.getElem?_cons_succ] at e0 e1 e2
  refine bodyPost_ret (v := .agg #[.slice none 0 0, .slice ac1 T.costs.length cc1, .slice none 0 0]) ?_ rfl ⟨?_, hm3.bel⟩
  · simp only [results, Try.results11]
    simp [go_sem, e0, e1, e2]
  · rw [HE.out]; exact ⟨_, _, _, [], rfl, ⟨World.ownsRow_nil _ _ _ _, (OwnRs.one (hm3.rs.inn 0 _ _ rfl rfl)).snoc (World.ownsRow_nil _ _ _ _) (fun k u b h1 h2 h3 => by cases h3)⟩⟩
end Go.Proofs.Ytmkkegigajmhkaa

namespace Go.Proofs.Ytmkkegigajmhkaa
open Go.RowKit Go.Maps

/-- a list in the place of the first row -/
theorem OwnRs.newHead {N : Nat} {W : World} {u : Value} {us : List Value} {rows : List (List Int)} {r : List Int} (h : OwnRs N W (u :: us) (r :: rows)) (hN : N ≤ W.heap.size) (xs : List Int) (hx : xs.length ≤ 1000000) (cs : Array Value) (hc : cs.toList = ints xs) :
    OwnRs N (W.alloc (.cells cs 3)) (.slice (some ⟨W.heap.size, 0, none⟩) xs.length xs.length :: us) (xs :: rows) := by
  have := h.set (k := 0) (H := W.heap.size) (W' := W.alloc (.cells cs 3)) (u' := .slice (some ⟨W.heap.size, 0, none⟩) xs.length xs.length) (r' := xs) rfl (owns_block (size := 1) (n := xs.length) (Boxs.new W 3 _) hN hc (by rw [ints_len]; omega) hx) (grown_alloc _ _ _) (.inr rfl) (Nat.le_refl _)
  simpa using this
theorem MT.newHead {n0 : Nat} {w W : World} {b B2 n : Nat} {cs rs : Array Value} {va : Value} {us vs : List Value} {rows : List (List Int)} {u : Value} {r : List Int} (h : MT n0 w W b B2 cs rs va n us (u :: vs) (r :: rows)) (xs : List Int) (hx : xs.length ≤ 1000000) (ds : Array Value) (hd : ds.toList = ints xs) :
    MT n0 w (W.alloc (.cells ds 3)) b B2 cs rs va n us (.slice (some ⟨W.heap.size, 0, none⟩) xs.length xs.length :: vs) (xs :: rows) :=
  let h' := h.alloc (.cells ds 3)
  ⟨h.hb, h.hB2, h.ne, h'.sz, h'.bel, h'.box, h'.res, h'.out, h.rs.newHead h.sz xs hx ds hd⟩
theorem makeZ (n : Nat) (hn : n ≤ 1000) (w : World) : (Instr.makeSlice 22 (.int .i64 n) (.int .i64 n)).run Try.prog w = .ok (.slice (some ⟨w.heap.size, 0, none⟩) n n) (w.alloc (.cells (madeCells #[.int .i64 0] n) 3)) := by
  exact run_make_row' 22 3 (.int .i64 0) 8 Try.underlying22 Try.info3 rfl .i64 .i64 n (by omega) (by omega) w
set_option maxRecDepth 100000 in
set_option maxHeartbeats 16000000 in
theorem spoil9_any (va vc vk : Value) (T : Tb) (how by_ : Int) (w : World) (h : TbR w va vc vk T) (hs : SmT T) (hb1 : -9223372036854775808 ≤ by_) (hb2 : by_ ≤ 9223372036854775807) (hh1 : -9223372036854775808 ≤ how) (hh2 : how ≤ 9223372036854775807) (hc : around how 10 = 9) :
    Calls Try.prog 11 #[.agg #[va, vc, vk], .int .i64 how, .int .i64 by_] w fun e w' => CopyOut w.heap.size (spoilC T by_ (spI T by_) (spK T by_) 9) e w' ∧ Below w.heap.size w w' := by
  obtain ⟨aa, ca, rfl⟩ := h.rows.form
  obtain ⟨ac, cc, rfl⟩ := h.costs.form
  obtain ⟨ak, ck, rfl⟩ := h.cls.form
  have HBX := Lib.hid ((alloc_below w (.cells #[.slice aa T.rows.length ca, .slice ac T.costs.length cc, .slice ak T.cls.length ck] 25)).alloc (by rw [World.size_alloc]; omega) (.cells #[.slice none 0 0, .slice none 0 0, .slice none 0 0] 25))
  have HTB := h.below HBX.out
  have HT2 := Lib.hid (show Boxs ((w.alloc (.cells #[.slice aa T.rows.length ca, .slice ac T.costs.length cc, .slice ak T.cls.length ck] 25)).alloc (.cells #[.slice none 0 0, .slice none 0 0, .slice none 0 0] 25)) (w.heap.size + 1) 25 #[.slice none 0 0, .slice none 0 0, .slice none 0 0] from by have := Boxs.new (w.alloc (.cells #[.slice aa T.rows.length ca, .slice ac T.costs.length cc, .slice ak T.cls.length ck] 25)) 25 #[.slice none 0 0, .slice none 0 0, .slice none 0 0]; rwa [World.size_alloc] at this)
  have CP := copy_any (.slice aa T.rows.length ca) (.slice ac T.costs.length cc) (.slice ak T.cls.length ck) T ((w.alloc (.cells #[.slice aa T.rows.length ca, .slice ac T.costs.length cc, .slice ak T.cls.length ck] 25)).alloc (.cells #[.slice none 0 0, .slice none 0 0, .slice none 0 0] 25)) HTB ⟨hs.r, hs.c, hs.k, hs.e⟩
  have HS := Lib.hid hs
  have hr1000 := hs.r; have hc1000 := hs.c; have hk1000 := hs.k; have hrk := hs.rk
  obtain ⟨hi1, hi2, hi3⟩ := spI_bd T by_
  obtain ⟨hk1, hk2, hk3⟩ := spK_bd T by_
  obtain ⟨i, hi⟩ : ∃ i, spI T by_ = i := ⟨_, rfl⟩
  obtain ⟨k, hk⟩ : ∃ k, spK T by_ = k := ⟨_, rfl⟩
  rw [hi] at hi1 hi2 hi3 ⊢
  rw [hk] at hk1 hk2 hk3 ⊢
  have HI1 := Lib.hid hi1; have HK1 := Lib.hid hk1; have HI2 := Lib.hid hi2; have HK2 := Lib.hid hk2; have HI3 := Lib.hid hi3; have HK3 := Lib.hid hk3; have HC := Lib.hid hc
  have ht8 := tdiv8 by_ hb1 hb2
  have HT8 := Lib.hid ht8
  clear h HTB hs hi hk hi1 hk1 hi2 hk2 hi3 hk3 hc ht8
  go_enter Try.func11, Try.ntmps11
  go_wp2_with fail
  obtain ⟨B2, hB2⟩ : ∃ B, w.heap.size + 1 = B := ⟨_, rfl⟩
  have hwB2 : w.heap.size ≤ B2 := by omega
  rw [hB2] at HT2 ⊢
  generalize (w.alloc (.cells #[.slice aa T.rows.length ca, .slice ac T.costs.length cc, .slice ak T.cls.length ck] 25)).alloc (.cells #[.slice none 0 0, .slice none 0 0, .slice none 0 0] 25) = w1 at *
  refine CP.mono ?_
  rintro e w2 ⟨⟨ua, uc, uk, us, rfl, hown⟩, hb9⟩
  have hs1 : w.heap.size ≤ w1.heap.size := HBX.out.size
  have HOT := Lib.hid (hown.le hs1)
  have HB2 := Lib.hid (HBX.out.trans (hb9.mono hs1))
  have HT2 := Lib.hid (Boxs.below HT2.out hb9)
  obtain ⟨aa1, ca1, rfl⟩ := owns_form hown.out
  obtain ⟨ac1, cc1, rfl⟩ := owns_form (hown.rs.inn 0 _ _ rfl rfl)
  obtain ⟨ak1, ck1, rfl⟩ := owns_form (hown.rs.inn 1 _ _ rfl rfl)
  clear hown hb9 CP HBX hs1
  obtain ⟨b, hb⟩ : ∃ b, w2.heap.size = b := ⟨_, rfl⟩
  have hs2 : w.heap.size ≤ w2.heap.size := HB2.out.size
  have hltB2 := HT2.out.lt
  have HM := Lib.hid (MT.of (HOT.out.below (alloc_below w2 (.cells #[.slice aa1 T.rows.length ca1, .slice ac1 T.costs.length cc1, .slice ak1 T.cls.length ck1] 25))) (Nat.le_refl _) (HB2.out.alloc hs2 (.cells #[.slice aa1 T.rows.length ca1, .slice ac1 T.costs.length cc1, .slice ak1 T.cls.length ck1] 25)) hs2 hwB2 (Nat.ne_of_gt hltB2) (Boxs.new w2 25 #[.slice aa1 T.rows.length ca1, .slice ac1 T.costs.length cc1, .slice ak1 T.cls.length ck1]) (Boxs.below HT2.out (alloc_below w2 _)))
  rw [hb] at HM
  clear HB2 HT2 HOT hltB2 hs2 hB2
  have z0 := HM.out.cell 0; have z1 := HM.out.cell 1; have z2 := HM.out.cell 2
  have zf := HM.out.box.frozen 0
  simp only [List.getElem?_toArray, List.getElem?_cons_zero, List.getElem?_cons_succ] at z0 z1 z2
  go_wp2_with fail
  refine (around_any by_ _ _ hb1 hb2 (by omega) (by omega)).mono ?_
  rintro e w4 ⟨rfl, rfl⟩
  rw [HI1.out]
  go_wp2_with fail
  refine (around_any (by_.tdiv 8) _ _ HT8.out.1 HT8.out.2 (by omega) (by omega)).mono ?_
  rintro e w4 ⟨rfl, rfl⟩
  rw [HK1.out]
  go_wp2_with fail
  refine (around_any how _ _ hh1 hh2 (by omega) (by omega)).mono ?_
  rintro e w4 ⟨rfl, rfl⟩
  rw [HC.out]
  generalize w2.alloc (.cells #[.slice aa1 T.rows.length ca1, .slice ac1 T.costs.length cc1, .slice ak1 T.cls.length ck1] 25) = w3 at *
  clear hb HI1 HK1 HC HT8 hh1 hh2
  have HE := Lib.hid (show spoilC T by_ i k 9 = ⟨T.rows, List.replicate (63 + around by_ 3).toNat 0, T.cls⟩ from rfl)
  have hne := HM.out.ne
  have har := around_bd by_ 3 (by omega)
  obtain ⟨m, hm⟩ : ∃ m : Nat, 63 + around by_ 3 = m := ⟨(63 + around by_ 3).toNat, by omega⟩
  obtain ⟨q, hq⟩ : ∃ q : Nat, around by_ 3 = q := ⟨(around by_ 3).toNat, by omega⟩
  obtain rfl : m = 63 + q := by omega
  have hq2 : q < 3 := by omega
  rw [hm, Int.toNat_natCast] at HE
  have HQ := Lib.hid hq
  have MZ := makeZ (63 + q) (by omega) w3
  have hcs : ((63 + q : Nat) : Int) = 63 + (q : Int) := by omega
  rw [hcs] at MZ
  have hz2 := HM.out.newHead (List.replicate (63 + q) 0) (by simp; omega) (madeCells #[.int .i64 0] (63 + q)) (ints_rep _)
  rw [List.length_replicate] at hz2
  have HM6 := Lib.hid hz2
  clear z0 z1 z2 zf har hm hq hcs hz2
  have hltr := HM6.out.res.lt
  have x0 := HM6.out.res.cell 0; have x1 := HM6.out.res.cell 1; have x2 := HM6.out.res.cell 2
  have y0 := HM6.out.res.frozen 0; have y1 := HM6.out.res.frozen 1; have y2 := HM6.out.res.frozen 2
  have hltb := HM6.out.box.lt
  have z0 := HM6.out.box.cell 0; have z1 := HM6.out.box.cell 1; have z2 := HM6.out.box.cell 2
  have zf0 := HM6.out.box.frozen 0; have zf1 := HM6.out.box.frozen 1; have zf2 := HM6.out.box.frozen 2
  simp only [List.getElem?_toArray, List.getElem?_cons_zero, List.getElem?_cons_succ] at x0 x1 x2 z0 z1 z2
  go_wp2_with fail
  refine (around_any by_ _ _ hb1 hb2 (by omega) (by omega)).mono ?_
  rintro e w4 ⟨rfl, rfl⟩
  rw [HQ.out]
  go_wp2_with fail
  have HM7 := Lib.hid (HM6.out.put 1 (.slice (some ⟨w3.heap.size, 0, none⟩) (63 + q) (63 + q)))
  have hm3 := ((HM7.out.putres 0 (.slice aa1 T.rows.length ca1)).putres 1 (.slice (some ⟨w3.heap.size, 0, none⟩) (63 + q) (63 + q))).putres 2 (.slice ak1 T.cls.length ck1)
  have e0 := hm3.res.cell 0; have e1 := hm3.res.cell 1; have e2 := hm3.res.cell 2
  simp only [List.setIfInBounds_toArray, List.set_cons_zero, List.set_cons_succ, List.getElem?_toArray, List.getElem?_cons_zero, List.getElem?_cons_succ] at e0 e1 e2
  refine bodyPost_ret (v := .agg #[.slice aa1 T.rows.length ca1, .slice (some ⟨w3.heap.size, 0, none⟩) (63 + q) (63 + q), .slice ak1 T.cls.length ck1]) ?_ rfl ⟨?_, hm3.bel⟩
  · simp only [results, Try.results11]
    simp [go_sem, e0, e1, e2]
  · rw [HE.out]; exact ⟨_, _, _, us, rfl, ⟨hm3.out, by have := hm3.rs; simp only at this ⊢; exact this⟩⟩
end Go.Proofs.Ytmkkegigajmhkaa

