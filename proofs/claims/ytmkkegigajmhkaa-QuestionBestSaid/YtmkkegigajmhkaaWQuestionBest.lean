/- The walk of QuestionBest. -/
import Derived.Test.YtmkkegigajmhkaaN22
set_option linter.unusedVariables false
namespace Go.Proofs.Ytmkkegigajmhkaa
open Go.RowKit Go.Maps

set_option maxRecDepth 100000 in
set_option maxHeartbeats 16000000 in
theorem questionBest_any (v : Value) (l : List Int) (how by_ more : Int) (w : World) (h : RdI w v l) (il : inI l) (hh1 : -9223372036854775808 ≤ how) (hh2 : how ≤ 9223372036854775807) (hb1 : -9223372036854775808 ≤ by_) (hb2 : by_ ≤ 9223372036854775807) (hm1 : -9223372036854775808 ≤ more) (hm2 : more ≤ 9223372036854775807) :
    Calls Try.prog 4 #[v, .int .i64 how, .int .i64 by_, .int .i64 more] w fun e w' => e = .returned (.bool true) ∧ Below w.heap.size w w' := by
  have MK := made_any v l w h il
  have hok := made_ok l
  obtain ⟨T1, hT1⟩ : ∃ T, madeT l = T := ⟨_, rfl⟩
  rw [hT1] at MK hok
  have hs1 := ok_sm hok
  have hs2 := spoilT_sm hs1 how by_
  obtain ⟨T2, hT2⟩ : ∃ T, spoilT T1 how by_ = T := ⟨_, rfl⟩
  rw [hT2] at hs2
  obtain ⟨T3, hT3⟩ : ∃ T, spoilT T2 by_ how = T := ⟨_, rfl⟩
  obtain ⟨T4, hT4⟩ : ∃ T, plainT T1 = T := ⟨_, rfl⟩
  have hr4 : T4.rows.length = T1.rows.length := by rw [← hT4]; rfl
  have hk4 : T4.cls.length = T1.cls.length := by rw [← hT4]; exact foldG_len _ _
  have hc4 : T4.costs = T1.costs := by rw [← hT4]; rfl
  have hr1 := hok.r1; have hr64 := hok.r64; have hkl := hok.kl
  have hrl4 : ∀ r, r ∈ T4.rows → r.length ≤ 64 := by rw [← hT4]; exact fun r hr => by have := hok.rl r hr; have := hok.c64; omega
  have H2 := Lib.hid hT2; have H3 := Lib.hid hT3; have H4 := Lib.hid hT4; have HOK := Lib.hid hok; have HS1 := Lib.hid (hs1.sm (by omega)); have HS2 := Lib.hid (hs2.sm (by omega))
  have HR4 := Lib.hid hr4; have HK4 := Lib.hid hk4; have HRL4 := Lib.hid hrl4; have HKL := Lib.hid hkl
  obtain ⟨av, cv, rfl⟩ := h.form
  clear h il hT1 hT2 hT3 hT4 hok hs1 hs2 hr4 hk4 hc4 hrl4 hkl
  go_enter Try.func4, Try.ntmps4
  go_wp2_with fail
  with_reducible refine MK.mono ?_
  rintro e w1 ⟨⟨va, vc, vk, us, rfl, hown⟩, hb1'⟩
  have htb := hown.tb
  obtain ⟨aa1, ca1, rfl⟩ := htb.rows.form
  obtain ⟨ac1, cc1, rfl⟩ := htb.costs.form
  obtain ⟨ak1, ck1, rfl⟩ := htb.cls.form
  have hba := alloc_below w1 (.cells #[.slice aa1 T1.rows.length ca1, .slice ac1 T1.costs.length cc1, .slice ak1 T1.cls.length ck1] 25)
  obtain ⟨W2, hW2⟩ : ∃ W, w1.alloc (.cells #[.slice aa1 T1.rows.length ca1, .slice ac1 T1.costs.length cc1, .slice ak1 T1.cls.length ck1] 25) = W := ⟨_, rfl⟩
  have BX1 := Lib.hid (show Boxs W2 w1.heap.size 25 #[.slice aa1 T1.rows.length ca1, .slice ac1 T1.costs.length cc1, .slice ak1 T1.cls.length ck1] by rw [← hW2]; exact Boxs.new w1 25 _)
  rw [hW2] at hba
  have HT1 := Lib.hid (htb.below hba)
  have HB := Lib.hid (hb1'.trans (hba.mono hb1'.size))
  obtain ⟨b1, hB1⟩ : ∃ b, w1.heap.size = b := ⟨_, rfl⟩
  rw [hB1] at BX1
  have SP := spoil_any _ _ _ T1 how by_ W2 HT1.out HS1.out hb1 hb2 hh1 hh2
  rw [H2.out] at SP
  clear hown htb hb1' hba MK
  have p10 := BX1.out.cell 0; have p11 := BX1.out.cell 1; have p12 := BX1.out.cell 2
  have q1 := BX1.out.lt
  simp only [List.getElem?_toArray, List.getElem?_cons_zero, List.getElem?_cons_succ] at p10 p11 p12
  go_wp2_with fail
  clear hW2 hB1
  with_reducible refine SP.mono ?_
  rintro e w3 ⟨⟨va, vc, vk, us, rfl, hown⟩, hb⟩
  have htb := hown.tb
  obtain ⟨aa2, ca2, rfl⟩ := htb.rows.form
  obtain ⟨ac2, cc2, rfl⟩ := htb.costs.form
  obtain ⟨ak2, ck2, rfl⟩ := htb.cls.form
  have hba := alloc_below w3 (.cells #[.slice aa2 T2.rows.length ca2, .slice ac2 T2.costs.length cc2, .slice ak2 T2.cls.length ck2] 25)
  obtain ⟨W4, hW4⟩ : ∃ W, w3.alloc (.cells #[.slice aa2 T2.rows.length ca2, .slice ac2 T2.costs.length cc2, .slice ak2 T2.cls.length ck2] 25) = W := ⟨_, rfl⟩
  have BX2 := Lib.hid (show Boxs W4 w3.heap.size 25 #[.slice aa2 T2.rows.length ca2, .slice ac2 T2.costs.length cc2, .slice ak2 T2.cls.length ck2] by rw [← hW4]; exact Boxs.new w3 25 _)
  rw [hW4] at hba
  have hb4 := hb.trans (hba.mono hb.size)
  have HT2 := Lib.hid (htb.below hba)
  have HT1 := Lib.hid (HT1.out.below hb4)
  have BX1 := Lib.hid (Boxs.below BX1.out hb4)
  have hsz := HB.out.size
  have HB := Lib.hid (HB.out.trans (hb4.mono hsz))
  obtain ⟨b2, hB2⟩ : ∃ b, w3.heap.size = b := ⟨_, rfl⟩
  rw [hB2] at BX2
  have HT14 := Lib.hid HT1.out; have HT24 := Lib.hid HT2.out; have BX14 := Lib.hid BX1.out; have BX24 := Lib.hid BX2.out
  have h12 := BX1.out.lt; have h22 := BX2.out.lt
  have PL := plain_any _ _ _ T1 W4 HT1.out HOK.out
  rw [H4.out] at PL
  clear hown htb hb hba hb4 hsz p10 p11 p12 q1 SP
  have p10 := BX1.out.cell 0; have p11 := BX1.out.cell 1; have p12 := BX1.out.cell 2
  have q1 := BX1.out.lt
  simp only [List.getElem?_toArray, List.getElem?_cons_zero, List.getElem?_cons_succ] at p10 p11 p12
  go_wp2_with fail
  clear hW4 hB2
  with_reducible refine PL.mono ?_
  rintro e w5 ⟨⟨va, vc, vk, us, rfl, hown⟩, hb⟩
  have htb := hown.tb
  obtain ⟨aa4, ca4, rfl⟩ := htb.rows.form
  obtain ⟨ac4, cc4, rfl⟩ := htb.costs.form
  obtain ⟨ak4, ck4, rfl⟩ := htb.cls.form
  have hba := alloc_below w5 (.cells #[.slice aa4 T4.rows.length ca4, .slice ac4 T4.costs.length cc4, .slice ak4 T4.cls.length ck4] 25)
  obtain ⟨W6, hW6⟩ : ∃ W, w5.alloc (.cells #[.slice aa4 T4.rows.length ca4, .slice ac4 T4.costs.length cc4, .slice ak4 T4.cls.length ck4] 25) = W := ⟨_, rfl⟩
  have BX4 := Lib.hid (show Boxs W6 w5.heap.size 25 #[.slice aa4 T4.rows.length ca4, .slice ac4 T4.costs.length cc4, .slice ak4 T4.cls.length ck4] by rw [← hW6]; exact Boxs.new w5 25 _)
  rw [hW6] at hba
  have hb6 := hb.trans (hba.mono hb.size)
  have HT2 := Lib.hid (HT2.out.below hb6)
  have HT1 := Lib.hid (HT1.out.below hb6)
  have BX1 := Lib.hid (Boxs.below BX1.out hb6)
  have BX2 := Lib.hid (Boxs.below BX2.out hb6)
  have hsz := HB.out.size
  have HBW4 := Lib.hid HB.out
  obtain ⟨b4, hB4⟩ : ∃ b, w5.heap.size = b := ⟨_, rfl⟩
  rw [hB4] at BX4
  have HT1 := Lib.hid (show TbR W4 _ _ _ T1 from HT14.out)
  have HT2 := Lib.hid HT24.out
  have BX1 := Lib.hid BX14.out; have BX2 := Lib.hid BX24.out
  obtain ⟨n0, hn0⟩ : ∃ n, W4.heap.size = n := ⟨_, rfl⟩
  have LG0 := Lib.hid (show LG n0 W4 W6 b4 _ _ _ us T4 from .of (by rw [← hn0]; exact hown.below hba) (by rw [← hn0]; exact hb6) (by have := hb.size; omega) (by have := hb6.size; omega) rfl BX4.out)
  rw [hn0] at h12 h22
  clear hown htb hb hba hb6 hsz p10 p11 p12 q1 PL BX4
  have har := around_bd more 7 (by omega)
  obtain ⟨m, hm⟩ : ∃ m : Nat, around more 7 = m := ⟨(around more 7).toNat, by omega⟩
  have hm7 : m < 7 := by omega
  have HMM := Lib.hid hm
  have HW4n := Lib.hid hn0
  clear har hm hn0
  obtain ⟨n, hn⟩ : ∃ n, T1.rows.length = n := ⟨_, rfl⟩
  have HNN := Lib.hid hn
  have hn1 : 1 ≤ n := by omega
  have hn64 : n ≤ 64 := by omega
  clear hn
  go_wp2_with fail
  go_loopw [12] (fun jv wr => ∃ (j : Nat) (va vk : Value) (zs : List Value), j ≤ m ∧ jv = .int .i64 j ∧ LG n0 W4 wr b4 va (.slice ac4 T4.costs.length cc4) vk zs (growT T4 n j)) (fun jv _ => m - (intOf jv).toNat)
  case atStart => exact ⟨0, _, _, us, Nat.zero_le _, rfl, LG0.out⟩
  case round =>
    clear LG0
    obtain ⟨j, va, vk, zs, hj, rfl, hlg⟩ := hrel
    have hj0 : (0 : Int) ≤ (j : Int) := Int.natCast_nonneg _
    have LGR := Lib.hid hlg
    obtain ⟨g1, g2, g3⟩ := growT_len T4 n j
    obtain ⟨P, hP⟩ : ∃ P, growT T4 n j = P := ⟨_, rfl⟩
    rw [hP] at hlg g1 g2 g3
    have HPP := Lib.hid hP
    have hpr : P.rows.length = n + j := by rw [g1, HR4.out, HNN.out]
    have hpk : P.cls.length = n + j := by rw [g2, HK4.out, HKL.out, HNN.out]
    have LGR := Lib.hid hlg
    have HPR := Lib.hid hpr; have HPK := Lib.hid hpk
    have HPC := Lib.hid (show P.costs.length = T4.costs.length by rw [g3])
    obtain ⟨aP, cP, hva⟩ := owns_form hlg.out
    obtain ⟨aK, cK, hvk⟩ := owns_form hlg.cls
    rw [hpr] at hva; rw [hpk] at hvk
    subst hva; subst hvk
    have hW4r := hlg.bel
    have BXR := Lib.hid (Boxs.of_below BX1.out hW4r h12)
    clear hlg g1 g2 g3 hP hpr hpk
    go_wp2_with fail
    refine (around_any more 7 _ hm1 hm2 (by omega) (by omega)).mono ?_
    rintro e w8 ⟨rfl, rfl⟩
    rw [HMM.out]
    by_cases hlt : j < m
    · have hj1 : (j : Int) < (m : Int) := by omega
      obtain ⟨i, hi⟩ : ∃ i, j % n = i := ⟨_, rfl⟩
      have hin : i < n := by rw [← hi]; exact Nat.mod_lt _ (by omega)
      have HMOD := Lib.hid (show (j : Int).tmod (n : Int) = (i : Int) by rw [Int.tmod_eq_emod_of_nonneg (by omega), ← hi]; simp)
      have HII := Lib.hid hi
      obtain ⟨r, hr⟩ := elem_at (show i < P.rows.length by rw [HPR.out]; omega)
      obtain ⟨c, hc⟩ := elem_at (show i < P.cls.length by rw [HPK.out]; omega)
      obtain ⟨u, hu⟩ := elem_at (show i < zs.length by rw [LGR.out.len, HPR.out]; omega)
      have hru := (LGR.out.rows i u r hu hr).1
      obtain ⟨au, cu, rfl⟩ := owns_form hru
      have ho := LGR.out.out
      have hk := LGR.out.cls
      rw [HPR.out] at ho; rw [HPK.out] at hk
      obtain ⟨ga, ca9, e9⟩ := ownsRow_some ho (by omega)
      cases e9
      obtain ⟨gk, ck9, e9⟩ := ownsRow_some hk (by omega)
      cases e9
      have qa := ho.cellAt i (show i < (n + j) * 1 by omega)
      rw [hu] at qa
      have z0 := LGR.out.box.cell 0
      have p0 := BXR.out.cell 0
      simp only [List.getElem?_toArray, List.getElem?_cons_zero, List.getElem?_cons_succ] at z0 p0
      rw [HNN.out] at p0
      have hi0 : (0 : Int) ≤ (i : Int) := Int.natCast_nonneg _
      have hi1 : (i : Int) < (n : Int) + (j : Int) := by omega
      have hn0' : ¬ (n : Int) = 0 := by omega
      have hnz : (1 : Int) ≤ (n : Int) := by omega
      have hla := (ho.lt ga rfl).2
      have hS : (wr.drewN 1).cell? ⟨b4, 0, none⟩ = some (.slice (some ⟨ga, 0, none⟩) (n + j) cP) ∧ (wr.drewN 1).cell? ⟨b1, 0, none⟩ = some (.slice aa1 n ca1) := ⟨z0, p0⟩
      have HU := Lib.hid hu; have HR := Lib.hid hr; have HC := Lib.hid hc
      clear hi hr hc hu hru ho hk
      go_wp2_with fail
      refine wp_region_E (fun W => W.cell? ⟨b4, 0, none⟩ = some (.slice (some ⟨ga, 0, none⟩) (n + j) cP) ∧ W.cell? ⟨b1, 0, none⟩ = some (.slice aa1 n ca1)) (by kernel_rfl) ?_
      have hdr : (wr).drew = { wr with drawn := (wr).drawn + 1 } := rfl
      rw [← hdr]
      clear hdr
      change wpAnyE _ _ _ _ _ _ _ _ ((wr).drewN 1)
      refine tg 0 35 rfl rfl (.pointer (some ⟨b4, 0, none⟩)) hS ?_
      try simp only [pa, pl]
      refine tk 1 36 rfl rfl (.slice (some ⟨ga, 0, none⟩) (n + j) cP) (fun W hW => by obtain ⟨z0, p0⟩ := hW; go_simp) hS ?_
      try simp only [pa, pl]
      refine tg 2 37 rfl rfl (.pointer (some ⟨b4, 0, none⟩)) hS ?_
      try simp only [pa, pl]
      refine tk 3 38 rfl rfl (.slice (some ⟨ga, 0, none⟩) (n + j) cP) (fun W hW => by obtain ⟨z0, p0⟩ := hW; go_simp) hS ?_
      try simp only [pa, pl]
      refine tm 4 39 rfl rfl (.int .i64 (j : Int)) hS ?_
      try simp only [pa, pl]
      refine tg 5 40 rfl rfl (.pointer (some ⟨b1, 0, none⟩)) hS ?_
      try simp only [pa, pl]
      refine tk 6 41 rfl rfl (.slice aa1 n ca1) (fun W hW => by obtain ⟨z0, p0⟩ := hW; go_simp) hS ?_
      try simp only [pa, pl]
      refine tg 7 42 rfl rfl (.int .i64 (n : Int)) hS ?_
      try simp only [pa, pl]
      refine tk 8 43 rfl rfl (.int .i64 (i : Int)) (fun _ _ => by go_simp <;> rw [if_neg (show ¬ n = 0 by omega), HMOD.out]) hS ?_
      try simp only [pa, pl]
      refine tg 9 44 rfl rfl (.pointer (some ⟨ga, i, none⟩)) hS ?_
      try simp only [pa, pl]
      refine wpAnyEOne 10 (by kernel_rfl) ?_
      refine wpOpRun' (v := .slice au r.length cu) (w' := wr.drewN 1) (some 45) rfl rfl rfl (by go_simp) ?_
      refine ⟨.inl (hS), ?_⟩
      try simp only [pa, pl]
      refine wpAnyEOne 11 (by kernel_rfl) ?_
      refine wpOpRun' (v := .slice (some ⟨wr.heap.size, 0, none⟩) 1 1) (w' := ((wr.drewN 1).alloc (.cells #[.slice au r.length cu] 22))) (some 46) rfl rfl rfl (by go_simp <;> rfl) ?_
      have LG8 := LGR.out.below ((Below.dn (Below.refl wr.heap.size wr) 1).trans ((alloc_below (wr.drewN 1) (.cells #[.slice au r.length cu] 22)).mono (Nat.le_refl _)))
      have bx8 := Boxs.of_below BX1.out LG8.bel h12
      have z8 := LG8.box.cell 0
      have p8 := bx8.cell 0
      simp only [List.getElem?_toArray, List.getElem?_cons_zero, List.getElem?_cons_succ] at z8 p8
      rw [HNN.out] at p8
      refine ⟨.inl (⟨z8, p8⟩), ?_⟩
      try simp only [pa, pl]
      refine wpAnyEOne 12 (by kernel_rfl) ?_
      refine wpOpAppR (base := n0) 12 (some 47) rfl rfl rfl (.tmp 36) (.tmp 46) rfl (.slice (some ⟨ga, 0, none⟩) (n + j) cP) P.rows.length zs rfl LG8.out (.slice (some ⟨wr.heap.size, 0, none⟩) 1 1) [.slice au r.length cu] rfl (Rd_fresh (wr.drewN 1) 22 #[.slice au r.length cu] 1 rfl (by omega)) (by intro u hu; rw [List.mem_singleton.1 hu]; rfl) (by have := HPR.out; simp only [List.length_cons, List.length_nil]; omega) LG8.sz fun v9 w9 happ => ?_
      have LG9 := LG8.appR HU.out HR.out happ
      obtain ⟨a9, k9, he9⟩ := happ.form
      rw [show P.rows.length + [Value.slice au r.length cu].length = n + j + 1 by rw [HPR.out]; rfl] at he9
      subst he9
      have xb9 := Boxs.app LG8.box LG8.out happ (by decide)
      have xc9 := Boxs.app bx8 LG8.out happ (by decide) |> fun (h : Boxs w9 b1 25 _) => h
      have z9 := xb9.cell 0; have zf9 := xb9.frozen 0; have zl9 := xb9.lt
      have p9 := xc9.cell 0
      simp only [List.getElem?_toArray, List.getElem?_cons_zero, List.getElem?_cons_succ] at z9 p9
      rw [HNN.out] at p9
      refine ⟨.inl (⟨z9, p9⟩), ?_⟩
      try simp only [pa, pl]
      refine wpAnyEOne 13 (by kernel_rfl) ?_
      refine wpOpRun' (v := .pointer (some ⟨b4, 0, none⟩)) (w' := w9) (some 48) rfl rfl rfl (by go_simp <;> rfl) ?_
      refine ⟨.inl (⟨z9, p9⟩), ?_⟩
      try simp only [pa, pl]
      refine wpAnyEOne 14 (by kernel_rfl) ?_
      refine wpOpSkip (w' := w9.setCell ⟨b4, 0, none⟩ (.slice a9 (n + j + 1) k9)) 14 rfl rfl rfl (by go_simp <;> rfl) ?_
      refine ⟨.inr (allUp_of (by kernel_rfl)), ?_⟩
      try simp only [pa, pl]
      refine wpAnyE_done (by kernel_rfl) ?_ _
      have LGA := Lib.hid LG9
      clear LG9 LG8 bx8 z8 p8 xb9 xc9 z9 zf9 zl9 p9 happ hS z0 p0 qa hla
      obtain ⟨wq, hwq⟩ : ∃ W, w9.setCell ⟨b4, 0, none⟩ (.slice a9 (n + j + 1) k9) = W := ⟨_, rfl⟩
      rw [hwq] at LGA ⊢
      clear hwq
      have BXQ := Lib.hid (Boxs.of_below BX1.out LGA.out.bel h12)
      have hkq := LGA.out.cls
      have z2 := LGA.out.box.cell 2
      have p0 := BXQ.out.cell 0
      simp only [List.getElem?_toArray, List.getElem?_cons_zero, List.getElem?_cons_succ] at z2 p0
      rw [HNN.out] at p0
      have hkq2 : wq.ownsRow n0 3 1 (.slice (some ⟨gk, 0, none⟩) (n + j) cK) (n + j) (ints P.cls) := by have := hkq; rw [show (Tb.mk (P.rows ++ [r]) P.costs P.cls).cls.length = n + j from HPK.out] at this; exact this
      have qk := own_cell hkq2 HC.out
      have hS : (wq.drewN 1).cell? ⟨b4, 2, none⟩ = some (.slice (some ⟨gk, 0, none⟩) (n + j) cK) ∧ (wq.drewN 1).cell? ⟨b1, 0, none⟩ = some (.slice aa1 n ca1) := ⟨z2, p0⟩
      clear hkq hkq2
      go_wp2_with fail
      refine wp_region_E (fun W => W.cell? ⟨b4, 2, none⟩ = some (.slice (some ⟨gk, 0, none⟩) (n + j) cK) ∧ W.cell? ⟨b1, 0, none⟩ = some (.slice aa1 n ca1)) (by kernel_rfl) ?_
      have hdr : (wq).drew = { wq with drawn := (wq).drawn + 1 } := rfl
      rw [← hdr]
      clear hdr
      change wpAnyE _ _ _ _ _ _ _ _ ((wq).drewN 1)
      refine tg 0 49 rfl rfl (.pointer (some ⟨b4, 2, none⟩)) hS ?_
      try simp only [pa, pl]
      refine tk 1 50 rfl rfl (.slice (some ⟨gk, 0, none⟩) (n + j) cK) (fun W hW => by obtain ⟨z2, p0⟩ := hW; go_simp) hS ?_
      try simp only [pa, pl]
      refine tg 2 51 rfl rfl (.pointer (some ⟨b4, 2, none⟩)) hS ?_
      try simp only [pa, pl]
      refine tk 3 52 rfl rfl (.slice (some ⟨gk, 0, none⟩) (n + j) cK) (fun W hW => by obtain ⟨z2, p0⟩ := hW; go_simp) hS ?_
      try simp only [pa, pl]
      refine tm 4 53 rfl rfl (.int .i64 (j : Int)) hS ?_
      try simp only [pa, pl]
      refine tg 5 54 rfl rfl (.pointer (some ⟨b1, 0, none⟩)) hS ?_
      try simp only [pa, pl]
      refine tk 6 55 rfl rfl (.slice aa1 n ca1) (fun W hW => by obtain ⟨z2, p0⟩ := hW; go_simp) hS ?_
      try simp only [pa, pl]
      refine tg 7 56 rfl rfl (.int .i64 (n : Int)) hS ?_
      try simp only [pa, pl]
      refine tk 8 57 rfl rfl (.int .i64 (i : Int)) (fun _ _ => by go_simp <;> rw [if_neg (show ¬ n = 0 by omega), HMOD.out]) hS ?_
      try simp only [pa, pl]
      refine tg 9 58 rfl rfl (.pointer (some ⟨gk, i, none⟩)) hS ?_
      try simp only [pa, pl]
      refine wpAnyEOne 10 (by kernel_rfl) ?_
      refine wpOpRun' (v := .int .i64 c) (w' := wq.drewN 1) (some 59) rfl rfl rfl (by go_simp) ?_
      refine ⟨.inl (hS), ?_⟩
      try simp only [pa, pl]
      refine wpAnyEOne 11 (by kernel_rfl) ?_
      refine wpOpRun' (v := .slice (some ⟨wq.heap.size, 0, none⟩) 1 1) (w' := ((wq.drewN 1).alloc (.cells #[.int .i64 c] 3))) (some 60) rfl rfl rfl (by go_simp <;> rfl) ?_
      have LG8 := LGA.out.below ((Below.dn (Below.refl wq.heap.size wq) 1).trans ((alloc_below (wq.drewN 1) (.cells #[.int .i64 c] 3)).mono (Nat.le_refl _)))
      have bx8 := Boxs.of_below BX1.out LG8.bel h12
      have z8 := LG8.box.cell 2
      have p8 := bx8.cell 0
      simp only [List.getElem?_toArray, List.getElem?_cons_zero, List.getElem?_cons_succ] at z8 p8
      rw [HNN.out] at p8
      refine ⟨.inl (⟨z8, p8⟩), ?_⟩
      try simp only [pa, pl]
      refine wpAnyEOne 12 (by kernel_rfl) ?_
      refine wpOpAppI 12 (some 61) rfl rfl rfl (.tmp 50) (.tmp 60) rfl (.slice (some ⟨gk, 0, none⟩) (n + j) cK) (P.cls) rfl (LG8.cls) (.slice (some ⟨wq.heap.size, 0, none⟩) 1 1) ([c]) rfl (Rd_fresh (wq.drewN 1) 3 #[.int .i64 c] 1 rfl (by omega)) (by have := HPK.out; simp only [List.length_cons, List.length_nil]; omega) (LG8.sz) fun v9' w9' happ => ?_
      have LG9 := LG8.appK happ
      obtain ⟨a9', k9', he9⟩ := happ.form
      rw [show (P.cls ++ [c]).length = n + j + 1 by rw [List.length_append, HPK.out]; rfl] at he9
      subst he9
      have xb9 := Boxs.app LG8.box LG8.cls happ (by decide)
      have xc9 := Boxs.app bx8 LG8.cls happ (by decide)
      have z9 := xb9.cell 2
      have zf9 := xb9.frozen 2
      have zl9 := xb9.lt
      have p9 := xc9.cell 0
      simp only [List.getElem?_toArray, List.getElem?_cons_zero, List.getElem?_cons_succ] at z9 p9
      rw [HNN.out] at p9
      refine ⟨.inl (⟨z9, p9⟩), ?_⟩
      try simp only [pa, pl]
      refine wpAnyEOne 13 (by kernel_rfl) ?_
      refine wpOpRun' (v := .pointer (some ⟨b4, 2, none⟩)) (w' := w9') (some 62) rfl rfl rfl (by go_simp <;> rfl) ?_
      refine ⟨.inl (⟨z9, p9⟩), ?_⟩
      try simp only [pa, pl]
      refine wpAnyEOne 14 (by kernel_rfl) ?_
      refine wpOpSkip (w' := w9'.setCell ⟨b4, 2, none⟩ (.slice a9' (n + j + 1) k9')) 14 rfl rfl rfl (by go_simp <;> rfl) ?_
      refine ⟨.inr (allUp_of (by kernel_rfl)), ?_⟩
      try simp only [pa, pl]
      refine wpAnyE_done (by kernel_rfl) ?_ _
      have HGR := Lib.hid (show growT T4 n (j + 1) = ⟨P.rows ++ [r], P.costs, P.cls ++ [c]⟩ by
        show Tb.mk ((growT T4 n j).rows ++ [rowAt (growT T4 n j) (j % n)]) (growT T4 n j).costs ((growT T4 n j).cls ++ [clsAt (growT T4 n j) (j % n)]) = _
        rw [HPP.out, HII.out, rowAt_of HR.out, clsAt_of HC.out])
      have LGN := Lib.hid LG9
      clear LG9 LG8 bx8 z8 p8 xb9 xc9 z9 zf9 zl9 p9 happ hS z2 p0 qk
      go_wp2_with fail
      go_roundw
      case rel => exact ⟨j + 1, _, _, _, by omega, by go_num, by rw [HGR.out]; exact LGN.out⟩
      case measure => simp [intOf]; omega
    · have hj1 : ¬ (j : Int) < (m : Int) := by omega
      have HTL := Lib.hid (show TbR wr (.slice aP P.rows.length cP) (.slice ac4 P.costs.length cc4) (.slice aK P.cls.length cK) P by rw [HPR.out, HPK.out, HPC.out]; exact LGR.out.tb)
      have HBW := Lib.hid (show Below w.heap.size w wr from HBW4.out.trans (hW4r.mono (by rw [← HW4n.out]; exact HBW4.out.size)))
      have HT1r := Lib.hid (HT1.out.below (by rw [HW4n.out]; exact hW4r))
      have HT2r := Lib.hid (HT2.out.below (by rw [HW4n.out]; exact hW4r))
      have BX2r := Lib.hid (Boxs.of_below BX2.out hW4r h22)
      have BX4r := Lib.hid (show Boxs wr b4 25 #[.slice aP P.rows.length cP, .slice ac4 P.costs.length cc4, .slice aK P.cls.length cK] by rw [HPR.out, HPK.out, HPC.out]; exact LGR.out.box)
      have SP := spoil_any _ _ _ T2 by_ how (wr.drewN 1) (HT2r.out.below (Below.dn (Below.refl _ _) 1)) HS2.out hh1 hh2 hb1 hb2
      rw [H3.out] at SP
      clear hW4r
      go_wp2_with fail
      refine wp_region_E (fun W => W.cell? ⟨b1, 0, none⟩ = some (.slice aa1 T1.rows.length ca1) ∧ W.cell? ⟨b1, 1, none⟩ = some (.slice ac1 T1.costs.length cc1) ∧ W.cell? ⟨b1, 2, none⟩ = some (.slice ak1 T1.cls.length ck1) ∧ W.cell? ⟨b2, 0, none⟩ = some (.slice aa2 T2.rows.length ca2) ∧ W.cell? ⟨b2, 1, none⟩ = some (.slice ac2 T2.costs.length cc2) ∧ W.cell? ⟨b2, 2, none⟩ = some (.slice ak2 T2.cls.length ck2) ∧ W.cell? ⟨b4, 0, none⟩ = some (.slice aP P.rows.length cP) ∧ W.cell? ⟨b4, 1, none⟩ = some (.slice ac4 P.costs.length cc4) ∧ W.cell? ⟨b4, 2, none⟩ = some (.slice aK P.cls.length cK)) (by kernel_rfl) ?_
      have hdr : (wr).drew = { wr with drawn := (wr).drawn + 1 } := rfl
      rw [← hdr]
      clear hdr
      change wpAnyE _ _ _ _ _ _ _ _ ((wr).drewN 1)
      refine tk 0 63 rfl rfl (.agg #[.slice aa1 T1.rows.length ca1, .slice ac1 T1.costs.length cc1, .slice ak1 T1.cls.length ck1]) (fun W hW => by obtain ⟨k0, k1, k2, k3, k4, k5, k6, k7, k8⟩ := hW; go_simp) ⟨BXR.out.cell 0, BXR.out.cell 1, BXR.out.cell 2, BX2r.out.cell 0, BX2r.out.cell 1, BX2r.out.cell 2, BX4r.out.cell 0, BX4r.out.cell 1, BX4r.out.cell 2⟩ ?_
      try simp only [pa, pl]
      refine tk 1 64 rfl rfl (.agg #[.slice aa2 T2.rows.length ca2, .slice ac2 T2.costs.length cc2, .slice ak2 T2.cls.length ck2]) (fun W hW => by obtain ⟨k0, k1, k2, k3, k4, k5, k6, k7, k8⟩ := hW; go_simp) ⟨BXR.out.cell 0, BXR.out.cell 1, BXR.out.cell 2, BX2r.out.cell 0, BX2r.out.cell 1, BX2r.out.cell 2, BX4r.out.cell 0, BX4r.out.cell 1, BX4r.out.cell 2⟩ ?_
      try simp only [pa, pl]
      refine tk 2 65 rfl rfl (.agg #[.slice aa2 T2.rows.length ca2, .slice ac2 T2.costs.length cc2, .slice ak2 T2.cls.length ck2]) (fun W hW => by obtain ⟨k0, k1, k2, k3, k4, k5, k6, k7, k8⟩ := hW; go_simp) ⟨BXR.out.cell 0, BXR.out.cell 1, BXR.out.cell 2, BX2r.out.cell 0, BX2r.out.cell 1, BX2r.out.cell 2, BX4r.out.cell 0, BX4r.out.cell 1, BX4r.out.cell 2⟩ ?_
      try simp only [pa, pl]
      refine tm 3 66 rfl rfl (.int .i64 by_) ⟨BXR.out.cell 0, BXR.out.cell 1, BXR.out.cell 2, BX2r.out.cell 0, BX2r.out.cell 1, BX2r.out.cell 2, BX4r.out.cell 0, BX4r.out.cell 1, BX4r.out.cell 2⟩ ?_
      try simp only [pa, pl]
      refine tm 4 67 rfl rfl (.int .i64 how) ⟨BXR.out.cell 0, BXR.out.cell 1, BXR.out.cell 2, BX2r.out.cell 0, BX2r.out.cell 1, BX2r.out.cell 2, BX4r.out.cell 0, BX4r.out.cell 1, BX4r.out.cell 2⟩ ?_
      try simp only [pa, pl]
      refine tk 6 69 rfl rfl (.agg #[.slice aP P.rows.length cP, .slice ac4 P.costs.length cc4, .slice aK P.cls.length cK]) (fun W hW => by obtain ⟨k0, k1, k2, k3, k4, k5, k6, k7, k8⟩ := hW; go_simp) ⟨BXR.out.cell 0, BXR.out.cell 1, BXR.out.cell 2, BX2r.out.cell 0, BX2r.out.cell 1, BX2r.out.cell 2, BX4r.out.cell 0, BX4r.out.cell 1, BX4r.out.cell 2⟩ ?_
      try simp only [pa, pl]
      refine tg 7 70 rfl rfl (.agg #[.slice none 0 0, .slice none 0 0, .slice none 0 0]) ⟨BXR.out.cell 0, BXR.out.cell 1, BXR.out.cell 2, BX2r.out.cell 0, BX2r.out.cell 1, BX2r.out.cell 2, BX4r.out.cell 0, BX4r.out.cell 1, BX4r.out.cell 2⟩ ?_
      try simp only [pa, pl]
      refine wpAnyEOne 5 (by kernel_rfl) ?_
      refine wpOpCall (some 68) 11 #[.agg #[.slice aa2 T2.rows.length ca2, .slice ac2 T2.costs.length cc2, .slice ak2 T2.cls.length ck2], .int .i64 by_, .int .i64 how] rfl rfl rfl (by go_simp) (SP) ?_
      rintro e w5' ⟨⟨va, vc, vk, us5, rfl, hown⟩, hb⟩
      have hb45 := (Below.dn (Below.refl wr.heap.size wr) 1).trans hb
      have htb := hown.tb
      obtain ⟨aa3, ca3, rfl⟩ := htb.rows.form
      obtain ⟨ac3, cc3, rfl⟩ := htb.costs.form
      obtain ⟨ak3, ck3, rfl⟩ := htb.cls.form
      have x1 := Boxs.below BXR.out hb45
      have x2 := Boxs.below BX2r.out hb45
      have x4 := Boxs.below BX4r.out hb45
      refine ⟨_, rfl, ?_⟩
      refine ⟨.inl (⟨x1.cell 0, x1.cell 1, x1.cell 2, x2.cell 0, x2.cell 1, x2.cell 2, x4.cell 0, x4.cell 1, x4.cell 2⟩), ?_⟩
      try simp only [pa, pl]
      refine wpAnyEOne 8 (by kernel_rfl) ?_
      refine wpOpRun' (v := .slice (some ⟨w5'.heap.size, 0, none⟩) 5 5) (w' := (w5'.alloc (.cells #[.slice aa1 T1.rows.length ca1, .slice ac1 T1.costs.length cc1, .slice ak1 T1.cls.length ck1, .slice aa2 T2.rows.length ca2, .slice ac2 T2.costs.length cc2, .slice ak2 T2.cls.length ck2, .slice aa3 T3.rows.length ca3, .slice ac3 T3.costs.length cc3, .slice ak3 T3.cls.length ck3, .slice aP P.rows.length cP, .slice ac4 P.costs.length cc4, .slice aK P.cls.length cK, .slice none 0 0, .slice none 0 0, .slice none 0 0] 25))) (some 71) rfl rfl rfl (by go_simp <;> rfl) ?_
      have hal7 := alloc_below w5' (.cells #[.slice aa1 T1.rows.length ca1, .slice ac1 T1.costs.length cc1, .slice ak1 T1.cls.length ck1, .slice aa2 T2.rows.length ca2, .slice ac2 T2.costs.length cc2, .slice ak2 T2.cls.length ck2, .slice aa3 T3.rows.length ca3, .slice ac3 T3.costs.length cc3, .slice ak3 T3.cls.length ck3, .slice aP P.rows.length cP, .slice ac4 P.costs.length cc4, .slice aK P.cls.length cK, .slice none 0 0, .slice none 0 0, .slice none 0 0] 25)
      have y1 := Boxs.below x1 hal7
      have y2 := Boxs.below x2 hal7
      have y4 := Boxs.below x4 hal7
      refine ⟨.inl (⟨y1.cell 0, y1.cell 1, y1.cell 2, y2.cell 0, y2.cell 1, y2.cell 2, y4.cell 0, y4.cell 1, y4.cell 2⟩), ?_⟩
      try simp only [pa, pl]
      refine wpAnyEOne 9 (by kernel_rfl) ?_
      refine wpOpRun' (v := .slice (some ⟨w5'.heap.size, 0, none⟩) 5 5) (w' := (w5'.alloc (.cells #[.slice aa1 T1.rows.length ca1, .slice ac1 T1.costs.length cc1, .slice ak1 T1.cls.length ck1, .slice aa2 T2.rows.length ca2, .slice ac2 T2.costs.length cc2, .slice ak2 T2.cls.length ck2, .slice aa3 T3.rows.length ca3, .slice ac3 T3.costs.length cc3, .slice ak3 T3.cls.length ck3, .slice aP P.rows.length cP, .slice ac4 P.costs.length cc4, .slice aK P.cls.length cK, .slice none 0 0, .slice none 0 0, .slice none 0 0] 25))) (some 13) rfl rfl rfl (by rfl) ?_
      refine ⟨.inr (allUp_of (by kernel_rfl)), ?_⟩
      try simp only [pa, pl]
      refine wpAnyE_done (by kernel_rfl) ?_ _
      have TS := Lib.hid (TbS.five (HT1r.out.below hb45) (HT2r.out.below hb45) htb (HTL.out.below hb45))
      have hb47 := hb45.trans (hal7.mono hb45.size)
      have HB7 := Lib.hid (HBW.out.trans (hb47.mono HBW.out.size))
      obtain ⟨g, hg⟩ : ∃ g, w5'.heap.size = g := ⟨_, rfl⟩
      obtain ⟨w7, hw7⟩ : ∃ W, (w5'.alloc (.cells #[.slice aa1 T1.rows.length ca1, .slice ac1 T1.costs.length cc1, .slice ak1 T1.cls.length ck1, .slice aa2 T2.rows.length ca2, .slice ac2 T2.costs.length cc2, .slice ak2 T2.cls.length ck2, .slice aa3 T3.rows.length ca3, .slice ac3 T3.costs.length cc3, .slice ak3 T3.cls.length ck3, .slice aP P.rows.length cP, .slice ac4 P.costs.length cc4, .slice aK P.cls.length cK, .slice none 0 0, .slice none 0 0, .slice none 0 0] 25)) = W := ⟨_, rfl⟩
      rw [hw7] at TS HB7 ⊢
      rw [hg] at TS ⊢
      clear hw7 hg y1 y2 y4 x1 x2 x4 htb hown hb hb45 hb47 hal7 SP HT1r HT2r BX2r BX4r HTL BXR LGR
      go_wp2_with fail
      go_loopw [14] (fun iv wr => ∃ i : Nat, i ≤ 5 ∧ iv = .int .i64 i ∧ Below w7.heap.size w7 wr) (fun iv _ => 5 - (intOf iv).toNat)
      case atStart => exact ⟨0, by omega, rfl, Below.refl _ _⟩
      case round =>
        obtain ⟨i, hi, rfl, hbr⟩ := hrel
        have hi0 : (0 : Int) ≤ (i : Int) := Int.natCast_nonneg _
        have HBR := Lib.hid hbr
        clear hbr
        by_cases hlt5 : i < 5
        · have hi1 : (i : Int) < 5 := by omega
          obtain ⟨T, hT⟩ := elem_at (show i < [T1, T2, T3, P, tb0].length from hlt5)
          obtain ⟨aa, ca, ac, cc, ak, ck, hte⟩ := (TS.out.below HBR.out) i T hT
          have HE := Lib.hid hte
          have OW := fun (W : World) => own_any aa ac ak T.rows.length T.costs.length T.cls.length ca cc ck W
          clear hT hte
          rename World => wz
          have c0 := HE.out.c0; have c1 := HE.out.c1; have c2 := HE.out.c2; have hgl := HE.out.lt
          have XX := OW wz
          go_wp2_with fail
          with_reducible refine XX.mono ?_
          rintro e x11 ⟨rfl, hb⟩
          have HE := Lib.hid (HE.out.below hb)
          have HBR := Lib.hid (HBR.out.trans (hb.mono HBR.out.size))
          clear hb XX c0 c1 c2 hgl
          have c0 := HE.out.c0; have c1 := HE.out.c1; have c2 := HE.out.c2; have hgl := HE.out.lt
          have XX := bestP_any _ _ _ T x11 HE.out.rd
          unfold SolveOut at XX
          go_wp2_with fail
          with_reducible refine XX.mono ?_
          rintro e x12 ⟨⟨p1, rfl, ht1⟩, hb⟩
          obtain ⟨pp1, rfl⟩ := ht1.form
          have TA1 := Lib.hid ht1
          clear ht1
          have HE := Lib.hid (HE.out.below hb)
          have HBR := Lib.hid (HBR.out.trans (hb.mono HBR.out.size))
          clear hb XX c0 c1 c2 hgl
          have c0 := HE.out.c0; have c1 := HE.out.c1; have c2 := HE.out.c2; have hgl := HE.out.lt
          have XX := rbestP_any _ _ _ T x12 HE.out.rd
          unfold RSolve at XX
          go_wp2_with fail
          with_reducible refine XX.mono ?_
          rintro e x13 ⟨⟨r1, rfl, hu1⟩, hb⟩
          obtain ⟨pr1, rfl⟩ := hu1.form
          have TB1 := Lib.hid hu1
          clear hu1
          have TA1 := Lib.hid (TA1.out.under hb)
          have HE := Lib.hid (HE.out.below hb)
          have HBR := Lib.hid (HBR.out.trans (hb.mono HBR.out.size))
          clear hb XX c0 c1 c2 hgl
          have he1 : (bestErr T != bestErr T) = false := by simp
          have hc1 : (bestC T != bestC T) = false := by simp
          have c0 := HE.out.c0; have c1 := HE.out.c1; have c2 := HE.out.c2; have hgl := HE.out.lt
          have XX := same_any TA1.out TB1.out (bestTr_sm T).1 (bestTr_sm T).2 x13 (Below.refl _ _)
          go_wp2_with fail
          with_reducible refine XX.mono ?_
          rintro e x14 ⟨rfl, hb⟩
          have TA1 := Lib.hid (TA1.out.under hb)
          have HE := Lib.hid (HE.out.below hb)
          have HBR := Lib.hid (HBR.out.trans (hb.mono HBR.out.size))
          clear hb XX c0 c1 c2 hgl
          clear he1 hc1 TA1 TB1
          have c0 := HE.out.c0; have c1 := HE.out.c1; have c2 := HE.out.c2; have hgl := HE.out.lt
          have XX := OW x14
          go_wp2_with fail
          with_reducible refine XX.mono ?_
          rintro e x21 ⟨rfl, hb⟩
          have HE := Lib.hid (HE.out.below hb)
          have HBR := Lib.hid (HBR.out.trans (hb.mono HBR.out.size))
          clear hb XX c0 c1 c2 hgl
          have c0 := HE.out.c0; have c1 := HE.out.c1; have c2 := HE.out.c2; have hgl := HE.out.lt
          have XX := greedyP_any _ _ _ T x21 HE.out.rd
          unfold SolveOut at XX
          go_wp2_with fail
          with_reducible refine XX.mono ?_
          rintro e x22 ⟨⟨cg, xg, ⟨p2, rfl, ht2⟩, hgr⟩, hb⟩
          obtain ⟨pp2, rfl⟩ := ht2.form
          have TA2 := Lib.hid ht2
          have HGR := Lib.hid hgr
          clear ht2 hgr
          have HE := Lib.hid (HE.out.below hb)
          have HBR := Lib.hid (HBR.out.trans (hb.mono HBR.out.size))
          clear hb XX c0 c1 c2 hgl
          have c0 := HE.out.c0; have c1 := HE.out.c1; have c2 := HE.out.c2; have hgl := HE.out.lt
          have XX := rgreedyP_any _ _ _ T x22 HE.out.rd
          unfold RSolve at XX
          go_wp2_with fail
          with_reducible refine XX.mono ?_
          rintro e x23 ⟨⟨cg2, xg2, ⟨r2, rfl, hu2⟩, hgr2⟩, hb⟩
          obtain ⟨rfl, rfl⟩ := hgr2.uniq HGR.out
          obtain ⟨pr2, rfl⟩ := hu2.form
          have TB2 := Lib.hid hu2
          clear hu2 hgr2 HGR
          have TA2 := Lib.hid (TA2.out.under hb)
          have HE := Lib.hid (HE.out.below hb)
          have HBR := Lib.hid (HBR.out.trans (hb.mono HBR.out.size))
          clear hb XX c0 c1 c2 hgl
          have he2 : (xg2 != xg2) = false := by simp
          have hc2 : (cg2 != cg2) = false := by simp
          have c0 := HE.out.c0; have c1 := HE.out.c1; have c2 := HE.out.c2; have hgl := HE.out.lt
          have XX := same_any TA2.out TB2.out (greTr_sm T).1 (greTr_sm T).2 x23 (Below.refl _ _)
          go_wp2_with fail
          with_reducible refine XX.mono ?_
          rintro e x24 ⟨rfl, hb⟩
          have TA2 := Lib.hid (TA2.out.under hb)
          have HE := Lib.hid (HE.out.below hb)
          have HBR := Lib.hid (HBR.out.trans (hb.mono HBR.out.size))
          clear hb XX c0 c1 c2 hgl
          clear he2 hc2 TA2 TB2
          go_wp2_with fail
          go_roundw
          case rel => exact ⟨i + 1, by omega, by go_num, HBR.out⟩
          case measure => simp [intOf]; omega
        · have hi1 : ¬ (i : Int) < 5 := by omega
          rename World => wz
          have LV := lives_any wz
          go_wp2_with fail
          with_reducible refine LV.mono ?_
          rintro e w8 ⟨rfl, hb⟩
          have HBB := Lib.hid (HB7.out.trans ((HBR.out.trans (hb.mono HBR.out.size)).mono HB7.out.size))
          clear hb LV
          go_wp2_with fail
          go_ret
          exact ⟨rfl, HBB.out⟩
end Go.Proofs.Ytmkkegigajmhkaa

