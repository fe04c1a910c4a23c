/- Index, Sum (reference). Follow (reference). Check (reference). The choices that the reference notes (plain), and where they lie. The best question (reference). -/
import Derived.Test.YtmkkegigajmhkaaN19
set_option linter.unusedVariables false
namespace Go.Proofs.Ytmkkegigajmhkaa
open Go.RowKit Go.Maps

/-- the first place of a number in a list -/
def IdxOut (l : List Int) (y : Int) (e : Ending) : Prop := (e = .returned (.int .i64 (-1)) ∧ y ∉ l) ∨ ∃ k : Nat, e = .returned (.int .i64 (k : Int)) ∧ l[k]? = some y ∧ ∀ j, j < k → l[j]? ≠ some y
set_option maxHeartbeats 400000 in
theorem index_any (v : Value) (l : List Int) (y : Int) (w : World) (h : RdI w v l) :
    Calls Try.prog 69 #[v, .int .i64 y] w fun e w' => IdxOut l y e ∧ w = w' := by
  obtain ⟨a, c, rfl, l1, f1⟩ := h.open
  clear h
  have F1 := Lib.hid f1; clear f1
  go_enter Try.func69, Try.ntmps69
  go_wp2
  go_loop [5] (fun iv => ∃ k : Nat, k ≤ l.length ∧ iv = .int .i64 k ∧ ∀ j, j < k → l[j]? ≠ some y) (fun iv => l.length - (intOf iv).toNat)
  case atStart => exact ⟨0, Nat.zero_le _, rfl, fun j hj => by omega⟩
  case round =>
    obtain ⟨k, hk, rfl, hno⟩ := hrel
    have HN := Lib.hid hno; clear hno
    by_cases hlt : k < l.length
    · obtain ⟨x, hx⟩ := elem_at hlt
      obtain ⟨b, o, rfl, _, g⟩ := F1.out k x hx
      have HX := Lib.hid hx; clear hx
      by_cases hxy : x = y
      · subst hxy
        have hxy' : (x == x) = true := by simp
        go_wp2
        go_ret
        exact ⟨.inr ⟨k, rfl, HX.out, HN.out⟩, rfl⟩
      · have hxy' : (x == y) = false := by simpa using hxy
        have HXY := Lib.hid hxy; clear hxy
        go_wp2
        go_round
        case rel => exact ⟨k + 1, by omega, by go_num, fun j hj => by
            by_cases hjk : j = k
            · subst hjk; rw [HX.out]; intro h0; cases h0; exact HXY.out rfl
            · exact HN.out j (by omega)⟩
        case measure => simp [intOf]; omega
    · have HE := Lib.hid (show k = l.length by omega)
      go_wp2
      go_ret
      refine ⟨.inl ⟨rfl, fun hm => ?_⟩, rfl⟩
      obtain ⟨j, hj⟩ := List.mem_iff_getElem?.1 hm
      exact HN.out j (by rw [HE.out]; exact (List.getElem?_eq_some_iff.1 hj).1) hj
set_option maxRecDepth 100000 in
set_option maxHeartbeats 1000000 in
theorem rsum_any (va vc vk vq : Value) (T : Tb) (qs : List Int) (w : World) (h : TbR w va vc vk T) (ho : OkT T) (hq : RdI w vq qs) (hb : ∀ x, x ∈ qs → 0 ≤ x ∧ x < T.costs.length) (hl : qs.length ≤ 1000000) :
    Calls Try.prog 35 #[.agg #[va, vc, vk], vq] w fun e w' => e = .returned (.int .i64 (sumQ T qs)) ∧ Below w.heap.size w w' := by
  obtain ⟨aa, ca, rfl⟩ := h.rows.form
  obtain ⟨ac, cc, rfl⟩ := h.costs.form
  obtain ⟨ak, ck, rfl⟩ := h.cls.form
  obtain ⟨aq, cq, rfl⟩ := hq.form
  have HB := Lib.hid (alloc_below w (.cells #[.slice aa T.rows.length ca, .slice ac T.costs.length cc, .slice ak T.cls.length ck] 25))
  have HT := Lib.hid (h.below HB.out)
  have BX := Lib.hid (Boxs.new w 25 #[.slice aa T.rows.length ca, .slice ac T.costs.length cc, .slice ak T.cls.length ck])
  have HQ := Lib.hid (hq.below HB.out)
  have HO := Lib.hid ho; have HBD := Lib.hid hb
  obtain ⟨B, hB⟩ : ∃ b, w.heap.size = b := ⟨_, rfl⟩
  rw [hB] at BX
  clear h hq ho hb
  go_enter Try.func35, Try.ntmps35
  go_wp2_with fail
  generalize w.alloc (.cells #[.slice aa T.rows.length ca, .slice ac T.costs.length cc, .slice ak T.cls.length ck] 25) = w1 at *
  clear hB
  go_loopw [5, 6] (fun sv iv wr => ∃ k : Nat, k ≤ qs.length ∧ iv = .int .i64 k ∧ sv = .int .i64 (sumQ T (qs.take k)) ∧ Below w1.heap.size w1 wr) (fun _ iv _ => qs.length - (intOf iv).toNat)
  case atStart => exact ⟨0, Nat.zero_le _, rfl, rfl, Below.refl _ _⟩
  case round =>
    obtain ⟨k, hk, rfl, rfl, hbl⟩ := hrel
    have hk0 : (0 : Int) ≤ (k : Int) := Int.natCast_nonneg _
    have HBL := Lib.hid hbl
    by_cases hlt : k < qs.length
    · have hk1 : (k : Int) < (qs.length : Int) := by omega
      obtain ⟨x, hx⟩ := elem_at hlt
      have hxb := HBD.out x (List.mem_of_getElem? hx)
      obtain ⟨m, rfl⟩ : ∃ m : Nat, x = m := ⟨x.toNat, by omega⟩
      obtain ⟨y, hy⟩ := elem_at (show m < T.costs.length by omega)
      have hyb := HO.out.cb y (List.mem_of_getElem? hy)
      have hst : sumQ T (qs.take (k + 1)) = sumQ T (qs.take k) + y := by rw [sumQ_succ hx]; simp only [Int.toNat_natCast]; rw [costAt_of hy]
      have hsb := sumQ_bd HO.out (qs.take k)
      have hsl : (qs.take k).length ≤ 1000000 := by have := List.length_take_le k qs; omega
      obtain ⟨bq, oq, rfl, _, qx⟩ := ints_at (HQ.out.below hbl) hx
      obtain ⟨bc, oc, rfl, _, qy⟩ := ints_at (HT.out.costs.below hbl) hy
      obtain ⟨s, hs⟩ : ∃ s, sumQ T (qs.take k) = s := ⟨_, rfl⟩
      rw [hs] at hst hsb ⊢
      have HST := Lib.hid hst
      have bx := Boxs.below BX.out hbl
      have c1 := bx.cell 1
      simp only [List.getElem?_toArray, List.getElem?_cons_zero, List.getElem?_cons_succ] at c1
      have hm0 : (0 : Int) ≤ (m : Int) := Int.natCast_nonneg _
      have hm1 : (m : Int) < (T.costs.length : Int) := hxb.2
      have HW := Lib.hid (show IntKind.i64.wrap (s + y) = s + y from IntWalk.i64_in _ (by omega))
      clear hx hy hst hs bx hbl
      have hS : (wr.drewN 1).cell? ⟨B, 1, none⟩ = some (.slice (some ⟨bc, oc, none⟩) T.costs.length cc) ∧ (wr.drewN 1).cell? ⟨bq, oq + k, none⟩ = some (.int .i64 (m : Int)) ∧ (wr.drewN 1).cell? ⟨bc, oc + m, none⟩ = some (.int .i64 y) := ⟨c1, qx, qy⟩
      go_wp2_with fail
      refine wp_region_E (fun W => W.cell? ⟨B, 1, none⟩ = some (.slice (some ⟨bc, oc, none⟩) T.costs.length cc) ∧ W.cell? ⟨bq, oq + k, none⟩ = some (.int .i64 (m : Int)) ∧ W.cell? ⟨bc, oc + m, none⟩ = some (.int .i64 y)) (by kernel_rfl) ?_
      have hdr : (wr).drew = { wr with drawn := (wr).drawn + 1 } := rfl
      rw [← hdr]
      clear hdr
      change wpAnyE _ _ _ _ _ _ _ _ ((wr).drewN 1)
      refine tm 0 13 rfl rfl (.int .i64 s) hS ?_
      try simp only [pa, pl]
      refine tg 1 14 rfl rfl (.pointer (some ⟨B, 1, none⟩)) hS ?_
      try simp only [pa, pl]
      refine tk 2 15 rfl rfl (.slice (some ⟨bc, oc, none⟩) T.costs.length cc) (fun W hW => by obtain ⟨c1, qx, qy⟩ := hW; go_simp) hS ?_
      try simp only [pa, pl]
      refine tm 3 16 rfl rfl (.slice (some ⟨bq, oq, none⟩) qs.length cq) hS ?_
      try simp only [pa, pl]
      refine tm 4 17 rfl rfl (.int .i64 (k : Int)) hS ?_
      try simp only [pa, pl]
      refine tg 5 18 rfl rfl (.pointer (some ⟨bq, oq + k, none⟩)) hS ?_
      try simp only [pa, pl]
      refine tk 6 19 rfl rfl (.int .i64 (m : Int)) (fun W hW => by obtain ⟨c1, qx, qy⟩ := hW; go_simp) hS ?_
      try simp only [pa, pl]
      refine tg 7 20 rfl rfl (.pointer (some ⟨bc, oc + m, none⟩)) hS ?_
      try simp only [pa, pl]
      refine tk 8 21 rfl rfl (.int .i64 y) (fun W hW => by obtain ⟨c1, qx, qy⟩ := hW; go_simp) hS ?_
      try simp only [pa, pl]
      refine tk 9 22 rfl rfl (.int .i64 (s + y)) (fun _ _ => by go_simp <;> exact HW.out) hS ?_
      try simp only [pa, pl]
      refine wpAnyEOne 10 (by kernel_rfl) ?_
      refine wpOpRun' (v := .int .i64 (s + y)) (w' := wr.drewN 1) (some 5) rfl rfl rfl (by rfl) ?_
      refine ⟨.inr (allUp_of (by kernel_rfl)), ?_⟩
      try simp only [pa, pl]
      refine wpAnyE_done (by kernel_rfl) ?_ _
      clear hS c1 qx qy
      have HBL2 := Lib.hid (Below.dn HBL.out 1)
      go_wp2_with fail
      go_roundw
      case rel => exact ⟨k + 1, by omega, by go_num, by rw [HST.out], HBL2.out⟩
      case measure => simp [intOf]; omega
    · have hk1 : ¬ (k : Int) < (qs.length : Int) := by omega
      have hall : qs.take k = qs := List.take_of_length_le (by omega)
      rw [hall]
      have HR := Lib.hid (HB.out.trans (hbl.mono HB.out.size))
      clear hbl hall
      go_wp2_with fail
      go_ret
      exact ⟨rfl, HR.out⟩
end Go.Proofs.Ytmkkegigajmhkaa

namespace Go.Proofs.Ytmkkegigajmhkaa
open Go.RowKit Go.Maps

def IdxR (l : List Int) (y : Int) (k : Int) : Prop := (k = -1 ∧ y ∉ l) ∨ ∃ n : Nat, k = n ∧ l[n]? = some y ∧ ∀ j, j < n → l[j]? ≠ some y
theorem IdxOut.r {l : List Int} {y : Int} {e : Ending} (h : IdxOut l y e) : ∃ k : Int, e = .returned (.int .i64 k) ∧ IdxR l y k := by
  rcases h with ⟨rfl, h⟩ | ⟨k, rfl, h⟩
  · exact ⟨_, rfl, .inl ⟨rfl, h⟩⟩
  · exact ⟨_, rfl, .inr ⟨k, rfl, h⟩⟩
set_option maxRecDepth 100000 in
set_option maxHeartbeats 8000000 in
theorem rfollow_any {F : Nat → Prop} {W0 : World} {v : Value} {t0 : Tr} (h : TreeIn 105 F W0 v t0) (hdep : depT t0 ≤ 100000) (vr : Value) (rows : List Int) (w : World) (hb : Below W0.heap.size W0 w) (hr : RdI w vr rows) :
    Calls Try.prog 34 #[v, vr] w fun e w' => FollowOut w.heap.size t0 rows e w' ∧ Below w.heap.size w w' := by
  have IS := ris_any h w hb
  obtain ⟨ar, cr, rfl⟩ := hr.form
  have HR := Lib.hid hr; have HB := Lib.hid hb
  obtain ⟨N, hN⟩ : ∃ n, n = w.heap.size := ⟨_, rfl⟩
  rw [← hN]
  have HNK := Lib.hid fun (W : World) (h : Below N w W) => (by have := h.size; omega : N ≤ W.heap.size)
  obtain ⟨p0, hp0⟩ := h.form
  have HP0 := Lib.hid hp0
  have HH := Lib.hid h
  obtain ⟨bi, hbi⟩ : ∃ b, isT t0 = b := ⟨_, rfl⟩
  rw [hbi] at IS
  have HBI := Lib.hid hbi
  clear h hr hb hbi
  subst hp0
  go_enter Try.func34, Try.ntmps34
  go_wp2_with fail
  with_reducible refine IS.mono ?_
  rintro e w1 ⟨rfl, hb1⟩
  rw [← hN] at hb1
  have HB1 := Lib.hid hb1
  clear hb1 IS
  cases bi
  · go_wp2_with fail
    (try simp only [Exit.inBlock, Exit.then]); refine bodyPost_ret (results_tmp3 rfl _ _ _) rfl ?_
    exact ⟨⟨_, _, _, _, rfl, .bad HBI.out, World.ownsRow_nil _ _ _ _⟩, HB1.out⟩
  go_wp2_with fail
  go_loopw [0, 7] (fun xv qv wr => ∃ (t : Tr) (qs : List Int), TreeIn 105 F W0 xv t ∧ isT t = true ∧ (∀ (c : Int) (ps : List Int) (e : Int), Wk rows t qs c ps e → Wk rows t0 [] c ps e) ∧ wr.ownsRow N 3 1 qv qs.length (ints qs) ∧ qs.length + depT t ≤ 100000 ∧ Below N w wr) (fun _ qv _ => 100000 - lenOf qv)
  case atStart => exact ⟨t0, [], HH.out, HBI.out, fun _ _ _ h => h, World.ownsRow_nil _ _ _ _, by simpa using hdep, HB1.out⟩
  case round =>
    clear HH hdep HB1
    obtain ⟨t, qs, ht, hi, hwk, hown, hdp, hbl⟩ := hrel
    cases t with
    | nil => cases hi
    | node a c ans kids =>
    obtain ⟨b, us, va, vk, rfl, _, hbx, hra, hrk, hts⟩ := ht.open
    have hbw := HB.out.trans (hbl.mono (by have := HB.out.size; omega))
    obtain ⟨aa, ca, rfl⟩ := RdI.form (show RdI W0 va ans from hra.1)
    obtain ⟨ak, ck, rfl, hrk2⟩ : ∃ x c, vk = .slice x us.length c ∧ Rd W0 (.slice x us.length c) us := by
      obtain ⟨x, c, h1, _⟩ := hrk.1; exact ⟨x, c, h1, h1 ▸ hrk.1⟩
    have hbx2 := Boxs.below hbx hbw
    have hbx1 := Boxs.below hbx HB.out
    have hltb : b < N := by rw [hN]; exact hbx1.lt
    have c3w := hbx1.cell 3
    simp only [List.getElem?_toArray, List.getElem?_cons_zero, List.getElem?_cons_succ] at c3w
    have C3W := Lib.hid c3w
    clear c3w hbx1
    have hblt := hbx2.lt
    have c0 := hbx2.cell 0; have c1 := hbx2.cell 1; have c2 := hbx2.cell 2; have c3 := hbx2.cell 3
    simp only [List.getElem?_toArray, List.getElem?_cons_zero, List.getElem?_cons_succ] at c0 c1 c2 c3
    obtain ⟨aq, cq, rfl⟩ := owns_form hown
    have HI := Lib.hid hi; have HWK := Lib.hid hwk; have HOWN := Lib.hid hown; have HBL := Lib.hid hbl; have HTS := Lib.hid hts; have HRK := Lib.hid hrk2; have HRA := Lib.hid hra; have HBW := Lib.hid hbw
    clear ht hi hwk hown hbl hts hrk hrk2 hra hbx hbx2 hbw
    by_cases ha : a < 0
    · clear HP0
      go_wp2_with fail
      (try simp only [Exit.inBlock, Exit.then]); refine bodyPost_ret (results_tmp3 rfl _ _ _) rfl ?_
      subst hN
      exact ⟨⟨_, _, _, _, rfl, .good HBI.out (HWK.out _ _ _ (.leaf ha)), HOWN.out⟩, HBL.out⟩
    · obtain ⟨m, rfl⟩ : ∃ m : Nat, a = m := ⟨a.toNat, by omega⟩
      have hm0 : (0 : Int) ≤ (m : Int) := Int.natCast_nonneg _
      obtain ⟨_, hne, hkl, hinc, hks⟩ := isT_parts HI.out hm0
      by_cases hl : rows.length ≤ m
      · have hl' : (rows.length : Int) ≤ (m : Int) := by omega
        have HKL := Lib.hid hkl
        clear HP0 hkl
        go_wp2_with fail
        (try simp only [Exit.inBlock, Exit.then]); refine bodyPost_ret (results_tmp3 rfl _ _ _) rfl ?_
        subst hN
        exact ⟨⟨_, _, _, _, rfl, .good HBI.out (HWK.out _ _ _ (.far hm0 hl')), World.ownsRow_nil _ _ _ _⟩, HBL.out⟩
      · have hl' : ¬ (rows.length : Int) ≤ (m : Int) := by omega
        obtain ⟨y, hy⟩ := elem_at (show m < rows.length by omega)
        obtain ⟨br, or, rfl, hrlt0, qy0⟩ := ints_at HR.out hy
        have qy := (HBL.out.cell (p := ⟨br, or + m, none⟩) (show br < N by omega)).trans qy0
        have IX := index_any (.slice aa ans.length ca) ans y (wr.drewN 1) ((RdI.below HRA.out.1 HBW.out).below (Below.dn (Below.refl wr.heap.size wr) 1))
        have HKL := Lib.hid hkl; have HY := Lib.hid hy; have HKS := Lib.hid hks
        have hm1 : (m : Int) < (rows.length : Int) := by omega
        have hS : (wr.drewN 1).cell? ⟨b, 0, none⟩ = some (.int .i64 (m : Int)) ∧ (wr.drewN 1).cell? ⟨b, 2, none⟩ = some (.slice aa ans.length ca) ∧ (wr.drewN 1).cell? ⟨br, or + m, none⟩ = some (.int .i64 y) := ⟨c0, c2, qy⟩
        clear hkl hy hks HP0 hinc hne
        go_wp2_with fail
        refine wp_region_E (fun W => W.cell? ⟨b, 0, none⟩ = some (.int .i64 (m : Int)) ∧ W.cell? ⟨b, 2, none⟩ = some (.slice aa ans.length ca) ∧ W.cell? ⟨br, or + m, none⟩ = some (.int .i64 y)) (by kernel_rfl) ?_
        have hdr : (wr).drew = { wr with drawn := (wr).drawn + 1 } := rfl
        rw [← hdr]
        clear hdr
        change wpAnyE _ _ _ _ _ _ _ _ ((wr).drewN 1)
        refine tm 0 24 rfl rfl (.pointer (some ⟨b, 0, none⟩)) hS ?_
        try simp only [pa, pl]
        refine tg 1 25 rfl rfl (.pointer (some ⟨b, 0, none⟩)) hS ?_
        try simp only [pa, pl]
        refine tg 2 26 rfl rfl (.pointer (some ⟨b, 2, none⟩)) hS ?_
        try simp only [pa, pl]
        refine tk 3 27 rfl rfl (.slice aa ans.length ca) (fun W hW => by obtain ⟨c0, c2, qy⟩ := hW; go_simp) hS ?_
        try simp only [pa, pl]
        refine tm 4 28 rfl rfl (.slice (some ⟨br, or, none⟩) rows.length cr) hS ?_
        try simp only [pa, pl]
        refine tm 5 29 rfl rfl (.pointer (some ⟨b, 0, none⟩)) hS ?_
        try simp only [pa, pl]
        refine tg 6 30 rfl rfl (.pointer (some ⟨b, 0, none⟩)) hS ?_
        try simp only [pa, pl]
        refine tg 7 31 rfl rfl (.pointer (some ⟨b, 0, none⟩)) hS ?_
        try simp only [pa, pl]
        refine tk 8 32 rfl rfl (.int .i64 (m : Int)) (fun W hW => by obtain ⟨c0, c2, qy⟩ := hW; go_simp) hS ?_
        try simp only [pa, pl]
        refine tg 9 33 rfl rfl (.pointer (some ⟨br, or + m, none⟩)) hS ?_
        try simp only [pa, pl]
        refine tk 10 34 rfl rfl (.int .i64 y) (fun W hW => by obtain ⟨c0, c2, qy⟩ := hW; go_simp) hS ?_
        try simp only [pa, pl]
        refine wpAnyEOne 11 (by kernel_rfl) ?_
        refine wpOpCall (some 35) 69 #[.slice aa ans.length ca, .int .i64 y] rfl rfl rfl (by go_simp) (IX) ?_
        rintro e w5 ⟨hix, rfl⟩
        obtain ⟨kv, rfl, hkv⟩ := hix.r
        have HKV := Lib.hid hkv
        clear hix hkv
        refine ⟨_, rfl, ?_⟩
        refine ⟨.inl (hS), ?_⟩
        try simp only [pa, pl]
        refine wpAnyEOne 12 (by kernel_rfl) ?_
        refine wpOpRun' (v := .int .i64 kv) (w' := wr.drewN 1) (some 8) rfl rfl rfl (by rfl) ?_
        refine ⟨.inr (allUp_of (by kernel_rfl)), ?_⟩
        try simp only [pa, pl]
        refine wpAnyE_done (by kernel_rfl) ?_ _
        have hb5 := Below.dn (Below.refl wr.heap.size wr) 1
        have HBL5 := Lib.hid (HBL.out.trans (hb5.mono (HNK.out _ HBL.out)))
        have HOWN5 := Lib.hid (owns_below HOWN.out hb5)
        obtain ⟨w5, hw5⟩ : ∃ w5, wr.drewN 1 = w5 := ⟨_, rfl⟩
        rw [hw5] at HBL5 HOWN5 ⊢
        have d0 : w5.cell? ⟨b, 0, none⟩ = some (.int .i64 (m : Int)) := by rw [← hw5]; exact c0
        have d3 : w5.cell? ⟨b, 3, none⟩ = some (.slice ak us.length ck) := by rw [← hw5]; exact c3
        have hblt5 : b < w5.heap.size := by rw [← hw5]; exact hblt
        have hs5 := HNK.out _ HBL5.out
        clear IX hb5 c0 c1 c2 c3 qy HBL HBW HOWN hS hw5
        rcases HKV.out with ⟨rfl, hn⟩ | ⟨ix, rfl, hk, hfst⟩
        · have HNN := Lib.hid hn
          clear hn HKV
          go_wp2_with fail
          (try simp only [Exit.inBlock, Exit.then]); refine bodyPost_ret (results_tmp3 rfl _ _ _) rfl ?_
          subst hN
          exact ⟨⟨_, _, _, _, rfl, .good HBI.out (HWK.out _ _ _ (.gone hm0 (by simpa using HY.out) HNN.out)), World.ownsRow_nil _ _ _ _⟩, HBL5.out⟩
        · clear HKV
          have hklt := (List.getElem?_eq_some_iff.1 hk).1
          obtain ⟨t', ht'⟩ := elem_at (show ix < kids.length by rw [HKL.out]; exact hklt)
          have hul : us.length = kids.length := HTS.out.1
          obtain ⟨u, hu⟩ := elem_at (show ix < us.length by rw [hul, HKL.out]; exact hklt)
          obtain ⟨bk, ok, rfl, hbk, hcell⟩ := HRK.out.at hu
          have hltk : bk < N := by have := HB.out.size; omega
          have QK := Lib.hid ((HB.out.cell (p := ⟨bk, ok + ix, none⟩) hbk).trans hcell)
          have ht2 := HTS.out.2 ix u t' hu ht'
          have hdl := depT_kid (a := (m : Int)) (c := c) (ans := ans) ht'
          have hux : (ix : Int) < (us.length : Int) := by have := (List.getElem?_eq_some_iff.1 hu).1; omega
          have hix0 : (0 : Int) ≤ (ix : Int) := Int.natCast_nonneg _
          have HT2 := Lib.hid ht2
          have HI2 := Lib.hid (isTs_mem HKS.out (List.mem_of_getElem? ht'))
          have HW2 := Lib.hid (fun (c' : Int) (ps : List Int) (e : Int) (hh : Wk rows t' (qs ++ [(m : Int)]) c' ps e) => HWK.out c' ps e (.step (acc := qs) (c := c) hm0 (by simpa using HY.out) hk hfst ht' hh))
          have hql : qs.length + 1 ≤ 100000 := by omega
          clear ht2 ht' hk hu hul hcell hfst
          obtain ⟨pu, rfl⟩ := HT2.out.form
          go_wp2_with (at_builtin; refine wpList_appI (base := N) rfl _ _ rfl (.slice aq qs.length cq) qs rfl (HOWN5.out.alloc _) (.slice (some ⟨w5.heap.size, 0, none⟩) 1 1) [(m : Int)] rfl (Rd_fresh w5 3 #[.int .i64 (m : Int)] 1 rfl (by omega)) (by simp; omega) (by simp; omega) ?_; intro v6 w6 happ; have hb56 := (alloc_below w5 (.cells #[.int .i64 (m : Int)] 3)); have HB6 := Lib.hid (happ.below (HBL5.out.trans (hb56.mono hs5)) (HOWN5.out.alloc _) (Nat.le_refl _) (by simp; omega)); have e3 := (HB6.out.cell (p := ⟨b, 3, none⟩) hltb).trans C3W.out; have e4 := (HB6.out.cell (p := ⟨bk, ok + ix, none⟩) hltk).trans QK.out; obtain ⟨a6, c6, rfl⟩ := happ.form; have HAPP := Lib.hid happ.1; clear happ hb56)
          go_roundw
          case rel => exact ⟨t', qs ++ [(m : Int)], HT2.out, HI2.out, HW2.out, by have := HAPP.out; simpa using this, by simp; omega, HB6.out⟩
          case measure => simp [lenOf]; omega
end Go.Proofs.Ytmkkegigajmhkaa

namespace Go.Proofs.Ytmkkegigajmhkaa
open Go.RowKit Go.Maps

set_option maxRecDepth 100000 in
set_option maxHeartbeats 8000000 in
theorem rcheck_any {F : Nat → Prop} {W0 : World} {v : Value} {t0 : Tr} (h : TreeIn 105 F W0 v t0) (hdep : depT t0 ≤ 100000) (va vc vk : Value) (T : Tb) (w : World) (hb : Below W0.heap.size W0 w) (hT : TbR w va vc vk T) :
    Calls Try.prog 31 #[.agg #[va, vc, vk], v] w fun e w' => (∃ c x, e = .returned (.tuple #[.int .i64 c, .int .i64 x]) ∧ Ck T t0 c x) ∧ Below w.heap.size w w' := by
  have IS := Lib.hid fun (W : World) (hW : Below w.heap.size w W) => ris_any h W (hb.trans (hW.mono hb.size))
  have WK := Lib.hid fun (vr : Value) (rows : List Int) (W : World) (hW : Below w.heap.size w W) (hr : RdI W vr rows) => rfollow_any h hdep vr rows W (hb.trans (hW.mono hb.size)) hr
  obtain ⟨p, rfl⟩ := h.form
  obtain ⟨aa, ca, rfl⟩ := hT.rows.form
  obtain ⟨ac, cc, rfl⟩ := hT.costs.form
  obtain ⟨ak, ck, rfl⟩ := hT.cls.form
  have HB := Lib.hid (alloc_below w (.cells #[.slice aa T.rows.length ca, .slice ac T.costs.length cc, .slice ak T.cls.length ck] 25))
  have HBT := Lib.hid (BoxT.new hT 25)
  obtain ⟨B, hB⟩ : ∃ B, w.heap.size = B := ⟨_, rfl⟩
  rw [hB] at HBT
  clear h hb hT
  have V := rvalid_any _ _ _ T _ HBT.out.tb
  have c0 := HBT.out.c0; have c1 := HBT.out.c1; have c2 := HBT.out.c2
  obtain ⟨x, hx⟩ : ∃ x, validE T = x := ⟨_, rfl⟩
  rw [hx] at V
  go_enter Try.func31, Try.ntmps31
  go_wp2_with fail
  generalize w.alloc (.cells #[.slice aa T.rows.length ca, .slice ac T.costs.length cc, .slice ak T.cls.length ck] 25) = wb at *
  refine V.mono ?_
  rintro e w2 ⟨rfl, hb2⟩
  have HBT2 := Lib.hid (HBT.out.below hb2)
  have HB2 := Lib.hid (HB.out.trans (hb2.mono HB.out.size))
  have HX := Lib.hid hx
  clear V c0 c1 c2 hb2 HB HBT hx
  by_cases hv : x = 0
  · subst hv
    have IS2 := IS.out w2 HB2.out
    obtain ⟨bi, hbi⟩ : ∃ b, isT t0 = b := ⟨_, rfl⟩
    rw [hbi] at IS2
    have HI := Lib.hid hbi
    clear hbi
    go_wp2_with fail
    refine IS2.mono ?_
    rintro e w3 ⟨rfl, hb3⟩
    have HBT3 := Lib.hid (HBT2.out.below hb3)
    have HB3 := Lib.hid (HB2.out.trans (hb3.mono HB2.out.size))
    clear IS2 hb3 HBT2 HB2
    cases bi
    · go_wp2_with fail
      go_ret2
      exact ⟨⟨_, _, rfl, .form HX.out HI.out⟩, HB3.out⟩
    · have HO := Lib.hid ((okT_iff T).1 HX.out)
      have hr64 := HO.out.r64
      have c0 := HBT3.out.c0
      go_wp2_with fail
      clear c0
      go_loopw [7, 8] (fun mv iv wr => ∃ (i : Nat) (most : Int), i ≤ T.rows.length ∧ iv = .int .i64 i ∧ mv = .int .i64 most ∧ 0 ≤ most ∧ most ≤ 1000000000 ∧ (∀ c e, CkL T t0 i most c e → CkL T t0 0 0 c e) ∧ Below w3.heap.size w3 wr) (fun _ iv _ => T.rows.length - (intOf iv).toNat)
      case atStart => exact ⟨0, 0, Nat.zero_le _, rfl, rfl, by omega, by omega, fun _ _ h => h, Below.refl _ _⟩
      case round =>
        obtain ⟨i, most, hi, rfl, rfl, hm0, hm1, hck, hbl⟩ := hrel
        have hi0 : (0 : Int) ≤ (i : Int) := Int.natCast_nonneg _
        have hbt := HBT3.out.below hbl
        have c0 := hbt.c0
        have HBL := Lib.hid hbl; have HCK := Lib.hid hck
        by_cases hlt : i < T.rows.length
        · have hi1 : (i : Int) < (T.rows.length : Int) := by omega
          obtain ⟨r, hr⟩ := elem_at hlt
          obtain ⟨b1, o1, u, rfl, hbl1, q1, hu⟩ := rows_at hbt.tb.rows hr
          obtain ⟨au, cu, rfl⟩ := hu.form
          obtain ⟨kc, hkc⟩ := elem_at (show i < T.cls.length by rw [HO.out.kl]; exact hlt)
          have WK2 := WK.out _ r wr (HB3.out.trans (hbl.mono HB3.out.size)) hu
          have hrl := HO.out.rl r (List.mem_of_getElem? hr)
          have HR := Lib.hid hr; have HKC := Lib.hid hkc; have HRL := Lib.hid hrl
          clear hbl hbt hck hr hu hkc hrl hbl1
          go_wp2_with fail
          refine WK2.mono ?_
          rintro e w4 ⟨⟨c, qs, x, vq, rfl, hfo, hown⟩, hb4⟩
          have hw : Wk r t0 [] c qs x := by
            cases hfo with
            | bad h => rw [HI.out] at h; cases h
            | good _ hw => exact hw
          have HBL4 := Lib.hid (HBL.out.trans (hb4.mono HBL.out.size))
          have hbt := HBT3.out.below HBL4.out
          obtain ⟨aq, cq, rfl⟩ := owns_form hown
          have HW := Lib.hid hw; have HOWN := Lib.hid (owns_ints hown)
          obtain ⟨bk, ok, rfl, _, qk⟩ := ints_at hbt.tb.cls HKC.out
          have hkl := HO.out.kl
          have hik : (i : Int) < (T.cls.length : Int) := by omega
          have d0 := hbt.c0; have d1 := hbt.c1; have d2 := hbt.c2
          have hca := clsAt_of HKC.out
          have HCA := Lib.hid hca
          have HTB := Lib.hid hbt.tb
          clear WK2 hw hfo hown hb4 hbt q1 HBL hkl hca c0
          by_cases hx : x = 0
          · subst hx
            by_cases hc : c = kc
            · subst hc
              have hst := HW.out
              rw [← HCA.out] at hst
              have HST := Lib.hid hst
              have hwb := hst.bound
              have hsb := sumQ_bd HO.out qs
              have hql : qs.length ≤ 100000 := by have := hwb.2; simp at this; omega
              have SU := rsum_any _ _ _ _ T qs w4 HTB.out HO.out HOWN.out (fun z hz => by have := (hwb.1 z hz).resolve_left (by simp); rw [HRL.out] at this; exact this) (by omega)
              obtain ⟨sq, hsq⟩ : ∃ s, sumQ T qs = s := ⟨_, rfl⟩
              rw [hsq] at hsb SU
              have HSQ := Lib.hid hsq
              have HN := Lib.hid fun (c e : Int) (hh : CkL T t0 (i + 1) (max most sq) c e) => HCK.out c e (.step HR.out HST.out (by rw [HSQ.out]; exact hh))
              clear hst hwb hsq
              go_wp2_with fail
              refine SU.mono ?_
              rintro e w5 ⟨rfl, hb5⟩
              have HBL5 := Lib.hid (HBL4.out.trans (hb5.mono HBL4.out.size))
              clear SU hb5 d0 d1 d2 qk
              go_wp2_with fail
              go_roundw
              case rel => exact ⟨i + 1, max most sq, by omega, by go_num, rfl, by omega, by omega, HN.out, HBL5.out⟩
              case measure => simp [intOf]; omega
            · have hc' : (c != kc) = true := by simpa using hc
              have HN := Lib.hid (HCK.out _ _ (.differ HR.out HW.out (by rw [HCA.out]; exact hc)))
              go_wp2_with fail
              go_ret2
              exact ⟨⟨_, _, rfl, .good HX.out HI.out HN.out⟩, HB3.out.trans (HBL4.out.mono HB3.out.size)⟩
          · have hx' : (x != 0) = true := by simpa using hx
            have HN := Lib.hid (HCK.out _ _ (.none HR.out HW.out hx))
            go_wp2_with fail
            go_ret2
            exact ⟨⟨_, _, rfl, .good HX.out HI.out HN.out⟩, HB3.out.trans (HBL4.out.mono HB3.out.size)⟩
        · obtain rfl : i = T.rows.length := by omega
          have hi1 : ¬ (T.rows.length : Int) < (T.rows.length : Int) := by omega
          clear hbl hbt hck
          go_wp2_with fail
          go_ret2
          subst hB
          exact ⟨⟨_, _, rfl, .good HX.out HI.out (HCK.out _ _ (.done rfl))⟩, HB3.out.trans (HBL.out.mono HB3.out.size)⟩
  · have hv' : (x != 0) = true := by simpa using hv
    have HV := Lib.hid hv
    clear hv
    go_wp2_with fail
    go_ret2
    exact ⟨⟨_, _, rfl, by rw [← HX.out]; exact .bad (by rw [HX.out]; exact HV.out)⟩, HB2.out⟩
end Go.Proofs.Ytmkkegigajmhkaa

namespace Go.Proofs.Ytmkkegigajmhkaa
open Go.RowKit Go.Maps

/-- the cost for some worlds is noted -/
def Noted (C : List Int) (ws : List Nat) : Prop := ∃ c, C[setW ws]? = some c ∧ 0 ≤ c
/-- the parts by a question are noted -/
def PartsN (T : Tb) (C : List Int) (ws : List Nat) (k : Nat) : Prop := 2 ≤ (given T ws k).length → ∀ a, a ∈ given T ws k → single T (withW T ws k a) = true ∨ Noted C (withW T ws k a)
structure KnownR (T : Tb) (A C : List Int) : Prop where
  la : A.length = 2 ^ T.rows.length
  lc : C.length = 2 ^ T.rows.length
  val : ∀ (s : Nat) (c : Int), C[s]? = some c → 0 ≤ c → ∃ ws, WsOk T ws ∧ ws.Pairwise (· < ·) ∧ single T ws = false ∧ s = setW ws ∧ c = (bestV T ws).2 ∧ A[s]? = some (bestV T ws).1 ∧ ∀ k, k < T.costs.length → PartsN T C ws k
def MonoN (C C' : List Int) : Prop := ∀ u, Noted C u → Noted C' u
theorem MonoN.refl (C : List Int) : MonoN C C := fun _ h => h
theorem MonoN.trans {A B C : List Int} (h : MonoN A B) (k : MonoN B C) : MonoN A C := fun u hu => k u (h u hu)
theorem PartsN.mono {T : Tb} {C C' : List Int} {ws : List Nat} {k : Nat} (h : PartsN T C ws k) (hm : MonoN C C') : PartsN T C' ws k := fun h2 a ha => (h h2 a ha).imp id (hm _)
theorem mono_set {C : List Int} {s : Nat} {c : Int} (hc : 0 ≤ c) : MonoN C (C.set s c) := fun u ⟨x, hx, h0⟩ => by
  by_cases e : s = setW u
  · subst e
    exact ⟨c, List.getElem?_set_self (List.getElem?_eq_some_iff.1 hx).1, hc⟩
  · exact ⟨x, by rw [List.getElem?_set_ne e]; exact hx, h0⟩
theorem noted_set {C : List Int} {ws : List Nat} {c : Int} (hc : 0 ≤ c) (hl : setW ws < C.length) : Noted (C.set (setW ws) c) ws := ⟨c, List.getElem?_set_self hl, hc⟩
theorem KnownR.put {T : Tb} {A C : List Int} (h : KnownR T A C) (ho : OkT T) {ws : List Nat} (hok : WsOk T ws) (hs : ws.Pairwise (· < ·)) (hn : single T ws = false) (hp : ∀ k, k < T.costs.length → PartsN T C ws k) :
    KnownR T (A.set (setW ws) (bestV T ws).1) (C.set (setW ws) (bestV T ws).2) := by
  have hb := (bestV_bd ho ws).2.1
  have hm := mono_set (C := C) (s := setW ws) hb
  have hlt := setW_lt ws hok
  refine ⟨by rw [List.length_set]; exact h.la, by rw [List.length_set]; exact h.lc, fun s c hc h0 => ?_⟩
  by_cases e : setW ws = s
  · subst e
    rw [List.getElem?_set_self (by rw [h.lc]; exact hlt)] at hc
    cases hc
    exact ⟨ws, hok, hs, hn, rfl, rfl, List.getElem?_set_self (by rw [h.la]; exact hlt), fun k hk => (hp k hk).mono hm⟩
  · rw [List.getElem?_set_ne e] at hc
    obtain ⟨us, h1, h2, h3, h4, h5, h6, h7⟩ := h.val s c hc h0
    exact ⟨us, h1, h2, h3, h4, h5, by rw [List.getElem?_set_ne e]; exact h6, fun k hk => (h7 k hk).mono hm⟩
theorem KnownR.hit {T : Tb} {A C : List Int} (h : KnownR T A C) {ws : List Nat} (hs : ws.Pairwise (· < ·)) {c : Int} (hc : C[setW ws]? = some c) (h0 : 0 ≤ c) : c = (bestV T ws).2 ∧ A[setW ws]? = some (bestV T ws).1 ∧ ∀ k, k < T.costs.length → PartsN T C ws k := by
  obtain ⟨us, _, h2, _, h4, h5, h6, h7⟩ := h.val _ _ hc h0
  obtain rfl := setW_inj hs h2 h4
  exact ⟨h5, h6, h7⟩
/-! ### in memory -/
structure RPos (N1 N0 bc ga gk : Nat) : Prop where
  n0 : N1 ≤ N0
  c1 : N1 ≤ bc
  c : bc < N0
  a : ga < N0
  k : gk < N0
structure RInv (w1 : World) (T : Tb) (N bc ga gk ca ck : Nat) (A C : List Int) (W : World) : Prop where
  bel : Below w1.heap.size w1 W
  bx : Boxs W bc 96 #[.slice (some ⟨ga, 0, none⟩) N ca, .slice (some ⟨gk, 0, none⟩) N ck]
  rs : OwnRs w1.heap.size W [.slice (some ⟨ga, 0, none⟩) N ca, .slice (some ⟨gk, 0, none⟩) N ck] [A, C]
  kn : KnownR T A C
  hN : N = 2 ^ T.rows.length
theorem owns_blk {base : Nat} {W W' : World} {e : TypeId} {s n : Nat} {v : Value} {xs : List Value} (h : W.ownsRow base e s v n xs) (hk : ∀ g, v.ownBlock = some g → W'.heap[g]? = W.heap[g]?) : W'.ownsRow base e s v n xs := by
  refine ⟨h.1, ?_⟩
  rcases h.2 with h2 | ⟨g, cap, cur, rfl, h2, h3, h4⟩
  · exact .inl h2
  · exact .inr ⟨g, cap, cur, rfl, h2, (hk g rfl).trans h3, h4⟩
theorem RInv.under {w1 W W' : World} {T : Tb} {N N0 bc ga gk ca ck : Nat} {A C : List Int} (hp : RPos w1.heap.size N0 bc ga gk) (h : RInv w1 T N bc ga gk ca ck A C W) (hb : Below N0 W W') : RInv w1 T N bc ga gk ca ck A C W' := by
  refine ⟨h.bel.trans (hb.mono hp.n0), h.bx.block (hb.block _ hp.c), ⟨h.rs.len, fun k u r hu hr => ?_, h.rs.dis⟩, h.kn, h.hN⟩
  refine owns_blk (h.rs.inn k u r hu hr) fun g hg => ?_
  match k, hu with
  | 0, hu => cases hu; cases hg; exact hb.block _ hp.a
  | 1, hu => cases hu; cases hg; exact hb.block _ hp.k
theorem RInv.put {w1 W : World} {T : Tb} {N N0 bc ga gk ca ck : Nat} {A C : List Int} (hp : RPos w1.heap.size N0 bc ga gk) (h : RInv w1 T N bc ga gk ca ck A C W) (s : Nat) (a c : Int) (hk : KnownR T (A.set s a) (C.set s c)) :
    RInv w1 T N bc ga gk ca ck (A.set s a) (C.set s c) ((W.setCell ⟨ga, s, none⟩ (.int .i64 a)).setCell ⟨gk, s, none⟩ (.int .i64 c)) := by
  have r0 := h.rs.inn 0 _ _ rfl rfl
  have r1 := h.rs.inn 1 _ _ rfl rfl
  have l0 := (r0.lt ga rfl).1
  have l1 := (r1.lt gk rfl).1
  have n0 : bc ≠ ga := fun e => h.bx.not_own r0 (by decide) (by rw [e]; rfl)
  have n1 : bc ≠ gk := fun e => h.bx.not_own r1 (by decide) (by rw [e]; rfl)
  exact ⟨(h.bel.setCell (p := ⟨ga, s, none⟩) l0 _).setCell (p := ⟨gk, s, none⟩) l1 _, Boxs.setOther (Boxs.setOther h.bx n0 _) n1 _, (h.rs.put (k := 0) rfl rfl a).put (k := 1) rfl rfl c, hk, h.hN⟩
/-- what the closure returns -/
def RBOut (w1 : World) (T : Tb) (N0 N bc ga gk ca ck : Nat) (C : List Int) (ws : List Nat) (w : World) (e : Ending) (w' : World) : Prop :=
  e = .returned (.int .i64 (bestV T ws).2) ∧ ∃ A' C', RInv w1 T N bc ga gk ca ck A' C' w' ∧ MonoN C C' ∧ (single T ws = true ∨ Noted C' ws) ∧ Keeps (· < N0) w w'
end Go.Proofs.Ytmkkegigajmhkaa

namespace Go.Proofs.Ytmkkegigajmhkaa
open Go.RowKit Go.Maps

theorem cell_blk {W W' : World} {b o : Nat} (h : W'.heap[b]? = W.heap[b]?) : W'.cell? ⟨b, o, none⟩ = W.cell? ⟨b, o, none⟩ := by simp [World.cell?, h]
theorem ints_get {xs : List Int} {k : Nat} {x : Int} (h : xs[k]? = some x) : (ints xs)[k]? = some (.int .i64 x) := by unfold ints; rw [List.getElem?_map, h]; rfl
set_option maxRecDepth 100000 in
set_option maxHeartbeats 16000000 in
theorem rbest_any (w1 : World) (va vc vk : Value) (T : Tb) (ho : OkT T) (h10 : T.rows.length ≤ 10) (hT : TbR w1 va vc vk T) (N0 N bx ga gk cA cK : Nat) (hp : RPos w1.heap.size N0 bx ga gk) :
    ∀ (n : Nat) (ws : List Nat) (v : Value) (w : World) (A C : List Int), ws.length < n → ws.length ≤ 64 → WsOk T ws → ws.Pairwise (· < ·) → RInv w1 T N bx ga gk cA cK A C w → N0 ≤ w.heap.size → RdIn (N0 ≤ ·) w v (ints (nI ws)) →
      Calls Try.prog 60 #[.pointer (some ⟨bx, 0, none⟩), .agg #[va, vc, vk], v] w fun e w' => RBOut w1 T N0 N bx ga gk cA cK C ws w e w' := by
  obtain ⟨aa, ca, rfl⟩ := hT.rows.form
  obtain ⟨ac, cc, rfl⟩ := hT.costs.form
  obtain ⟨ak, ck, rfl⟩ := hT.cls.form
  have HT := Lib.hid hT; have HO := Lib.hid ho; have HP := Lib.hid hp
  have hk64 := ho.c64
  clear hT ho
  intro n
  induction n with
  | zero => intro ws v w A C h0; omega
  | succ n ih =>
  intro ws v w A C hn h64 hok hsrt hinv hN0 hr
  have IH := Lib.hid ih
  obtain ⟨aw, cw, rfl⟩ := RdI.form (show RdI w v (nI ws) from hr.1)
  obtain ⟨B, hB⟩ : ∃ b, w.heap.size = b := ⟨_, rfl⟩
  have HB := Lib.hid (alloc_below w (.cells #[.slice aa T.rows.length ca, .slice ac T.costs.length cc, .slice ak T.cls.length ck] 25))
  have HINV := Lib.hid (hinv.under hp (HB.out.mono hN0))
  have BX := Lib.hid (Boxs.new w 25 #[.slice aa T.rows.length ca, .slice ac T.costs.length cc, .slice ak T.cls.length ck])
  have HR := Lib.hid ((hr.mono (G := fun i => N0 ≤ i ∧ i ≠ w.heap.size) fun i hi hF => ⟨hF, by omega⟩).below HB.out)
  have HK := Lib.hid (Keeps.of_below (F := (· < N0)) HB.out)
  have HS := Lib.hid hsrt
  have hsz0 : w.heap.size < (w.alloc (.cells #[.slice aa T.rows.length ca, .slice ac T.costs.length cc, .slice ak T.cls.length ck] 25)).heap.size := by simp
  clear hr hinv ih HB hsrt hp
  have SG := rsingle_any _ _ _ _ T ws _ (HT.out.below HINV.out.bel) HR.out.1 (fun j hj => by rw [HO.out.kl]; exact hok j hj) (by omega)
  rw [hB] at BX hsz0
  have c0 := BX.out.cell 0; have c1 := BX.out.cell 1; have c2 := BX.out.cell 2
  simp only [List.getElem?_toArray, List.getElem?_cons_zero, List.getElem?_cons_succ] at c0 c1 c2
  go_enter Try.func60, Try.ntmps60
  go_wp2_with fail
  generalize w.alloc (.cells #[.slice aa T.rows.length ca, .slice ac T.costs.length cc, .slice ak T.cls.length ck] 25) = wb at *
  have hN0' : N0 ≤ wb.heap.size := by omega
  have hNB : N0 ≤ B := by omega
  rw [hB] at HR
  refine SG.mono ?_
  rintro e w2 ⟨rfl, hb2⟩
  have HINV2 := Lib.hid (HINV.out.under HP.out (hb2.mono hN0'))
  have BX2 := Lib.hid (Boxs.below BX.out hb2)
  have HR2 := Lib.hid (HR.out.below hb2)
  have HK2 := Lib.hid (HK.out.trans (Keeps.of_below hb2))
  have hlB2 := BX2.out.lt
  have hN2 : N0 ≤ w2.heap.size := by omega
  clear hb2 SG c0 c1 c2 HINV BX HR HK hB
  obtain ⟨sg, hsg⟩ : ∃ b, single T ws = b := ⟨_, rfl⟩
  have HSG := Lib.hid hsg
  rw [hsg]
  clear hsg
  cases sg
  case true =>
    have hbv := bestV_single HSG.out
    have HBV := Lib.hid hbv
    clear hbv
    go_wp2_with fail
    go_ret
    exact ⟨ret_int (by rw [HBV.out]), A, C, HINV2.out, MonoN.refl _, .inl HSG.out, HK2.out⟩
  case false =>
    have hbv := bestV_eq HSG.out
    have hbb := bestV_bd HO.out ws
    have HBV := Lib.hid hbv; have HBB := Lib.hid hbb
    have HOK := Lib.hid hok
    clear hbv hbb hok
    go_wp2_with fail
    go_loopw [7, 8] (fun v jv wr => ∃ j : Nat, j ≤ ws.length ∧ jv = .int .i64 j ∧ v = .int .i64 (setW (ws.take j) : Nat) ∧ wr = w2) (fun _ jv _ => ws.length - (intOf jv).toNat)
    case atStart => exact ⟨0, Nat.zero_le _, rfl, rfl, rfl⟩
    case round =>
      obtain ⟨j, hj, rfl, rfl, hww⟩ := hrel
      obtain rfl := hww.symm
      have hj0 : (0 : Int) ≤ (j : Int) := Int.natCast_nonneg _
      by_cases hlt : j < ws.length
      · have hj1 : (j : Int) < ((nI ws).length : Int) := by have := nI_len ws; omega
        obtain ⟨i, hi⟩ := elem_at hlt
        obtain ⟨bw, ow, rfl, _, q1⟩ := nI_elem HR2.out.1 hi
        have hi20 : i < 20 := by have := HOK.out i (List.mem_of_getElem? hi); omega
        have hss := setW_succ hi
        have hsl : setW (ws.take j) < 2 ^ 20 := setW_lt _ (fun i hi => by have := HOK.out i (List.mem_of_mem_take hi); omega)
        obtain ⟨s, hs⟩ : ∃ s, setW (ws.take j) = s := ⟨_, rfl⟩
        rw [hs] at hss hsl ⊢
        have HSS := Lib.hid hss
        have hi0 : (0 : Int) ≤ (i : Int) := Int.natCast_nonneg _
        have hi64 : (i : Int) < 64 := by omega
        clear hss hs hi
        go_wp2_with fail
        go_roundw
        case rel => exact ⟨j + 1, by omega, by go_num, by rw [HSS.out, ← or_i64 hsl hi20, IntWalk.i64_left], trivial⟩
        case measure => simp [intOf]; omega
      · have hj1 : ¬ (j : Int) < ((nI ws).length : Int) := by have := nI_len ws; omega
        rw [List.take_of_length_le (by omega)]
        have hsN : setW ws < N := by rw [HINV2.out.hN]; exact setW_lt ws HOK.out
        have HSN := Lib.hid hsN
        obtain ⟨s, hs⟩ : ∃ s, setW ws = s := ⟨_, rfl⟩
        have HSW := Lib.hid hs
        rw [hs] at hsN ⊢
        have hs0 : (0 : Int) ≤ (s : Int) := Int.natCast_nonneg _
        have hs1 : (s : Int) < (N : Int) := by omega
        have r1 := HINV2.out.rs.inn 1 _ _ rfl rfl
        have hlc : C.length = N := by rw [HINV2.out.kn.lc, HINV2.out.hN]
        obtain ⟨c, hc⟩ := elem_at (show s < C.length by omega)
        have qc := own_cell (n := N) (by rw [hlc] at r1; exact r1) hc
        have b1 := HINV2.out.bx.cell 1
        simp only [List.getElem?_toArray, List.getElem?_cons_zero, List.getElem?_cons_succ] at b1
        have HC := Lib.hid hc; have HLC := Lib.hid hlc
        clear hs r1 hlc hc hj hlt
        by_cases hc0 : 0 ≤ c
        · have hit := HINV2.out.kn.hit HS.out (by rw [HSW.out]; exact HC.out) hc0
          have HIT := Lib.hid hit.1
          have HNO := Lib.hid (show Noted C ws from ⟨c, by rw [HSW.out]; exact HC.out, hc0⟩)
          have hge : c ≥ 0 := hc0
          clear hit
          go_wp2_with fail
          go_ret
          exact ⟨ret_int (by rw [HIT.out]), A, C, HINV2.out, MonoN.refl _, .inr HNO.out, HK2.out⟩
        · have hge : ¬ c ≥ 0 := hc0
          have c1 := BX2.out.cell 1
          simp only [List.getElem?_toArray, List.getElem?_cons_zero, List.getElem?_cons_succ] at c1
          go_wp2_with fail
          clear b1 qc c1 hc0 hge
          have hst0 : bState (fun u => (bestV T u).2) T ws 0 = (-1, 0) := rfl
          go_loopw [9, 10, 11] (fun av lv iv wr => ∃ (k : Nat) (A' C' : List Int), k ≤ T.costs.length ∧ iv = .int .i64 k ∧ av = .int .i64 (bState (fun u => (bestV T u).2) T ws k).1 ∧ lv = .int .i64 (bState (fun u => (bestV T u).2) T ws k).2 ∧ RInv w1 T N bx ga gk cA cK A' C' wr ∧ MonoN C C' ∧ (∀ k', k' < k → PartsN T C' ws k') ∧ Keeps (· < N0) w2 wr) (fun _ _ iv _ => T.costs.length - (intOf iv).toNat)
          case atStart => exact ⟨0, A, C, Nat.zero_le _, rfl, rfl, rfl, HINV2.out, MonoN.refl _, fun k' hk' => by omega, Keeps.refl _ _⟩
          case round =>
            obtain ⟨k, A1, C1, hk, rfl, rfl, rfl, hinv, hmn, hpn, hkp⟩ := hrel
            have hk0 : (0 : Int) ≤ (k : Int) := Int.natCast_nonneg _
            have hst : bState (fun u => (bestV T u).2) T ws (k + 1) = bStep (fun u => (bestV T u).2) T ws (bState (fun u => (bestV T u).2) T ws k) k := rfl
            obtain ⟨⟨ask, least⟩, hgs⟩ : ∃ s, bState (fun u => (bestV T u).2) T ws k = s := ⟨_, rfl⟩
            rw [hgs] at hst ⊢
            unfold bStep at hst
            simp only at hst
            have HST := Lib.hid hst; have HGS := Lib.hid hgs
            have HINV := Lib.hid hinv; have HMN := Lib.hid hmn; have HPN := Lib.hid hpn; have HKP := Lib.hid hkp
            have hsr := hkp.size
            have hlBr : B < wr.heap.size := by omega
            have BXR := Lib.hid (Boxs.block BX2.out (hkp.block B hlB2 (by omega)))
            have HRR := Lib.hid (HR2.out.block (W' := wr) fun i hi hF => hkp.block i hi (by have h1 := hF.1; omega))
            have c0 := BXR.out.cell 0; have c1 := BXR.out.cell 1; have c2 := BXR.out.cell 2
            simp only [List.getElem?_toArray, List.getElem?_cons_zero, List.getElem?_cons_succ] at c0 c1 c2
            clear hst hgs hinv hmn hpn hkp
            by_cases hlt : k < T.costs.length
            · have hk1 : (k : Int) < (T.costs.length : Int) := by omega
              obtain ⟨x, hx⟩ := elem_at hlt
              have hxb := HO.out.cb x (List.mem_of_getElem? hx)
              have GV := given_any _ _ _ _ T ws k wr (HT.out.below HINV.out.bel) HO.out HRR.out.1 HOK.out (by omega) hlt
              unfold OwnI at GV
              have hxx := costAt_of hx
              have HX := Lib.hid hx; have HXX := Lib.hid hxx
              have hgl := given_len T ws k
              have HLT := Lib.hid fun (h2 : 2 ≤ (given T ws k).length) a => withW_lt (T := T) (ws := ws) (k := k) (a := a) h2
              clear hx hxx
              go_wp2_with fail
              refine GV.mono ?_
              rintro e w5 ⟨⟨vl, rfl, hown⟩, hb5⟩
              obtain ⟨al, cl, rfl⟩ := owns_form hown
              have hs5 := hb5.size
              have HINV5 := Lib.hid (HINV.out.under HP.out (hb5.mono (by omega)))
              have HKP5 := Lib.hid (HKP.out.trans (Keeps.of_below hb5))
              have BX5 := Lib.hid (Boxs.below BXR.out hb5)
              have HR5 := Lib.hid (HRR.out.below hb5)
              have HG5 := Lib.hid ((RdIn_owns hown).mono (G := fun i => N0 ≤ i ∧ i ≠ B) fun i _ hi => by have hi2 : wr.heap.size ≤ i := hi; exact ⟨by omega, by omega⟩)
              have c0 := BX5.out.cell 0; have c1 := BX5.out.cell 1; have c2 := BX5.out.cell 2
              have hlB5 := BX5.out.lt
              simp only [List.getElem?_toArray, List.getElem?_cons_zero, List.getElem?_cons_succ] at c0 c1 c2
              clear GV hown hb5 HINV HKP BXR HRR
              by_cases h2 : (given T ws k).length < 2
              · have h2' : ((given T ws k).length : Int) < 2 := by omega
                rw [if_pos h2] at HST
                have HP1 := Lib.hid (show ∀ k', k' < k + 1 → PartsN T C1 ws k' from fun k' hk' => by
                  by_cases e : k' = k
                  · subst e; intro h3; omega
                  · exact HPN.out k' (by omega))
                go_wp2_with fail
                go_roundw
                case rel => exact ⟨k + 1, A1, C1, by omega, by go_num, by rw [HST.out], by rw [HST.out], HINV5.out, HMN.out, HP1.out, HKP5.out⟩
                case measure => simp [intOf]; omega
              · have h2' : ¬ ((given T ws k).length : Int) < 2 := by omega
                rw [if_neg h2] at HST
                have HLT := Lib.hid (HLT.out (by omega))
                obtain ⟨G, hG⟩ : ∃ G, given T ws k = G := ⟨_, rfl⟩
                rw [hG] at HST HG5 hgl h2' ⊢
                have HG := Lib.hid hG
                clear h2 hG
                go_wp2_with fail
                clear c0 c1 c2
                obtain ⟨wo, hwo⟩ : ∃ wo, wo = w5 := ⟨_, rfl⟩
                go_loopw [13, 14] (fun nv qv wr' => ∃ (q : Nat) (A' C' : List Int), q ≤ G.length ∧ qv = .int .i64 q ∧ nv = .int .i64 (mostC (fun u => (bestV T u).2) T ws k (G.take q)) ∧ RInv w1 T N bx ga gk cA cK A' C' wr' ∧ MonoN C1 C' ∧ (∀ a, a ∈ G.take q → single T (withW T ws k a) = true ∨ Noted C' (withW T ws k a)) ∧ Keeps (· < N0) w5 wr') (fun _ qv _ => G.length - (intOf qv).toNat)
                case atStart => exact ⟨0, A1, C1, Nat.zero_le _, rfl, rfl, HINV5.out, MonoN.refl _, fun a ha => (by cases ha), Keeps.refl _ _⟩
                case round =>
                  rename World => w6
                  obtain ⟨q, A2, C2, hq, rfl, rfl, hinv, hmn, hpq, hk6⟩ := hrel
                  have hq0 : (0 : Int) ≤ (q : Int) := Int.natCast_nonneg _
                  have HINV6 := Lib.hid hinv; have HMN6 := Lib.hid hmn; have HPQ := Lib.hid hpq; have HK6 := Lib.hid hk6
                  have hs6 := hk6.size
                  have hN6 : N0 ≤ w6.heap.size := by omega
                  have BX6 := Lib.hid (Boxs.block BX5.out (hk6.block B hlB5 (by omega)))
                  have HR6 := Lib.hid (HR5.out.block (W' := w6) fun i hi hF => hk6.block i hi (by have h1 := hF.1; omega))
                  have HG6 := Lib.hid (HG5.out.block (W' := w6) fun i hi hF => hk6.block i hi (by have h1 := hF.1; omega))
                  have hmb := mostC_bd (g := fun u => (bestV T u).2) (T := T) (ws := ws) (k := k) (M := 1024 * 64) (by omega) (fun a => by have h1 := (bestV_bd HO.out (withW T ws k a)).2.2; have h2 := withW_le T ws k a; omega) (G.take q)
                  have c0 := BX6.out.cell 0; have c1 := BX6.out.cell 1; have c2 := BX6.out.cell 2
                  have hlB6 := BX6.out.lt
                  simp only [List.getElem?_toArray, List.getElem?_cons_zero, List.getElem?_cons_succ] at c0 c1 c2
                  clear hinv hmn hpq hk6 HINV5
                  by_cases hqg : q < G.length
                  · have hq1 : (q : Int) < (G.length : Int) := by omega
                    obtain ⟨y, hy⟩ := elem_at hqg
                    obtain ⟨bl, ol, rfl, hbl, qy⟩ := Rd.at HG6.out.1 (ints_get hy)
                    have hFl := HG6.out.2 (by intro h0; have := congrArg List.length h0; rw [ints_len] at this; change G.length = 0 at this; omega) bl rfl
                    have hFl1 := hFl.1
                    have hwl := withW_le T ws k y
                    have WT := with_any _ _ _ _ T ws k y (w6.drewN 1) ((HT.out.below HINV6.out.bel).below (Below.dn (Below.refl _ _) 1)) HO.out (RdI.below HR6.out.1 (Below.dn (Below.refl _ _) 1)) HOK.out (by omega) hlt
                    unfold OwnI at WT
                    have BC := fun (vx : Value) (W : World) hi hn hr => IH.out (withW T ws k y) vx W A2 C2 (by have := HLT.out y; omega) (by omega) (withW_ok HOK.out k y) (withW_sorted HS.out k y) hi hn hr
                    unfold RBOut at BC
                    have hms := mostC_succ (g := fun u => (bestV T u).2) (T := T) (ws := ws) (k := k) hy
                    have hvb := bestV_bd HO.out (withW T ws k y)
                    obtain ⟨⟨p1, p2⟩, hpe⟩ : ∃ s, bestV T (withW T ws k y) = s := ⟨_, rfl⟩
                    rw [hpe] at BC hms hvb
                    obtain ⟨mn, hmn⟩ : ∃ n, mostC (fun u => (bestV T u).2) T ws k (G.take q) = n := ⟨_, rfl⟩
                    rw [hmn] at hms hmb ⊢
                    have HMS := Lib.hid hms
                    have HY := Lib.hid hy
                    have hS : (w6.drewN 1).cell? ⟨B, 0, none⟩ = some (.slice aa T.rows.length ca) ∧ (w6.drewN 1).cell? ⟨B, 1, none⟩ = some (.slice ac T.costs.length cc) ∧ (w6.drewN 1).cell? ⟨B, 2, none⟩ = some (.slice ak T.cls.length ck) ∧ (w6.drewN 1).cell? ⟨bl, ol + q, none⟩ = some (.int .i64 y) := ⟨c0, c1, c2, qy⟩
                    clear hy hms hmn hpe
                    go_wp2_with fail
                    refine wp_region_E (fun W => W.cell? ⟨B, 0, none⟩ = some (.slice aa T.rows.length ca) ∧ W.cell? ⟨B, 1, none⟩ = some (.slice ac T.costs.length cc) ∧ W.cell? ⟨B, 2, none⟩ = some (.slice ak T.cls.length ck) ∧ W.cell? ⟨bl, ol + q, none⟩ = some (.int .i64 y)) (by kernel_rfl) ?_
                    have hdr : (w6).drew = { w6 with drawn := (w6).drawn + 1 } := rfl
                    rw [← hdr]
                    clear hdr
                    change wpAnyE _ _ _ _ _ _ _ _ ((w6).drewN 1)
                    refine tm 0 67 rfl rfl (.int .i64 mn) hS ?_
                    try simp only [pa, pl]
                    refine tm 1 68 rfl rfl (.pointer (some ⟨bx, 0, none⟩)) hS ?_
                    try simp only [pa, pl]
                    refine tk 2 69 rfl rfl (.agg #[.slice aa T.rows.length ca, .slice ac T.costs.length cc, .slice ak T.cls.length ck]) (fun W hW => by obtain ⟨c0, c1, c2, qy⟩ := hW; go_simp) hS ?_
                    try simp only [pa, pl]
                    refine tk 3 70 rfl rfl (.agg #[.slice aa T.rows.length ca, .slice ac T.costs.length cc, .slice ak T.cls.length ck]) (fun W hW => by obtain ⟨c0, c1, c2, qy⟩ := hW; go_simp) hS ?_
                    try simp only [pa, pl]
                    refine tm 4 71 rfl rfl (.slice aw (nI ws).length cw) hS ?_
                    try simp only [pa, pl]
                    refine tm 5 72 rfl rfl (.int .i64 (k : Int)) hS ?_
                    try simp only [pa, pl]
                    refine tm 6 73 rfl rfl (.slice (some ⟨bl, ol, none⟩) G.length cl) hS ?_
                    try simp only [pa, pl]
                    refine tm 7 74 rfl rfl (.int .i64 (q : Int)) hS ?_
                    try simp only [pa, pl]
                    refine tg 8 75 rfl rfl (.pointer (some ⟨bl, ol + q, none⟩)) hS ?_
                    try simp only [pa, pl]
                    refine tk 9 76 rfl rfl (.int .i64 y) (fun W hW => by obtain ⟨c0, c1, c2, qy⟩ := hW; go_simp) hS ?_
                    try simp only [pa, pl]
                    refine wpAnyEOne 10 (by kernel_rfl) ?_
                    refine wpOpCall (some 77) 80 #[.agg #[.slice aa T.rows.length ca, .slice ac T.costs.length cc, .slice ak T.cls.length ck], .slice aw (nI ws).length cw, .int .i64 (k : Int), .int .i64 y] rfl rfl rfl (by go_simp) (WT) ?_
                    rintro e w7 ⟨⟨v7, rfl, hown7⟩, hb7⟩
                    obtain ⟨a7, c7, rfl⟩ := owns_form hown7
                    have hb67 := (Below.dn (Below.refl w6.heap.size w6) 1).trans hb7
                    have BX7 := Boxs.below BX6.out hb67
                    have hbl7 := Nat.lt_of_lt_of_le hbl hb67.size
                    have qy7 := (hb67.cell (p := ⟨bl, ol + q, none⟩) hbl).trans qy
                    have hI7 := HINV6.out.under HP.out (hb67.mono hN6)
                    have hr7 := (RdIn_owns hown7).mono (G := (N0 ≤ ·)) fun i _ hi => by have hi2 : w6.heap.size ≤ i := hi; show N0 ≤ i; omega
                    have hN7 : N0 ≤ w7.heap.size := by have := hb67.size; omega
                    refine ⟨_, rfl, ?_⟩
                    refine ⟨.inl (⟨BX7.cell 0, BX7.cell 1, BX7.cell 2, qy7⟩), ?_⟩
                    try simp only [pa, pl]
                    refine wpAnyEOne 11 (by kernel_rfl) ?_
                    refine wpOpCall (some 78) 60 #[.pointer (some ⟨bx, 0, none⟩), .agg #[.slice aa T.rows.length ca, .slice ac T.costs.length cc, .slice ak T.cls.length ck], .slice a7 (nI (withW T ws k y)).length c7] rfl rfl rfl (by go_simp) (BC _ w7 hI7 hN7 hr7) ?_
                    rintro e w8 ⟨rfl, A3, C3, hI8, hm8, hn8, hk8⟩
                    have BX8 := Boxs.block BX7 (hk8.block B BX7.lt (by omega))
                    have qy8 : w8.cell? ⟨bl, ol + q, none⟩ = some (.int .i64 y) := (cell_blk (hk8.block bl hbl7 (by omega))).trans qy7
                    refine ⟨_, rfl, ?_⟩
                    refine ⟨.inl (⟨BX8.cell 0, BX8.cell 1, BX8.cell 2, qy8⟩), ?_⟩
                    try simp only [pa, pl]
                    refine tg 12 79 rfl rfl (.int .i64 (max mn p2)) ⟨BX8.cell 0, BX8.cell 1, BX8.cell 2, qy8⟩ ?_
                    try simp only [pa, pl]
                    refine wpAnyEOne 13 (by kernel_rfl) ?_
                    refine wpOpRun' (v := .int .i64 (max mn p2)) (w' := w8) (some 13) rfl rfl rfl (by rfl) ?_
                    refine ⟨.inr (allUp_of (by kernel_rfl)), ?_⟩
                    try simp only [pa, pl]
                    refine wpAnyE_done (by kernel_rfl) ?_ _
                    have HPQ8 := Lib.hid (show ∀ a, a ∈ G.take (q + 1) → single T (withW T ws k a) = true ∨ Noted C3 (withW T ws k a) from fun a ha => by
                      rw [take_succ_at HY.out] at ha
                      rcases List.mem_append.1 ha with h1 | h1
                      · exact (HPQ.out a h1).imp id (hm8 _)
                      · rw [List.mem_singleton.1 h1]; exact hn8)
                    have HM8 := Lib.hid (HMN6.out.trans hm8)
                    have HI8 := Lib.hid hI8
                    have HK8 := Lib.hid (HK6.out.trans ((Keeps.of_below hb67).trans hk8))
                    clear BC WT hS c0 c1 c2 qy BX8 qy8 hm8 hn8 hk8 hI8 BX7 qy7 hI7 hr7 hb67 hb7 hown7 hbl hbl7 hFl HG6 HR6 BX6 HK6 HINV6
                    go_wp2_with fail
                    go_roundw
                    case rel => exact ⟨q + 1, A3, C3, by omega, by go_num, by rw [HMS.out], HI8.out, HM8.out, HPQ8.out, HK8.out⟩
                    case measure => simp [intOf]; omega
                  · obtain rfl : q = G.length := by omega
                    have hq1 : ¬ (G.length : Int) < (G.length : Int) := by omega
                    rw [List.take_length] at hmb HPQ ⊢
                    have HKP6 := Lib.hid (HKP5.out.trans HK6.out)
                    have HM6 := Lib.hid (HMN.out.trans HMN6.out)
                    have HP1 := Lib.hid (show ∀ k', k' < k + 1 → PartsN T C2 ws k' from fun k' hk' => by
                      by_cases e : k' = k
                      · subst e; intro _ a ha; rw [HG.out] at ha; exact HPQ.out a ha
                      · exact (HPN.out k' (by omega)).mono HMN6.out)
                    obtain ⟨mn, hmn⟩ : ∃ n, mostC (fun u => (bestV T u).2) T ws k G = n := ⟨_, rfl⟩
                    rw [hmn, HXX.out] at HST
                    rw [hmn] at hmb ⊢
                    obtain ⟨bq, oq, rfl, _, qx⟩ := ints_at (HT.out.below HINV6.out.bel).costs HX.out
                    clear hmn HK6 HKP5 BX5 HG6 HG5
                    by_cases ha : ask < 0 ∨ x + mn < least
                    · rw [if_pos ha] at HST
                      by_cases ha1 : ask < 0
                      · clear ha
                        go_wp2_with fail
                        go_roundw
                        case rel => exact ⟨k + 1, A2, C2, by omega, by go_num, by rw [HST.out], by rw [HST.out], HINV6.out, HM6.out, HP1.out, HKP6.out⟩
                        case measure => simp [intOf]; omega
                      · have ha2 : x + mn < least := by omega
                        clear ha
                        go_wp2_with fail
                        go_roundw
                        case rel => exact ⟨k + 1, A2, C2, by omega, by go_num, by rw [HST.out], by rw [HST.out], HINV6.out, HM6.out, HP1.out, HKP6.out⟩
                        case measure => simp [intOf]; omega
                    · rw [if_neg ha] at HST
                      have ha1 : ¬ ask < 0 := fun h => ha (.inl h)
                      have ha2 : ¬ x + mn < least := fun h => ha (.inr h)
                      clear ha
                      go_wp2_with fail
                      go_roundw
                      case rel => exact ⟨k + 1, A2, C2, by omega, by go_num, by rw [HST.out], by rw [HST.out], HINV6.out, HM6.out, HP1.out, HKP6.out⟩
                      case measure => simp [intOf]; omega
            · obtain rfl : k = T.costs.length := by omega
              have hk1 : ¬ (T.costs.length : Int) < (T.costs.length : Int) := by omega
              rw [← HBV.out] at HGS
              have hkn := HINV.out.kn.put HO.out HOK.out HS.out HSG.out (fun k' hk' => HPN.out k' hk')
              rw [HGS.out, HSW.out] at hkn
              have hin := HINV.out.put HP.out s ask least hkn
              have HIN := Lib.hid hin
              have hno := noted_set (C := C1) (ws := ws) (c := least) (by have := HBB.out.2.1; rw [HGS.out] at this; exact this) (by rw [HINV.out.kn.lc, ← HINV.out.hN]; exact HSN.out)
              rw [HSW.out] at hno
              have HNO := Lib.hid hno
              have HMS := Lib.hid (HMN.out.trans (mono_set (C := C1) (s := s) (c := least) (by have := HBB.out.2.1; rw [HGS.out] at this; exact this)))
              have r0 := HINV.out.rs.inn 0 _ _ rfl rfl
              have r1 := HINV.out.rs.inn 1 _ _ rfl rfl
              have hla : A1.length = N := by rw [HINV.out.kn.la, HINV.out.hN]
              have hlc : C1.length = N := by rw [HINV.out.kn.lc, HINV.out.hN]
              obtain ⟨ya, hya⟩ := elem_at (show s < A1.length by omega)
              obtain ⟨yc, hyc⟩ := elem_at (show s < C1.length by omega)
              rw [hla] at r0; rw [hlc] at r1
              have q0 := own_cell (n := N) r0 hya
              have q1 := own_cell (n := N) r1 hyc
              have f0 := r0.frozenAt s; have f1 := r1.frozenAt s
              have l0 := (r0.lt ga rfl).2; have l1 := (r1.lt gk rfl).2
              have b0 := HINV.out.bx.cell 0; have b1 := HINV.out.bx.cell 1
              simp only [List.getElem?_toArray, List.getElem?_cons_zero, List.getElem?_cons_succ] at b0 b1
              have hbl := HINV.out.bx.lt
              have n0 : bx ≠ ga := fun e => HINV.out.bx.not_own r0 (by decide) (by rw [e]; rfl)
              have n1 : bx ≠ gk := fun e => HINV.out.bx.not_own r1 (by decide) (by rw [e]; rfl)
              have n2 : ga ≠ gk := fun e => absurd (HINV.out.rs.dis 0 1 _ _ ga rfl rfl rfl (by rw [e]; rfl)) (by decide)
              have HKF := Lib.hid ((((HK2.out.trans HKP.out).setCell (p := ⟨ga, s, none⟩) HP.out.a (.int .i64 ask)).setCell (p := ⟨gk, s, none⟩) HP.out.k (.int .i64 least)))
              clear hkn hin hno r0 r1 hla hlc hya hyc c0 c2
              go_wp2_with fail
              go_ret
              exact ⟨ret_int (by rw [HGS.out]), _, _, HIN.out, HMS.out, .inr HNO.out, HKF.out⟩
end Go.Proofs.Ytmkkegigajmhkaa

