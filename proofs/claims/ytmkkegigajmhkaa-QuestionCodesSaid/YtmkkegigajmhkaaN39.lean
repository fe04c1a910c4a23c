/- Decode, code, Encode (reference). The code of a tree (reference). -/
import Derived.Test.YtmkkegigajmhkaaN38
import Derived.Test.YtmkkegigajmhkaaN19
set_option linter.unusedVariables false
namespace Go.Proofs.Ytmkkegigajmhkaa
open Go.RowKit Go.Maps

set_option maxRecDepth 100000 in
set_option maxHeartbeats 4000000 in
theorem rdecode_any (v : Value) (l : List Int) (w : World) (h : RdI w v l) (hl : l.length ≤ 5000) :
    Calls Try.prog 41 #[v] w fun e w' => DecodeOut 105 w.heap.size l e w' ∧ Below w.heap.size w w' := by
  obtain ⟨a, c, rfl⟩ := h.form
  by_cases hlong : 4096 < l.length
  · obtain ⟨e2, e3⟩ := decT_long hlong
    have HE2 := Lib.hid e2; have HE3 := Lib.hid e3; clear e2 e3
    have hli : (4096 : Int) < (l.length : Int) := by omega
    clear h
    go_enter Try.func41, Try.ntmps41
    go_wp2_with fail
    go_ret2
    exact ⟨⟨none, congrArg (fun x => Ending.returned (.tuple #[.pointer none, .int .i64 x])) HE3.out.symm, by rw [HE2.out]; exact .nil⟩, Below.refl _ _⟩
  · have hli : ¬ (4096 : Int) < (l.length : Int) := by omega
    have RD := rread_any h hl l.length 0 w (Nat.zero_le _) (by omega) (Below.refl _ _)
    rw [List.drop_zero, show (((0 : Nat) : Int)) = 0 from rfl] at RD
    unfold RReadOut at RD
    have HLN := Lib.hid hlong
    clear h hlong
    go_enter Try.func41, Try.ntmps41
    go_wp2_with fail
    with_reducible refine RD.mono ?_
    rintro e w5 ⟨p, at', rfl, hb, hR⟩
    have HB5 := Lib.hid hb
    have HR := Lib.hid hR
    have hat0 : (0 : Int) ≤ (at' : Int) := Int.natCast_nonneg _
    clear RD hb hR
    cases hrf : readF l.length l with
    | none =>
      have hR := HR.out
      rw [hrf] at hR
      obtain rfl : p = none := hR
      obtain ⟨e2, e3⟩ := dec_none HLN.out (decO_none hrf)
      have HE2 := Lib.hid e2; have HE3 := Lib.hid e3; clear e2 e3
      go_wp2_with fail
      go_ret2
      exact ⟨⟨none, congrArg (fun x => Ending.returned (.tuple #[.pointer none, .int .i64 x])) HE3.out.symm, by rw [HE2.out]; exact .nil⟩, HB5.out⟩
    | some tr =>
      obtain ⟨t, r⟩ := tr
      have hR := HR.out
      rw [hrf] at hR
      obtain ⟨hdr, hal, htr, hpn⟩ := hR
      obtain ⟨pt, rfl⟩ : ∃ pt, p = some pt := by cases p with | none => exact absurd rfl hpn | some x => exact ⟨x, rfl⟩
      have HT := Lib.hid htr
      clear htr hpn
      have hrl : r.length = l.length - at' := by rw [← hdr, List.length_drop]
      by_cases hr0 : r = []
      · subst hr0
        have hall : at' = l.length := by simp at hrl; omega
        have hne : ((at' : Int) != (l.length : Int)) = false := by rw [hall]; simp
        have IS := ris_any HT.out w5 (Below.refl _ _)
        clear hdr hrl hall hal
        cases hit : isT t with
        | false =>
          obtain ⟨e2, e3⟩ := dec_none HLN.out (decO_not hrf hit)
          have HE2 := Lib.hid e2; have HE3 := Lib.hid e3; clear e2 e3
          rw [hit] at IS
          go_wp2_with fail
          refine IS.mono ?_
          rintro e w6 ⟨rfl, hb6⟩
          have HB6 := Lib.hid (HB5.out.trans (hb6.mono HB5.out.size))
          clear hb6 IS
          go_wp2_with fail
          go_ret2
          exact ⟨⟨none, congrArg (fun x => Ending.returned (.tuple #[.pointer none, .int .i64 x])) HE3.out.symm, by rw [HE2.out]; exact .nil⟩, HB6.out⟩
        | true =>
          obtain ⟨e2, e3⟩ := dec_some HLN.out (decO_ok hrf hit)
          have HE2 := Lib.hid e2; have HE3 := Lib.hid e3; clear e2 e3
          rw [hit] at IS
          go_wp2_with fail
          refine IS.mono ?_
          rintro e w6 ⟨rfl, hb6⟩
          have HB6 := Lib.hid (HB5.out.trans (hb6.mono HB5.out.size))
          have HT := Lib.hid (HT.out.under hb6)
          clear hb6 IS
          go_wp2_with fail
          go_ret2
          exact ⟨⟨some pt, congrArg (fun x => Ending.returned (.tuple #[.pointer (some pt), .int .i64 x])) HE3.out.symm, by rw [HE2.out]; exact HT.out⟩, HB6.out⟩
      · obtain ⟨e2, e3⟩ := dec_none HLN.out (decO_more hrf hr0)
        have HE2 := Lib.hid e2; have HE3 := Lib.hid e3; clear e2 e3
        have hpos : 0 < r.length := List.length_pos_iff.2 hr0
        have hne : ((at' : Int) != (l.length : Int)) = true := by simp; omega
        clear hr0 hdr hrl hpos hal
        go_wp2_with fail
        go_ret2
        exact ⟨⟨none, congrArg (fun x => Ending.returned (.tuple #[.pointer none, .int .i64 x])) HE3.out.symm, by rw [HE2.out]; exact .nil⟩, HB5.out⟩
end Go.Proofs.Ytmkkegigajmhkaa

namespace Go.Proofs.Ytmkkegigajmhkaa
open Go.RowKit Go.Maps

set_option maxRecDepth 100000 in
set_option maxHeartbeats 8000000 in
theorem rcode_any {F : Nat → Prop} {W0 : World} {v : Value} {t : Tr} (h : TreeIn 105 F W0 v t) :
    ∀ (w : World), isT t = true → Below W0.heap.size W0 w → (codeT t).length ≤ 1000000 → Calls Try.prog 71 #[v] w fun e w' => OwnI w.heap.size w' e (codeT t) ∧ Below w.heap.size w w' := by
  induction h with
  | nil => intro w h; cases h
  | node hF hB ha hk hl hs ih =>
    rename_i b a c ans kids us va vk
    intro w his hb hlen
    obtain ⟨aa, ca, rfl⟩ := RdI.form (show RdI W0 va ans from ha.1)
    obtain ⟨ak, ck, rfl, hk2⟩ : ∃ x c, vk = .slice x us.length c ∧ Rd W0 (.slice x us.length c) us := by
      obtain ⟨x, c, h1, _⟩ := hk.1; exact ⟨x, c, h1, h1 ▸ hk.1⟩
    have hB2 := hB.below hb
    have hblt := hB2.lt
    have HA := Lib.hid (show RdI W0 (.slice aa ans.length ca) ans from ha.1)
    have HK := Lib.hid hk2
    have HL := Lib.hid hl; have HS := Lib.hid hs; have IH := Lib.hid ih
    have hus63 : us.length ≤ 9223372036854775807 := by
      obtain ⟨_, cap, e, h1, h2, _⟩ := hk2
      omega
    have HB := Lib.hid hb
    have HB2 := Lib.hid hB2
    have c0 := hB2.cell 0; have c1 := hB2.cell 1; have c2 := hB2.cell 2; have c3 := hB2.cell 3
    simp only [List.getElem?_toArray, List.getElem?_cons_zero, List.getElem?_cons_succ] at c0 c1 c2 c3
    clear ih hs ha hk hk2 hB hB2 hl hb
    by_cases hneg : a < 0
    · have hcode := codeT_leaf (c := c) (ans := ans) (kids := kids) hneg
      have HC := Lib.hid hcode
      clear hcode hlen
      go_enter Try.func71, Try.ntmps71
      go_wp2_with fail
      go_ret
      rw [HC.out]
      have hal := alloc_below w (.cells #[.int .i64 (-1), .int .i64 c] 3)
      exact ⟨⟨_, rfl, owns_block (Boxs.new w 3 #[.int .i64 (-1), .int .i64 c]) (Nat.le_refl _) rfl rfl (by simp)⟩, hal⟩
    · have hge : 0 ≤ a := by omega
      obtain ⟨_, _, hkl, _, hts⟩ := isT_parts his hge
      have hcode := codeT_node (c := c) (ans := ans) (kids := kids) hge
      have hl2 : 2 + ans.length + (codeTs kids).length ≤ 1000000 := by rw [hcode] at hlen; simp at hlen; omega
      have HC := Lib.hid hcode
      have HTS := Lib.hid hts; have HKL := Lib.hid hkl
      clear hcode hlen hkl hts his
      go_enter Try.func71, Try.ntmps71
      go_wp2_with fail
      refine wp_region_E (fun W => W.cell? ⟨b, 0, none⟩ = some (.int .i64 a) ∧ W.cell? ⟨b, 2, none⟩ = some (.slice aa ans.length ca)) (by kernel_rfl) ?_
      have hdr : (w).drew = { w with drawn := (w).drawn + 1 } := rfl
      rw [← hdr]
      clear hdr
      change wpAnyE _ _ _ _ _ _ _ _ ((w).drewN 1)
      refine tm 0 15 rfl rfl (.pointer (some ⟨b, 0, none⟩)) ⟨c0, c2⟩ ?_
      try simp only [pa, pl]
      refine tg 1 16 rfl rfl (.pointer (some ⟨b, 0, none⟩)) ⟨c0, c2⟩ ?_
      try simp only [pa, pl]
      refine tg 2 17 rfl rfl (.pointer (some ⟨b, 0, none⟩)) ⟨c0, c2⟩ ?_
      try simp only [pa, pl]
      refine tk 3 18 rfl rfl (.int .i64 a) (fun W hW => by obtain ⟨k0, k2⟩ := hW; go_simp) ⟨c0, c2⟩ ?_
      try simp only [pa, pl]
      refine tm 4 19 rfl rfl (.pointer (some ⟨b, 0, none⟩)) ⟨c0, c2⟩ ?_
      try simp only [pa, pl]
      refine tg 5 20 rfl rfl (.pointer (some ⟨b, 0, none⟩)) ⟨c0, c2⟩ ?_
      try simp only [pa, pl]
      refine tg 6 21 rfl rfl (.pointer (some ⟨b, 2, none⟩)) ⟨c0, c2⟩ ?_
      try simp only [pa, pl]
      refine tk 7 22 rfl rfl (.slice aa ans.length ca) (fun W hW => by obtain ⟨k0, k2⟩ := hW; go_simp) ⟨c0, c2⟩ ?_
      try simp only [pa, pl]
      refine tg 8 23 rfl rfl (.int .i64 (ans.length : Int)) ⟨c0, c2⟩ ?_
      try simp only [pa, pl]
      refine tm 10 25 rfl rfl (.pointer (some ⟨b, 0, none⟩)) ⟨c0, c2⟩ ?_
      try simp only [pa, pl]
      refine tg 11 26 rfl rfl (.pointer (some ⟨b, 0, none⟩)) ⟨c0, c2⟩ ?_
      try simp only [pa, pl]
      refine tg 12 27 rfl rfl (.pointer (some ⟨b, 2, none⟩)) ⟨c0, c2⟩ ?_
      try simp only [pa, pl]
      refine tk 13 28 rfl rfl (.slice aa ans.length ca) (fun W hW => by obtain ⟨k0, k2⟩ := hW; go_simp) ⟨c0, c2⟩ ?_
      try simp only [pa, pl]
      refine wpAnyEOne 9 (by kernel_rfl) ?_
      refine wpOpRun' (v := .slice (some ⟨w.heap.size, 0, none⟩) 2 2) (w' := ((w.drewN 1).alloc (.cells #[.int .i64 a, .int .i64 (ans.length : Int)] 3))) (some 24) rfl rfl rfl (by go_simp <;> rfl) ?_
      have hbl := (Below.dn (Below.refl w.heap.size w) 1).trans ((alloc_below (w.drewN 1) (.cells #[.int .i64 a, .int .i64 (ans.length : Int)] 3)).mono (Nat.le_refl _))
      have hB8 := HB2.out.below hbl
      have hO8 := owns_block (base := w.heap.size) (Boxs.new (w.drewN 1) 3 #[.int .i64 a, .int .i64 (ans.length : Int)]) (Nat.le_refl _) (xs := ints [a, (ans.length : Int)]) rfl (n := 2) (size := 1) rfl (by omega)
      refine ⟨.inl (⟨hB8.cell 0, hB8.cell 2⟩), ?_⟩
      try simp only [pa, pl]
      refine wpAnyEOne 14 (by kernel_rfl) ?_
      refine wpOpAppI 14 (some 29) rfl rfl rfl (.tmp 24) (.tmp 28) rfl (.slice (some ⟨w.heap.size, 0, none⟩) 2 2) ([a, (ans.length : Int)]) rfl (hO8) (.slice aa ans.length ca) (ans) rfl (HA.out.below (HB.out.trans (hbl.mono HB.out.size))) (by simp; omega) (hbl.size) fun v9 w9 happ => ?_
      obtain ⟨a9, k9, he9⟩ := happ.form
      rw [show ([a, (ans.length : Int)] ++ ans).length = ans.length + 1 + 1 by simp] at he9
      subst he9
      have hbl9 := happ.below hbl hO8 (Nat.le_refl _) hbl.size
      have hB9 := HB2.out.below hbl9
      refine ⟨.inl (⟨hB9.cell 0, hB9.cell 2⟩), ?_⟩
      try simp only [pa, pl]
      refine wpAnyEOne 15 (by kernel_rfl) ?_
      refine wpOpRun' (v := .slice a9 (ans.length + 1 + 1) k9) (w' := w9) (some 3) rfl rfl rfl (by rfl) ?_
      refine ⟨.inr (allUp_of (by kernel_rfl)), ?_⟩
      try simp only [pa, pl]
      refine wpAnyE_done (by kernel_rfl) ?_ _
      have HO9 := Lib.hid (show w9.ownsRow w.heap.size 3 1 (.slice a9 (ans.length + 1 + 1) k9) (a :: (ans.length : Int) :: ans).length (ints (a :: (ans.length : Int) :: ans)) by have := happ.1; simpa using this)
      have HW9 := Lib.hid hbl9
      have hB8 := Lib.hid hB9
      clear happ hbl hB9 hO8 hbl9 c0 c1 c2 c3 hblt
      go_wp2_with fail
      go_loopw [3, 4] (fun ov iv wr => ∃ (q : Nat) (xs : List Int) (a3 : Option Addr) (k3 : Nat), q ≤ us.length ∧ iv = .int .i64 q ∧ ov = .slice a3 xs.length k3 ∧ wr.ownsRow w.heap.size 3 1 (.slice a3 xs.length k3) xs.length (ints xs) ∧ xs = a :: (ans.length : Int) :: (ans ++ codeTs (kids.take q)) ∧ Below w.heap.size w wr) (fun _ iv _ => us.length - (intOf iv).toNat)
      case atStart => exact ⟨0, a :: (ans.length : Int) :: ans, a9, k9, Nat.zero_le _, rfl, rfl, HO9.out, by simp [codeTs], HW9.out⟩
      case round =>
        clear HO9 HW9
        obtain ⟨q, xs, a3, k3, hq, rfl, rfl, hown, hxs, hbw⟩ := hrel
        have hq0 : (0 : Int) ≤ (q : Int) := Int.natCast_nonneg _
        have HO := Lib.hid hown; have HX := Lib.hid hxs; have HW := Lib.hid hbw
        have hBr := HB2.out.below hbw
        have c3 := hBr.cell 3
        have hblr := hBr.lt
        have hsw := hbw.size
        simp only [List.getElem?_toArray, List.getElem?_cons_zero, List.getElem?_cons_succ] at c3
        clear hown hxs hbw hBr
        by_cases hlt : q < us.length
        · have hq1 : (q : Int) < (us.length : Int) := by omega
          obtain ⟨u, hu⟩ := elem_at hlt
          obtain ⟨tk, htk⟩ := elem_at (show q < kids.length by rw [← HL.out]; exact hlt)
          obtain ⟨b3, o3, rfl, hb3, hc3⟩ := HK.out.at hu
          have hb03 := HB.out.trans (HW.out.mono HB.out.size)
          have hc3 := (hb03.cell (p := ⟨b3, o3 + q, none⟩) hb3).trans hc3
          have hle := codeTs_le kids (q + 1)
          have htk1 := codeTs_take htk
          have hxl : xs.length + (codeT tk).length ≤ 1000000 := by rw [htk1] at hle; rw [HX.out]; simp at hle ⊢; omega
          have HX2 := IH.out q u tk hu htk wr (isTs_mem HTS.out (List.mem_of_getElem? htk)) hb03 (by omega)
          have HK1 := Lib.hid htk1
          obtain ⟨pu, rfl⟩ := (HS.out q u tk hu htk).form
          clear htk1 hle hu htk hb03
          go_wp2_with fail
          refine HX2.mono ?_
          rintro e w12 ⟨⟨vo, rfl, hown⟩, hb12⟩
          obtain ⟨ao, ko, rfl⟩ := owns_form hown
          have HO12 := Lib.hid (owns_below HO.out hb12)
          have HR12 := Lib.hid (owns_ints hown)
          have HW12 := Lib.hid (HW.out.trans (hb12.mono HW.out.size))
          clear hown hb12 HX2
          go_wp2_with (at_builtin; refine wpList_appI (base := w.heap.size) rfl _ _ rfl (.slice a3 xs.length k3) xs rfl HO12.out (.slice ao (codeT tk).length ko) (codeT tk) rfl HR12.out hxl HW12.out.size ?_; intro v13 w13 happ; obtain ⟨a13, k13, rfl⟩ := happ.form)
          have HO13 := Lib.hid happ.1
          have HW13 := Lib.hid (happ.below HW12.out HO12.out (Nat.le_refl _) HW12.out.size)
          clear happ
          go_wp2_with fail
          go_roundw
          case rel => exact ⟨q + 1, xs ++ codeT tk, a13, k13, by omega, by go_num, by rw [List.length_append], HO13.out, by rw [HK1.out, HX.out]; simp, HW13.out⟩
          case measure => simp [intOf]; omega
        · have hq1 : ¬ (q : Int) < (us.length : Int) := by omega
          have hall : kids.take q = kids := List.take_of_length_le (by have := HL.out; omega)
          have hx2 := HX.out
          rw [hall] at hx2
          have HX2 := Lib.hid hx2
          clear hall hx2
          go_wp2_with fail
          go_ret
          rw [HC.out, ← HX2.out]
          exact ⟨⟨_, rfl, HO.out⟩, HW.out⟩
set_option maxRecDepth 100000 in
set_option maxHeartbeats 4000000 in
theorem rencode_any {F : Nat → Prop} {W0 : World} {v : Value} {t : Tr} (h : TreeIn 105 F W0 v t) (hlen : (codeT t).length ≤ 1000000) (w : World) (hb : Below W0.heap.size W0 w) :
    Calls Try.prog 39 #[v] w fun e w' => OwnI w.heap.size w' e (encT t) ∧ Below w.heap.size w w' := by
  have IS := ris_any h w hb
  obtain ⟨p, rfl⟩ := h.form
  obtain ⟨bi, hbi⟩ : ∃ b, isT t = b := ⟨_, rfl⟩
  rw [hbi] at IS
  have HI := Lib.hid hbi
  have HH := Lib.hid h; have HBW := Lib.hid hb
  clear h hb hbi
  go_enter Try.func39, Try.ntmps39
  go_wp2_with fail
  refine IS.mono ?_
  rintro e w2 ⟨rfl, hb2⟩
  have HB := Lib.hid hb2
  clear IS hb2
  cases bi
  · go_wp2_with fail
    go_ret
    exact ⟨⟨_, rfl, by unfold encT; rw [if_neg (by rw [HI.out]; simp)]; exact World.ownsRow_nil _ _ _ _⟩, HB.out⟩
  · have CA := rcode_any HH.out w2 HI.out (HBW.out.trans (HB.out.mono HBW.out.size)) hlen
    go_wp2_with fail
    refine CA.mono ?_
    rintro e w3 ⟨⟨vo, rfl, hown⟩, hb3⟩
    obtain ⟨ao, ko, rfl⟩ := owns_form hown
    have HO := Lib.hid hown; have HB3 := Lib.hid (HB.out.trans (hb3.mono HB.out.size))
    have hsz := HB.out.size
    clear CA hown hb3
    go_wp2_with fail
    go_ret
    exact ⟨⟨_, rfl, by unfold encT; rw [if_pos HI.out]; exact owns_lower HO.out hsz⟩, HB3.out⟩
end Go.Proofs.Ytmkkegigajmhkaa

