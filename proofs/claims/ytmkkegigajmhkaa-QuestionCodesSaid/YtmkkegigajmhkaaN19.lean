/- What is a tree (reference). -/
import Derived.Lib.MinMax
import Derived.Test.YtmkkegigajmhkaaN05
import Derived.Test.YtmkkegigajmhkaaN14
set_option linter.unusedVariables false
namespace Go.Proofs.Ytmkkegigajmhkaa
open Go.RowKit Go.Maps

theorem incB_step {l : List Int} {k : Nat} {x y : Int} (h : incB (l.take (k + 1)) = true) (hx : l[k]? = some x) (hy : l[k + 1]? = some y) : incB (l.take (k + 1 + 1)) = decide (x < y) := incB_take l k h hx hy
theorem isTs_take {l : List Tr} {k : Nat} {t : Tr} (h : isTs (l.take k) = true) (ht : l[k]? = some t) : isTs (l.take (k + 1)) = isT t := by
  rw [take_succ_at ht, isTs_all, List.all_append, ← isTs_all, h]; simp
theorem isTs_bad {l : List Tr} {k : Nat} {t : Tr} (ht : l[k]? = some t) (h : isT t = false) : isTs l = false := by
  rw [isTs_all, List.all_eq_false]
  exact ⟨t, List.mem_of_getElem? ht, by rw [h]; simp⟩
set_option maxRecDepth 100000 in
set_option maxHeartbeats 16000000 in
theorem ris_any {F : Nat → Prop} {W0 : World} {v : Value} {t : Tr} (h : TreeIn 105 F W0 v t) :
    ∀ w, Below W0.heap.size W0 w → Calls Try.prog 42 #[v] w fun e w' => e = .returned (.bool (isT t)) ∧ Below w.heap.size w w' := by
  induction h with
  | nil =>
    intro w _
    go_enter Try.func42, Try.ntmps42
    go_wp2_with fail
    go_ret
    exact ⟨rfl, Below.refl _ _⟩
  | node hF hB ha hk hl hs ih =>
    rename_i b a c ans kids us va vk
    intro w hb
    obtain ⟨aa, ca, rfl⟩ := RdI.form (show RdI W0 va ans from ha.1)
    obtain ⟨ak, ck, rfl, hk2⟩ : ∃ x c, vk = .slice x us.length c ∧ Rd W0 (.slice x us.length c) us := by
      obtain ⟨x, c, h1, _⟩ := hk.1; exact ⟨x, c, h1, h1 ▸ hk.1⟩
    have hk2 := hk2.below hb
    have ha2 : RdI w (.slice aa ans.length ca) ans := RdI.below ha.1 hb
    have hB2 := Boxs.below hB hb
    have c0 := hB2.cell 0; have c1 := hB2.cell 1; have c2 := hB2.cell 2; have c3 := hB2.cell 3
    simp only [List.getElem?_toArray, List.getElem?_cons_zero, List.getElem?_cons_succ] at c0 c1 c2 c3
    have IH := Lib.hid ih
    have HA := Lib.hid ha2; have HK := Lib.hid hk2; have HL := Lib.hid hl
    have HB := Lib.hid hb
    have hblt := hB2.lt
    have C2 := Lib.hid c2; have C3 := Lib.hid c3
    have HSF := Lib.hid fun k u t hu ht => (hs k u t hu ht).form
    have hans := ha2.le
    clear ih hs ha hk hk2 ha2 hB hB2 hb hl
    by_cases hm : a = -1
    · subst hm
      have HT := Lib.hid (isT_leaf (c := c) (ans := ans) (kids := kids))
      by_cases h0 : 0 ≤ c
      · by_cases h1 : c < 64
        · by_cases h2 : ans.length = 0
          · have e2 : ((ans.length : Int) == 0) = true := by simpa using (by omega : (ans.length : Int) = 0)
            by_cases h3 : us.length = 0
            · have e3 : ((us.length : Int) == 0) = true := by simpa using (by omega : (us.length : Int) = 0)
              go_enter Try.func42, Try.ntmps42
              go_wp2_with fail
              go_ret
              exact ⟨ret_bool (by rw [HT.out, decide_eq_true h0, decide_eq_true (show c ≤ 63 by omega), decide_eq_true h2, ← HL.out, decide_eq_true h3]; rfl), Below.refl _ _⟩
            · have e3 : ((us.length : Int) == 0) = false := by simpa using (by omega : ¬ (us.length : Int) = 0)
              go_enter Try.func42, Try.ntmps42
              go_wp2_with fail
              go_ret
              exact ⟨ret_bool (by rw [HT.out, decide_eq_true h0, decide_eq_true (show c ≤ 63 by omega), decide_eq_true h2, ← HL.out, decide_eq_false h3]; rfl), Below.refl _ _⟩
          · have e2 : ((ans.length : Int) == 0) = false := by simpa using (by omega : ¬ (ans.length : Int) = 0)
            go_enter Try.func42, Try.ntmps42
            go_wp2_with fail
            go_ret
            exact ⟨ret_bool (by rw [HT.out, decide_eq_true h0, decide_eq_true (show c ≤ 63 by omega), decide_eq_false h2]; rfl), Below.refl _ _⟩
        · go_enter Try.func42, Try.ntmps42
          go_wp2_with fail
          go_ret
          exact ⟨ret_bool (by rw [HT.out, decide_eq_true h0, decide_eq_false (show ¬ c ≤ 63 by omega)]; rfl), Below.refl _ _⟩
      · go_enter Try.func42, Try.ntmps42
        go_wp2_with fail
        go_ret
        exact ⟨ret_bool (by rw [HT.out, decide_eq_false (show ¬ 0 ≤ c by omega)]; rfl), Below.refl _ _⟩
    · have HT := Lib.hid (isT_node (c := c) (ans := ans) (kids := kids) hm)
      have hm' : (a == -1) = false := by simpa using hm
      by_cases n1 : a < 0
      · go_enter Try.func42, Try.ntmps42
        go_wp2_with fail
        refine wp_region_E (fun W => W.cell? ⟨b, 0, none⟩ = some (.int .i64 a) ∧ W.cell? ⟨b, 1, none⟩ = some (.int .i64 c) ∧ W.cell? ⟨b, 2, none⟩ = some (.slice aa ans.length ca) ∧ W.cell? ⟨b, 3, none⟩ = some (.slice ak us.length ck)) (by kernel_rfl) ?_
        have hdr : (w).drew = { w with drawn := (w).drawn + 1 } := rfl
        rw [← hdr]
        clear hdr
        change wpAnyE _ _ _ _ _ _ _ _ ((w).drewN 1)
        have hS : (w.drewN 1).cell? ⟨b, 0, none⟩ = some (.int .i64 a) ∧ (w.drewN 1).cell? ⟨b, 1, none⟩ = some (.int .i64 c) ∧ (w.drewN 1).cell? ⟨b, 2, none⟩ = some (.slice aa ans.length ca) ∧ (w.drewN 1).cell? ⟨b, 3, none⟩ = some (.slice ak us.length ck) := ⟨c0, c1, c2, c3⟩
        refine tm 0 39 rfl rfl (.pointer (some ⟨b, 0, none⟩)) hS ?_
        try simp only [pa, pl]
        refine tg 1 40 rfl rfl (.pointer (some ⟨b, 0, none⟩)) hS ?_
        try simp only [pa, pl]
        refine tg 2 41 rfl rfl (.pointer (some ⟨b, 0, none⟩)) hS ?_
        try simp only [pa, pl]
        refine tk 3 42 rfl rfl (.int .i64 a) (fun W hW => by obtain ⟨c0, c1, c2, c3⟩ := hW; go_simp) hS ?_
        try simp only [pa, pl]
        refine tg 4 43 rfl rfl (.bool true) hS ?_
        try simp only [pa, pl]
        refine tm 5 44 rfl rfl (.bool true) hS ?_
        try simp only [pa, pl]
        refine ps 6 45 rfl rfl hS ?_
        try simp only [pa, pl]
        refine ps 7 46 rfl rfl hS ?_
        try simp only [pa, pl]
        refine ps 8 47 rfl rfl hS ?_
        try simp only [pa, pl]
        refine ps 9 48 rfl rfl hS ?_
        try simp only [pa, pl]
        refine ps 10 49 rfl rfl hS ?_
        try simp only [pa, pl]
        refine tg 11 50 rfl rfl (.bool true) hS ?_
        try simp only [pa, pl]
        refine tm 12 51 rfl rfl (.bool true) hS ?_
        try simp only [pa, pl]
        refine ps 13 52 rfl rfl hS ?_
        try simp only [pa, pl]
        refine ps 14 53 rfl rfl hS ?_
        try simp only [pa, pl]
        refine ps 15 54 rfl rfl hS ?_
        try simp only [pa, pl]
        refine ps 16 55 rfl rfl hS ?_
        try simp only [pa, pl]
        refine ps 17 56 rfl rfl hS ?_
        try simp only [pa, pl]
        refine tg 18 57 rfl rfl (.bool true) hS ?_
        try simp only [pa, pl]
        refine tm 19 58 rfl rfl (.bool true) hS ?_
        try simp only [pa, pl]
        refine ps 20 59 rfl rfl hS ?_
        try simp only [pa, pl]
        refine ps 21 60 rfl rfl hS ?_
        try simp only [pa, pl]
        refine ps 22 61 rfl rfl hS ?_
        try simp only [pa, pl]
        refine ps 23 62 rfl rfl hS ?_
        try simp only [pa, pl]
        refine ps 24 63 rfl rfl hS ?_
        try simp only [pa, pl]
        refine ps 25 64 rfl rfl hS ?_
        try simp only [pa, pl]
        refine tg 26 65 rfl rfl (.bool true) hS ?_
        try simp only [pa, pl]
        refine tm 27 66 rfl rfl (.bool true) hS ?_
        try simp only [pa, pl]
        refine ps 28 67 rfl rfl hS ?_
        try simp only [pa, pl]
        refine ps 29 68 rfl rfl hS ?_
        try simp only [pa, pl]
        refine ps 30 69 rfl rfl hS ?_
        try simp only [pa, pl]
        refine ps 31 70 rfl rfl hS ?_
        try simp only [pa, pl]
        refine ps 32 71 rfl rfl hS ?_
        try simp only [pa, pl]
        refine ps 33 72 rfl rfl hS ?_
        try simp only [pa, pl]
        refine ps 34 73 rfl rfl hS ?_
        try simp only [pa, pl]
        refine ps 35 74 rfl rfl hS ?_
        try simp only [pa, pl]
        refine ps 36 75 rfl rfl hS ?_
        try simp only [pa, pl]
        refine ps 37 76 rfl rfl hS ?_
        try simp only [pa, pl]
        refine ps 38 77 rfl rfl hS ?_
        try simp only [pa, pl]
        refine wpAnyEOne 39 (by kernel_rfl) ?_
        refine wpOpRun' (v := .bool true) (w' := w.drewN 1) (some 78) rfl rfl rfl (by go_simp) ?_
        refine ⟨.inr (allUp_of (by kernel_rfl)), ?_⟩
        try simp only [pa, pl]
        refine wpAnyE_done (by kernel_rfl) ?_ _
        go_wp2_with fail
        go_ret
        exact ⟨ret_bool (by rw [HT.out, decide_eq_false (show ¬ 0 ≤ a by omega)]; simp), Below.dn (Below.refl _ _) _⟩
      · by_cases n2 : a > 63
        · go_enter Try.func42, Try.ntmps42
          go_wp2_with fail
          refine wp_region_E (fun W => W.cell? ⟨b, 0, none⟩ = some (.int .i64 a) ∧ W.cell? ⟨b, 1, none⟩ = some (.int .i64 c) ∧ W.cell? ⟨b, 2, none⟩ = some (.slice aa ans.length ca) ∧ W.cell? ⟨b, 3, none⟩ = some (.slice ak us.length ck)) (by kernel_rfl) ?_
          have hdr : (w).drew = { w with drawn := (w).drawn + 1 } := rfl
          rw [← hdr]
          clear hdr
          change wpAnyE _ _ _ _ _ _ _ _ ((w).drewN 1)
          have hS : (w.drewN 1).cell? ⟨b, 0, none⟩ = some (.int .i64 a) ∧ (w.drewN 1).cell? ⟨b, 1, none⟩ = some (.int .i64 c) ∧ (w.drewN 1).cell? ⟨b, 2, none⟩ = some (.slice aa ans.length ca) ∧ (w.drewN 1).cell? ⟨b, 3, none⟩ = some (.slice ak us.length ck) := ⟨c0, c1, c2, c3⟩
          refine tm 0 39 rfl rfl (.pointer (some ⟨b, 0, none⟩)) hS ?_
          try simp only [pa, pl]
          refine tg 1 40 rfl rfl (.pointer (some ⟨b, 0, none⟩)) hS ?_
          try simp only [pa, pl]
          refine tg 2 41 rfl rfl (.pointer (some ⟨b, 0, none⟩)) hS ?_
          try simp only [pa, pl]
          refine tk 3 42 rfl rfl (.int .i64 a) (fun W hW => by obtain ⟨c0, c1, c2, c3⟩ := hW; go_simp) hS ?_
          try simp only [pa, pl]
          refine tg 4 43 rfl rfl (.bool false) hS ?_
          try simp only [pa, pl]
          refine tm 5 44 rfl rfl (.bool false) hS ?_
          try simp only [pa, pl]
          refine tm 6 45 rfl rfl (.pointer (some ⟨b, 0, none⟩)) hS ?_
          try simp only [pa, pl]
          refine tg 7 46 rfl rfl (.pointer (some ⟨b, 0, none⟩)) hS ?_
          try simp only [pa, pl]
          refine tg 8 47 rfl rfl (.pointer (some ⟨b, 0, none⟩)) hS ?_
          try simp only [pa, pl]
          refine tk 9 48 rfl rfl (.int .i64 a) (fun W hW => by obtain ⟨c0, c1, c2, c3⟩ := hW; go_simp) hS ?_
          try simp only [pa, pl]
          refine tg 10 49 rfl rfl (.bool true) hS ?_
          try simp only [pa, pl]
          refine tg 11 50 rfl rfl (.bool true) hS ?_
          try simp only [pa, pl]
          refine tm 12 51 rfl rfl (.bool true) hS ?_
          try simp only [pa, pl]
          refine ps 13 52 rfl rfl hS ?_
          try simp only [pa, pl]
          refine ps 14 53 rfl rfl hS ?_
          try simp only [pa, pl]
          refine ps 15 54 rfl rfl hS ?_
          try simp only [pa, pl]
          refine ps 16 55 rfl rfl hS ?_
          try simp only [pa, pl]
          refine ps 17 56 rfl rfl hS ?_
          try simp only [pa, pl]
          refine tg 18 57 rfl rfl (.bool true) hS ?_
          try simp only [pa, pl]
          refine tm 19 58 rfl rfl (.bool true) hS ?_
          try simp only [pa, pl]
          refine ps 20 59 rfl rfl hS ?_
          try simp only [pa, pl]
          refine ps 21 60 rfl rfl hS ?_
          try simp only [pa, pl]
          refine ps 22 61 rfl rfl hS ?_
          try simp only [pa, pl]
          refine ps 23 62 rfl rfl hS ?_
          try simp only [pa, pl]
          refine ps 24 63 rfl rfl hS ?_
          try simp only [pa, pl]
          refine ps 25 64 rfl rfl hS ?_
          try simp only [pa, pl]
          refine tg 26 65 rfl rfl (.bool true) hS ?_
          try simp only [pa, pl]
          refine tm 27 66 rfl rfl (.bool true) hS ?_
          try simp only [pa, pl]
          refine ps 28 67 rfl rfl hS ?_
          try simp only [pa, pl]
          refine ps 29 68 rfl rfl hS ?_
          try simp only [pa, pl]
          refine ps 30 69 rfl rfl hS ?_
          try simp only [pa, pl]
          refine ps 31 70 rfl rfl hS ?_
          try simp only [pa, pl]
          refine ps 32 71 rfl rfl hS ?_
          try simp only [pa, pl]
          refine ps 33 72 rfl rfl hS ?_
          try simp only [pa, pl]
          refine ps 34 73 rfl rfl hS ?_
          try simp only [pa, pl]
          refine ps 35 74 rfl rfl hS ?_
          try simp only [pa, pl]
          refine ps 36 75 rfl rfl hS ?_
          try simp only [pa, pl]
          refine ps 37 76 rfl rfl hS ?_
          try simp only [pa, pl]
          refine ps 38 77 rfl rfl hS ?_
          try simp only [pa, pl]
          refine wpAnyEOne 39 (by kernel_rfl) ?_
          refine wpOpRun' (v := .bool true) (w' := w.drewN 1) (some 78) rfl rfl rfl (by go_simp) ?_
          refine ⟨.inr (allUp_of (by kernel_rfl)), ?_⟩
          try simp only [pa, pl]
          refine wpAnyE_done (by kernel_rfl) ?_ _
          go_wp2_with fail
          go_ret
          exact ⟨ret_bool (by rw [HT.out, decide_eq_false (show ¬ a < 64 by omega)]; simp), Below.dn (Below.refl _ _) _⟩
        · by_cases n3 : c = 0
          · have n3' : (c != 0) = false := by simpa using n3
            by_cases n4 : ans.length = 0
            · have n4' : ((ans.length : Int) == 0) = true := by simpa using (by omega : (ans.length : Int) = 0)
              go_enter Try.func42, Try.ntmps42
              go_wp2_with fail
              refine wp_region_E (fun W => W.cell? ⟨b, 0, none⟩ = some (.int .i64 a) ∧ W.cell? ⟨b, 1, none⟩ = some (.int .i64 c) ∧ W.cell? ⟨b, 2, none⟩ = some (.slice aa ans.length ca) ∧ W.cell? ⟨b, 3, none⟩ = some (.slice ak us.length ck)) (by kernel_rfl) ?_
              have hdr : (w).drew = { w with drawn := (w).drawn + 1 } := rfl
              rw [← hdr]
              clear hdr
              change wpAnyE _ _ _ _ _ _ _ _ ((w).drewN 1)
              have hS : (w.drewN 1).cell? ⟨b, 0, none⟩ = some (.int .i64 a) ∧ (w.drewN 1).cell? ⟨b, 1, none⟩ = some (.int .i64 c) ∧ (w.drewN 1).cell? ⟨b, 2, none⟩ = some (.slice aa ans.length ca) ∧ (w.drewN 1).cell? ⟨b, 3, none⟩ = some (.slice ak us.length ck) := ⟨c0, c1, c2, c3⟩
              refine tm 0 39 rfl rfl (.pointer (some ⟨b, 0, none⟩)) hS ?_
              try simp only [pa, pl]
              refine tg 1 40 rfl rfl (.pointer (some ⟨b, 0, none⟩)) hS ?_
              try simp only [pa, pl]
              refine tg 2 41 rfl rfl (.pointer (some ⟨b, 0, none⟩)) hS ?_
              try simp only [pa, pl]
              refine tk 3 42 rfl rfl (.int .i64 a) (fun W hW => by obtain ⟨c0, c1, c2, c3⟩ := hW; go_simp) hS ?_
              try simp only [pa, pl]
              refine tg 4 43 rfl rfl (.bool false) hS ?_
              try simp only [pa, pl]
              refine tm 5 44 rfl rfl (.bool false) hS ?_
              try simp only [pa, pl]
              refine tm 6 45 rfl rfl (.pointer (some ⟨b, 0, none⟩)) hS ?_
              try simp only [pa, pl]
              refine tg 7 46 rfl rfl (.pointer (some ⟨b, 0, none⟩)) hS ?_
              try simp only [pa, pl]
              refine tg 8 47 rfl rfl (.pointer (some ⟨b, 0, none⟩)) hS ?_
              try simp only [pa, pl]
              refine tk 9 48 rfl rfl (.int .i64 a) (fun W hW => by obtain ⟨c0, c1, c2, c3⟩ := hW; go_simp) hS ?_
              try simp only [pa, pl]
              refine tg 10 49 rfl rfl (.bool false) hS ?_
              try simp only [pa, pl]
              refine tg 11 50 rfl rfl (.bool false) hS ?_
              try simp only [pa, pl]
              refine tm 12 51 rfl rfl (.bool false) hS ?_
              try simp only [pa, pl]
              refine tm 13 52 rfl rfl (.pointer (some ⟨b, 0, none⟩)) hS ?_
              try simp only [pa, pl]
              refine tg 14 53 rfl rfl (.pointer (some ⟨b, 0, none⟩)) hS ?_
              try simp only [pa, pl]
              refine tg 15 54 rfl rfl (.pointer (some ⟨b, 1, none⟩)) hS ?_
              try simp only [pa, pl]
              refine tk 16 55 rfl rfl (.int .i64 c) (fun W hW => by obtain ⟨c0, c1, c2, c3⟩ := hW; go_simp) hS ?_
              try simp only [pa, pl]
              refine tg 17 56 rfl rfl (.bool false) hS ?_
              try simp only [pa, pl]
              refine tg 18 57 rfl rfl (.bool false) hS ?_
              try simp only [pa, pl]
              refine tm 19 58 rfl rfl (.bool false) hS ?_
              try simp only [pa, pl]
              refine tm 20 59 rfl rfl (.pointer (some ⟨b, 0, none⟩)) hS ?_
              try simp only [pa, pl]
              refine tg 21 60 rfl rfl (.pointer (some ⟨b, 0, none⟩)) hS ?_
              try simp only [pa, pl]
              refine tg 22 61 rfl rfl (.pointer (some ⟨b, 2, none⟩)) hS ?_
              try simp only [pa, pl]
              refine tk 23 62 rfl rfl (.slice aa ans.length ca) (fun W hW => by obtain ⟨c0, c1, c2, c3⟩ := hW; go_simp) hS ?_
              try simp only [pa, pl]
              refine tg 24 63 rfl rfl (.int .i64 (ans.length : Int)) hS ?_
              try simp only [pa, pl]
              refine tg 25 64 rfl rfl (.bool true) hS ?_
              try simp only [pa, pl]
              refine tg 26 65 rfl rfl (.bool true) hS ?_
              try simp only [pa, pl]
              refine tm 27 66 rfl rfl (.bool true) hS ?_
              try simp only [pa, pl]
              refine ps 28 67 rfl rfl hS ?_
              try simp only [pa, pl]
              refine ps 29 68 rfl rfl hS ?_
              try simp only [pa, pl]
              refine ps 30 69 rfl rfl hS ?_
              try simp only [pa, pl]
              refine ps 31 70 rfl rfl hS ?_
              try simp only [pa, pl]
              refine ps 32 71 rfl rfl hS ?_
              try simp only [pa, pl]
              refine ps 33 72 rfl rfl hS ?_
              try simp only [pa, pl]
              refine ps 34 73 rfl rfl hS ?_
              try simp only [pa, pl]
              refine ps 35 74 rfl rfl hS ?_
              try simp only [pa, pl]
              refine ps 36 75 rfl rfl hS ?_
              try simp only [pa, pl]
              refine ps 37 76 rfl rfl hS ?_
              try simp only [pa, pl]
              refine ps 38 77 rfl rfl hS ?_
              try simp only [pa, pl]
              refine wpAnyEOne 39 (by kernel_rfl) ?_
              refine wpOpRun' (v := .bool true) (w' := w.drewN 1) (some 78) rfl rfl rfl (by go_simp) ?_
              refine ⟨.inr (allUp_of (by kernel_rfl)), ?_⟩
              try simp only [pa, pl]
              refine wpAnyE_done (by kernel_rfl) ?_ _
              go_wp2_with fail
              go_ret
              exact ⟨ret_bool (by rw [HT.out, decide_eq_false (show ¬ ans.length ≠ 0 by omega)]; simp), Below.dn (Below.refl _ _) _⟩
            · have n4' : ((ans.length : Int) == 0) = false := by simpa using (by omega : ¬ (ans.length : Int) = 0)
              by_cases n5 : us.length = ans.length
              · have n5' : ((us.length : Int) != (ans.length : Int)) = false := by simpa using (by omega : (us.length : Int) = (ans.length : Int))
                have HT := Lib.hid (show isT (.node a c ans kids) = (incB ans && isTs kids) by rw [HT.out, decide_eq_true (show 0 ≤ a by omega), decide_eq_true (show a < 64 by omega), decide_eq_true n3, decide_eq_true (show ans.length ≠ 0 by omega), ← HL.out, decide_eq_true n5]; rfl)
                go_enter Try.func42, Try.ntmps42
                go_wp2_with fail
                refine wp_region_E (fun W => W.cell? ⟨b, 0, none⟩ = some (.int .i64 a) ∧ W.cell? ⟨b, 1, none⟩ = some (.int .i64 c) ∧ W.cell? ⟨b, 2, none⟩ = some (.slice aa ans.length ca) ∧ W.cell? ⟨b, 3, none⟩ = some (.slice ak us.length ck)) (by kernel_rfl) ?_
                have hdr : (w).drew = { w with drawn := (w).drawn + 1 } := rfl
                rw [← hdr]
                clear hdr
                change wpAnyE _ _ _ _ _ _ _ _ ((w).drewN 1)
                have hS : (w.drewN 1).cell? ⟨b, 0, none⟩ = some (.int .i64 a) ∧ (w.drewN 1).cell? ⟨b, 1, none⟩ = some (.int .i64 c) ∧ (w.drewN 1).cell? ⟨b, 2, none⟩ = some (.slice aa ans.length ca) ∧ (w.drewN 1).cell? ⟨b, 3, none⟩ = some (.slice ak us.length ck) := ⟨c0, c1, c2, c3⟩
                refine tm 0 39 rfl rfl (.pointer (some ⟨b, 0, none⟩)) hS ?_
                try simp only [pa, pl]
                refine tg 1 40 rfl rfl (.pointer (some ⟨b, 0, none⟩)) hS ?_
                try simp only [pa, pl]
                refine tg 2 41 rfl rfl (.pointer (some ⟨b, 0, none⟩)) hS ?_
                try simp only [pa, pl]
                refine tk 3 42 rfl rfl (.int .i64 a) (fun W hW => by obtain ⟨c0, c1, c2, c3⟩ := hW; go_simp) hS ?_
                try simp only [pa, pl]
                refine tg 4 43 rfl rfl (.bool false) hS ?_
                try simp only [pa, pl]
                refine tm 5 44 rfl rfl (.bool false) hS ?_
                try simp only [pa, pl]
                refine tm 6 45 rfl rfl (.pointer (some ⟨b, 0, none⟩)) hS ?_
                try simp only [pa, pl]
                refine tg 7 46 rfl rfl (.pointer (some ⟨b, 0, none⟩)) hS ?_
                try simp only [pa, pl]
                refine tg 8 47 rfl rfl (.pointer (some ⟨b, 0, none⟩)) hS ?_
                try simp only [pa, pl]
                refine tk 9 48 rfl rfl (.int .i64 a) (fun W hW => by obtain ⟨c0, c1, c2, c3⟩ := hW; go_simp) hS ?_
                try simp only [pa, pl]
                refine tg 10 49 rfl rfl (.bool false) hS ?_
                try simp only [pa, pl]
                refine tg 11 50 rfl rfl (.bool false) hS ?_
                try simp only [pa, pl]
                refine tm 12 51 rfl rfl (.bool false) hS ?_
                try simp only [pa, pl]
                refine tm 13 52 rfl rfl (.pointer (some ⟨b, 0, none⟩)) hS ?_
                try simp only [pa, pl]
                refine tg 14 53 rfl rfl (.pointer (some ⟨b, 0, none⟩)) hS ?_
                try simp only [pa, pl]
                refine tg 15 54 rfl rfl (.pointer (some ⟨b, 1, none⟩)) hS ?_
                try simp only [pa, pl]
                refine tk 16 55 rfl rfl (.int .i64 c) (fun W hW => by obtain ⟨c0, c1, c2, c3⟩ := hW; go_simp) hS ?_
                try simp only [pa, pl]
                refine tg 17 56 rfl rfl (.bool false) hS ?_
                try simp only [pa, pl]
                refine tg 18 57 rfl rfl (.bool false) hS ?_
                try simp only [pa, pl]
                refine tm 19 58 rfl rfl (.bool false) hS ?_
                try simp only [pa, pl]
                refine tm 20 59 rfl rfl (.pointer (some ⟨b, 0, none⟩)) hS ?_
                try simp only [pa, pl]
                refine tg 21 60 rfl rfl (.pointer (some ⟨b, 0, none⟩)) hS ?_
                try simp only [pa, pl]
                refine tg 22 61 rfl rfl (.pointer (some ⟨b, 2, none⟩)) hS ?_
                try simp only [pa, pl]
                refine tk 23 62 rfl rfl (.slice aa ans.length ca) (fun W hW => by obtain ⟨c0, c1, c2, c3⟩ := hW; go_simp) hS ?_
                try simp only [pa, pl]
                refine tg 24 63 rfl rfl (.int .i64 (ans.length : Int)) hS ?_
                try simp only [pa, pl]
                refine tg 25 64 rfl rfl (.bool false) hS ?_
                try simp only [pa, pl]
                refine tg 26 65 rfl rfl (.bool false) hS ?_
                try simp only [pa, pl]
                refine tm 27 66 rfl rfl (.bool false) hS ?_
                try simp only [pa, pl]
                refine tm 28 67 rfl rfl (.pointer (some ⟨b, 0, none⟩)) hS ?_
                try simp only [pa, pl]
                refine tg 29 68 rfl rfl (.pointer (some ⟨b, 0, none⟩)) hS ?_
                try simp only [pa, pl]
                refine tg 30 69 rfl rfl (.pointer (some ⟨b, 3, none⟩)) hS ?_
                try simp only [pa, pl]
                refine tk 31 70 rfl rfl (.slice ak us.length ck) (fun W hW => by obtain ⟨c0, c1, c2, c3⟩ := hW; go_simp) hS ?_
                try simp only [pa, pl]
                refine tg 32 71 rfl rfl (.int .i64 (us.length : Int)) hS ?_
                try simp only [pa, pl]
                refine tm 33 72 rfl rfl (.pointer (some ⟨b, 0, none⟩)) hS ?_
                try simp only [pa, pl]
                refine tg 34 73 rfl rfl (.pointer (some ⟨b, 0, none⟩)) hS ?_
                try simp only [pa, pl]
                refine tg 35 74 rfl rfl (.pointer (some ⟨b, 2, none⟩)) hS ?_
                try simp only [pa, pl]
                refine tk 36 75 rfl rfl (.slice aa ans.length ca) (fun W hW => by obtain ⟨c0, c1, c2, c3⟩ := hW; go_simp) hS ?_
                try simp only [pa, pl]
                refine tg 37 76 rfl rfl (.int .i64 (ans.length : Int)) hS ?_
                try simp only [pa, pl]
                refine tg 38 77 rfl rfl (.bool false) hS ?_
                try simp only [pa, pl]
                refine wpAnyEOne 39 (by kernel_rfl) ?_
                refine wpOpRun' (v := .bool false) (w' := w.drewN 1) (some 78) rfl rfl rfl (by go_simp) ?_
                refine ⟨.inr (allUp_of (by kernel_rfl)), ?_⟩
                try simp only [pa, pl]
                refine wpAnyE_done (by kernel_rfl) ?_ _
                have HB1 := Lib.hid (Below.dn (Below.refl w.heap.size w) 1)
                go_wp2_with fail
                obtain ⟨w1, hw1⟩ : ∃ w1, w.drewN 1 = w1 := ⟨_, rfl⟩
                rw [hw1] at HB1 ⊢
                have HN5 := Lib.hid n5
                clear hw1 hS n1 n2 n3 n3' n4' n5' n5 hm hm' c1
                go_loopw [3] (fun iv wr => ∃ i : Nat, i ≤ ans.length ∧ iv = .int .i64 i ∧ incB (ans.take i) = true ∧ isTs (kids.take i) = true ∧ Below w.heap.size w wr) (fun iv _ => ans.length - (intOf iv).toNat)
                case atStart => exact ⟨0, Nat.zero_le _, rfl, rfl, rfl, HB1.out⟩
                case round =>
                  clear HB1 c0 c2 c3
                  obtain ⟨i, hi, rfl, hinc, his, hbl⟩ := hrel
                  have hi0 : (0 : Int) ≤ (i : Int) := Int.natCast_nonneg _
                  have HINC := Lib.hid hinc; have HIS := Lib.hid his; have HBL := Lib.hid hbl
                  have c2 := (hbl.cell (p := ⟨b, 2, none⟩) hblt).trans C2.out
                  have c3 := (hbl.cell (p := ⟨b, 3, none⟩) hblt).trans C3.out
                  clear hinc his
                  by_cases hlt : i < ans.length
                  · have hi1 : (i : Int) < (ans.length : Int) := by omega
                    have hi2 : (i : Int) < (us.length : Int) := by have := HN5.out; omega
                    obtain ⟨x, hx⟩ := elem_at hlt
                    obtain ⟨u, hu⟩ := elem_at (show i < us.length by have := HN5.out; omega)
                    obtain ⟨tki, htk⟩ := elem_at (show i < kids.length by rw [← HL.out, HN5.out]; omega)
                    obtain ⟨ba, oa, rfl, hba, hcx⟩ := (HA.out : Rd w _ (ints ans)).at (k := i) (u := .int .i64 x) (by unfold ints; rw [List.getElem?_map, hx]; rfl)
                    obtain ⟨bk, ok, rfl, hbk, hcu⟩ := HK.out.at hu
                    have qx := (hbl.cell (p := ⟨ba, oa + i, none⟩) hba).trans hcx
                    have qu := (hbl.cell (p := ⟨bk, ok + i, none⟩) hbk).trans hcu
                    obtain ⟨pu, rfl⟩ := HSF.out i u tki hu htk
                    have IS := IH.out i _ tki hu htk (wr.drewN 1) (HB.out.trans ((hbl.trans (Below.dn (Below.refl w.heap.size wr) 1)).mono HB.out.size))
                    have HTK := Lib.hid htk; have HX := Lib.hid hx
                    have hblr := Nat.lt_of_lt_of_le hblt hbl.size; have hbar := Nat.lt_of_lt_of_le hba hbl.size; have hbkr := Nat.lt_of_lt_of_le hbk hbl.size
                    obtain ⟨bt, hbt⟩ : ∃ z, isT tki = z := ⟨_, rfl⟩
                    rw [hbt] at IS
                    have HBTK := Lib.hid hbt
                    clear hu htk hx hcx hcu hbt hbl
                    by_cases hz : i = 0
                    · subst hz
                      rw [Nat.add_zero] at qx qu
                      have hune : us ≠ [] := fun h0 => by rw [h0] at hi2; simp at hi2
                      have hz1 : ¬ ((0 : Nat) : Int) > 0 := by omega
                      have HNI := Lib.hid (show incB (ans.take (0 + 1)) = true by rw [take_succ_at HX.out]; rfl)
                      have hS : (wr.drewN 1).cell? ⟨b, 2, none⟩ = some (.slice (some ⟨ba, oa, none⟩) ans.length ca) ∧ (wr.drewN 1).cell? ⟨b, 3, none⟩ = some (.slice (some ⟨bk, ok, none⟩) us.length ck) ∧ (wr.drewN 1).cell? ⟨ba, oa, none⟩ = some (.int .i64 x) ∧ (wr.drewN 1).cell? ⟨bk, ok, none⟩ = some (.pointer pu) := ⟨c2, c3, qx, qu⟩
                      go_wp2_with fail
                      refine wp_region_E (fun W => W.cell? ⟨b, 2, none⟩ = some (.slice (some ⟨ba, oa, none⟩) ans.length ca) ∧ W.cell? ⟨b, 3, none⟩ = some (.slice (some ⟨bk, ok, none⟩) us.length ck) ∧ W.cell? ⟨ba, oa, none⟩ = some (.int .i64 x) ∧ W.cell? ⟨bk, ok, none⟩ = some (.pointer pu)) (by kernel_rfl) ?_
                      have hdr : (wr).drew = { wr with drawn := (wr).drawn + 1 } := rfl
                      rw [← hdr]
                      clear hdr
                      change wpAnyE _ _ _ _ _ _ _ _ ((wr).drewN 1)
                      refine tm 0 88 rfl rfl (.int .i64 ((0 : Nat) : Int)) hS ?_
                      try simp only [pa, pl]
                      refine tg 1 89 rfl rfl (.bool false) hS ?_
                      try simp only [pa, pl]
                      refine tm 2 90 rfl rfl (.bool false) hS ?_
                      try simp only [pa, pl]
                      refine ps 3 91 rfl rfl hS ?_
                      try simp only [pa, pl]
                      refine ps 4 92 rfl rfl hS ?_
                      try simp only [pa, pl]
                      refine ps 5 93 rfl rfl hS ?_
                      try simp only [pa, pl]
                      refine ps 6 94 rfl rfl hS ?_
                      try simp only [pa, pl]
                      refine ps 7 95 rfl rfl hS ?_
                      try simp only [pa, pl]
                      refine ps 8 96 rfl rfl hS ?_
                      try simp only [pa, pl]
                      refine ps 9 97 rfl rfl hS ?_
                      try simp only [pa, pl]
                      refine ps 10 98 rfl rfl hS ?_
                      try simp only [pa, pl]
                      refine ps 11 99 rfl rfl hS ?_
                      try simp only [pa, pl]
                      refine ps 12 100 rfl rfl hS ?_
                      try simp only [pa, pl]
                      refine ps 13 101 rfl rfl hS ?_
                      try simp only [pa, pl]
                      refine ps 14 102 rfl rfl hS ?_
                      try simp only [pa, pl]
                      refine ps 15 103 rfl rfl hS ?_
                      try simp only [pa, pl]
                      refine ps 16 104 rfl rfl hS ?_
                      try simp only [pa, pl]
                      refine ps 17 105 rfl rfl hS ?_
                      try simp only [pa, pl]
                      refine ps 18 106 rfl rfl hS ?_
                      try simp only [pa, pl]
                      refine ps 19 107 rfl rfl hS ?_
                      try simp only [pa, pl]
                      refine tg 20 108 rfl rfl (.bool false) hS ?_
                      try simp only [pa, pl]
                      refine tm 21 109 rfl rfl (.bool false) hS ?_
                      try simp only [pa, pl]
                      refine tm 22 110 rfl rfl (.pointer (some ⟨b, 0, none⟩)) hS ?_
                      try simp only [pa, pl]
                      refine tg 23 111 rfl rfl (.pointer (some ⟨b, 0, none⟩)) hS ?_
                      try simp only [pa, pl]
                      refine tg 24 112 rfl rfl (.pointer (some ⟨b, 3, none⟩)) hS ?_
                      try simp only [pa, pl]
                      refine tk 25 113 rfl rfl (.slice (some ⟨bk, ok, none⟩) us.length ck) (fun W hW => by obtain ⟨c2, c3, qx, qu⟩ := hW; go_simp) hS ?_
                      try simp only [pa, pl]
                      refine tm 26 114 rfl rfl (.int .i64 ((0 : Nat) : Int)) hS ?_
                      try simp only [pa, pl]
                      refine tg 27 115 rfl rfl (.pointer (some ⟨bk, ok, none⟩)) hS ?_
                      try simp only [pa, pl]
                      refine tk 28 116 rfl rfl (.pointer pu) (fun W hW => by obtain ⟨c2, c3, qx, qu⟩ := hW; go_simp) hS ?_
                      try simp only [pa, pl]
                      refine wpAnyEOne 29 (by kernel_rfl) ?_
                      refine wpOpCall (some 117) 42 #[.pointer pu] rfl rfl rfl (by go_simp) (IS) ?_
                      rintro e w2 ⟨rfl, hb2⟩
                      have hb2 := (Below.dn (Below.refl wr.heap.size wr) 1).trans hb2
                      have hS2 : w2.cell? ⟨b, 2, none⟩ = some (.slice (some ⟨ba, oa, none⟩) ans.length ca) ∧ w2.cell? ⟨b, 3, none⟩ = some (.slice (some ⟨bk, ok, none⟩) us.length ck) ∧ w2.cell? ⟨ba, oa, none⟩ = some (.int .i64 x) ∧ w2.cell? ⟨bk, ok, none⟩ = some (.pointer pu) := ⟨(hb2.cell (p := ⟨b, 2, none⟩) hblr).trans c2, (hb2.cell (p := ⟨b, 3, none⟩) hblr).trans c3, (hb2.cell (p := ⟨ba, oa, none⟩) hbar).trans qx, (hb2.cell (p := ⟨bk, ok, none⟩) hbkr).trans qu⟩
                      refine ⟨_, rfl, ?_⟩
                      refine ⟨.inl (hS2), ?_⟩
                      try simp only [pa, pl]
                      refine tg 30 118 rfl rfl (.bool (!bt)) hS2 ?_
                      try simp only [pa, pl]
                      refine wpAnyEOne 31 (by kernel_rfl) ?_
                      refine wpOpRun' (v := .bool (!bt)) (w' := w2) (some 119) rfl rfl rfl (by go_simp) ?_
                      refine ⟨.inr (allUp_of (by kernel_rfl)), ?_⟩
                      try simp only [pa, pl]
                      refine wpAnyE_done (by kernel_rfl) ?_ _
                      have HBL2 := Lib.hid (HBL.out.trans (hb2.mono HBL.out.size))
                      clear hS hS2 hb2 IS
                      cases bt
                      · go_wp2_with fail
                        go_ret
                        exact ⟨ret_bool (by rw [HT.out, isTs_bad HTK.out HBTK.out, Bool.and_false]), HBL2.out⟩
                      · go_wp2_with fail
                        go_roundw
                        case rel =>
                          exact ⟨0 + 1, by omega, by go_num, HNI.out, by rw [isTs_take HIS.out HTK.out, HBTK.out], HBL2.out⟩
                        case measure => simp [intOf]; omega
                    · have hz1 : 0 < i := by omega
                      obtain ⟨j, hj⟩ : ∃ j, i = j + 1 := ⟨i - 1, by omega⟩
                      have hjl : j < ans.length := by omega
                      obtain ⟨y, hy⟩ := elem_at hjl
                      obtain ⟨ba', oa', hbo, hba', hcy⟩ := (HA.out : Rd w _ (ints ans)).at (k := j) (u := .int .i64 y) (by unfold ints; rw [List.getElem?_map, hy]; rfl)
                      cases hbo
                      have qy := (HBL.out.cell (p := ⟨ba, oa + j, none⟩) hba').trans hcy
                      have hj0 : (0 : Int) ≤ (j : Int) := Int.natCast_nonneg _
                      have hj1 : (j : Int) < (ans.length : Int) := by omega
                      have HW1 := Lib.hid (show IntKind.i64.wrap ((i : Int) - 1) = (i : Int) - 1 from IntWalk.i64_in _ (by omega))
                      have HMX := Lib.hid (show max ((i : Int) - 1) 0 = (j : Int) by omega)
                      have HCMP := Lib.hid (show incB (ans.take (i + 1)) = decide (y < x) by have h1 := HINC.out; have h2 := HX.out; subst hj; exact incB_step h1 hy h2)
                      have hS : (wr.drewN 1).cell? ⟨b, 2, none⟩ = some (.slice (some ⟨ba, oa, none⟩) ans.length ca) ∧ (wr.drewN 1).cell? ⟨b, 3, none⟩ = some (.slice (some ⟨bk, ok, none⟩) us.length ck) ∧ (wr.drewN 1).cell? ⟨ba, oa + i, none⟩ = some (.int .i64 x) ∧ (wr.drewN 1).cell? ⟨bk, ok + i, none⟩ = some (.pointer pu) ∧ (wr.drewN 1).cell? ⟨ba, oa + j, none⟩ = some (.int .i64 y) := ⟨c2, c3, qx, qu, qy⟩
                      clear hy hcy hj
                      by_cases hle : x ≤ y
                      · have HNI := Lib.hid (show incB (ans.take (i + 1)) = false by rw [HCMP.out]; exact decide_eq_false (by omega))
                        go_wp2_with fail
                        refine wp_region_E (fun W => W.cell? ⟨b, 2, none⟩ = some (.slice (some ⟨ba, oa, none⟩) ans.length ca) ∧ W.cell? ⟨b, 3, none⟩ = some (.slice (some ⟨bk, ok, none⟩) us.length ck) ∧ W.cell? ⟨ba, oa + i, none⟩ = some (.int .i64 x) ∧ W.cell? ⟨bk, ok + i, none⟩ = some (.pointer pu) ∧ W.cell? ⟨ba, oa + j, none⟩ = some (.int .i64 y)) (by kernel_rfl) ?_
                        have hdr : (wr).drew = { wr with drawn := (wr).drawn + 1 } := rfl
                        rw [← hdr]
                        clear hdr
                        change wpAnyE _ _ _ _ _ _ _ _ ((wr).drewN 1)
                        refine tm 0 88 rfl rfl (.int .i64 (i : Int)) hS ?_
                        try simp only [pa, pl]
                        refine tg 1 89 rfl rfl (.bool true) hS ?_
                        try simp only [pa, pl]
                        refine tm 2 90 rfl rfl (.bool true) hS ?_
                        try simp only [pa, pl]
                        refine tm 3 91 rfl rfl (.pointer (some ⟨b, 0, none⟩)) hS ?_
                        try simp only [pa, pl]
                        refine tg 4 92 rfl rfl (.pointer (some ⟨b, 0, none⟩)) hS ?_
                        try simp only [pa, pl]
                        refine tg 5 93 rfl rfl (.pointer (some ⟨b, 2, none⟩)) hS ?_
                        try simp only [pa, pl]
                        refine tk 6 94 rfl rfl (.slice (some ⟨ba, oa, none⟩) ans.length ca) (fun W hW => by obtain ⟨c2, c3, qx, qu, qy⟩ := hW; go_simp) hS ?_
                        try simp only [pa, pl]
                        refine tm 7 95 rfl rfl (.int .i64 (i : Int)) hS ?_
                        try simp only [pa, pl]
                        refine tg 8 96 rfl rfl (.pointer (some ⟨ba, oa + i, none⟩)) hS ?_
                        try simp only [pa, pl]
                        refine tk 9 97 rfl rfl (.int .i64 x) (fun W hW => by obtain ⟨c2, c3, qx, qu, qy⟩ := hW; go_simp) hS ?_
                        try simp only [pa, pl]
                        refine tm 10 98 rfl rfl (.pointer (some ⟨b, 0, none⟩)) hS ?_
                        try simp only [pa, pl]
                        refine tg 11 99 rfl rfl (.pointer (some ⟨b, 0, none⟩)) hS ?_
                        try simp only [pa, pl]
                        refine tg 12 100 rfl rfl (.pointer (some ⟨b, 2, none⟩)) hS ?_
                        try simp only [pa, pl]
                        refine tk 13 101 rfl rfl (.slice (some ⟨ba, oa, none⟩) ans.length ca) (fun W hW => by obtain ⟨c2, c3, qx, qu, qy⟩ := hW; go_simp) hS ?_
                        try simp only [pa, pl]
                        refine tm 14 102 rfl rfl (.int .i64 (i : Int)) hS ?_
                        try simp only [pa, pl]
                        refine tk 15 103 rfl rfl (.int .i64 ((i : Int) - 1)) (fun _ _ => by go_simp <;> exact HW1.out) hS ?_
                        try simp only [pa, pl]
                        refine tk 16 104 rfl rfl (.int .i64 (j : Int)) (fun _ _ => by go_simp <;> exact HMX.out) hS ?_
                        try simp only [pa, pl]
                        refine tg 17 105 rfl rfl (.pointer (some ⟨ba, oa + j, none⟩)) hS ?_
                        try simp only [pa, pl]
                        refine tk 18 106 rfl rfl (.int .i64 y) (fun W hW => by obtain ⟨c2, c3, qx, qu, qy⟩ := hW; go_simp) hS ?_
                        try simp only [pa, pl]
                        refine tg 19 107 rfl rfl (.bool true) hS ?_
                        try simp only [pa, pl]
                        refine tg 20 108 rfl rfl (.bool true) hS ?_
                        try simp only [pa, pl]
                        refine tm 21 109 rfl rfl (.bool true) hS ?_
                        try simp only [pa, pl]
                        refine ps 22 110 rfl rfl hS ?_
                        try simp only [pa, pl]
                        refine ps 23 111 rfl rfl hS ?_
                        try simp only [pa, pl]
                        refine ps 24 112 rfl rfl hS ?_
                        try simp only [pa, pl]
                        refine ps 25 113 rfl rfl hS ?_
                        try simp only [pa, pl]
                        refine ps 26 114 rfl rfl hS ?_
                        try simp only [pa, pl]
                        refine ps 27 115 rfl rfl hS ?_
                        try simp only [pa, pl]
                        refine ps 28 116 rfl rfl hS ?_
                        try simp only [pa, pl]
                        refine ps 29 117 rfl rfl hS ?_
                        try simp only [pa, pl]
                        refine ps 30 118 rfl rfl hS ?_
                        try simp only [pa, pl]
                        refine wpAnyEOne 31 (by kernel_rfl) ?_
                        refine wpOpRun' (v := .bool true) (w' := wr.drewN 1) (some 119) rfl rfl rfl (by go_simp) ?_
                        refine ⟨.inr (allUp_of (by kernel_rfl)), ?_⟩
                        try simp only [pa, pl]
                        refine wpAnyE_done (by kernel_rfl) ?_ _
                        clear IS
                        go_wp2_with fail
                        go_ret
                        exact ⟨ret_bool (by rw [HT.out, incB_pre _ _ HNI.out]; rfl), Below.dn HBL.out 1⟩
                      · have HNI := Lib.hid (show incB (ans.take (i + 1)) = true by rw [HCMP.out]; exact decide_eq_true (by omega))
                        go_wp2_with fail
                        refine wp_region_E (fun W => W.cell? ⟨b, 2, none⟩ = some (.slice (some ⟨ba, oa, none⟩) ans.length ca) ∧ W.cell? ⟨b, 3, none⟩ = some (.slice (some ⟨bk, ok, none⟩) us.length ck) ∧ W.cell? ⟨ba, oa + i, none⟩ = some (.int .i64 x) ∧ W.cell? ⟨bk, ok + i, none⟩ = some (.pointer pu) ∧ W.cell? ⟨ba, oa + j, none⟩ = some (.int .i64 y)) (by kernel_rfl) ?_
                        have hdr : (wr).drew = { wr with drawn := (wr).drawn + 1 } := rfl
                        rw [← hdr]
                        clear hdr
                        change wpAnyE _ _ _ _ _ _ _ _ ((wr).drewN 1)
                        refine tm 0 88 rfl rfl (.int .i64 (i : Int)) hS ?_
                        try simp only [pa, pl]
                        refine tg 1 89 rfl rfl (.bool true) hS ?_
                        try simp only [pa, pl]
                        refine tm 2 90 rfl rfl (.bool true) hS ?_
                        try simp only [pa, pl]
                        refine tm 3 91 rfl rfl (.pointer (some ⟨b, 0, none⟩)) hS ?_
                        try simp only [pa, pl]
                        refine tg 4 92 rfl rfl (.pointer (some ⟨b, 0, none⟩)) hS ?_
                        try simp only [pa, pl]
                        refine tg 5 93 rfl rfl (.pointer (some ⟨b, 2, none⟩)) hS ?_
                        try simp only [pa, pl]
                        refine tk 6 94 rfl rfl (.slice (some ⟨ba, oa, none⟩) ans.length ca) (fun W hW => by obtain ⟨c2, c3, qx, qu, qy⟩ := hW; go_simp) hS ?_
                        try simp only [pa, pl]
                        refine tm 7 95 rfl rfl (.int .i64 (i : Int)) hS ?_
                        try simp only [pa, pl]
                        refine tg 8 96 rfl rfl (.pointer (some ⟨ba, oa + i, none⟩)) hS ?_
                        try simp only [pa, pl]
                        refine tk 9 97 rfl rfl (.int .i64 x) (fun W hW => by obtain ⟨c2, c3, qx, qu, qy⟩ := hW; go_simp) hS ?_
                        try simp only [pa, pl]
                        refine tm 10 98 rfl rfl (.pointer (some ⟨b, 0, none⟩)) hS ?_
                        try simp only [pa, pl]
                        refine tg 11 99 rfl rfl (.pointer (some ⟨b, 0, none⟩)) hS ?_
                        try simp only [pa, pl]
                        refine tg 12 100 rfl rfl (.pointer (some ⟨b, 2, none⟩)) hS ?_
                        try simp only [pa, pl]
                        refine tk 13 101 rfl rfl (.slice (some ⟨ba, oa, none⟩) ans.length ca) (fun W hW => by obtain ⟨c2, c3, qx, qu, qy⟩ := hW; go_simp) hS ?_
                        try simp only [pa, pl]
                        refine tm 14 102 rfl rfl (.int .i64 (i : Int)) hS ?_
                        try simp only [pa, pl]
                        refine tk 15 103 rfl rfl (.int .i64 ((i : Int) - 1)) (fun _ _ => by go_simp <;> exact HW1.out) hS ?_
                        try simp only [pa, pl]
                        refine tk 16 104 rfl rfl (.int .i64 (j : Int)) (fun _ _ => by go_simp <;> exact HMX.out) hS ?_
                        try simp only [pa, pl]
                        refine tg 17 105 rfl rfl (.pointer (some ⟨ba, oa + j, none⟩)) hS ?_
                        try simp only [pa, pl]
                        refine tk 18 106 rfl rfl (.int .i64 y) (fun W hW => by obtain ⟨c2, c3, qx, qu, qy⟩ := hW; go_simp) hS ?_
                        try simp only [pa, pl]
                        refine tg 19 107 rfl rfl (.bool false) hS ?_
                        try simp only [pa, pl]
                        refine tg 20 108 rfl rfl (.bool false) hS ?_
                        try simp only [pa, pl]
                        refine tm 21 109 rfl rfl (.bool false) hS ?_
                        try simp only [pa, pl]
                        refine tm 22 110 rfl rfl (.pointer (some ⟨b, 0, none⟩)) hS ?_
                        try simp only [pa, pl]
                        refine tg 23 111 rfl rfl (.pointer (some ⟨b, 0, none⟩)) hS ?_
                        try simp only [pa, pl]
                        refine tg 24 112 rfl rfl (.pointer (some ⟨b, 3, none⟩)) hS ?_
                        try simp only [pa, pl]
                        refine tk 25 113 rfl rfl (.slice (some ⟨bk, ok, none⟩) us.length ck) (fun W hW => by obtain ⟨c2, c3, qx, qu, qy⟩ := hW; go_simp) hS ?_
                        try simp only [pa, pl]
                        refine tm 26 114 rfl rfl (.int .i64 (i : Int)) hS ?_
                        try simp only [pa, pl]
                        refine tg 27 115 rfl rfl (.pointer (some ⟨bk, ok + i, none⟩)) hS ?_
                        try simp only [pa, pl]
                        refine tk 28 116 rfl rfl (.pointer pu) (fun W hW => by obtain ⟨c2, c3, qx, qu, qy⟩ := hW; go_simp) hS ?_
                        try simp only [pa, pl]
                        refine wpAnyEOne 29 (by kernel_rfl) ?_
                        refine wpOpCall (some 117) 42 #[.pointer pu] rfl rfl rfl (by go_simp) (IS) ?_
                        rintro e w2 ⟨rfl, hb2⟩
                        have hb2 := (Below.dn (Below.refl wr.heap.size wr) 1).trans hb2
                        have hS2 : w2.cell? ⟨b, 2, none⟩ = some (.slice (some ⟨ba, oa, none⟩) ans.length ca) ∧ w2.cell? ⟨b, 3, none⟩ = some (.slice (some ⟨bk, ok, none⟩) us.length ck) ∧ w2.cell? ⟨ba, oa + i, none⟩ = some (.int .i64 x) ∧ w2.cell? ⟨bk, ok + i, none⟩ = some (.pointer pu) ∧ w2.cell? ⟨ba, oa + j, none⟩ = some (.int .i64 y) := ⟨(hb2.cell (p := ⟨b, 2, none⟩) hblr).trans c2, (hb2.cell (p := ⟨b, 3, none⟩) hblr).trans c3, (hb2.cell (p := ⟨ba, oa + i, none⟩) hbar).trans qx, (hb2.cell (p := ⟨bk, ok + i, none⟩) hbkr).trans qu, (hb2.cell (p := ⟨ba, oa + j, none⟩) hbar).trans qy⟩
                        refine ⟨_, rfl, ?_⟩
                        refine ⟨.inl (hS2), ?_⟩
                        try simp only [pa, pl]
                        refine tg 30 118 rfl rfl (.bool (!bt)) hS2 ?_
                        try simp only [pa, pl]
                        refine wpAnyEOne 31 (by kernel_rfl) ?_
                        refine wpOpRun' (v := .bool (!bt)) (w' := w2) (some 119) rfl rfl rfl (by go_simp) ?_
                        refine ⟨.inr (allUp_of (by kernel_rfl)), ?_⟩
                        try simp only [pa, pl]
                        refine wpAnyE_done (by kernel_rfl) ?_ _
                        have HBL2 := Lib.hid (HBL.out.trans (hb2.mono HBL.out.size))
                        clear hS hS2 hb2 IS
                        cases bt
                        · go_wp2_with fail
                          go_ret
                          exact ⟨ret_bool (by rw [HT.out, isTs_bad HTK.out HBTK.out, Bool.and_false]), HBL2.out⟩
                        · go_wp2_with fail
                          go_roundw
                          case rel =>
                            exact ⟨i + 1, by omega, by go_num, HNI.out, by rw [isTs_take HIS.out HTK.out, HBTK.out], HBL2.out⟩
                          case measure => simp [intOf]; omega
                  · obtain rfl : i = ans.length := by omega
                    have hi1 : ¬ (ans.length : Int) < (ans.length : Int) := by omega
                    have HK2 := Lib.hid (show kids.take ans.length = kids from List.take_of_length_le (by rw [← HL.out, HN5.out]; omega))
                    rw [List.take_length] at HINC
                    rw [HK2.out] at HIS
                    clear hbl
                    go_wp2_with fail
                    go_ret
                    exact ⟨ret_bool (by rw [HT.out, HINC.out, HIS.out]; rfl), HBL.out⟩
              · have n5' : ((us.length : Int) != (ans.length : Int)) = true := by simpa using (by omega : ¬ (us.length : Int) = (ans.length : Int))
                go_enter Try.func42, Try.ntmps42
                go_wp2_with fail
                refine wp_region_E (fun W => W.cell? ⟨b, 0, none⟩ = some (.int .i64 a) ∧ W.cell? ⟨b, 1, none⟩ = some (.int .i64 c) ∧ W.cell? ⟨b, 2, none⟩ = some (.slice aa ans.length ca) ∧ W.cell? ⟨b, 3, none⟩ = some (.slice ak us.length ck)) (by kernel_rfl) ?_
                have hdr : (w).drew = { w with drawn := (w).drawn + 1 } := rfl
                rw [← hdr]
                clear hdr
                change wpAnyE _ _ _ _ _ _ _ _ ((w).drewN 1)
                have hS : (w.drewN 1).cell? ⟨b, 0, none⟩ = some (.int .i64 a) ∧ (w.drewN 1).cell? ⟨b, 1, none⟩ = some (.int .i64 c) ∧ (w.drewN 1).cell? ⟨b, 2, none⟩ = some (.slice aa ans.length ca) ∧ (w.drewN 1).cell? ⟨b, 3, none⟩ = some (.slice ak us.length ck) := ⟨c0, c1, c2, c3⟩
                refine tm 0 39 rfl rfl (.pointer (some ⟨b, 0, none⟩)) hS ?_
                try simp only [pa, pl]
                refine tg 1 40 rfl rfl (.pointer (some ⟨b, 0, none⟩)) hS ?_
                try simp only [pa, pl]
                refine tg 2 41 rfl rfl (.pointer (some ⟨b, 0, none⟩)) hS ?_
                try simp only [pa, pl]
                refine tk 3 42 rfl rfl (.int .i64 a) (fun W hW => by obtain ⟨c0, c1, c2, c3⟩ := hW; go_simp) hS ?_
                try simp only [pa, pl]
                refine tg 4 43 rfl rfl (.bool false) hS ?_
                try simp only [pa, pl]
                refine tm 5 44 rfl rfl (.bool false) hS ?_
                try simp only [pa, pl]
                refine tm 6 45 rfl rfl (.pointer (some ⟨b, 0, none⟩)) hS ?_
                try simp only [pa, pl]
                refine tg 7 46 rfl rfl (.pointer (some ⟨b, 0, none⟩)) hS ?_
                try simp only [pa, pl]
                refine tg 8 47 rfl rfl (.pointer (some ⟨b, 0, none⟩)) hS ?_
                try simp only [pa, pl]
                refine tk 9 48 rfl rfl (.int .i64 a) (fun W hW => by obtain ⟨c0, c1, c2, c3⟩ := hW; go_simp) hS ?_
                try simp only [pa, pl]
                refine tg 10 49 rfl rfl (.bool false) hS ?_
                try simp only [pa, pl]
                refine tg 11 50 rfl rfl (.bool false) hS ?_
                try simp only [pa, pl]
                refine tm 12 51 rfl rfl (.bool false) hS ?_
                try simp only [pa, pl]
                refine tm 13 52 rfl rfl (.pointer (some ⟨b, 0, none⟩)) hS ?_
                try simp only [pa, pl]
                refine tg 14 53 rfl rfl (.pointer (some ⟨b, 0, none⟩)) hS ?_
                try simp only [pa, pl]
                refine tg 15 54 rfl rfl (.pointer (some ⟨b, 1, none⟩)) hS ?_
                try simp only [pa, pl]
                refine tk 16 55 rfl rfl (.int .i64 c) (fun W hW => by obtain ⟨c0, c1, c2, c3⟩ := hW; go_simp) hS ?_
                try simp only [pa, pl]
                refine tg 17 56 rfl rfl (.bool false) hS ?_
                try simp only [pa, pl]
                refine tg 18 57 rfl rfl (.bool false) hS ?_
                try simp only [pa, pl]
                refine tm 19 58 rfl rfl (.bool false) hS ?_
                try simp only [pa, pl]
                refine tm 20 59 rfl rfl (.pointer (some ⟨b, 0, none⟩)) hS ?_
                try simp only [pa, pl]
                refine tg 21 60 rfl rfl (.pointer (some ⟨b, 0, none⟩)) hS ?_
                try simp only [pa, pl]
                refine tg 22 61 rfl rfl (.pointer (some ⟨b, 2, none⟩)) hS ?_
                try simp only [pa, pl]
                refine tk 23 62 rfl rfl (.slice aa ans.length ca) (fun W hW => by obtain ⟨c0, c1, c2, c3⟩ := hW; go_simp) hS ?_
                try simp only [pa, pl]
                refine tg 24 63 rfl rfl (.int .i64 (ans.length : Int)) hS ?_
                try simp only [pa, pl]
                refine tg 25 64 rfl rfl (.bool false) hS ?_
                try simp only [pa, pl]
                refine tg 26 65 rfl rfl (.bool false) hS ?_
                try simp only [pa, pl]
                refine tm 27 66 rfl rfl (.bool false) hS ?_
                try simp only [pa, pl]
                refine tm 28 67 rfl rfl (.pointer (some ⟨b, 0, none⟩)) hS ?_
                try simp only [pa, pl]
                refine tg 29 68 rfl rfl (.pointer (some ⟨b, 0, none⟩)) hS ?_
                try simp only [pa, pl]
                refine tg 30 69 rfl rfl (.pointer (some ⟨b, 3, none⟩)) hS ?_
                try simp only [pa, pl]
                refine tk 31 70 rfl rfl (.slice ak us.length ck) (fun W hW => by obtain ⟨c0, c1, c2, c3⟩ := hW; go_simp) hS ?_
                try simp only [pa, pl]
                refine tg 32 71 rfl rfl (.int .i64 (us.length : Int)) hS ?_
                try simp only [pa, pl]
                refine tm 33 72 rfl rfl (.pointer (some ⟨b, 0, none⟩)) hS ?_
                try simp only [pa, pl]
                refine tg 34 73 rfl rfl (.pointer (some ⟨b, 0, none⟩)) hS ?_
                try simp only [pa, pl]
                refine tg 35 74 rfl rfl (.pointer (some ⟨b, 2, none⟩)) hS ?_
                try simp only [pa, pl]
                refine tk 36 75 rfl rfl (.slice aa ans.length ca) (fun W hW => by obtain ⟨c0, c1, c2, c3⟩ := hW; go_simp) hS ?_
                try simp only [pa, pl]
                refine tg 37 76 rfl rfl (.int .i64 (ans.length : Int)) hS ?_
                try simp only [pa, pl]
                refine tg 38 77 rfl rfl (.bool true) hS ?_
                try simp only [pa, pl]
                refine wpAnyEOne 39 (by kernel_rfl) ?_
                refine wpOpRun' (v := .bool true) (w' := w.drewN 1) (some 78) rfl rfl rfl (by go_simp) ?_
                refine ⟨.inr (allUp_of (by kernel_rfl)), ?_⟩
                try simp only [pa, pl]
                refine wpAnyE_done (by kernel_rfl) ?_ _
                go_wp2_with fail
                go_ret
                exact ⟨ret_bool (by rw [HT.out, ← HL.out, decide_eq_false n5]; simp), Below.dn (Below.refl _ _) _⟩
          · have n3' : (c != 0) = true := by simpa using n3
            go_enter Try.func42, Try.ntmps42
            go_wp2_with fail
            refine wp_region_E (fun W => W.cell? ⟨b, 0, none⟩ = some (.int .i64 a) ∧ W.cell? ⟨b, 1, none⟩ = some (.int .i64 c) ∧ W.cell? ⟨b, 2, none⟩ = some (.slice aa ans.length ca) ∧ W.cell? ⟨b, 3, none⟩ = some (.slice ak us.length ck)) (by kernel_rfl) ?_
            have hdr : (w).drew = { w with drawn := (w).drawn + 1 } := rfl
            rw [← hdr]
            clear hdr
            change wpAnyE _ _ _ _ _ _ _ _ ((w).drewN 1)
            have hS : (w.drewN 1).cell? ⟨b, 0, none⟩ = some (.int .i64 a) ∧ (w.drewN 1).cell? ⟨b, 1, none⟩ = some (.int .i64 c) ∧ (w.drewN 1).cell? ⟨b, 2, none⟩ = some (.slice aa ans.length ca) ∧ (w.drewN 1).cell? ⟨b, 3, none⟩ = some (.slice ak us.length ck) := ⟨c0, c1, c2, c3⟩
            refine tm 0 39 rfl rfl (.pointer (some ⟨b, 0, none⟩)) hS ?_
            try simp only [pa, pl]
            refine tg 1 40 rfl rfl (.pointer (some ⟨b, 0, none⟩)) hS ?_
            try simp only [pa, pl]
            refine tg 2 41 rfl rfl (.pointer (some ⟨b, 0, none⟩)) hS ?_
            try simp only [pa, pl]
            refine tk 3 42 rfl rfl (.int .i64 a) (fun W hW => by obtain ⟨c0, c1, c2, c3⟩ := hW; go_simp) hS ?_
            try simp only [pa, pl]
            refine tg 4 43 rfl rfl (.bool false) hS ?_
            try simp only [pa, pl]
            refine tm 5 44 rfl rfl (.bool false) hS ?_
            try simp only [pa, pl]
            refine tm 6 45 rfl rfl (.pointer (some ⟨b, 0, none⟩)) hS ?_
            try simp only [pa, pl]
            refine tg 7 46 rfl rfl (.pointer (some ⟨b, 0, none⟩)) hS ?_
            try simp only [pa, pl]
            refine tg 8 47 rfl rfl (.pointer (some ⟨b, 0, none⟩)) hS ?_
            try simp only [pa, pl]
            refine tk 9 48 rfl rfl (.int .i64 a) (fun W hW => by obtain ⟨c0, c1, c2, c3⟩ := hW; go_simp) hS ?_
            try simp only [pa, pl]
            refine tg 10 49 rfl rfl (.bool false) hS ?_
            try simp only [pa, pl]
            refine tg 11 50 rfl rfl (.bool false) hS ?_
            try simp only [pa, pl]
            refine tm 12 51 rfl rfl (.bool false) hS ?_
            try simp only [pa, pl]
            refine tm 13 52 rfl rfl (.pointer (some ⟨b, 0, none⟩)) hS ?_
            try simp only [pa, pl]
            refine tg 14 53 rfl rfl (.pointer (some ⟨b, 0, none⟩)) hS ?_
            try simp only [pa, pl]
            refine tg 15 54 rfl rfl (.pointer (some ⟨b, 1, none⟩)) hS ?_
            try simp only [pa, pl]
            refine tk 16 55 rfl rfl (.int .i64 c) (fun W hW => by obtain ⟨c0, c1, c2, c3⟩ := hW; go_simp) hS ?_
            try simp only [pa, pl]
            refine tg 17 56 rfl rfl (.bool true) hS ?_
            try simp only [pa, pl]
            refine tg 18 57 rfl rfl (.bool true) hS ?_
            try simp only [pa, pl]
            refine tm 19 58 rfl rfl (.bool true) hS ?_
            try simp only [pa, pl]
            refine ps 20 59 rfl rfl hS ?_
            try simp only [pa, pl]
            refine ps 21 60 rfl rfl hS ?_
            try simp only [pa, pl]
            refine ps 22 61 rfl rfl hS ?_
            try simp only [pa, pl]
            refine ps 23 62 rfl rfl hS ?_
            try simp only [pa, pl]
            refine ps 24 63 rfl rfl hS ?_
            try simp only [pa, pl]
            refine ps 25 64 rfl rfl hS ?_
            try simp only [pa, pl]
            refine tg 26 65 rfl rfl (.bool true) hS ?_
            try simp only [pa, pl]
            refine tm 27 66 rfl rfl (.bool true) hS ?_
            try simp only [pa, pl]
            refine ps 28 67 rfl rfl hS ?_
            try simp only [pa, pl]
            refine ps 29 68 rfl rfl hS ?_
            try simp only [pa, pl]
            refine ps 30 69 rfl rfl hS ?_
            try simp only [pa, pl]
            refine ps 31 70 rfl rfl hS ?_
            try simp only [pa, pl]
            refine ps 32 71 rfl rfl hS ?_
            try simp only [pa, pl]
            refine ps 33 72 rfl rfl hS ?_
            try simp only [pa, pl]
            refine ps 34 73 rfl rfl hS ?_
            try simp only [pa, pl]
            refine ps 35 74 rfl rfl hS ?_
            try simp only [pa, pl]
            refine ps 36 75 rfl rfl hS ?_
            try simp only [pa, pl]
            refine ps 37 76 rfl rfl hS ?_
            try simp only [pa, pl]
            refine ps 38 77 rfl rfl hS ?_
            try simp only [pa, pl]
            refine wpAnyEOne 39 (by kernel_rfl) ?_
            refine wpOpRun' (v := .bool true) (w' := w.drewN 1) (some 78) rfl rfl rfl (by go_simp) ?_
            refine ⟨.inr (allUp_of (by kernel_rfl)), ?_⟩
            try simp only [pa, pl]
            refine wpAnyE_done (by kernel_rfl) ?_ _
            go_wp2_with fail
            go_ret
            exact ⟨ret_bool (by rw [HT.out, decide_eq_false n3]; simp), Below.dn (Below.refl _ _) _⟩
end Go.Proofs.Ytmkkegigajmhkaa

