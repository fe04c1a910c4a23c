/- Whether something is a tree (program). -/
import Derived.Test.YtmkkegigajmhkaaN12
set_option linter.unusedVariables false
namespace Go.Proofs.Ytmkkegigajmhkaa
open Go.RowKit Go.Maps

set_option maxHeartbeats 1000000 in
theorem g83_any (v : Value) (w : World) (b : Bool) (h : Calls Try.prog 67 #[v] w fun e w' => e = .returned (.bool b) ∧ Below w.heap.size w w') :
    Calls Try.prog 83 #[v] w fun e w' => e = .returned (.bool (!b)) ∧ Below w.heap.size w w' := by
  go_enter Try.func83, Try.ntmps83
  go_wp2_with fail
  refine h.mono ?_
  rintro e w1 ⟨rfl, hb⟩
  go_wp2_with fail
  go_ret
  exact ⟨rfl, hb⟩
set_option maxRecDepth 100000 in
set_option maxHeartbeats 16000000 in
theorem is_any {F : Nat → Prop} {W0 : World} {v : Value} {t : Tr} (h : TreeIn 108 F W0 v t) :
    ∀ w, Below W0.heap.size W0 w → Calls Try.prog 67 #[v] w fun e w' => e = .returned (.bool (isT t)) ∧ Below w.heap.size w w' := by
  induction h with
  | nil =>
    intro w _
    go_enter Try.func67, Try.ntmps67
    go_wp2_with fail
    go_ret
    exact ⟨rfl, Below.refl _ _⟩
  | node hF hB ha hk hl hs ih =>
    rename_i b a c ans kids us va vk
    intro w hb
    obtain ⟨aa, ca, rfl⟩ := RdI.form (show RdI W0 va ans from ha.1)
    obtain ⟨ak, ck, rfl, hk2⟩ : ∃ x c, vk = .slice x us.length c ∧ Rd W0 (.slice x us.length c) us := by
      obtain ⟨x, c, h1, _⟩ := hk.1; exact ⟨x, c, h1, h1 ▸ hk.1⟩
    have hk2 := hk2.below hb
    have ha2 : RdI w (.slice aa ans.length ca) ans := RdI.below ha.1 hb
    have hB2 := Boxs.below hB hb
    have c0 := hB2.cell 0; have c1 := hB2.cell 1; have c2 := hB2.cell 2; have c3 := hB2.cell 3
    simp only [List.getElem?_toArray, List.getElem?_cons_zero, List.getElem?_cons_succ] at c0 c1 c2 c3
    have IH := Lib.hid ih
    have HA := Lib.hid ha2; have HK := Lib.hid hk2; have HL := Lib.hid hl
    have HB := Lib.hid hb
    have hblt := hB2.lt
    clear ih hs ha hk hk2 ha2 hB hB2 hb hl
    by_cases hm : a = -1
    · subst hm
      have HT := Lib.hid (isT_leaf (c := c) (ans := ans) (kids := kids))
      by_cases h0 : 0 ≤ c
      · by_cases h1 : c ≤ 63
        · by_cases h2 : ans.length = 0
          · have e2 : ((ans.length : Int) == 0) = true := by simpa using (by omega : (ans.length : Int) = 0)
            by_cases h3 : us.length = 0
            · have e3 : ((us.length : Int) == 0) = true := by simpa using (by omega : (us.length : Int) = 0)
              go_enter Try.func67, Try.ntmps67
              go_wp2_with fail
              go_ret
              exact ⟨ret_bool (by rw [HT.out, decide_eq_true h0, decide_eq_true h1, decide_eq_true h2, ← HL.out, decide_eq_true h3]; rfl), Below.refl _ _⟩
            · have e3 : ((us.length : Int) == 0) = false := by simpa using (by omega : ¬ (us.length : Int) = 0)
              go_enter Try.func67, Try.ntmps67
              go_wp2_with fail
              go_ret
              exact ⟨ret_bool (by rw [HT.out, decide_eq_true h0, decide_eq_true h1, decide_eq_true h2, ← HL.out, decide_eq_false h3]; rfl), Below.refl _ _⟩
          · have e2 : ((ans.length : Int) == 0) = false := by simpa using (by omega : ¬ (ans.length : Int) = 0)
            go_enter Try.func67, Try.ntmps67
            go_wp2_with fail
            go_ret
            exact ⟨ret_bool (by rw [HT.out, decide_eq_true h0, decide_eq_true h1, decide_eq_false h2]; rfl), Below.refl _ _⟩
        · go_enter Try.func67, Try.ntmps67
          go_wp2_with fail
          go_ret
          exact ⟨ret_bool (by rw [HT.out, decide_eq_true h0, decide_eq_false (show ¬ c ≤ 63 by omega)]; rfl), Below.refl _ _⟩
      · go_enter Try.func67, Try.ntmps67
        go_wp2_with fail
        go_ret
        exact ⟨ret_bool (by rw [HT.out, decide_eq_false (show ¬ 0 ≤ c by omega)]; rfl), Below.refl _ _⟩
    · have HT := Lib.hid (isT_node (c := c) (ans := ans) (kids := kids) hm)
      have hm' : (a == -1) = false := by simpa using hm
      by_cases n1 : 0 ≤ a
      · have n1' : ¬ a < 0 := by omega
        by_cases n2 : a < 64
        · have n2' : ¬ (64 : Int) ≤ a := by omega
          by_cases n3 : c = 0
          · subst n3
            by_cases n4 : ans.length = 0
            · have e2 : ((ans.length : Int) == 0) = true := by simpa using (by omega : (ans.length : Int) = 0)
              go_enter Try.func67, Try.ntmps67
              go_wp2_with fail
              refine wp_region_E (fun W => W.cell? ⟨b, 0, none⟩ = some (.int .i64 a) ∧ W.cell? ⟨b, 1, none⟩ = some (.int .i64 0) ∧ W.cell? ⟨b, 2, none⟩ = some (.slice aa ans.length ca) ∧ W.cell? ⟨b, 3, none⟩ = some (.slice ak us.length ck)) (by kernel_rfl) ?_
              have hdr : (w).drew = { w with drawn := (w).drawn + 1 } := rfl
              rw [← hdr]
              clear hdr
              change wpAnyE _ _ _ _ _ _ _ _ (w.drewN 1)
              refine tm 0 39 rfl rfl (.pointer (some ⟨b, 0, none⟩)) ⟨c0, c1, c2, c3⟩ ?_
              try simp only [pa, pl]
              refine tg 1 40 rfl rfl (.pointer (some ⟨b, 0, none⟩)) ⟨c0, c1, c2, c3⟩ ?_
              try simp only [pa, pl]
              refine tg 2 41 rfl rfl (.pointer (some ⟨b, 0, none⟩)) ⟨c0, c1, c2, c3⟩ ?_
              try simp only [pa, pl]
              refine tk 3 42 rfl rfl (.int .i64 a) (fun W hW => by obtain ⟨c0, c1, c2, c3⟩ := hW; go_simp) ⟨c0, c1, c2, c3⟩ ?_
              try simp only [pa, pl]
              refine tg 4 43 rfl rfl (.bool false) ⟨c0, c1, c2, c3⟩ ?_
              try simp only [pa, pl]
              refine tm 5 44 rfl rfl (.bool false) ⟨c0, c1, c2, c3⟩ ?_
              try simp only [pa, pl]
              refine tm 6 45 rfl rfl (.pointer (some ⟨b, 0, none⟩)) ⟨c0, c1, c2, c3⟩ ?_
              try simp only [pa, pl]
              refine tg 7 46 rfl rfl (.pointer (some ⟨b, 0, none⟩)) ⟨c0, c1, c2, c3⟩ ?_
              try simp only [pa, pl]
              refine tg 8 47 rfl rfl (.pointer (some ⟨b, 0, none⟩)) ⟨c0, c1, c2, c3⟩ ?_
              try simp only [pa, pl]
              refine tk 9 48 rfl rfl (.int .i64 a) (fun W hW => by obtain ⟨c0, c1, c2, c3⟩ := hW; go_simp) ⟨c0, c1, c2, c3⟩ ?_
              try simp only [pa, pl]
              refine tg 10 49 rfl rfl (.bool false) ⟨c0, c1, c2, c3⟩ ?_
              try simp only [pa, pl]
              refine tg 11 50 rfl rfl (.bool false) ⟨c0, c1, c2, c3⟩ ?_
              try simp only [pa, pl]
              refine tm 12 51 rfl rfl (.bool false) ⟨c0, c1, c2, c3⟩ ?_
              try simp only [pa, pl]
              refine tm 13 52 rfl rfl (.pointer (some ⟨b, 0, none⟩)) ⟨c0, c1, c2, c3⟩ ?_
              try simp only [pa, pl]
              refine tg 14 53 rfl rfl (.pointer (some ⟨b, 0, none⟩)) ⟨c0, c1, c2, c3⟩ ?_
              try simp only [pa, pl]
              refine tg 15 54 rfl rfl (.pointer (some ⟨b, 1, none⟩)) ⟨c0, c1, c2, c3⟩ ?_
              try simp only [pa, pl]
              refine tk 16 55 rfl rfl (.int .i64 0) (fun W hW => by obtain ⟨c0, c1, c2, c3⟩ := hW; go_simp) ⟨c0, c1, c2, c3⟩ ?_
              try simp only [pa, pl]
              refine tg 17 56 rfl rfl (.bool false) ⟨c0, c1, c2, c3⟩ ?_
              try simp only [pa, pl]
              refine tg 18 57 rfl rfl (.bool false) ⟨c0, c1, c2, c3⟩ ?_
              try simp only [pa, pl]
              refine tm 19 58 rfl rfl (.bool false) ⟨c0, c1, c2, c3⟩ ?_
              try simp only [pa, pl]
              refine tm 20 59 rfl rfl (.pointer (some ⟨b, 0, none⟩)) ⟨c0, c1, c2, c3⟩ ?_
              try simp only [pa, pl]
              refine tg 21 60 rfl rfl (.pointer (some ⟨b, 0, none⟩)) ⟨c0, c1, c2, c3⟩ ?_
              try simp only [pa, pl]
              refine tg 22 61 rfl rfl (.pointer (some ⟨b, 2, none⟩)) ⟨c0, c1, c2, c3⟩ ?_
              try simp only [pa, pl]
              refine tk 23 62 rfl rfl (.slice aa ans.length ca) (fun W hW => by obtain ⟨c0, c1, c2, c3⟩ := hW; go_simp) ⟨c0, c1, c2, c3⟩ ?_
              try simp only [pa, pl]
              refine tg 24 63 rfl rfl (.int .i64 (ans.length : Int)) ⟨c0, c1, c2, c3⟩ ?_
              try simp only [pa, pl]
              refine tg 25 64 rfl rfl (.bool true) ⟨c0, c1, c2, c3⟩ ?_
              try simp only [pa, pl]
              refine tg 26 65 rfl rfl (.bool true) ⟨c0, c1, c2, c3⟩ ?_
              try simp only [pa, pl]
              refine tm 27 66 rfl rfl (.bool true) ⟨c0, c1, c2, c3⟩ ?_
              try simp only [pa, pl]
              refine ps 28 67 rfl rfl ⟨c0, c1, c2, c3⟩ ?_
              try simp only [pa, pl]
              refine ps 29 68 rfl rfl ⟨c0, c1, c2, c3⟩ ?_
              try simp only [pa, pl]
              refine ps 30 69 rfl rfl ⟨c0, c1, c2, c3⟩ ?_
              try simp only [pa, pl]
              refine ps 31 70 rfl rfl ⟨c0, c1, c2, c3⟩ ?_
              try simp only [pa, pl]
              refine ps 32 71 rfl rfl ⟨c0, c1, c2, c3⟩ ?_
              try simp only [pa, pl]
              refine ps 33 72 rfl rfl ⟨c0, c1, c2, c3⟩ ?_
              try simp only [pa, pl]
              refine ps 34 73 rfl rfl ⟨c0, c1, c2, c3⟩ ?_
              try simp only [pa, pl]
              refine ps 35 74 rfl rfl ⟨c0, c1, c2, c3⟩ ?_
              try simp only [pa, pl]
              refine ps 36 75 rfl rfl ⟨c0, c1, c2, c3⟩ ?_
              try simp only [pa, pl]
              refine ps 37 76 rfl rfl ⟨c0, c1, c2, c3⟩ ?_
              try simp only [pa, pl]
              refine ps 38 77 rfl rfl ⟨c0, c1, c2, c3⟩ ?_
              try simp only [pa, pl]
              refine wpAnyEOne 39 (by kernel_rfl) ?_
              refine wpOpRun' (v := .bool true) (w' := w.drewN 1) (some 78) rfl rfl rfl (by go_simp) ?_
              refine ⟨.inr (allUp_of (by kernel_rfl)), ?_⟩
              try simp only [pa, pl]
              refine wpAnyE_done (by kernel_rfl) ?_ _
              go_wp2_with fail
              go_ret
              exact ⟨ret_bool (by rw [HT.out, decide_eq_true n1, decide_eq_true n2, decide_eq_false (fun h => h n4 : ¬ ans.length ≠ 0)]; rfl), Below.dn (Below.refl _ _) _⟩
            · have e2 : ((ans.length : Int) == 0) = false := by simpa using (by omega : ¬ (ans.length : Int) = 0)
              by_cases n5 : us.length = ans.length
              · have e5 : ((us.length : Int) != (ans.length : Int)) = false := by simpa using (by omega : (us.length : Int) = ans.length)
                have HN5 := Lib.hid n5
                clear n5
                go_enter Try.func67, Try.ntmps67
                go_wp2_with fail
                refine wp_region_E (fun W => W.cell? ⟨b, 0, none⟩ = some (.int .i64 a) ∧ W.cell? ⟨b, 1, none⟩ = some (.int .i64 0) ∧ W.cell? ⟨b, 2, none⟩ = some (.slice aa ans.length ca) ∧ W.cell? ⟨b, 3, none⟩ = some (.slice ak us.length ck)) (by kernel_rfl) ?_
                have hdr : (w).drew = { w with drawn := (w).drawn + 1 } := rfl
                rw [← hdr]
                clear hdr
                change wpAnyE _ _ _ _ _ _ _ _ (w.drewN 1)
                refine tm 0 39 rfl rfl (.pointer (some ⟨b, 0, none⟩)) ⟨c0, c1, c2, c3⟩ ?_
                try simp only [pa, pl]
                refine tg 1 40 rfl rfl (.pointer (some ⟨b, 0, none⟩)) ⟨c0, c1, c2, c3⟩ ?_
                try simp only [pa, pl]
                refine tg 2 41 rfl rfl (.pointer (some ⟨b, 0, none⟩)) ⟨c0, c1, c2, c3⟩ ?_
                try simp only [pa, pl]
                refine tk 3 42 rfl rfl (.int .i64 a) (fun W hW => by obtain ⟨c0, c1, c2, c3⟩ := hW; go_simp) ⟨c0, c1, c2, c3⟩ ?_
                try simp only [pa, pl]
                refine tg 4 43 rfl rfl (.bool false) ⟨c0, c1, c2, c3⟩ ?_
                try simp only [pa, pl]
                refine tm 5 44 rfl rfl (.bool false) ⟨c0, c1, c2, c3⟩ ?_
                try simp only [pa, pl]
                refine tm 6 45 rfl rfl (.pointer (some ⟨b, 0, none⟩)) ⟨c0, c1, c2, c3⟩ ?_
                try simp only [pa, pl]
                refine tg 7 46 rfl rfl (.pointer (some ⟨b, 0, none⟩)) ⟨c0, c1, c2, c3⟩ ?_
                try simp only [pa, pl]
                refine tg 8 47 rfl rfl (.pointer (some ⟨b, 0, none⟩)) ⟨c0, c1, c2, c3⟩ ?_
                try simp only [pa, pl]
                refine tk 9 48 rfl rfl (.int .i64 a) (fun W hW => by obtain ⟨c0, c1, c2, c3⟩ := hW; go_simp) ⟨c0, c1, c2, c3⟩ ?_
                try simp only [pa, pl]
                refine tg 10 49 rfl rfl (.bool false) ⟨c0, c1, c2, c3⟩ ?_
                try simp only [pa, pl]
                refine tg 11 50 rfl rfl (.bool false) ⟨c0, c1, c2, c3⟩ ?_
                try simp only [pa, pl]
                refine tm 12 51 rfl rfl (.bool false) ⟨c0, c1, c2, c3⟩ ?_
                try simp only [pa, pl]
                refine tm 13 52 rfl rfl (.pointer (some ⟨b, 0, none⟩)) ⟨c0, c1, c2, c3⟩ ?_
                try simp only [pa, pl]
                refine tg 14 53 rfl rfl (.pointer (some ⟨b, 0, none⟩)) ⟨c0, c1, c2, c3⟩ ?_
                try simp only [pa, pl]
                refine tg 15 54 rfl rfl (.pointer (some ⟨b, 1, none⟩)) ⟨c0, c1, c2, c3⟩ ?_
                try simp only [pa, pl]
                refine tk 16 55 rfl rfl (.int .i64 0) (fun W hW => by obtain ⟨c0, c1, c2, c3⟩ := hW; go_simp) ⟨c0, c1, c2, c3⟩ ?_
                try simp only [pa, pl]
                refine tg 17 56 rfl rfl (.bool false) ⟨c0, c1, c2, c3⟩ ?_
                try simp only [pa, pl]
                refine tg 18 57 rfl rfl (.bool false) ⟨c0, c1, c2, c3⟩ ?_
                try simp only [pa, pl]
                refine tm 19 58 rfl rfl (.bool false) ⟨c0, c1, c2, c3⟩ ?_
                try simp only [pa, pl]
                refine tm 20 59 rfl rfl (.pointer (some ⟨b, 0, none⟩)) ⟨c0, c1, c2, c3⟩ ?_
                try simp only [pa, pl]
                refine tg 21 60 rfl rfl (.pointer (some ⟨b, 0, none⟩)) ⟨c0, c1, c2, c3⟩ ?_
                try simp only [pa, pl]
                refine tg 22 61 rfl rfl (.pointer (some ⟨b, 2, none⟩)) ⟨c0, c1, c2, c3⟩ ?_
                try simp only [pa, pl]
                refine tk 23 62 rfl rfl (.slice aa ans.length ca) (fun W hW => by obtain ⟨c0, c1, c2, c3⟩ := hW; go_simp) ⟨c0, c1, c2, c3⟩ ?_
                try simp only [pa, pl]
                refine tg 24 63 rfl rfl (.int .i64 (ans.length : Int)) ⟨c0, c1, c2, c3⟩ ?_
                try simp only [pa, pl]
                refine tg 25 64 rfl rfl (.bool false) ⟨c0, c1, c2, c3⟩ ?_
                try simp only [pa, pl]
                refine tg 26 65 rfl rfl (.bool false) ⟨c0, c1, c2, c3⟩ ?_
                try simp only [pa, pl]
                refine tm 27 66 rfl rfl (.bool false) ⟨c0, c1, c2, c3⟩ ?_
                try simp only [pa, pl]
                refine tm 28 67 rfl rfl (.pointer (some ⟨b, 0, none⟩)) ⟨c0, c1, c2, c3⟩ ?_
                try simp only [pa, pl]
                refine tg 29 68 rfl rfl (.pointer (some ⟨b, 0, none⟩)) ⟨c0, c1, c2, c3⟩ ?_
                try simp only [pa, pl]
                refine tg 30 69 rfl rfl (.pointer (some ⟨b, 3, none⟩)) ⟨c0, c1, c2, c3⟩ ?_
                try simp only [pa, pl]
                refine tk 31 70 rfl rfl (.slice ak us.length ck) (fun W hW => by obtain ⟨c0, c1, c2, c3⟩ := hW; go_simp) ⟨c0, c1, c2, c3⟩ ?_
                try simp only [pa, pl]
                refine tg 32 71 rfl rfl (.int .i64 (us.length : Int)) ⟨c0, c1, c2, c3⟩ ?_
                try simp only [pa, pl]
                refine tm 33 72 rfl rfl (.pointer (some ⟨b, 0, none⟩)) ⟨c0, c1, c2, c3⟩ ?_
                try simp only [pa, pl]
                refine tg 34 73 rfl rfl (.pointer (some ⟨b, 0, none⟩)) ⟨c0, c1, c2, c3⟩ ?_
                try simp only [pa, pl]
                refine tg 35 74 rfl rfl (.pointer (some ⟨b, 2, none⟩)) ⟨c0, c1, c2, c3⟩ ?_
                try simp only [pa, pl]
                refine tk 36 75 rfl rfl (.slice aa ans.length ca) (fun W hW => by obtain ⟨c0, c1, c2, c3⟩ := hW; go_simp) ⟨c0, c1, c2, c3⟩ ?_
                try simp only [pa, pl]
                refine tg 37 76 rfl rfl (.int .i64 (ans.length : Int)) ⟨c0, c1, c2, c3⟩ ?_
                try simp only [pa, pl]
                refine tg 38 77 rfl rfl (.bool false) ⟨c0, c1, c2, c3⟩ ?_
                try simp only [pa, pl]
                refine wpAnyEOne 39 (by kernel_rfl) ?_
                refine wpOpRun' (v := .bool false) (w' := w.drewN 1) (some 78) rfl rfl rfl (by go_simp) ?_
                refine ⟨.inr (allUp_of (by kernel_rfl)), ?_⟩
                try simp only [pa, pl]
                refine wpAnyE_done (by kernel_rfl) ?_ _
                go_wp2_with fail
                go_loopw [84] (fun iv wr => ∃ k : Nat, k ≤ ans.length ∧ iv = .int .i64 k ∧ incB (ans.take k) = true ∧ Below w.heap.size w wr) (fun iv _ => ans.length - (intOf iv).toNat)
                case atStart => exact ⟨0, Nat.zero_le _, rfl, by simp [incB], Below.dn (Below.refl _ _) _⟩
                case round =>
                  obtain ⟨k, hk, rfl, hinc, hbl⟩ := hrel
                  have hk0 : (0 : Int) ≤ (k : Int) := Int.natCast_nonneg _
                  have hle := RdI.le HA.out
                  have c2r := (hbl.cell (p := ⟨b, 2, none⟩) hblt).trans c2
                  have c3r := (hbl.cell (p := ⟨b, 3, none⟩) hblt).trans c3
                  have HBL := Lib.hid hbl
                  have HINC := Lib.hid hinc
                  by_cases hlt : k < ans.length
                  · have hk1 : (k : Int) < (ans.length : Int) := by omega
                    obtain ⟨y, hy⟩ := elem_at hlt
                    obtain ⟨g, og, rfl, hgl, qy⟩ := ints_at HA.out hy
                    have qy := (hbl.cell (p := ⟨g, og + k, none⟩) hgl).trans qy
                    have c2 := c2r
                    rcases Nat.eq_zero_or_pos k with h0 | h0
                    · subst h0
                      clear hbl hinc hk0
                      have hc : incB (ans.take (0 + 1)) = true := by
                        cases ans with
                        | nil => rfl
                        | cons a r => rfl
                      have HC := Lib.hid hc
                      clear hc hy
                      go_wp2_with fail
                      refine wp_region_E (fun W => W.cell? ⟨b, 2, none⟩ = some (.slice (some ⟨g, og, none⟩) ans.length ca)) (by kernel_rfl) ?_
                      have hdr : (wr).drew = { wr with drawn := (wr).drawn + 1 } := rfl
                      rw [← hdr]
                      clear hdr
                      change wpAnyE _ _ _ _ _ _ _ _ (wr.drewN 1)
                      refine tm 0 87 rfl rfl (.int .i64 (0 : Int)) c2 ?_
                      try simp only [pa, pl]
                      refine tg 1 88 rfl rfl (.bool false) c2 ?_
                      try simp only [pa, pl]
                      refine tm 2 89 rfl rfl (.bool false) c2 ?_
                      try simp only [pa, pl]
                      refine ps 3 90 rfl rfl c2 ?_
                      try simp only [pa, pl]
                      refine ps 4 91 rfl rfl c2 ?_
                      try simp only [pa, pl]
                      refine ps 5 92 rfl rfl c2 ?_
                      try simp only [pa, pl]
                      refine ps 6 93 rfl rfl c2 ?_
                      try simp only [pa, pl]
                      refine ps 7 94 rfl rfl c2 ?_
                      try simp only [pa, pl]
                      refine ps 8 95 rfl rfl c2 ?_
                      try simp only [pa, pl]
                      refine ps 9 96 rfl rfl c2 ?_
                      try simp only [pa, pl]
                      refine ps 10 97 rfl rfl c2 ?_
                      try simp only [pa, pl]
                      refine ps 11 98 rfl rfl c2 ?_
                      try simp only [pa, pl]
                      refine ps 12 99 rfl rfl c2 ?_
                      try simp only [pa, pl]
                      refine ps 13 100 rfl rfl c2 ?_
                      try simp only [pa, pl]
                      refine ps 14 101 rfl rfl c2 ?_
                      try simp only [pa, pl]
                      refine ps 15 102 rfl rfl c2 ?_
                      try simp only [pa, pl]
                      refine ps 16 103 rfl rfl c2 ?_
                      try simp only [pa, pl]
                      refine ps 17 104 rfl rfl c2 ?_
                      try simp only [pa, pl]
                      refine ps 18 105 rfl rfl c2 ?_
                      try simp only [pa, pl]
                      refine wpAnyEOne 19 (by kernel_rfl) ?_
                      refine wpOpRun' (v := .bool false) (w' := wr.drewN 1) (some 106) rfl rfl rfl (by go_simp) ?_
                      refine ⟨.inr (allUp_of (by kernel_rfl)), ?_⟩
                      try simp only [pa, pl]
                      refine wpAnyE_done (by kernel_rfl) ?_ _
                      go_wp2_with fail
                      go_roundw
                      case rel => exact ⟨0 + 1, by omega, by go_num, HC.out, Below.dn HBL.out 1⟩
                      case measure => simp [intOf]; omega
                    · obtain ⟨j, rfl⟩ : ∃ j, k = j + 1 := ⟨k - 1, by omega⟩
                      obtain ⟨x, hx⟩ := elem_at (show j < ans.length by omega)
                      obtain ⟨g', og', eg, _, qx⟩ := ints_at HA.out hx
                      cases eg
                      have qx := (hbl.cell (p := ⟨g, og + j, none⟩) hgl).trans qx
                      have hst := incB_take ans j hinc hx hy
                      have HST := Lib.hid hst
                      have hj1 : (j : Int) < (ans.length : Int) := by omega
                      have hj0 : (0 : Int) ≤ (j : Int) := Int.natCast_nonneg _
                      have hsub : ((j + 1 : Nat) : Int) - 1 = (j : Int) := by omega
                      clear hbl hinc hst hx hy
                      by_cases hxy : x < y
                      · have hyx : ¬ y ≤ x := by omega
                        go_wp2_with fail
                        refine wp_region_E (fun W => W.cell? ⟨b, 2, none⟩ = some (.slice (some ⟨g, og, none⟩) ans.length ca) ∧ W.cell? ⟨g, og + (j + 1), none⟩ = some (.int .i64 y) ∧ W.cell? ⟨g, og + j, none⟩ = some (.int .i64 x)) (by kernel_rfl) ?_
                        have hdr : (wr).drew = { wr with drawn := (wr).drawn + 1 } := rfl
                        rw [← hdr]
                        clear hdr
                        change wpAnyE _ _ _ _ _ _ _ _ (wr.drewN 1)
                        refine tm 0 87 rfl rfl (.int .i64 ((j + 1 : Nat) : Int)) ⟨c2, qy, qx⟩ ?_
                        try simp only [pa, pl]
                        refine tk 1 88 rfl rfl (.bool true) (fun _ _ => by go_simp <;> omega) ⟨c2, qy, qx⟩ ?_
                        try simp only [pa, pl]
                        refine tm 2 89 rfl rfl (.bool true) ⟨c2, qy, qx⟩ ?_
                        try simp only [pa, pl]
                        refine tm 3 90 rfl rfl (.pointer (some ⟨b, 0, none⟩)) ⟨c2, qy, qx⟩ ?_
                        try simp only [pa, pl]
                        refine tg 4 91 rfl rfl (.pointer (some ⟨b, 0, none⟩)) ⟨c2, qy, qx⟩ ?_
                        try simp only [pa, pl]
                        refine tg 5 92 rfl rfl (.pointer (some ⟨b, 2, none⟩)) ⟨c2, qy, qx⟩ ?_
                        try simp only [pa, pl]
                        refine tk 6 93 rfl rfl (.slice (some ⟨g, og, none⟩) ans.length ca) (fun W hW => by obtain ⟨c2, qy, qx⟩ := hW; go_simp) ⟨c2, qy, qx⟩ ?_
                        try simp only [pa, pl]
                        refine tm 7 94 rfl rfl (.int .i64 ((j + 1 : Nat) : Int)) ⟨c2, qy, qx⟩ ?_
                        try simp only [pa, pl]
                        refine tk 8 95 rfl rfl (.pointer (some ⟨g, og + (j + 1), none⟩)) (fun _ _ => by go_simp <;> omega) ⟨c2, qy, qx⟩ ?_
                        try simp only [pa, pl]
                        refine tk 9 96 rfl rfl (.int .i64 y) (fun W hW => by obtain ⟨c2, qy, qx⟩ := hW; go_simp) ⟨c2, qy, qx⟩ ?_
                        try simp only [pa, pl]
                        refine tm 10 97 rfl rfl (.pointer (some ⟨b, 0, none⟩)) ⟨c2, qy, qx⟩ ?_
                        try simp only [pa, pl]
                        refine tg 11 98 rfl rfl (.pointer (some ⟨b, 0, none⟩)) ⟨c2, qy, qx⟩ ?_
                        try simp only [pa, pl]
                        refine tg 12 99 rfl rfl (.pointer (some ⟨b, 2, none⟩)) ⟨c2, qy, qx⟩ ?_
                        try simp only [pa, pl]
                        refine tk 13 100 rfl rfl (.slice (some ⟨g, og, none⟩) ans.length ca) (fun W hW => by obtain ⟨c2, qy, qx⟩ := hW; go_simp) ⟨c2, qy, qx⟩ ?_
                        try simp only [pa, pl]
                        refine tm 14 101 rfl rfl (.int .i64 ((j + 1 : Nat) : Int)) ⟨c2, qy, qx⟩ ?_
                        try simp only [pa, pl]
                        refine tk 15 102 rfl rfl (.int .i64 (j : Int)) (fun _ _ => by go_simp; exact IntWalk.i64_in _ (by omega)) ⟨c2, qy, qx⟩ ?_
                        try simp only [pa, pl]
                        refine tk 16 103 rfl rfl (.pointer (some ⟨g, og + j, none⟩)) (fun _ _ => by go_simp <;> omega) ⟨c2, qy, qx⟩ ?_
                        try simp only [pa, pl]
                        refine tk 17 104 rfl rfl (.int .i64 x) (fun W hW => by obtain ⟨c2, qy, qx⟩ := hW; go_simp) ⟨c2, qy, qx⟩ ?_
                        try simp only [pa, pl]
                        refine tk 18 105 rfl rfl (.bool false) (fun _ _ => by go_simp <;> omega) ⟨c2, qy, qx⟩ ?_
                        try simp only [pa, pl]
                        refine wpAnyEOne 19 (by kernel_rfl) ?_
                        refine wpOpRun' (v := .bool false) (w' := wr.drewN 1) (some 106) rfl rfl rfl (by go_simp) ?_
                        refine ⟨.inr (allUp_of (by kernel_rfl)), ?_⟩
                        try simp only [pa, pl]
                        refine wpAnyE_done (by kernel_rfl) ?_ _
                        go_wp2_with fail
                        go_roundw
                        case rel => exact ⟨j + 1 + 1, by omega, by go_num, HST.out.trans (decide_eq_true (show x < y by omega)), Below.dn HBL.out 1⟩
                        case measure => simp [intOf]; omega
                      · have hyx : y ≤ x := by omega
                        go_wp2_with fail
                        refine wp_region_E (fun W => W.cell? ⟨b, 2, none⟩ = some (.slice (some ⟨g, og, none⟩) ans.length ca) ∧ W.cell? ⟨g, og + (j + 1), none⟩ = some (.int .i64 y) ∧ W.cell? ⟨g, og + j, none⟩ = some (.int .i64 x)) (by kernel_rfl) ?_
                        have hdr : (wr).drew = { wr with drawn := (wr).drawn + 1 } := rfl
                        rw [← hdr]
                        clear hdr
                        change wpAnyE _ _ _ _ _ _ _ _ (wr.drewN 1)
                        refine tm 0 87 rfl rfl (.int .i64 ((j + 1 : Nat) : Int)) ⟨c2, qy, qx⟩ ?_
                        try simp only [pa, pl]
                        refine tk 1 88 rfl rfl (.bool true) (fun _ _ => by go_simp <;> omega) ⟨c2, qy, qx⟩ ?_
                        try simp only [pa, pl]
                        refine tm 2 89 rfl rfl (.bool true) ⟨c2, qy, qx⟩ ?_
                        try simp only [pa, pl]
                        refine tm 3 90 rfl rfl (.pointer (some ⟨b, 0, none⟩)) ⟨c2, qy, qx⟩ ?_
                        try simp only [pa, pl]
                        refine tg 4 91 rfl rfl (.pointer (some ⟨b, 0, none⟩)) ⟨c2, qy, qx⟩ ?_
                        try simp only [pa, pl]
                        refine tg 5 92 rfl rfl (.pointer (some ⟨b, 2, none⟩)) ⟨c2, qy, qx⟩ ?_
                        try simp only [pa, pl]
                        refine tk 6 93 rfl rfl (.slice (some ⟨g, og, none⟩) ans.length ca) (fun W hW => by obtain ⟨c2, qy, qx⟩ := hW; go_simp) ⟨c2, qy, qx⟩ ?_
                        try simp only [pa, pl]
                        refine tm 7 94 rfl rfl (.int .i64 ((j + 1 : Nat) : Int)) ⟨c2, qy, qx⟩ ?_
                        try simp only [pa, pl]
                        refine tk 8 95 rfl rfl (.pointer (some ⟨g, og + (j + 1), none⟩)) (fun _ _ => by go_simp <;> omega) ⟨c2, qy, qx⟩ ?_
                        try simp only [pa, pl]
                        refine tk 9 96 rfl rfl (.int .i64 y) (fun W hW => by obtain ⟨c2, qy, qx⟩ := hW; go_simp) ⟨c2, qy, qx⟩ ?_
                        try simp only [pa, pl]
                        refine tm 10 97 rfl rfl (.pointer (some ⟨b, 0, none⟩)) ⟨c2, qy, qx⟩ ?_
                        try simp only [pa, pl]
                        refine tg 11 98 rfl rfl (.pointer (some ⟨b, 0, none⟩)) ⟨c2, qy, qx⟩ ?_
                        try simp only [pa, pl]
                        refine tg 12 99 rfl rfl (.pointer (some ⟨b, 2, none⟩)) ⟨c2, qy, qx⟩ ?_
                        try simp only [pa, pl]
                        refine tk 13 100 rfl rfl (.slice (some ⟨g, og, none⟩) ans.length ca) (fun W hW => by obtain ⟨c2, qy, qx⟩ := hW; go_simp) ⟨c2, qy, qx⟩ ?_
                        try simp only [pa, pl]
                        refine tm 14 101 rfl rfl (.int .i64 ((j + 1 : Nat) : Int)) ⟨c2, qy, qx⟩ ?_
                        try simp only [pa, pl]
                        refine tk 15 102 rfl rfl (.int .i64 (j : Int)) (fun _ _ => by go_simp; exact IntWalk.i64_in _ (by omega)) ⟨c2, qy, qx⟩ ?_
                        try simp only [pa, pl]
                        refine tk 16 103 rfl rfl (.pointer (some ⟨g, og + j, none⟩)) (fun _ _ => by go_simp <;> omega) ⟨c2, qy, qx⟩ ?_
                        try simp only [pa, pl]
                        refine tk 17 104 rfl rfl (.int .i64 x) (fun W hW => by obtain ⟨c2, qy, qx⟩ := hW; go_simp) ⟨c2, qy, qx⟩ ?_
                        try simp only [pa, pl]
                        refine tk 18 105 rfl rfl (.bool true) (fun _ _ => by go_simp <;> omega) ⟨c2, qy, qx⟩ ?_
                        try simp only [pa, pl]
                        refine wpAnyEOne 19 (by kernel_rfl) ?_
                        refine wpOpRun' (v := .bool true) (w' := wr.drewN 1) (some 106) rfl rfl rfl (by go_simp) ?_
                        refine ⟨.inr (allUp_of (by kernel_rfl)), ?_⟩
                        try simp only [pa, pl]
                        refine wpAnyE_done (by kernel_rfl) ?_ _
                        go_wp2_with fail
                        go_ret
                        exact ⟨ret_bool (by rw [HT.out, incB_pre ans (j + 1 + 1) (HST.out.trans (decide_eq_false (show ¬ x < y by omega)))]; simp), Below.dn HBL.out 1⟩
                  · obtain rfl : k = ans.length := by omega
                    have hk1 : ¬ (ans.length : Int) < (ans.length : Int) := by omega
                    have hinc2 := hinc
                    rw [List.take_length] at hinc2
                    have HIN := Lib.hid hinc2
                    have CON := con83_any (fun t => !isT t) (.slice ak us.length ck) us kids wr (HK.out.below hbl) HL.out (fun k u x W hu hx hW => g83_any u W (isT x) (IH.out k u x hu hx W (HB.out.trans ((hbl.trans (hW.mono hbl.size)).mono HB.out.size))))
                    obtain ⟨ba, hba⟩ : ∃ b, (kids.any fun t => !isT t) = b := ⟨_, rfl⟩
                    have hts := isTs_any kids
                    rw [hba] at CON hts
                    have HTS := Lib.hid hts
                    clear hba hts hbl hinc hinc2
                    go_wp2_with fail
                    refine CON.mono ?_
                    rintro e w9 ⟨rfl, hb9⟩
                    go_wp2_with fail
                    go_ret
                    exact ⟨ret_bool (by rw [HT.out, decide_eq_true n1, decide_eq_true n2, decide_eq_true n4, ← HL.out, decide_eq_true HN5.out, HIN.out, HTS.out]; simp), HBL.out.trans (hb9.mono HBL.out.size)⟩
              · have e5 : ((us.length : Int) != (ans.length : Int)) = true := by simpa using (by omega : ¬ (us.length : Int) = ans.length)
                go_enter Try.func67, Try.ntmps67
                go_wp2_with fail
                refine wp_region_E (fun W => W.cell? ⟨b, 0, none⟩ = some (.int .i64 a) ∧ W.cell? ⟨b, 1, none⟩ = some (.int .i64 0) ∧ W.cell? ⟨b, 2, none⟩ = some (.slice aa ans.length ca) ∧ W.cell? ⟨b, 3, none⟩ = some (.slice ak us.length ck)) (by kernel_rfl) ?_
                have hdr : (w).drew = { w with drawn := (w).drawn + 1 } := rfl
                rw [← hdr]
                clear hdr
                change wpAnyE _ _ _ _ _ _ _ _ (w.drewN 1)
                refine tm 0 39 rfl rfl (.pointer (some ⟨b, 0, none⟩)) ⟨c0, c1, c2, c3⟩ ?_
                try simp only [pa, pl]
                refine tg 1 40 rfl rfl (.pointer (some ⟨b, 0, none⟩)) ⟨c0, c1, c2, c3⟩ ?_
                try simp only [pa, pl]
                refine tg 2 41 rfl rfl (.pointer (some ⟨b, 0, none⟩)) ⟨c0, c1, c2, c3⟩ ?_
                try simp only [pa, pl]
                refine tk 3 42 rfl rfl (.int .i64 a) (fun W hW => by obtain ⟨c0, c1, c2, c3⟩ := hW; go_simp) ⟨c0, c1, c2, c3⟩ ?_
                try simp only [pa, pl]
                refine tg 4 43 rfl rfl (.bool false) ⟨c0, c1, c2, c3⟩ ?_
                try simp only [pa, pl]
                refine tm 5 44 rfl rfl (.bool false) ⟨c0, c1, c2, c3⟩ ?_
                try simp only [pa, pl]
                refine tm 6 45 rfl rfl (.pointer (some ⟨b, 0, none⟩)) ⟨c0, c1, c2, c3⟩ ?_
                try simp only [pa, pl]
                refine tg 7 46 rfl rfl (.pointer (some ⟨b, 0, none⟩)) ⟨c0, c1, c2, c3⟩ ?_
                try simp only [pa, pl]
                refine tg 8 47 rfl rfl (.pointer (some ⟨b, 0, none⟩)) ⟨c0, c1, c2, c3⟩ ?_
                try simp only [pa, pl]
                refine tk 9 48 rfl rfl (.int .i64 a) (fun W hW => by obtain ⟨c0, c1, c2, c3⟩ := hW; go_simp) ⟨c0, c1, c2, c3⟩ ?_
                try simp only [pa, pl]
                refine tg 10 49 rfl rfl (.bool false) ⟨c0, c1, c2, c3⟩ ?_
                try simp only [pa, pl]
                refine tg 11 50 rfl rfl (.bool false) ⟨c0, c1, c2, c3⟩ ?_
                try simp only [pa, pl]
                refine tm 12 51 rfl rfl (.bool false) ⟨c0, c1, c2, c3⟩ ?_
                try simp only [pa, pl]
                refine tm 13 52 rfl rfl (.pointer (some ⟨b, 0, none⟩)) ⟨c0, c1, c2, c3⟩ ?_
                try simp only [pa, pl]
                refine tg 14 53 rfl rfl (.pointer (some ⟨b, 0, none⟩)) ⟨c0, c1, c2, c3⟩ ?_
                try simp only [pa, pl]
                refine tg 15 54 rfl rfl (.pointer (some ⟨b, 1, none⟩)) ⟨c0, c1, c2, c3⟩ ?_
                try simp only [pa, pl]
                refine tk 16 55 rfl rfl (.int .i64 0) (fun W hW => by obtain ⟨c0, c1, c2, c3⟩ := hW; go_simp) ⟨c0, c1, c2, c3⟩ ?_
                try simp only [pa, pl]
                refine tg 17 56 rfl rfl (.bool false) ⟨c0, c1, c2, c3⟩ ?_
                try simp only [pa, pl]
                refine tg 18 57 rfl rfl (.bool false) ⟨c0, c1, c2, c3⟩ ?_
                try simp only [pa, pl]
                refine tm 19 58 rfl rfl (.bool false) ⟨c0, c1, c2, c3⟩ ?_
                try simp only [pa, pl]
                refine tm 20 59 rfl rfl (.pointer (some ⟨b, 0, none⟩)) ⟨c0, c1, c2, c3⟩ ?_
                try simp only [pa, pl]
                refine tg 21 60 rfl rfl (.pointer (some ⟨b, 0, none⟩)) ⟨c0, c1, c2, c3⟩ ?_
                try simp only [pa, pl]
                refine tg 22 61 rfl rfl (.pointer (some ⟨b, 2, none⟩)) ⟨c0, c1, c2, c3⟩ ?_
                try simp only [pa, pl]
                refine tk 23 62 rfl rfl (.slice aa ans.length ca) (fun W hW => by obtain ⟨c0, c1, c2, c3⟩ := hW; go_simp) ⟨c0, c1, c2, c3⟩ ?_
                try simp only [pa, pl]
                refine tg 24 63 rfl rfl (.int .i64 (ans.length : Int)) ⟨c0, c1, c2, c3⟩ ?_
                try simp only [pa, pl]
                refine tg 25 64 rfl rfl (.bool false) ⟨c0, c1, c2, c3⟩ ?_
                try simp only [pa, pl]
                refine tg 26 65 rfl rfl (.bool false) ⟨c0, c1, c2, c3⟩ ?_
                try simp only [pa, pl]
                refine tm 27 66 rfl rfl (.bool false) ⟨c0, c1, c2, c3⟩ ?_
                try simp only [pa, pl]
                refine tm 28 67 rfl rfl (.pointer (some ⟨b, 0, none⟩)) ⟨c0, c1, c2, c3⟩ ?_
                try simp only [pa, pl]
                refine tg 29 68 rfl rfl (.pointer (some ⟨b, 0, none⟩)) ⟨c0, c1, c2, c3⟩ ?_
                try simp only [pa, pl]
                refine tg 30 69 rfl rfl (.pointer (some ⟨b, 3, none⟩)) ⟨c0, c1, c2, c3⟩ ?_
                try simp only [pa, pl]
                refine tk 31 70 rfl rfl (.slice ak us.length ck) (fun W hW => by obtain ⟨c0, c1, c2, c3⟩ := hW; go_simp) ⟨c0, c1, c2, c3⟩ ?_
                try simp only [pa, pl]
                refine tg 32 71 rfl rfl (.int .i64 (us.length : Int)) ⟨c0, c1, c2, c3⟩ ?_
                try simp only [pa, pl]
                refine tm 33 72 rfl rfl (.pointer (some ⟨b, 0, none⟩)) ⟨c0, c1, c2, c3⟩ ?_
                try simp only [pa, pl]
                refine tg 34 73 rfl rfl (.pointer (some ⟨b, 0, none⟩)) ⟨c0, c1, c2, c3⟩ ?_
                try simp only [pa, pl]
                refine tg 35 74 rfl rfl (.pointer (some ⟨b, 2, none⟩)) ⟨c0, c1, c2, c3⟩ ?_
                try simp only [pa, pl]
                refine tk 36 75 rfl rfl (.slice aa ans.length ca) (fun W hW => by obtain ⟨c0, c1, c2, c3⟩ := hW; go_simp) ⟨c0, c1, c2, c3⟩ ?_
                try simp only [pa, pl]
                refine tg 37 76 rfl rfl (.int .i64 (ans.length : Int)) ⟨c0, c1, c2, c3⟩ ?_
                try simp only [pa, pl]
                refine tg 38 77 rfl rfl (.bool true) ⟨c0, c1, c2, c3⟩ ?_
                try simp only [pa, pl]
                refine wpAnyEOne 39 (by kernel_rfl) ?_
                refine wpOpRun' (v := .bool true) (w' := w.drewN 1) (some 78) rfl rfl rfl (by go_simp) ?_
                refine ⟨.inr (allUp_of (by kernel_rfl)), ?_⟩
                try simp only [pa, pl]
                refine wpAnyE_done (by kernel_rfl) ?_ _
                go_wp2_with fail
                go_ret
                exact ⟨ret_bool (by rw [HT.out, decide_eq_true n1, decide_eq_true n2, decide_eq_true n4, ← HL.out, decide_eq_false n5]; rfl), Below.dn (Below.refl _ _) _⟩
          · have e3 : (c != 0) = true := by simpa using n3
            go_enter Try.func67, Try.ntmps67
            go_wp2_with fail
            refine wp_region_E (fun W => W.cell? ⟨b, 0, none⟩ = some (.int .i64 a) ∧ W.cell? ⟨b, 1, none⟩ = some (.int .i64 c) ∧ W.cell? ⟨b, 2, none⟩ = some (.slice aa ans.length ca) ∧ W.cell? ⟨b, 3, none⟩ = some (.slice ak us.length ck)) (by kernel_rfl) ?_
            have hdr : (w).drew = { w with drawn := (w).drawn + 1 } := rfl
            rw [← hdr]
            clear hdr
            change wpAnyE _ _ _ _ _ _ _ _ (w.drewN 1)
            refine tm 0 39 rfl rfl (.pointer (some ⟨b, 0, none⟩)) ⟨c0, c1, c2, c3⟩ ?_
            try simp only [pa, pl]
            refine tg 1 40 rfl rfl (.pointer (some ⟨b, 0, none⟩)) ⟨c0, c1, c2, c3⟩ ?_
            try simp only [pa, pl]
            refine tg 2 41 rfl rfl (.pointer (some ⟨b, 0, none⟩)) ⟨c0, c1, c2, c3⟩ ?_
            try simp only [pa, pl]
            refine tk 3 42 rfl rfl (.int .i64 a) (fun W hW => by obtain ⟨c0, c1, c2, c3⟩ := hW; go_simp) ⟨c0, c1, c2, c3⟩ ?_
            try simp only [pa, pl]
            refine tg 4 43 rfl rfl (.bool false) ⟨c0, c1, c2, c3⟩ ?_
            try simp only [pa, pl]
            refine tm 5 44 rfl rfl (.bool false) ⟨c0, c1, c2, c3⟩ ?_
            try simp only [pa, pl]
            refine tm 6 45 rfl rfl (.pointer (some ⟨b, 0, none⟩)) ⟨c0, c1, c2, c3⟩ ?_
            try simp only [pa, pl]
            refine tg 7 46 rfl rfl (.pointer (some ⟨b, 0, none⟩)) ⟨c0, c1, c2, c3⟩ ?_
            try simp only [pa, pl]
            refine tg 8 47 rfl rfl (.pointer (some ⟨b, 0, none⟩)) ⟨c0, c1, c2, c3⟩ ?_
            try simp only [pa, pl]
            refine tk 9 48 rfl rfl (.int .i64 a) (fun W hW => by obtain ⟨c0, c1, c2, c3⟩ := hW; go_simp) ⟨c0, c1, c2, c3⟩ ?_
            try simp only [pa, pl]
            refine tg 10 49 rfl rfl (.bool false) ⟨c0, c1, c2, c3⟩ ?_
            try simp only [pa, pl]
            refine tg 11 50 rfl rfl (.bool false) ⟨c0, c1, c2, c3⟩ ?_
            try simp only [pa, pl]
            refine tm 12 51 rfl rfl (.bool false) ⟨c0, c1, c2, c3⟩ ?_
            try simp only [pa, pl]
            refine tm 13 52 rfl rfl (.pointer (some ⟨b, 0, none⟩)) ⟨c0, c1, c2, c3⟩ ?_
            try simp only [pa, pl]
            refine tg 14 53 rfl rfl (.pointer (some ⟨b, 0, none⟩)) ⟨c0, c1, c2, c3⟩ ?_
            try simp only [pa, pl]
            refine tg 15 54 rfl rfl (.pointer (some ⟨b, 1, none⟩)) ⟨c0, c1, c2, c3⟩ ?_
            try simp only [pa, pl]
            refine tk 16 55 rfl rfl (.int .i64 c) (fun W hW => by obtain ⟨c0, c1, c2, c3⟩ := hW; go_simp) ⟨c0, c1, c2, c3⟩ ?_
            try simp only [pa, pl]
            refine tg 17 56 rfl rfl (.bool true) ⟨c0, c1, c2, c3⟩ ?_
            try simp only [pa, pl]
            refine tg 18 57 rfl rfl (.bool true) ⟨c0, c1, c2, c3⟩ ?_
            try simp only [pa, pl]
            refine tm 19 58 rfl rfl (.bool true) ⟨c0, c1, c2, c3⟩ ?_
            try simp only [pa, pl]
            refine ps 20 59 rfl rfl ⟨c0, c1, c2, c3⟩ ?_
            try simp only [pa, pl]
            refine ps 21 60 rfl rfl ⟨c0, c1, c2, c3⟩ ?_
            try simp only [pa, pl]
            refine ps 22 61 rfl rfl ⟨c0, c1, c2, c3⟩ ?_
            try simp only [pa, pl]
            refine ps 23 62 rfl rfl ⟨c0, c1, c2, c3⟩ ?_
            try simp only [pa, pl]
            refine ps 24 63 rfl rfl ⟨c0, c1, c2, c3⟩ ?_
            try simp only [pa, pl]
            refine ps 25 64 rfl rfl ⟨c0, c1, c2, c3⟩ ?_
            try simp only [pa, pl]
            refine tg 26 65 rfl rfl (.bool true) ⟨c0, c1, c2, c3⟩ ?_
            try simp only [pa, pl]
            refine tm 27 66 rfl rfl (.bool true) ⟨c0, c1, c2, c3⟩ ?_
            try simp only [pa, pl]
            refine ps 28 67 rfl rfl ⟨c0, c1, c2, c3⟩ ?_
            try simp only [pa, pl]
            refine ps 29 68 rfl rfl ⟨c0, c1, c2, c3⟩ ?_
            try simp only [pa, pl]
            refine ps 30 69 rfl rfl ⟨c0, c1, c2, c3⟩ ?_
            try simp only [pa, pl]
            refine ps 31 70 rfl rfl ⟨c0, c1, c2, c3⟩ ?_
            try simp only [pa, pl]
            refine ps 32 71 rfl rfl ⟨c0, c1, c2, c3⟩ ?_
            try simp only [pa, pl]
            refine ps 33 72 rfl rfl ⟨c0, c1, c2, c3⟩ ?_
            try simp only [pa, pl]
            refine ps 34 73 rfl rfl ⟨c0, c1, c2, c3⟩ ?_
            try simp only [pa, pl]
            refine ps 35 74 rfl rfl ⟨c0, c1, c2, c3⟩ ?_
            try simp only [pa, pl]
            refine ps 36 75 rfl rfl ⟨c0, c1, c2, c3⟩ ?_
            try simp only [pa, pl]
            refine ps 37 76 rfl rfl ⟨c0, c1, c2, c3⟩ ?_
            try simp only [pa, pl]
            refine ps 38 77 rfl rfl ⟨c0, c1, c2, c3⟩ ?_
            try simp only [pa, pl]
            refine wpAnyEOne 39 (by kernel_rfl) ?_
            refine wpOpRun' (v := .bool true) (w' := w.drewN 1) (some 78) rfl rfl rfl (by go_simp) ?_
            refine ⟨.inr (allUp_of (by kernel_rfl)), ?_⟩
            try simp only [pa, pl]
            refine wpAnyE_done (by kernel_rfl) ?_ _
            go_wp2_with fail
            go_ret
            exact ⟨ret_bool (by rw [HT.out, decide_eq_true n1, decide_eq_true n2, decide_eq_false n3]; rfl), Below.dn (Below.refl _ _) _⟩
        · have n2' : (64 : Int) ≤ a := by omega
          go_enter Try.func67, Try.ntmps67
          go_wp2_with fail
          refine wp_region_E (fun W => W.cell? ⟨b, 0, none⟩ = some (.int .i64 a) ∧ W.cell? ⟨b, 1, none⟩ = some (.int .i64 c) ∧ W.cell? ⟨b, 2, none⟩ = some (.slice aa ans.length ca) ∧ W.cell? ⟨b, 3, none⟩ = some (.slice ak us.length ck)) (by kernel_rfl) ?_
          have hdr : (w).drew = { w with drawn := (w).drawn + 1 } := rfl
          rw [← hdr]
          clear hdr
          change wpAnyE _ _ _ _ _ _ _ _ (w.drewN 1)
          refine tm 0 39 rfl rfl (.pointer (some ⟨b, 0, none⟩)) ⟨c0, c1, c2, c3⟩ ?_
          try simp only [pa, pl]
          refine tg 1 40 rfl rfl (.pointer (some ⟨b, 0, none⟩)) ⟨c0, c1, c2, c3⟩ ?_
          try simp only [pa, pl]
          refine tg 2 41 rfl rfl (.pointer (some ⟨b, 0, none⟩)) ⟨c0, c1, c2, c3⟩ ?_
          try simp only [pa, pl]
          refine tk 3 42 rfl rfl (.int .i64 a) (fun W hW => by obtain ⟨c0, c1, c2, c3⟩ := hW; go_simp) ⟨c0, c1, c2, c3⟩ ?_
          try simp only [pa, pl]
          refine tg 4 43 rfl rfl (.bool false) ⟨c0, c1, c2, c3⟩ ?_
          try simp only [pa, pl]
          refine tm 5 44 rfl rfl (.bool false) ⟨c0, c1, c2, c3⟩ ?_
          try simp only [pa, pl]
          refine tm 6 45 rfl rfl (.pointer (some ⟨b, 0, none⟩)) ⟨c0, c1, c2, c3⟩ ?_
          try simp only [pa, pl]
          refine tg 7 46 rfl rfl (.pointer (some ⟨b, 0, none⟩)) ⟨c0, c1, c2, c3⟩ ?_
          try simp only [pa, pl]
          refine tg 8 47 rfl rfl (.pointer (some ⟨b, 0, none⟩)) ⟨c0, c1, c2, c3⟩ ?_
          try simp only [pa, pl]
          refine tk 9 48 rfl rfl (.int .i64 a) (fun W hW => by obtain ⟨c0, c1, c2, c3⟩ := hW; go_simp) ⟨c0, c1, c2, c3⟩ ?_
          try simp only [pa, pl]
          refine tg 10 49 rfl rfl (.bool true) ⟨c0, c1, c2, c3⟩ ?_
          try simp only [pa, pl]
          refine tg 11 50 rfl rfl (.bool true) ⟨c0, c1, c2, c3⟩ ?_
          try simp only [pa, pl]
          refine tm 12 51 rfl rfl (.bool true) ⟨c0, c1, c2, c3⟩ ?_
          try simp only [pa, pl]
          refine ps 13 52 rfl rfl ⟨c0, c1, c2, c3⟩ ?_
          try simp only [pa, pl]
          refine ps 14 53 rfl rfl ⟨c0, c1, c2, c3⟩ ?_
          try simp only [pa, pl]
          refine ps 15 54 rfl rfl ⟨c0, c1, c2, c3⟩ ?_
          try simp only [pa, pl]
          refine ps 16 55 rfl rfl ⟨c0, c1, c2, c3⟩ ?_
          try simp only [pa, pl]
          refine ps 17 56 rfl rfl ⟨c0, c1, c2, c3⟩ ?_
          try simp only [pa, pl]
          refine tg 18 57 rfl rfl (.bool true) ⟨c0, c1, c2, c3⟩ ?_
          try simp only [pa, pl]
          refine tm 19 58 rfl rfl (.bool true) ⟨c0, c1, c2, c3⟩ ?_
          try simp only [pa, pl]
          refine ps 20 59 rfl rfl ⟨c0, c1, c2, c3⟩ ?_
          try simp only [pa, pl]
          refine ps 21 60 rfl rfl ⟨c0, c1, c2, c3⟩ ?_
          try simp only [pa, pl]
          refine ps 22 61 rfl rfl ⟨c0, c1, c2, c3⟩ ?_
          try simp only [pa, pl]
          refine ps 23 62 rfl rfl ⟨c0, c1, c2, c3⟩ ?_
          try simp only [pa, pl]
          refine ps 24 63 rfl rfl ⟨c0, c1, c2, c3⟩ ?_
          try simp only [pa, pl]
          refine ps 25 64 rfl rfl ⟨c0, c1, c2, c3⟩ ?_
          try simp only [pa, pl]
          refine tg 26 65 rfl rfl (.bool true) ⟨c0, c1, c2, c3⟩ ?_
          try simp only [pa, pl]
          refine tm 27 66 rfl rfl (.bool true) ⟨c0, c1, c2, c3⟩ ?_
          try simp only [pa, pl]
          refine ps 28 67 rfl rfl ⟨c0, c1, c2, c3⟩ ?_
          try simp only [pa, pl]
          refine ps 29 68 rfl rfl ⟨c0, c1, c2, c3⟩ ?_
          try simp only [pa, pl]
          refine ps 30 69 rfl rfl ⟨c0, c1, c2, c3⟩ ?_
          try simp only [pa, pl]
          refine ps 31 70 rfl rfl ⟨c0, c1, c2, c3⟩ ?_
          try simp only [pa, pl]
          refine ps 32 71 rfl rfl ⟨c0, c1, c2, c3⟩ ?_
          try simp only [pa, pl]
          refine ps 33 72 rfl rfl ⟨c0, c1, c2, c3⟩ ?_
          try simp only [pa, pl]
          refine ps 34 73 rfl rfl ⟨c0, c1, c2, c3⟩ ?_
          try simp only [pa, pl]
          refine ps 35 74 rfl rfl ⟨c0, c1, c2, c3⟩ ?_
          try simp only [pa, pl]
          refine ps 36 75 rfl rfl ⟨c0, c1, c2, c3⟩ ?_
          try simp only [pa, pl]
          refine ps 37 76 rfl rfl ⟨c0, c1, c2, c3⟩ ?_
          try simp only [pa, pl]
          refine ps 38 77 rfl rfl ⟨c0, c1, c2, c3⟩ ?_
          try simp only [pa, pl]
          refine wpAnyEOne 39 (by kernel_rfl) ?_
          refine wpOpRun' (v := .bool true) (w' := w.drewN 1) (some 78) rfl rfl rfl (by go_simp) ?_
          refine ⟨.inr (allUp_of (by kernel_rfl)), ?_⟩
          try simp only [pa, pl]
          refine wpAnyE_done (by kernel_rfl) ?_ _
          go_wp2_with fail
          go_ret
          exact ⟨ret_bool (by rw [HT.out, decide_eq_true n1, decide_eq_false (show ¬ a < 64 by omega)]; rfl), Below.dn (Below.refl _ _) _⟩
      · have n1' : a < 0 := by omega
        go_enter Try.func67, Try.ntmps67
        go_wp2_with fail
        refine wp_region_E (fun W => W.cell? ⟨b, 0, none⟩ = some (.int .i64 a) ∧ W.cell? ⟨b, 1, none⟩ = some (.int .i64 c) ∧ W.cell? ⟨b, 2, none⟩ = some (.slice aa ans.length ca) ∧ W.cell? ⟨b, 3, none⟩ = some (.slice ak us.length ck)) (by kernel_rfl) ?_
        have hdr : (w).drew = { w with drawn := (w).drawn + 1 } := rfl
        rw [← hdr]
        clear hdr
        change wpAnyE _ _ _ _ _ _ _ _ (w.drewN 1)
        refine tm 0 39 rfl rfl (.pointer (some ⟨b, 0, none⟩)) ⟨c0, c1, c2, c3⟩ ?_
        try simp only [pa, pl]
        refine tg 1 40 rfl rfl (.pointer (some ⟨b, 0, none⟩)) ⟨c0, c1, c2, c3⟩ ?_
        try simp only [pa, pl]
        refine tg 2 41 rfl rfl (.pointer (some ⟨b, 0, none⟩)) ⟨c0, c1, c2, c3⟩ ?_
        try simp only [pa, pl]
        refine tk 3 42 rfl rfl (.int .i64 a) (fun W hW => by obtain ⟨c0, c1, c2, c3⟩ := hW; go_simp) ⟨c0, c1, c2, c3⟩ ?_
        try simp only [pa, pl]
        refine tg 4 43 rfl rfl (.bool true) ⟨c0, c1, c2, c3⟩ ?_
        try simp only [pa, pl]
        refine tm 5 44 rfl rfl (.bool true) ⟨c0, c1, c2, c3⟩ ?_
        try simp only [pa, pl]
        refine ps 6 45 rfl rfl ⟨c0, c1, c2, c3⟩ ?_
        try simp only [pa, pl]
        refine ps 7 46 rfl rfl ⟨c0, c1, c2, c3⟩ ?_
        try simp only [pa, pl]
        refine ps 8 47 rfl rfl ⟨c0, c1, c2, c3⟩ ?_
        try simp only [pa, pl]
        refine ps 9 48 rfl rfl ⟨c0, c1, c2, c3⟩ ?_
        try simp only [pa, pl]
        refine ps 10 49 rfl rfl ⟨c0, c1, c2, c3⟩ ?_
        try simp only [pa, pl]
        refine tg 11 50 rfl rfl (.bool true) ⟨c0, c1, c2, c3⟩ ?_
        try simp only [pa, pl]
        refine tm 12 51 rfl rfl (.bool true) ⟨c0, c1, c2, c3⟩ ?_
        try simp only [pa, pl]
        refine ps 13 52 rfl rfl ⟨c0, c1, c2, c3⟩ ?_
        try simp only [pa, pl]
        refine ps 14 53 rfl rfl ⟨c0, c1, c2, c3⟩ ?_
        try simp only [pa, pl]
        refine ps 15 54 rfl rfl ⟨c0, c1, c2, c3⟩ ?_
        try simp only [pa, pl]
        refine ps 16 55 rfl rfl ⟨c0, c1, c2, c3⟩ ?_
        try simp only [pa, pl]
        refine ps 17 56 rfl rfl ⟨c0, c1, c2, c3⟩ ?_
        try simp only [pa, pl]
        refine tg 18 57 rfl rfl (.bool true) ⟨c0, c1, c2, c3⟩ ?_
        try simp only [pa, pl]
        refine tm 19 58 rfl rfl (.bool true) ⟨c0, c1, c2, c3⟩ ?_
        try simp only [pa, pl]
        refine ps 20 59 rfl rfl ⟨c0, c1, c2, c3⟩ ?_
        try simp only [pa, pl]
        refine ps 21 60 rfl rfl ⟨c0, c1, c2, c3⟩ ?_
        try simp only [pa, pl]
        refine ps 22 61 rfl rfl ⟨c0, c1, c2, c3⟩ ?_
        try simp only [pa, pl]
        refine ps 23 62 rfl rfl ⟨c0, c1, c2, c3⟩ ?_
        try simp only [pa, pl]
        refine ps 24 63 rfl rfl ⟨c0, c1, c2, c3⟩ ?_
        try simp only [pa, pl]
        refine ps 25 64 rfl rfl ⟨c0, c1, c2, c3⟩ ?_
        try simp only [pa, pl]
        refine tg 26 65 rfl rfl (.bool true) ⟨c0, c1, c2, c3⟩ ?_
        try simp only [pa, pl]
        refine tm 27 66 rfl rfl (.bool true) ⟨c0, c1, c2, c3⟩ ?_
        try simp only [pa, pl]
        refine ps 28 67 rfl rfl ⟨c0, c1, c2, c3⟩ ?_
        try simp only [pa, pl]
        refine ps 29 68 rfl rfl ⟨c0, c1, c2, c3⟩ ?_
        try simp only [pa, pl]
        refine ps 30 69 rfl rfl ⟨c0, c1, c2, c3⟩ ?_
        try simp only [pa, pl]
        refine ps 31 70 rfl rfl ⟨c0, c1, c2, c3⟩ ?_
        try simp only [pa, pl]
        refine ps 32 71 rfl rfl ⟨c0, c1, c2, c3⟩ ?_
        try simp only [pa, pl]
        refine ps 33 72 rfl rfl ⟨c0, c1, c2, c3⟩ ?_
        try simp only [pa, pl]
        refine ps 34 73 rfl rfl ⟨c0, c1, c2, c3⟩ ?_
        try simp only [pa, pl]
        refine ps 35 74 rfl rfl ⟨c0, c1, c2, c3⟩ ?_
        try simp only [pa, pl]
        refine ps 36 75 rfl rfl ⟨c0, c1, c2, c3⟩ ?_
        try simp only [pa, pl]
        refine ps 37 76 rfl rfl ⟨c0, c1, c2, c3⟩ ?_
        try simp only [pa, pl]
        refine ps 38 77 rfl rfl ⟨c0, c1, c2, c3⟩ ?_
        try simp only [pa, pl]
        refine wpAnyEOne 39 (by kernel_rfl) ?_
        refine wpOpRun' (v := .bool true) (w' := w.drewN 1) (some 78) rfl rfl rfl (by go_simp) ?_
        refine ⟨.inr (allUp_of (by kernel_rfl)), ?_⟩
        try simp only [pa, pl]
        refine wpAnyE_done (by kernel_rfl) ?_ _
        go_wp2_with fail
        go_ret
        exact ⟨ret_bool (by rw [HT.out, decide_eq_false (show ¬ 0 ≤ a by omega)]; rfl), Below.dn (Below.refl _ _) _⟩
end Go.Proofs.Ytmkkegigajmhkaa

