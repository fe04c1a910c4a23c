/- The greedy question (reference). -/
import Derived.Test.YtmkkegigajmhkaaN10
set_option linter.unusedVariables false
namespace Go.Proofs.Ytmkkegigajmhkaa
open Go.RowKit Go.Maps

set_option maxRecDepth 100000 in
set_option maxHeartbeats 8000000 in
theorem greedy_any (va vc vk v : Value) (T : Tb) (ws : List Nat) (w : World) (h : TbR w va vc vk T) (ho : OkT T) (hr : RdI w v (nI ws)) (hok : WsOk T ws) (hlen : ws.length ≤ 1000) :
    Calls Try.prog 81 #[.agg #[va, vc, vk], v] w fun e w' => e = .returned (.int .i64 (greedyA T ws)) ∧ Below w.heap.size w w' := by
  obtain ⟨aa, ca, rfl⟩ := h.rows.form
  obtain ⟨ac, cc, rfl⟩ := h.costs.form
  obtain ⟨ak, ck, rfl⟩ := h.cls.form
  obtain ⟨aw, cw, rfl⟩ := hr.form
  have HB := Lib.hid (alloc_below w (.cells #[.slice aa T.rows.length ca, .slice ac T.costs.length cc, .slice ak T.cls.length ck] 25))
  have HT := Lib.hid (BoxT.new h 25)
  have HR := Lib.hid (hr.below HB.out)
  have HO := Lib.hid ho
  have hk64 := ho.c64
  clear h hr ho
  go_enter Try.func81, Try.ntmps81
  go_wp2_with fail
  obtain ⟨B, hB⟩ : ∃ B, w.heap.size = B := ⟨_, rfl⟩
  rw [hB] at HT ⊢
  generalize w.alloc (.cells #[.slice aa T.rows.length ca, .slice ac T.costs.length cc, .slice ak T.cls.length ck] 25) = w1 at *
  go_loopw [5, 6, 7] (fun av lv kv wr => ∃ k : Nat, k ≤ T.costs.length ∧ kv = .int .i64 k ∧ av = .int .i64 (gState T ws k).1 ∧ lv = .int .i64 (gState T ws k).2 ∧ Below w1.heap.size w1 wr) (fun _ _ kv _ => T.costs.length - (intOf kv).toNat)
  case atStart => exact ⟨0, Nat.zero_le _, rfl, rfl, rfl, Below.refl _ _⟩
  case round =>
    obtain ⟨k, hk, rfl, rfl, rfl, hbl⟩ := hrel
    have hk0 : (0 : Int) ≤ (k : Int) := Int.natCast_nonneg _
    have hgb := gState_bd T ws k
    have hst : gState T ws (k + 1) = gStep T ws (gState T ws k) k := rfl
    obtain ⟨⟨ask, least⟩, hgs⟩ : ∃ s, gState T ws k = s := ⟨_, rfl⟩
    rw [hgs] at hst hgb ⊢
    unfold gStep at hst
    simp only at hst hgb
    have HST := Lib.hid hst
    have HGS := Lib.hid hgs
    have HBL := Lib.hid hbl
    have hbt := HT.out.below hbl
    clear hst hgs
    by_cases hlt : k < T.costs.length
    · have hk1 : (k : Int) < (T.costs.length : Int) := by omega
      have c0 := hbt.c0; have c1 := hbt.c1; have c2 := hbt.c2
      have GA := given_any _ _ _ _ T ws k wr hbt.tb HO.out (HR.out.below hbl) hok hlen hlt
      clear hbl hbt
      go_wp2_with fail
      refine GA.mono ?_
      rintro e w2 ⟨⟨v1, rfl, hown⟩, hb9⟩
      have hg1 := owns_ints hown
      obtain ⟨al, cl, rfl⟩ := hg1.form
      have HBL := Lib.hid (HBL.out.trans (hb9.mono HBL.out.size))
      have HG := Lib.hid hg1
      have hgl := given_len T ws k
      clear GA hg1 hb9 c0 c1 c2 hown
      obtain ⟨G, hG⟩ : ∃ G, given T ws k = G := ⟨_, rfl⟩
      rw [hG] at HST HG hgl ⊢
      clear hG
      go_wp2_with fail
      obtain ⟨wo, hwo⟩ : ∃ wo, wo = w2 := ⟨_, rfl⟩
      go_loopw [9, 10] (fun nv qv wr => ∃ q : Nat, q ≤ G.length ∧ qv = .int .i64 q ∧ nv = .int .i64 (mostN T ws k (G.take q)) ∧ Below w1.heap.size w1 wr ∧ RdI wr (.slice al G.length cl) G) (fun _ qv _ => G.length - (intOf qv).toNat)
      case atStart => exact ⟨0, Nat.zero_le _, rfl, rfl, HBL.out, HG.out⟩
      case round =>
        clear HBL HG
        obtain ⟨q, hq, rfl, rfl, hbl, hg⟩ := hrel
        have hq0 : (0 : Int) ≤ (q : Int) := Int.natCast_nonneg _
        have HBL := Lib.hid hbl; have HG := Lib.hid hg
        have hbt := HT.out.below hbl
        by_cases hqg : q < G.length
        · have hq1 : (q : Int) < (G.length : Int) := by omega
          obtain ⟨y, hy⟩ := elem_at hqg
          obtain ⟨bl, ol, rfl, hltl, cl0⟩ := ints_at hg hy
          have c0 := hbt.c0; have c1 := hbt.c1; have c2 := hbt.c2
          have hbd := Below.dn (Below.refl wr.heap.size wr) 1
          have WT := with_any _ _ _ _ T ws k y (wr.drewN 1) (hbt.below hbd).tb HO.out ((HR.out.below hbl).below hbd) hok hlen hlt
          have hms := mostN_succ (T := T) (ws := ws) (k := k) hy
          have hul := nI_len (withW T ws k y)
          have hmb := mostN_bd T ws k (G.take q)
          obtain ⟨mn, hmn⟩ : ∃ n, mostN T ws k (G.take q) = n := ⟨_, rfl⟩
          rw [hmn] at hms hmb ⊢
          have HMS := Lib.hid hms; have HUL := Lib.hid hul
          clear hms hul hmn hg hy hbl hbt hbd
          go_wp2_with fail
          refine wp_region_E (fun W => W.cell? ⟨B, 0, none⟩ = some (.slice aa T.rows.length ca) ∧ W.cell? ⟨B, 1, none⟩ = some (.slice ac T.costs.length cc) ∧ W.cell? ⟨B, 2, none⟩ = some (.slice ak T.cls.length ck) ∧ W.cell? ⟨bl, ol + q, none⟩ = some (.int .i64 y)) (by kernel_rfl) ?_
          have hdr : (wr).drew = { wr with drawn := (wr).drawn + 1 } := rfl
          rw [← hdr]
          clear hdr
          change wpAnyE _ _ _ _ _ _ _ _ (wr.drewN 1)
          refine tm 0 28 rfl rfl (.int .i64 mn) ⟨c0, c1, c2, cl0⟩ ?_
          try simp only [pa, pl]
          refine tk 1 29 rfl rfl (.agg #[.slice aa T.rows.length ca, .slice ac T.costs.length cc, .slice ak T.cls.length ck]) (fun W hW => by obtain ⟨c0, c1, c2, cl0⟩ := hW; go_simp) ⟨c0, c1, c2, cl0⟩ ?_
          try simp only [pa, pl]
          refine tm 2 30 rfl rfl (.slice aw (nI ws).length cw) ⟨c0, c1, c2, cl0⟩ ?_
          try simp only [pa, pl]
          refine tm 3 31 rfl rfl (.int .i64 (k : Int)) ⟨c0, c1, c2, cl0⟩ ?_
          try simp only [pa, pl]
          refine tm 4 32 rfl rfl (.slice (some ⟨bl, ol, none⟩) G.length cl) ⟨c0, c1, c2, cl0⟩ ?_
          try simp only [pa, pl]
          refine tm 5 33 rfl rfl (.int .i64 (q : Int)) ⟨c0, c1, c2, cl0⟩ ?_
          try simp only [pa, pl]
          refine tg 6 34 rfl rfl (.pointer (some ⟨bl, ol + q, none⟩)) ⟨c0, c1, c2, cl0⟩ ?_
          try simp only [pa, pl]
          refine tk 7 35 rfl rfl (.int .i64 y) (fun W hW => by obtain ⟨c0, c1, c2, cl0⟩ := hW; go_simp) ⟨c0, c1, c2, cl0⟩ ?_
          try simp only [pa, pl]
          refine wpAnyEOne 8 (by kernel_rfl) ?_
          refine wpOpCall (some 36) 80 #[.agg #[.slice aa T.rows.length ca, .slice ac T.costs.length cc, .slice ak T.cls.length ck], .slice aw (nI ws).length cw, .int .i64 (k : Int), .int .i64 y] rfl rfl rfl (by go_simp) (WT) ?_
          rintro e w3 ⟨⟨vw, rfl, hown⟩, hb9⟩
          have hbl3 := (Below.dn HBL.out 1).trans (hb9.mono HBL.out.size)
          have hg3 := (HG.out.below (Below.dn (Below.refl _ _) 1)).below hb9
          obtain ⟨aw3, cw3, rfl⟩ := owns_form hown
          have hbt3 := HT.out.below hbl3
          have cl3 := (hb9.cell (p := ⟨bl, ol + q, none⟩) hltl).trans cl0
          clear hb9 hown
          refine ⟨_, rfl, ?_⟩
          refine ⟨.inl (⟨hbt3.c0, hbt3.c1, hbt3.c2, cl3⟩), ?_⟩
          try simp only [pa, pl]
          refine tg 9 37 rfl rfl (.int .i64 ((nI (withW T ws k y)).length : Int)) ⟨hbt3.c0, hbt3.c1, hbt3.c2, cl3⟩ ?_
          try simp only [pa, pl]
          refine tg 10 38 rfl rfl (.int .i64 (max mn ((nI (withW T ws k y)).length : Int))) ⟨hbt3.c0, hbt3.c1, hbt3.c2, cl3⟩ ?_
          try simp only [pa, pl]
          refine wpAnyEOne 11 (by kernel_rfl) ?_
          refine wpOpRun' (v := .int .i64 (max mn ((nI (withW T ws k y)).length : Int))) (w' := w3) (some 9) rfl rfl rfl (by rfl) ?_
          refine ⟨.inr (allUp_of (by kernel_rfl)), ?_⟩
          try simp only [pa, pl]
          refine wpAnyE_done (by kernel_rfl) ?_ _
          have HBL3 := Lib.hid hbl3; have HG3 := Lib.hid hg3
          clear hbl3 hg3 hbt3 cl3 c0 c1 c2 cl0
          go_wp2_with fail
          go_roundw
          case rel => exact ⟨q + 1, by omega, by go_num, by rw [HMS.out, ← HUL.out], HBL3.out, HG3.out⟩
          case measure => simp [intOf]; omega
        · obtain rfl : q = G.length := by omega
          have hq1 : ¬ (G.length : Int) < (G.length : Int) := by omega
          rw [List.take_length]
          have hmb := mostN_bd T ws k G
          obtain ⟨mn, hmn⟩ : ∃ n, mostN T ws k G = n := ⟨_, rfl⟩
          rw [hmn] at HST hmb ⊢
          clear hmn hg hbl hbt
          rename World => W9
          obtain ⟨x, hx⟩ := elem_at hlt
          have hxx := costAt_of hx
          have hbt := HT.out.below HBL.out
          obtain ⟨bc, oc, ecc, _, qk⟩ := ints_at hbt.tb.costs hx
          cases ecc
          have c1 := hbt.c1
          have hst := HST.out
          rw [hxx] at hst
          have HST := Lib.hid hst
          clear hxx hx hbt hst
          by_cases hG2 : G.length < 2
          · have hs2 := HST.out
            rw [if_pos hG2] at hs2
            have HS2 := Lib.hid hs2
            have hG3 : ¬ (1 : Int) < (G.length : Int) := by omega
            clear hs2 hG2 qk c1
            go_wp2_with fail
            refine wp_region_E (fun W => True) (by kernel_rfl) ?_
            have hdr : (W9).drew = { W9 with drawn := (W9).drawn + 1 } := rfl
            rw [← hdr]
            clear hdr
            change wpAnyE _ _ _ _ _ _ _ _ (W9.drewN 1)
            refine tm 0 39 rfl rfl (.slice al G.length cl) trivial ?_
            try simp only [pa, pl]
            refine tg 1 40 rfl rfl (.int .i64 (G.length : Int)) trivial ?_
            try simp only [pa, pl]
            refine tg 2 41 rfl rfl (.bool false) trivial ?_
            try simp only [pa, pl]
            refine tm 3 42 rfl rfl (.bool false) trivial ?_
            try simp only [pa, pl]
            refine ps 4 43 rfl rfl trivial ?_
            try simp only [pa, pl]
            refine ps 5 44 rfl rfl trivial ?_
            try simp only [pa, pl]
            refine ps 6 45 rfl rfl trivial ?_
            try simp only [pa, pl]
            refine ps 7 46 rfl rfl trivial ?_
            try simp only [pa, pl]
            refine ps 8 47 rfl rfl trivial ?_
            try simp only [pa, pl]
            refine ps 9 48 rfl rfl trivial ?_
            try simp only [pa, pl]
            refine ps 10 49 rfl rfl trivial ?_
            try simp only [pa, pl]
            refine ps 11 50 rfl rfl trivial ?_
            try simp only [pa, pl]
            refine ps 12 51 rfl rfl trivial ?_
            try simp only [pa, pl]
            refine ps 13 52 rfl rfl trivial ?_
            try simp only [pa, pl]
            refine ps 14 53 rfl rfl trivial ?_
            try simp only [pa, pl]
            refine ps 15 54 rfl rfl trivial ?_
            try simp only [pa, pl]
            refine ps 16 55 rfl rfl trivial ?_
            try simp only [pa, pl]
            refine ps 17 56 rfl rfl trivial ?_
            try simp only [pa, pl]
            refine ps 18 57 rfl rfl trivial ?_
            try simp only [pa, pl]
            refine ps 19 58 rfl rfl trivial ?_
            try simp only [pa, pl]
            refine ps 20 59 rfl rfl trivial ?_
            try simp only [pa, pl]
            refine ps 21 60 rfl rfl trivial ?_
            try simp only [pa, pl]
            refine ps 22 61 rfl rfl trivial ?_
            try simp only [pa, pl]
            refine ps 23 62 rfl rfl trivial ?_
            try simp only [pa, pl]
            refine ps 24 63 rfl rfl trivial ?_
            try simp only [pa, pl]
            refine ps 25 64 rfl rfl trivial ?_
            try simp only [pa, pl]
            refine ps 26 65 rfl rfl trivial ?_
            try simp only [pa, pl]
            refine ps 27 66 rfl rfl trivial ?_
            try simp only [pa, pl]
            refine ps 28 67 rfl rfl trivial ?_
            try simp only [pa, pl]
            refine ps 29 68 rfl rfl trivial ?_
            try simp only [pa, pl]
            refine wpAnyEOne 30 (by kernel_rfl) ?_
            refine wpOpRun' (v := .bool false) (w' := W9.drewN 1) (some 69) rfl rfl rfl (by go_simp) ?_
            refine ⟨.inr (allUp_of (by kernel_rfl)), ?_⟩
            try simp only [pa, pl]
            refine wpAnyE_done (by kernel_rfl) ?_ _
            have HBL := Lib.hid (Below.dn HBL.out 1)
            go_wp2_with fail
            go_roundw
            case rel => exact ⟨k + 1, by omega, by go_num, by rw [HS2.out], by rw [HS2.out], HBL.out⟩
            case measure => simp [intOf]; omega
          · have hst := HST.out
            rw [if_neg hG2] at hst
            have HST := Lib.hid hst
            have hG3 : (1 : Int) < (G.length : Int) := by omega
            clear hst hG2
            by_cases ha : ask < 0
            · have hs2 := HST.out
              rw [if_pos (.inl ha)] at hs2
              have HS2 := Lib.hid hs2
              clear hs2 qk c1
              go_wp2_with fail
              refine wp_region_E (fun W => True) (by kernel_rfl) ?_
              have hdr : (W9).drew = { W9 with drawn := (W9).drawn + 1 } := rfl
              rw [← hdr]
              clear hdr
              change wpAnyE _ _ _ _ _ _ _ _ (W9.drewN 1)
              refine tm 0 39 rfl rfl (.slice al G.length cl) trivial ?_
              try simp only [pa, pl]
              refine tg 1 40 rfl rfl (.int .i64 (G.length : Int)) trivial ?_
              try simp only [pa, pl]
              refine tg 2 41 rfl rfl (.bool true) trivial ?_
              try simp only [pa, pl]
              refine tm 3 42 rfl rfl (.bool true) trivial ?_
              try simp only [pa, pl]
              refine tm 4 43 rfl rfl (.int .i64 ask) trivial ?_
              try simp only [pa, pl]
              refine tg 5 44 rfl rfl (.bool true) trivial ?_
              try simp only [pa, pl]
              refine tm 6 45 rfl rfl (.bool true) trivial ?_
              try simp only [pa, pl]
              refine ps 7 46 rfl rfl trivial ?_
              try simp only [pa, pl]
              refine ps 8 47 rfl rfl trivial ?_
              try simp only [pa, pl]
              refine ps 9 48 rfl rfl trivial ?_
              try simp only [pa, pl]
              refine tg 10 49 rfl rfl (.bool true) trivial ?_
              try simp only [pa, pl]
              refine tm 11 50 rfl rfl (.bool true) trivial ?_
              try simp only [pa, pl]
              refine ps 12 51 rfl rfl trivial ?_
              try simp only [pa, pl]
              refine ps 13 52 rfl rfl trivial ?_
              try simp only [pa, pl]
              refine ps 14 53 rfl rfl trivial ?_
              try simp only [pa, pl]
              refine ps 15 54 rfl rfl trivial ?_
              try simp only [pa, pl]
              refine ps 16 55 rfl rfl trivial ?_
              try simp only [pa, pl]
              refine ps 17 56 rfl rfl trivial ?_
              try simp only [pa, pl]
              refine ps 18 57 rfl rfl trivial ?_
              try simp only [pa, pl]
              refine ps 19 58 rfl rfl trivial ?_
              try simp only [pa, pl]
              refine ps 20 59 rfl rfl trivial ?_
              try simp only [pa, pl]
              refine ps 21 60 rfl rfl trivial ?_
              try simp only [pa, pl]
              refine ps 22 61 rfl rfl trivial ?_
              try simp only [pa, pl]
              refine ps 23 62 rfl rfl trivial ?_
              try simp only [pa, pl]
              refine ps 24 63 rfl rfl trivial ?_
              try simp only [pa, pl]
              refine ps 25 64 rfl rfl trivial ?_
              try simp only [pa, pl]
              refine ps 26 65 rfl rfl trivial ?_
              try simp only [pa, pl]
              refine ps 27 66 rfl rfl trivial ?_
              try simp only [pa, pl]
              refine ps 28 67 rfl rfl trivial ?_
              try simp only [pa, pl]
              refine tg 29 68 rfl rfl (.bool true) trivial ?_
              try simp only [pa, pl]
              refine wpAnyEOne 30 (by kernel_rfl) ?_
              refine wpOpRun' (v := .bool true) (w' := W9.drewN 1) (some 69) rfl rfl rfl (by go_simp) ?_
              refine ⟨.inr (allUp_of (by kernel_rfl)), ?_⟩
              try simp only [pa, pl]
              refine wpAnyE_done (by kernel_rfl) ?_ _
              have HBL := Lib.hid (Below.dn HBL.out 1)
              go_wp2_with fail
              go_roundw
              case rel => exact ⟨k + 1, by omega, by go_num, by rw [HS2.out], by rw [HS2.out], HBL.out⟩
              case measure => simp [intOf]; omega
            · by_cases hn : mn < least
              · have hs2 := HST.out
                rw [if_pos (.inr (.inl hn))] at hs2
                have HS2 := Lib.hid hs2
                clear hs2 qk c1
                go_wp2_with fail
                refine wp_region_E (fun W => True) (by kernel_rfl) ?_
                have hdr : (W9).drew = { W9 with drawn := (W9).drawn + 1 } := rfl
                rw [← hdr]
                clear hdr
                change wpAnyE _ _ _ _ _ _ _ _ (W9.drewN 1)
                refine tm 0 39 rfl rfl (.slice al G.length cl) trivial ?_
                try simp only [pa, pl]
                refine tg 1 40 rfl rfl (.int .i64 (G.length : Int)) trivial ?_
                try simp only [pa, pl]
                refine tg 2 41 rfl rfl (.bool true) trivial ?_
                try simp only [pa, pl]
                refine tm 3 42 rfl rfl (.bool true) trivial ?_
                try simp only [pa, pl]
                refine tm 4 43 rfl rfl (.int .i64 ask) trivial ?_
                try simp only [pa, pl]
                refine tg 5 44 rfl rfl (.bool false) trivial ?_
                try simp only [pa, pl]
                refine tm 6 45 rfl rfl (.bool false) trivial ?_
                try simp only [pa, pl]
                refine tm 7 46 rfl rfl (.int .i64 mn) trivial ?_
                try simp only [pa, pl]
                refine tm 8 47 rfl rfl (.int .i64 least) trivial ?_
                try simp only [pa, pl]
                refine tg 9 48 rfl rfl (.bool true) trivial ?_
                try simp only [pa, pl]
                refine tg 10 49 rfl rfl (.bool true) trivial ?_
                try simp only [pa, pl]
                refine tm 11 50 rfl rfl (.bool true) trivial ?_
                try simp only [pa, pl]
                refine ps 12 51 rfl rfl trivial ?_
                try simp only [pa, pl]
                refine ps 13 52 rfl rfl trivial ?_
                try simp only [pa, pl]
                refine ps 14 53 rfl rfl trivial ?_
                try simp only [pa, pl]
                refine ps 15 54 rfl rfl trivial ?_
                try simp only [pa, pl]
                refine ps 16 55 rfl rfl trivial ?_
                try simp only [pa, pl]
                refine ps 17 56 rfl rfl trivial ?_
                try simp only [pa, pl]
                refine ps 18 57 rfl rfl trivial ?_
                try simp only [pa, pl]
                refine ps 19 58 rfl rfl trivial ?_
                try simp only [pa, pl]
                refine ps 20 59 rfl rfl trivial ?_
                try simp only [pa, pl]
                refine ps 21 60 rfl rfl trivial ?_
                try simp only [pa, pl]
                refine ps 22 61 rfl rfl trivial ?_
                try simp only [pa, pl]
                refine ps 23 62 rfl rfl trivial ?_
                try simp only [pa, pl]
                refine ps 24 63 rfl rfl trivial ?_
                try simp only [pa, pl]
                refine ps 25 64 rfl rfl trivial ?_
                try simp only [pa, pl]
                refine ps 26 65 rfl rfl trivial ?_
                try simp only [pa, pl]
                refine ps 27 66 rfl rfl trivial ?_
                try simp only [pa, pl]
                refine ps 28 67 rfl rfl trivial ?_
                try simp only [pa, pl]
                refine tg 29 68 rfl rfl (.bool true) trivial ?_
                try simp only [pa, pl]
                refine wpAnyEOne 30 (by kernel_rfl) ?_
                refine wpOpRun' (v := .bool true) (w' := W9.drewN 1) (some 69) rfl rfl rfl (by go_simp) ?_
                refine ⟨.inr (allUp_of (by kernel_rfl)), ?_⟩
                try simp only [pa, pl]
                refine wpAnyE_done (by kernel_rfl) ?_ _
                have HBL := Lib.hid (Below.dn HBL.out 1)
                go_wp2_with fail
                go_roundw
                case rel => exact ⟨k + 1, by omega, by go_num, by rw [HS2.out], by rw [HS2.out], HBL.out⟩
                case measure => simp [intOf]; omega
              · by_cases he : mn = least
                · obtain ⟨p, rfl⟩ : ∃ p : Nat, ask = p := ⟨ask.toNat, by omega⟩
                  obtain ⟨z, hz⟩ := elem_at (show p < T.costs.length by omega)
                  have hbt := HT.out.below HBL.out
                  obtain ⟨b5, o5, e5, _, qp⟩ := ints_at hbt.tb.costs hz
                  cases e5
                  have hzz : costAt T p = z := costAt_of hz
                  have hst := HST.out
                  rw [Int.toNat_natCast, hzz] at hst
                  have hp1 : (p : Int) < (T.costs.length : Int) := by omega
                  have hp0 : (0 : Int) ≤ (p : Int) := Int.natCast_nonneg _
                  have he' : (mn == least) = true := by simpa using he
                  clear hbt hz hzz
                  by_cases hc : x < z
                  · rw [if_pos (.inr (.inr ⟨he, hc⟩))] at hst
                    have HS2 := Lib.hid hst
                    clear hst he
                    go_wp2_with fail
                    refine wp_region_E (fun W => W.cell? ⟨B, 1, none⟩ = some (.slice (some ⟨bc, oc, none⟩) T.costs.length cc) ∧ W.cell? ⟨bc, oc + k, none⟩ = some (.int .i64 x) ∧ W.cell? ⟨bc, oc + p, none⟩ = some (.int .i64 z)) (by kernel_rfl) ?_
                    have hdr : (W9).drew = { W9 with drawn := (W9).drawn + 1 } := rfl
                    rw [← hdr]
                    clear hdr
                    change wpAnyE _ _ _ _ _ _ _ _ (W9.drewN 1)
                    refine tm 0 39 rfl rfl (.slice al G.length cl) ⟨c1, qk, qp⟩ ?_
                    try simp only [pa, pl]
                    refine tg 1 40 rfl rfl (.int .i64 (G.length : Int)) ⟨c1, qk, qp⟩ ?_
                    try simp only [pa, pl]
                    refine tg 2 41 rfl rfl (.bool true) ⟨c1, qk, qp⟩ ?_
                    try simp only [pa, pl]
                    refine tm 3 42 rfl rfl (.bool true) ⟨c1, qk, qp⟩ ?_
                    try simp only [pa, pl]
                    refine tm 4 43 rfl rfl (.int .i64 (p : Int)) ⟨c1, qk, qp⟩ ?_
                    try simp only [pa, pl]
                    refine tg 5 44 rfl rfl (.bool false) ⟨c1, qk, qp⟩ ?_
                    try simp only [pa, pl]
                    refine tm 6 45 rfl rfl (.bool false) ⟨c1, qk, qp⟩ ?_
                    try simp only [pa, pl]
                    refine tm 7 46 rfl rfl (.int .i64 mn) ⟨c1, qk, qp⟩ ?_
                    try simp only [pa, pl]
                    refine tm 8 47 rfl rfl (.int .i64 least) ⟨c1, qk, qp⟩ ?_
                    try simp only [pa, pl]
                    refine tg 9 48 rfl rfl (.bool false) ⟨c1, qk, qp⟩ ?_
                    try simp only [pa, pl]
                    refine tg 10 49 rfl rfl (.bool false) ⟨c1, qk, qp⟩ ?_
                    try simp only [pa, pl]
                    refine tm 11 50 rfl rfl (.bool false) ⟨c1, qk, qp⟩ ?_
                    try simp only [pa, pl]
                    refine tm 12 51 rfl rfl (.int .i64 mn) ⟨c1, qk, qp⟩ ?_
                    try simp only [pa, pl]
                    refine tm 13 52 rfl rfl (.int .i64 least) ⟨c1, qk, qp⟩ ?_
                    try simp only [pa, pl]
                    refine tg 14 53 rfl rfl (.bool true) ⟨c1, qk, qp⟩ ?_
                    try simp only [pa, pl]
                    refine tm 15 54 rfl rfl (.bool true) ⟨c1, qk, qp⟩ ?_
                    try simp only [pa, pl]
                    refine tg 16 55 rfl rfl (.pointer (some ⟨B, 1, none⟩)) ⟨c1, qk, qp⟩ ?_
                    try simp only [pa, pl]
                    refine tk 17 56 rfl rfl (.slice (some ⟨bc, oc, none⟩) T.costs.length cc) (fun W hW => by obtain ⟨c1, qk, qp⟩ := hW; go_simp) ⟨c1, qk, qp⟩ ?_
                    try simp only [pa, pl]
                    refine tm 18 57 rfl rfl (.int .i64 (k : Int)) ⟨c1, qk, qp⟩ ?_
                    try simp only [pa, pl]
                    refine tg 19 58 rfl rfl (.pointer (some ⟨bc, oc + k, none⟩)) ⟨c1, qk, qp⟩ ?_
                    try simp only [pa, pl]
                    refine tk 20 59 rfl rfl (.int .i64 x) (fun W hW => by obtain ⟨c1, qk, qp⟩ := hW; go_simp) ⟨c1, qk, qp⟩ ?_
                    try simp only [pa, pl]
                    refine tg 21 60 rfl rfl (.pointer (some ⟨B, 1, none⟩)) ⟨c1, qk, qp⟩ ?_
                    try simp only [pa, pl]
                    refine tk 22 61 rfl rfl (.slice (some ⟨bc, oc, none⟩) T.costs.length cc) (fun W hW => by obtain ⟨c1, qk, qp⟩ := hW; go_simp) ⟨c1, qk, qp⟩ ?_
                    try simp only [pa, pl]
                    refine tm 23 62 rfl rfl (.int .i64 (p : Int)) ⟨c1, qk, qp⟩ ?_
                    try simp only [pa, pl]
                    refine tk 24 63 rfl rfl (.int .i64 (p : Int)) (fun _ _ => by go_simp <;> omega) ⟨c1, qk, qp⟩ ?_
                    try simp only [pa, pl]
                    refine tg 25 64 rfl rfl (.pointer (some ⟨bc, oc + p, none⟩)) ⟨c1, qk, qp⟩ ?_
                    try simp only [pa, pl]
                    refine tk 26 65 rfl rfl (.int .i64 z) (fun W hW => by obtain ⟨c1, qk, qp⟩ := hW; go_simp) ⟨c1, qk, qp⟩ ?_
                    try simp only [pa, pl]
                    refine tg 27 66 rfl rfl (.bool true) ⟨c1, qk, qp⟩ ?_
                    try simp only [pa, pl]
                    refine tg 28 67 rfl rfl (.bool true) ⟨c1, qk, qp⟩ ?_
                    try simp only [pa, pl]
                    refine tg 29 68 rfl rfl (.bool true) ⟨c1, qk, qp⟩ ?_
                    try simp only [pa, pl]
                    refine wpAnyEOne 30 (by kernel_rfl) ?_
                    refine wpOpRun' (v := .bool true) (w' := W9.drewN 1) (some 69) rfl rfl rfl (by go_simp) ?_
                    refine ⟨.inr (allUp_of (by kernel_rfl)), ?_⟩
                    try simp only [pa, pl]
                    refine wpAnyE_done (by kernel_rfl) ?_ _
                    have HBL := Lib.hid (Below.dn HBL.out 1)
                    go_wp2_with fail
                    go_roundw
                    case rel => exact ⟨k + 1, by omega, by go_num, by rw [HS2.out], by rw [HS2.out], HBL.out⟩
                    case measure => simp [intOf]; omega
                  · rw [if_neg (by rintro (h | h | ⟨_, h⟩) <;> omega)] at hst
                    have HS2 := Lib.hid hst
                    clear hst he
                    go_wp2_with fail
                    refine wp_region_E (fun W => W.cell? ⟨B, 1, none⟩ = some (.slice (some ⟨bc, oc, none⟩) T.costs.length cc) ∧ W.cell? ⟨bc, oc + k, none⟩ = some (.int .i64 x) ∧ W.cell? ⟨bc, oc + p, none⟩ = some (.int .i64 z)) (by kernel_rfl) ?_
                    have hdr : (W9).drew = { W9 with drawn := (W9).drawn + 1 } := rfl
                    rw [← hdr]
                    clear hdr
                    change wpAnyE _ _ _ _ _ _ _ _ (W9.drewN 1)
                    refine tm 0 39 rfl rfl (.slice al G.length cl) ⟨c1, qk, qp⟩ ?_
                    try simp only [pa, pl]
                    refine tg 1 40 rfl rfl (.int .i64 (G.length : Int)) ⟨c1, qk, qp⟩ ?_
                    try simp only [pa, pl]
                    refine tg 2 41 rfl rfl (.bool true) ⟨c1, qk, qp⟩ ?_
                    try simp only [pa, pl]
                    refine tm 3 42 rfl rfl (.bool true) ⟨c1, qk, qp⟩ ?_
                    try simp only [pa, pl]
                    refine tm 4 43 rfl rfl (.int .i64 (p : Int)) ⟨c1, qk, qp⟩ ?_
                    try simp only [pa, pl]
                    refine tg 5 44 rfl rfl (.bool false) ⟨c1, qk, qp⟩ ?_
                    try simp only [pa, pl]
                    refine tm 6 45 rfl rfl (.bool false) ⟨c1, qk, qp⟩ ?_
                    try simp only [pa, pl]
                    refine tm 7 46 rfl rfl (.int .i64 mn) ⟨c1, qk, qp⟩ ?_
                    try simp only [pa, pl]
                    refine tm 8 47 rfl rfl (.int .i64 least) ⟨c1, qk, qp⟩ ?_
                    try simp only [pa, pl]
                    refine tg 9 48 rfl rfl (.bool false) ⟨c1, qk, qp⟩ ?_
                    try simp only [pa, pl]
                    refine tg 10 49 rfl rfl (.bool false) ⟨c1, qk, qp⟩ ?_
                    try simp only [pa, pl]
                    refine tm 11 50 rfl rfl (.bool false) ⟨c1, qk, qp⟩ ?_
                    try simp only [pa, pl]
                    refine tm 12 51 rfl rfl (.int .i64 mn) ⟨c1, qk, qp⟩ ?_
                    try simp only [pa, pl]
                    refine tm 13 52 rfl rfl (.int .i64 least) ⟨c1, qk, qp⟩ ?_
                    try simp only [pa, pl]
                    refine tg 14 53 rfl rfl (.bool true) ⟨c1, qk, qp⟩ ?_
                    try simp only [pa, pl]
                    refine tm 15 54 rfl rfl (.bool true) ⟨c1, qk, qp⟩ ?_
                    try simp only [pa, pl]
                    refine tg 16 55 rfl rfl (.pointer (some ⟨B, 1, none⟩)) ⟨c1, qk, qp⟩ ?_
                    try simp only [pa, pl]
                    refine tk 17 56 rfl rfl (.slice (some ⟨bc, oc, none⟩) T.costs.length cc) (fun W hW => by obtain ⟨c1, qk, qp⟩ := hW; go_simp) ⟨c1, qk, qp⟩ ?_
                    try simp only [pa, pl]
                    refine tm 18 57 rfl rfl (.int .i64 (k : Int)) ⟨c1, qk, qp⟩ ?_
                    try simp only [pa, pl]
                    refine tg 19 58 rfl rfl (.pointer (some ⟨bc, oc + k, none⟩)) ⟨c1, qk, qp⟩ ?_
                    try simp only [pa, pl]
                    refine tk 20 59 rfl rfl (.int .i64 x) (fun W hW => by obtain ⟨c1, qk, qp⟩ := hW; go_simp) ⟨c1, qk, qp⟩ ?_
                    try simp only [pa, pl]
                    refine tg 21 60 rfl rfl (.pointer (some ⟨B, 1, none⟩)) ⟨c1, qk, qp⟩ ?_
                    try simp only [pa, pl]
                    refine tk 22 61 rfl rfl (.slice (some ⟨bc, oc, none⟩) T.costs.length cc) (fun W hW => by obtain ⟨c1, qk, qp⟩ := hW; go_simp) ⟨c1, qk, qp⟩ ?_
                    try simp only [pa, pl]
                    refine tm 23 62 rfl rfl (.int .i64 (p : Int)) ⟨c1, qk, qp⟩ ?_
                    try simp only [pa, pl]
                    refine tk 24 63 rfl rfl (.int .i64 (p : Int)) (fun _ _ => by go_simp <;> omega) ⟨c1, qk, qp⟩ ?_
                    try simp only [pa, pl]
                    refine tg 25 64 rfl rfl (.pointer (some ⟨bc, oc + p, none⟩)) ⟨c1, qk, qp⟩ ?_
                    try simp only [pa, pl]
                    refine tk 26 65 rfl rfl (.int .i64 z) (fun W hW => by obtain ⟨c1, qk, qp⟩ := hW; go_simp) ⟨c1, qk, qp⟩ ?_
                    try simp only [pa, pl]
                    refine tg 27 66 rfl rfl (.bool false) ⟨c1, qk, qp⟩ ?_
                    try simp only [pa, pl]
                    refine tg 28 67 rfl rfl (.bool false) ⟨c1, qk, qp⟩ ?_
                    try simp only [pa, pl]
                    refine tg 29 68 rfl rfl (.bool false) ⟨c1, qk, qp⟩ ?_
                    try simp only [pa, pl]
                    refine wpAnyEOne 30 (by kernel_rfl) ?_
                    refine wpOpRun' (v := .bool false) (w' := W9.drewN 1) (some 69) rfl rfl rfl (by go_simp) ?_
                    refine ⟨.inr (allUp_of (by kernel_rfl)), ?_⟩
                    try simp only [pa, pl]
                    refine wpAnyE_done (by kernel_rfl) ?_ _
                    have HBL := Lib.hid (Below.dn HBL.out 1)
                    go_wp2_with fail
                    go_roundw
                    case rel => exact ⟨k + 1, by omega, by go_num, by rw [HS2.out], by rw [HS2.out], HBL.out⟩
                    case measure => simp [intOf]; omega
                · have hs2 := HST.out
                  rw [if_neg (by rintro (h | h | ⟨h, _⟩) <;> omega)] at hs2
                  have HS2 := Lib.hid hs2
                  have he' : (mn == least) = false := by simpa using he
                  clear hs2 he qk c1
                  go_wp2_with fail
                  refine wp_region_E (fun W => True) (by kernel_rfl) ?_
                  have hdr : (W9).drew = { W9 with drawn := (W9).drawn + 1 } := rfl
                  rw [← hdr]
                  clear hdr
                  change wpAnyE _ _ _ _ _ _ _ _ (W9.drewN 1)
                  refine tm 0 39 rfl rfl (.slice al G.length cl) trivial ?_
                  try simp only [pa, pl]
                  refine tg 1 40 rfl rfl (.int .i64 (G.length : Int)) trivial ?_
                  try simp only [pa, pl]
                  refine tg 2 41 rfl rfl (.bool true) trivial ?_
                  try simp only [pa, pl]
                  refine tm 3 42 rfl rfl (.bool true) trivial ?_
                  try simp only [pa, pl]
                  refine tm 4 43 rfl rfl (.int .i64 ask) trivial ?_
                  try simp only [pa, pl]
                  refine tg 5 44 rfl rfl (.bool false) trivial ?_
                  try simp only [pa, pl]
                  refine tm 6 45 rfl rfl (.bool false) trivial ?_
                  try simp only [pa, pl]
                  refine tm 7 46 rfl rfl (.int .i64 mn) trivial ?_
                  try simp only [pa, pl]
                  refine tm 8 47 rfl rfl (.int .i64 least) trivial ?_
                  try simp only [pa, pl]
                  refine tg 9 48 rfl rfl (.bool false) trivial ?_
                  try simp only [pa, pl]
                  refine tg 10 49 rfl rfl (.bool false) trivial ?_
                  try simp only [pa, pl]
                  refine tm 11 50 rfl rfl (.bool false) trivial ?_
                  try simp only [pa, pl]
                  refine tm 12 51 rfl rfl (.int .i64 mn) trivial ?_
                  try simp only [pa, pl]
                  refine tm 13 52 rfl rfl (.int .i64 least) trivial ?_
                  try simp only [pa, pl]
                  refine tg 14 53 rfl rfl (.bool false) trivial ?_
                  try simp only [pa, pl]
                  refine tm 15 54 rfl rfl (.bool false) trivial ?_
                  try simp only [pa, pl]
                  refine ps 16 55 rfl rfl trivial ?_
                  try simp only [pa, pl]
                  refine ps 17 56 rfl rfl trivial ?_
                  try simp only [pa, pl]
                  refine ps 18 57 rfl rfl trivial ?_
                  try simp only [pa, pl]
                  refine ps 19 58 rfl rfl trivial ?_
                  try simp only [pa, pl]
                  refine ps 20 59 rfl rfl trivial ?_
                  try simp only [pa, pl]
                  refine ps 21 60 rfl rfl trivial ?_
                  try simp only [pa, pl]
                  refine ps 22 61 rfl rfl trivial ?_
                  try simp only [pa, pl]
                  refine ps 23 62 rfl rfl trivial ?_
                  try simp only [pa, pl]
                  refine ps 24 63 rfl rfl trivial ?_
                  try simp only [pa, pl]
                  refine ps 25 64 rfl rfl trivial ?_
                  try simp only [pa, pl]
                  refine ps 26 65 rfl rfl trivial ?_
                  try simp only [pa, pl]
                  refine ps 27 66 rfl rfl trivial ?_
                  try simp only [pa, pl]
                  refine tg 28 67 rfl rfl (.bool false) trivial ?_
                  try simp only [pa, pl]
                  refine tg 29 68 rfl rfl (.bool false) trivial ?_
                  try simp only [pa, pl]
                  refine wpAnyEOne 30 (by kernel_rfl) ?_
                  refine wpOpRun' (v := .bool false) (w' := W9.drewN 1) (some 69) rfl rfl rfl (by go_simp) ?_
                  refine ⟨.inr (allUp_of (by kernel_rfl)), ?_⟩
                  try simp only [pa, pl]
                  refine wpAnyE_done (by kernel_rfl) ?_ _
                  have HBL := Lib.hid (Below.dn HBL.out 1)
                  go_wp2_with fail
                  go_roundw
                  case rel => exact ⟨k + 1, by omega, by go_num, by rw [HS2.out], by rw [HS2.out], HBL.out⟩
                  case measure => simp [intOf]; omega
    · obtain rfl : k = T.costs.length := by omega
      have hk1 : ¬ (T.costs.length : Int) < (T.costs.length : Int) := by omega
      have c1 := hbt.c1
      clear hbl hbt
      go_wp2_with fail
      go_ret
      first
        | exact ⟨ret_int (by unfold greedyA; rw [HGS.out]), HB.out.trans (HBL.out.mono HB.out.size)⟩
        | (subst hB; exact ⟨ret_int (by unfold greedyA; rw [HGS.out]), HB.out.trans (HBL.out.mono HB.out.size)⟩)
end Go.Proofs.Ytmkkegigajmhkaa

