/- The walk of MatchesSpec. -/
import Derived.Test.YtdanhfanepmhkaaFe
import Derived.Test.YtdanhfanepmhkaaDo
namespace Go.Proofs.Ytdanhfanepmhkaa
open Go.RowKit Go.Maps Go.Sort

theorem OpAt.keeps {w w' : World} {F G : Nat → Prop} {o : Opv} {pv : Value} (h : OpAt w G o pv) (hk : Keeps F w w') (hF : ∀ b, b < w.heap.size → G b → ¬ F b) : OpAt w' G o pv := ⟨h.picks.keeps hk hF, h.lo, h.hi⟩

set_option maxRecDepth 100000 in
set_option maxHeartbeats 8000000 in
theorem matches_any (n : Int) (ov : Value) (N : Nat) (w : World) (hov : OpsRd w ov N) :
    Calls Try.prog 3 #[.int .i64 n, ov] w fun e w' => e = .returned (.bool true) ∧ Below w.heap.size w w' := by
  obtain ⟨oa, oc, rfl, hN, hat⟩ := hov
  have HAT := Lib.hid hat
  clear hat
  by_cases hn : n < 1 ∨ 64 < n
  · rcases hn with h | h
    · go_enter Try.func3, Try.ntmps3
      go_wp2_with fail
      refine (sanity_any w).mono ?_
      rintro e w1 ⟨rfl, hB1⟩
      go_wp2_with fail
      refine (start_bad n w1 (.inl h)).mono ?_
      rintro e w2 ⟨rfl, rfl⟩
      go_wp2_with fail
      go_ret
      exact ⟨rfl, hB1⟩
    · have h' : ¬ n < 1 := by omega
      go_enter Try.func3, Try.ntmps3
      go_wp2_with fail
      refine (sanity_any w).mono ?_
      rintro e w1 ⟨rfl, hB1⟩
      go_wp2_with fail
      refine (start_bad n w1 (.inr h)).mono ?_
      rintro e w2 ⟨rfl, rfl⟩
      go_wp2_with fail
      go_ret
      exact ⟨rfl, hB1⟩
  · obtain ⟨k, rfl⟩ : ∃ k : Nat, n = k := ⟨n.toNat, by omega⟩
    have ST := fun w1 => start_any k w1 (by omega) (by omega)
    by_cases h60 : 60 < N
    · have h60' : (60 : Int) < (N : Int) := by omega
      go_enter Try.func3, Try.ntmps3
      go_wp2_with fail
      refine (sanity_any w).mono ?_
      rintro e w1 ⟨rfl, hB1⟩
      go_wp2_with fail
      refine (ST w1).mono ?_
      rintro e w2 ⟨A, B, rfl, _, _, _, _, _, hb2⟩
      go_wp2_with fail
      go_ret
      exact ⟨rfl, hB1.trans (hb2.mono hB1.size)⟩
    · have h60' : ¬ (60 : Int) < (N : Int) := by omega
      go_enter Try.func3, Try.ntmps3
      go_wp2_with fail
      refine (sanity_any w).mono ?_
      rintro e w1 ⟨rfl, hB1⟩
      go_wp2_with fail
      refine (ST w1).mono ?_
      rintro e w2 ⟨A, B, rfl, hA, hB, hAB, hFA, hFB, hb2⟩
      clear ST
      have HS := Lib.hid hAB
      have HFA := Lib.hid (show ∀ b, b < w.heap.size → ¬ A.F b from fun b h e => by have := hFA b e; have := hB1.size; omega)
      have HFB := Lib.hid (show ∀ b, b < w.heap.size → ¬ B.F b from fun b h e => by have := hFB b e; have := hB1.size; omega)
      have HW := Lib.hid (And.intro hA (And.intro hB (hB1.trans (hb2.mono hB1.size))))
      clear hA hB hAB hFA hFB hB1 hb2
      go_wp2_with fail
      go_loopw [9] (fun i wr => ∃ (j : Nat) (D : Dk), j ≤ N ∧ i = .int .i64 j ∧ DskAt wr A D ∧ RefAt wr B D ∧ Below w.heap.size w wr) (fun i _ => N - (intOf i).toNat)
      case atStart => exact ⟨0, _, Nat.zero_le _, rfl, HW.out.1, HW.out.2.1, HW.out.2.2⟩
      case round =>
        obtain ⟨j, D, hj, rfl, hA, hB, hbl⟩ := hrel
        clear HW
        by_cases hlt : j < N
        · obtain ⟨b, off, o, pv, rfl, hb, q0, q1, q2, q3, q4, hop⟩ := HAT.out j hlt
          have kk := Keeps.of_below (F := fun _ => False) hbl
          have p0 := (hbl.cell (p := ⟨b, off + j * 5, none⟩) hb).trans q0
          have p1 := (hbl.cell (p := ⟨b, off + j * 5 + 1, none⟩) hb).trans q1
          have p2 := (hbl.cell (p := ⟨b, off + j * 5 + 2, none⟩) hb).trans q2
          have p3 := (hbl.cell (p := ⟨b, off + j * 5 + 3, none⟩) hb).trans q3
          have p4 := (hbl.cell (p := ⟨b, off + j * 5 + 4, none⟩) hb).trans q4
          have DO := do_any A D o pv wr hA (fun b => b < w.heap.size) HFA.out (hop.keeps kk (fun _ _ _ h => h))
          have HB := Lib.hid (And.intro hB hbl)
          have HOP := Lib.hid hop
          have HQ := Lib.hid (And.intro q0 (And.intro q1 (And.intro q2 (And.intro q3 q4))))
          have hj0 : (0 : Int) ≤ (j : Int) := Int.natCast_nonneg _
          have hj1 : (j : Int) < (N : Int) := by omega
          clear hA hB hop kk hbl q0 q1 q2 q3 q4
          go_wp2_with fail
          refine (DO).mono ?_
          rintro e x2 ⟨rfl, hA2, hk2⟩
          clear DO p0 p1 p2 p3 p4
          obtain ⟨hB1, hbl⟩ := HB.out
          have hB2 := hB1.keeps hk2 (fun b hb ha => HS.out b ha hb)
          have hbl2 : Below w.heap.size w x2 := hbl.trans (hk2.below hbl.size (fun i _ hi => by
            rcases Nat.lt_or_ge i w.heap.size with h | h
            · exact absurd hi (HFA.out i h)
            · exact h))
          obtain ⟨q0, q1, q2, q3, q4⟩ := HQ.out
          have p0 := (hbl2.cell (p := ⟨b, off + j * 5, none⟩) hb).trans q0
          have p1 := (hbl2.cell (p := ⟨b, off + j * 5 + 1, none⟩) hb).trans q1
          have p2 := (hbl2.cell (p := ⟨b, off + j * 5 + 2, none⟩) hb).trans q2
          have p3 := (hbl2.cell (p := ⟨b, off + j * 5 + 3, none⟩) hb).trans q3
          have p4 := (hbl2.cell (p := ⟨b, off + j * 5 + 4, none⟩) hb).trans q4
          have RDO := rdo_any B D o pv x2 hB2 (fun b => b < w.heap.size) HFB.out (HOP.out.keeps (Keeps.of_below (F := fun _ => False) hbl2) (fun _ _ _ h => h))
          have HA2 := Lib.hid (And.intro hA2 hbl2)
          clear hB1 hbl hB2 hbl2 hA2 hk2 HB q0 q1 q2 q3 q4
          go_wp2_with fail
          refine (RDO).mono ?_
          rintro e x3 ⟨rfl, hB3, hk3⟩
          clear RDO p0 p1 p2 p3 p4
          obtain ⟨hA2, hbl2⟩ := HA2.out
          have hA3 := hA2.keeps hk3 (fun b ha hb => HS.out b ha hb)
          have hbl3 : Below w.heap.size w x3 := hbl2.trans (hk3.below hbl2.size (fun i _ hi => by
            rcases Nat.lt_or_ge i w.heap.size with h | h
            · exact absurd hi (HFB.out i h)
            · exact h))
          generalize D.doS o = g1
          generalize D.doE o = g2
          have SA := same_any A B (D.doD o) x3 hA3 hB3
          have H3 := Lib.hid (And.intro hA3 (And.intro hB3 hbl3))
          clear hA2 hbl2 HA2 hA3 hB3 hbl3 hk3
          go_wp2_with fail
          refine (SA).mono ?_
          rintro e x4 ⟨rfl, hb4⟩
          clear SA
          obtain ⟨hA3, hB3, hbl3⟩ := H3.out
          have H4 := Lib.hid (And.intro (hA3.keeps (F := fun _ => False) (Keeps.of_below hb4) (fun _ _ h => h)) (And.intro (hB3.keeps (F := fun _ => False) (Keeps.of_below hb4) (fun _ _ h => h)) (hbl3.trans (hb4.mono hbl3.size))))
          clear hA3 hB3 hbl3 hb4 H3
          go_wp2_with fail
          go_roundw
          case rel => exact ⟨j + 1, _, by omega, by go_num, H4.out.1, H4.out.2.1, H4.out.2.2⟩
          case measure => simp [intOf]; omega
        · have he : j = N := by omega
          subst he
          clear hA hB
          have HB := Lib.hid hbl
          clear hbl
          go_wp2_with fail
          go_ret
          exact ⟨rfl, HB.out⟩
end Go.Proofs.Ytdanhfanepmhkaa
