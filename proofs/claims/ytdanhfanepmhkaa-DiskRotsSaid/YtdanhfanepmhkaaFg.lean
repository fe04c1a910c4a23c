/- The walk of Clones. -/
import Derived.Test.YtdanhfanepmhkaaFf
namespace Go.Proofs.Ytdanhfanepmhkaa
open Go.RowKit Go.Maps Go.Sort

theorem Below.kp2 {w a b : World} {F : Nat → Prop} (h : Below w.heap.size w a) (hk : Keeps F a b) (hF : ∀ i, i < w.heap.size → ¬ F i) : Below w.heap.size w b :=
  h.trans (hk.below h.size (fun i _ hi => by
    rcases Nat.lt_or_ge i w.heap.size with h | h
    · exact absurd hi (hF i h)
    · exact h))

set_option maxRecDepth 100000 in
set_option maxHeartbeats 16000000 in
theorem clones_any (n : Int) (v1 v2 v3 : Value) (N1 N2 N3 : Nat) (w : World) (hv1 : OpsRd w v1 N1) (hv2 : OpsRd w v2 N2) (hv3 : OpsRd w v3 N3) :
    Calls Try.prog 8 #[.int .i64 n, v1, v2, v3] w fun e w' => e = .returned (.bool true) ∧ Below w.heap.size w w' := by
  obtain ⟨oa1, oc1, rfl, hN1, hat1⟩ := hv1
  obtain ⟨oa2, oc2, rfl, hN2, hat2⟩ := hv2
  obtain ⟨oa3, oc3, rfl, hN3, hat3⟩ := hv3
  have HAT1 := Lib.hid hat1; have HAT2 := Lib.hid hat2; have HAT3 := Lib.hid hat3
  clear hat1 hat2 hat3
  by_cases hn : n < 1 ∨ 64 < n
  · rcases hn with h | h
    · go_enter Try.func8, Try.ntmps8
      go_wp2_with fail
      refine (sanity_any w).mono ?_
      rintro e w1 ⟨rfl, hB1⟩
      go_wp2_with fail
      refine (start_bad n w1 (.inl h)).mono ?_
      rintro e w2 ⟨rfl, rfl⟩
      go_wp2_with fail
      go_ret
      exact ⟨rfl, hB1⟩
    · have h' : ¬ n < 1 := by omega
      go_enter Try.func8, Try.ntmps8
      go_wp2_with fail
      refine (sanity_any w).mono ?_
      rintro e w1 ⟨rfl, hB1⟩
      go_wp2_with fail
      refine (start_bad n w1 (.inr h)).mono ?_
      rintro e w2 ⟨rfl, rfl⟩
      go_wp2_with fail
      go_ret
      exact ⟨rfl, hB1⟩
  · obtain ⟨k, rfl⟩ : ∃ k : Nat, n = k := ⟨n.toNat, by omega⟩
    have ST := fun w1 => start_any k w1 (by omega) (by omega)
    by_cases g1 : (60 : Int) < (N1 : Int)
    · go_enter Try.func8, Try.ntmps8
      go_wp2_with fail
      refine (sanity_any w).mono ?_
      rintro e w1 ⟨rfl, hB1⟩
      go_wp2_with fail
      refine (ST w1).mono ?_
      rintro e w2 ⟨A, B, rfl, _, _, _, _, _, hb2⟩
      go_wp2_with fail
      go_ret
      exact ⟨rfl, hB1.trans (hb2.mono hB1.size)⟩
    · by_cases g2 : (60 : Int) < (N2 : Int)
      · go_enter Try.func8, Try.ntmps8
        go_wp2_with fail
        refine (sanity_any w).mono ?_
        rintro e w1 ⟨rfl, hB1⟩
        go_wp2_with fail
        refine (ST w1).mono ?_
        rintro e w2 ⟨A, B, rfl, _, _, _, _, _, hb2⟩
        go_wp2_with fail
        go_ret
        exact ⟨rfl, hB1.trans (hb2.mono hB1.size)⟩
      · by_cases g3 : (60 : Int) < (N3 : Int)
        · go_enter Try.func8, Try.ntmps8
          go_wp2_with fail
          refine (sanity_any w).mono ?_
          rintro e w1 ⟨rfl, hB1⟩
          go_wp2_with fail
          refine (ST w1).mono ?_
          rintro e w2 ⟨A, B, rfl, _, _, _, _, _, hb2⟩
          go_wp2_with fail
          go_ret
          exact ⟨rfl, hB1.trans (hb2.mono hB1.size)⟩
        · skip
          go_enter Try.func8, Try.ntmps8
          go_wp2_with fail
          refine (sanity_any w).mono ?_
          rintro e w1 ⟨rfl, hB1⟩
          go_wp2_with fail
          refine (ST w1).mono ?_
          rintro e w2 ⟨A, B, rfl, hA, hB, hAB, hFA, hFB, hb2⟩
          clear ST
          have HS := Lib.hid hAB
          have HFA := Lib.hid (show ∀ b, b < w.heap.size → ¬ A.F b from fun b h e => by have := hFA b e; have := hB1.size; omega)
          have HFB := Lib.hid (show ∀ b, b < w.heap.size → ¬ B.F b from fun b h e => by have := hFB b e; have := hB1.size; omega)
          have HW := Lib.hid (And.intro hA (And.intro hB (hB1.trans (hb2.mono hB1.size))))
          clear hA hB hAB hFA hFB hB1 hb2
          go_wp2_with fail
          go_loopw [13] (fun i wr => ∃ (j : Nat) (D : Dk), j ≤ N1 ∧ i = .int .i64 j ∧ DskAt wr A D ∧ RefAt wr B D ∧ Below w.heap.size w wr) (fun i _ => N1 - (intOf i).toNat)
          case atStart => exact ⟨0, _, Nat.zero_le _, rfl, HW.out.1, HW.out.2.1, HW.out.2.2⟩
          case round =>
            obtain ⟨j, D, hj, rfl, hA, hB, hbl⟩ := hrel
            by_cases hlt : j < N1
            · obtain ⟨b, off, o, pv, rfl, hb, q0, q1, q2, q3, q4, hop⟩ := HAT1.out j hlt
              have kk := Keeps.of_below (F := fun _ => False) hbl
              have p0 := (hbl.cell (p := ⟨b, off + j * 5, none⟩) hb).trans q0
              have p1 := (hbl.cell (p := ⟨b, off + j * 5 + 1, none⟩) hb).trans q1
              have p2 := (hbl.cell (p := ⟨b, off + j * 5 + 2, none⟩) hb).trans q2
              have p3 := (hbl.cell (p := ⟨b, off + j * 5 + 3, none⟩) hb).trans q3
              have p4 := (hbl.cell (p := ⟨b, off + j * 5 + 4, none⟩) hb).trans q4
              have DO := do_any A D o pv wr hA (fun b => b < w.heap.size) HFA.out (hop.keeps kk (fun _ _ _ h => h))
              have HB := Lib.hid (And.intro hB hbl)
              have HOP := Lib.hid hop
              have HQ := Lib.hid (And.intro q0 (And.intro q1 (And.intro q2 (And.intro q3 q4))))
              have hj0 : (0 : Int) ≤ (j : Int) := Int.natCast_nonneg _
              have hj1 : (j : Int) < (N1 : Int) := by omega
              clear hA hB hop kk hbl q0 q1 q2 q3 q4
              go_wp2_with fail
              refine (DO).mono ?_
              rintro e x2 ⟨rfl, hA2, hk2⟩
              clear DO p0 p1 p2 p3 p4
              obtain ⟨hB1, hbl⟩ := HB.out
              have hB2 := hB1.keeps hk2 (fun b hb ha => HS.out b ha hb)
              have hbl2 := Below.kp2 hbl hk2 HFA.out
              obtain ⟨q0, q1, q2, q3, q4⟩ := HQ.out
              have p0 := (hbl2.cell (p := ⟨b, off + j * 5, none⟩) hb).trans q0
              have p1 := (hbl2.cell (p := ⟨b, off + j * 5 + 1, none⟩) hb).trans q1
              have p2 := (hbl2.cell (p := ⟨b, off + j * 5 + 2, none⟩) hb).trans q2
              have p3 := (hbl2.cell (p := ⟨b, off + j * 5 + 3, none⟩) hb).trans q3
              have p4 := (hbl2.cell (p := ⟨b, off + j * 5 + 4, none⟩) hb).trans q4
              have RDO := rdo_any B D o pv x2 hB2 (fun b => b < w.heap.size) HFB.out (HOP.out.keeps (Keeps.of_below (F := fun _ => False) hbl2) (fun _ _ _ h => h))
              have HA2 := Lib.hid (And.intro hA2 hbl2)
              clear hB1 hbl hB2 hbl2 hA2 hk2 HB q0 q1 q2 q3 q4
              go_wp2_with fail
              refine (RDO).mono ?_
              rintro e x3 ⟨rfl, hB3, hk3⟩
              clear RDO p0 p1 p2 p3 p4
              obtain ⟨hA2, hbl2⟩ := HA2.out
              have hA3 := Lib.hid (hA2.keeps hk3 (fun b ha hb => HS.out b ha hb))
              have hbl3 := Lib.hid (Below.kp2 hbl2 hk3 HFB.out)
              have hB4 := Lib.hid hB3
              clear hA2 hbl2 HA2 hB3 hk3
              go_wp2_with fail
              go_roundw
              case rel => exact ⟨j + 1, _, by omega, by go_num, hA3.out, hB4.out, hbl3.out⟩
              case measure => simp [intOf]; omega
            · have he : j = N1 := by omega
              subst he
              have hsz0 := hbl.size
              have CL := clone_any A D wr hA
              have HK := Lib.hid (And.intro hA (And.intro hB hbl))
              clear hA hB hbl HW
              go_wp2_with fail
              refine (CL).mono ?_
              rintro e y1 ⟨A', rfl, hA', hFA', hb1⟩
              clear CL
              obtain ⟨hA, hB, hbl⟩ := HK.out
              have k1 := Keeps.of_below (F := fun _ => False) hb1
              have RC := rclone_any B D y1 (hB.keeps k1 (fun _ _ h => h))
              have hAl := fun b (h : A.F b) => hA.ltF h
              have hBl := fun b (h : B.F b) => hB.l.ltF h
              have hs1 := hb1.size
              have HK1 := Lib.hid (And.intro hA' (And.intro (hA.keeps k1 (fun _ _ h => h)) (And.intro (hB.keeps k1 (fun _ _ h => h)) (hbl.trans (hb1.mono hbl.size)))))
              clear hA hB hbl HK hA' k1 hb1
              go_wp2_with fail
              refine (RC).mono ?_
              rintro e y2 ⟨B', rfl, hB', hFB', hb2⟩
              clear RC
              obtain ⟨hA', hA, hB, hbl⟩ := HK1.out
              have k2 := Keeps.of_below (F := fun _ => False) hb2
              have hA'l := fun b (h : A'.F b) => hA'.ltF h
              have HFA' := Lib.hid (show ∀ b, b < w.heap.size → ¬ A'.F b from fun b h e => by have := hFA' b e; omega)
              have HFB' := Lib.hid (show ∀ b, b < w.heap.size → ¬ B'.F b from fun b h e => by have := hFB' b e; omega)
              have HS1 := Lib.hid (show ∀ b, A'.F b → ¬ B'.F b from fun b h e => by have := hA'l b h; have := hFB' b e; omega)
              have HS2 := Lib.hid (show ∀ b, A'.F b → ¬ A.F b from fun b h e => by have := hAl b e; have := hFA' b h; omega)
              have HS3 := Lib.hid (show ∀ b, A'.F b → ¬ B.F b from fun b h e => by have := hBl b e; have := hFA' b h; omega)
              have HS4 := Lib.hid (show ∀ b, B'.F b → ¬ A.F b from fun b h e => by have := hAl b e; have := hFB' b h; omega)
              have HS5 := Lib.hid (show ∀ b, B'.F b → ¬ B.F b from fun b h e => by have := hBl b e; have := hFB' b h; omega)
              have SA := same_any A' B' D y2 (hA'.keeps k2 (fun _ _ h => h)) hB'
              have HK2 := Lib.hid (And.intro (hA'.keeps k2 (fun _ _ h => h)) (And.intro hB' (And.intro (hA.keeps k2 (fun _ _ h => h)) (And.intro (hB.keeps k2 (fun _ _ h => h)) (hbl.trans (hb2.mono hbl.size))))))
              clear hA' hA hB hbl HK1 hB' k2 hb2 hFA' hFB' hAl hBl hA'l hs1 hsz0
              go_wp2_with fail
              refine (SA).mono ?_
              rintro e y3 ⟨rfl, hb3⟩
              clear SA
              obtain ⟨hA', hB', hA, hB, hbl⟩ := HK2.out
              have k3 := Keeps.of_below (F := fun _ => False) hb3
              have HK3 := Lib.hid (And.intro (hA'.keeps k3 (fun _ _ h => h)) (And.intro (hB'.keeps k3 (fun _ _ h => h)) (And.intro (hA.keeps k3 (fun _ _ h => h)) (And.intro (hB.keeps k3 (fun _ _ h => h)) (hbl.trans (hb3.mono hbl.size))))))
              clear hA' hA hB hbl HK2 hB' k3 hb3
              generalize D = D1 at HK3
              go_wp2_with fail
              go_loopw [16] (fun i wr => ∃ (j : Nat) (D : Dk), j ≤ N2 ∧ i = .int .i64 j ∧ DskAt wr A D ∧ RefAt wr B D ∧ Below w.heap.size w wr ∧ DskAt wr A' D1 ∧ RefAt wr B' D1) (fun i _ => N2 - (intOf i).toNat)
              case atStart => exact ⟨0, D1, Nat.zero_le _, rfl, HK3.out.2.2.1, HK3.out.2.2.2.1, HK3.out.2.2.2.2, HK3.out.1, HK3.out.2.1⟩
              case round =>
                obtain ⟨j, D, hj, rfl, hA, hB, hbl, hc, hd⟩ := hrel
                by_cases hlt : j < N2
                · obtain ⟨b, off, o, pv, rfl, hb, q0, q1, q2, q3, q4, hop⟩ := HAT2.out j hlt
                  have kk := Keeps.of_below (F := fun _ => False) hbl
                  have p0 := (hbl.cell (p := ⟨b, off + j * 5, none⟩) hb).trans q0
                  have p1 := (hbl.cell (p := ⟨b, off + j * 5 + 1, none⟩) hb).trans q1
                  have p2 := (hbl.cell (p := ⟨b, off + j * 5 + 2, none⟩) hb).trans q2
                  have p3 := (hbl.cell (p := ⟨b, off + j * 5 + 3, none⟩) hb).trans q3
                  have p4 := (hbl.cell (p := ⟨b, off + j * 5 + 4, none⟩) hb).trans q4
                  have DO := do_any A D o pv wr hA (fun b => b < w.heap.size) HFA.out (hop.keeps kk (fun _ _ _ h => h))
                  have HB := Lib.hid (And.intro hB hbl)
                  have HOP := Lib.hid hop
                  have HQ := Lib.hid (And.intro q0 (And.intro q1 (And.intro q2 (And.intro q3 q4))))
                  have hj0 : (0 : Int) ≤ (j : Int) := Int.natCast_nonneg _
                  have hj1 : (j : Int) < (N2 : Int) := by omega
                  have Hhc := Lib.hid hc
                  clear hc
                  have Hhd := Lib.hid hd
                  clear hd
                  clear hA hB hop kk hbl q0 q1 q2 q3 q4
                  go_wp2_with fail
                  refine (DO).mono ?_
                  rintro e x2 ⟨rfl, hA2, hk2⟩
                  clear DO p0 p1 p2 p3 p4
                  obtain ⟨hB1, hbl⟩ := HB.out
                  have hB2 := hB1.keeps hk2 (fun b hb ha => HS.out b ha hb)
                  have hbl2 := Below.kp2 hbl hk2 HFA.out
                  have hc2 := Hhc.out.keeps hk2 (fun b h => HS2.out b h)
                  clear Hhc
                  have Hhc := Lib.hid hc2
                  clear hc2
                  have hd2 := Hhd.out.keeps hk2 (fun b h => HS4.out b h)
                  clear Hhd
                  have Hhd := Lib.hid hd2
                  clear hd2
                  obtain ⟨q0, q1, q2, q3, q4⟩ := HQ.out
                  have p0 := (hbl2.cell (p := ⟨b, off + j * 5, none⟩) hb).trans q0
                  have p1 := (hbl2.cell (p := ⟨b, off + j * 5 + 1, none⟩) hb).trans q1
                  have p2 := (hbl2.cell (p := ⟨b, off + j * 5 + 2, none⟩) hb).trans q2
                  have p3 := (hbl2.cell (p := ⟨b, off + j * 5 + 3, none⟩) hb).trans q3
                  have p4 := (hbl2.cell (p := ⟨b, off + j * 5 + 4, none⟩) hb).trans q4
                  have RDO := rdo_any B D o pv x2 hB2 (fun b => b < w.heap.size) HFB.out (HOP.out.keeps (Keeps.of_below (F := fun _ => False) hbl2) (fun _ _ _ h => h))
                  have HA2 := Lib.hid (And.intro hA2 hbl2)
                  clear hB1 hbl hB2 hbl2 hA2 hk2 HB q0 q1 q2 q3 q4
                  go_wp2_with fail
                  refine (RDO).mono ?_
                  rintro e x3 ⟨rfl, hB3, hk3⟩
                  clear RDO p0 p1 p2 p3 p4
                  obtain ⟨hA2, hbl2⟩ := HA2.out
                  have hA3 := Lib.hid (hA2.keeps hk3 (fun b ha hb => HS.out b ha hb))
                  have hbl3 := Lib.hid (Below.kp2 hbl2 hk3 HFB.out)
                  have hB4 := Lib.hid hB3
                  have hc2 := Hhc.out.keeps hk3 (fun b h => HS3.out b h)
                  clear Hhc
                  have Hhc := Lib.hid hc2
                  clear hc2
                  have hd2 := Hhd.out.keeps hk3 (fun b h => HS5.out b h)
                  clear Hhd
                  have Hhd := Lib.hid hd2
                  clear hd2
                  clear hA2 hbl2 HA2 hB3 hk3
                  go_wp2_with fail
                  go_roundw
                  case rel => exact ⟨j + 1, _, by omega, by go_num, hA3.out, hB4.out, hbl3.out, Hhc.out, Hhd.out⟩
                  case measure => simp [intOf]; omega
                · have he : j = N2 := by omega
                  subst he
                  have HK4 := Lib.hid (And.intro hc (And.intro hd (And.intro hA (And.intro hB hbl))))
                  clear hc hd hA hB hbl HK3
                  generalize D = D2 at HK4
                  go_wp2_with fail
                  go_loopw [17] (fun i wr => ∃ (j : Nat) (D : Dk), j ≤ N3 ∧ i = .int .i64 j ∧ DskAt wr A' D ∧ RefAt wr B' D ∧ Below w.heap.size w wr ∧ DskAt wr A D2 ∧ RefAt wr B D2) (fun i _ => N3 - (intOf i).toNat)
                  case atStart => exact ⟨0, D1, Nat.zero_le _, rfl, HK4.out.1, HK4.out.2.1, HK4.out.2.2.2.2, HK4.out.2.2.1, HK4.out.2.2.2.1⟩
                  case round =>
                    obtain ⟨j, D, hj, rfl, hA, hB, hbl, hc, hd⟩ := hrel
                    by_cases hlt : j < N3
                    · obtain ⟨b, off, o, pv, rfl, hb, q0, q1, q2, q3, q4, hop⟩ := HAT3.out j hlt
                      have kk := Keeps.of_below (F := fun _ => False) hbl
                      have p0 := (hbl.cell (p := ⟨b, off + j * 5, none⟩) hb).trans q0
                      have p1 := (hbl.cell (p := ⟨b, off + j * 5 + 1, none⟩) hb).trans q1
                      have p2 := (hbl.cell (p := ⟨b, off + j * 5 + 2, none⟩) hb).trans q2
                      have p3 := (hbl.cell (p := ⟨b, off + j * 5 + 3, none⟩) hb).trans q3
                      have p4 := (hbl.cell (p := ⟨b, off + j * 5 + 4, none⟩) hb).trans q4
                      have DO := do_any A' D o pv wr hA (fun b => b < w.heap.size) HFA'.out (hop.keeps kk (fun _ _ _ h => h))
                      have HB := Lib.hid (And.intro hB hbl)
                      have HOP := Lib.hid hop
                      have HQ := Lib.hid (And.intro q0 (And.intro q1 (And.intro q2 (And.intro q3 q4))))
                      have hj0 : (0 : Int) ≤ (j : Int) := Int.natCast_nonneg _
                      have hj1 : (j : Int) < (N3 : Int) := by omega
                      have Hhc := Lib.hid hc
                      clear hc
                      have Hhd := Lib.hid hd
                      clear hd
                      clear hA hB hop kk hbl q0 q1 q2 q3 q4
                      go_wp2_with fail
                      refine (DO).mono ?_
                      rintro e x2 ⟨rfl, hA2, hk2⟩
                      clear DO p0 p1 p2 p3 p4
                      obtain ⟨hB1, hbl⟩ := HB.out
                      have hB2 := hB1.keeps hk2 (fun b hb ha => HS1.out b ha hb)
                      have hbl2 := Below.kp2 hbl hk2 HFA'.out
                      have hc2 := Hhc.out.keeps hk2 (fun b h e => HS2.out b e h)
                      clear Hhc
                      have Hhc := Lib.hid hc2
                      clear hc2
                      have hd2 := Hhd.out.keeps hk2 (fun b h e => HS3.out b e h)
                      clear Hhd
                      have Hhd := Lib.hid hd2
                      clear hd2
                      obtain ⟨q0, q1, q2, q3, q4⟩ := HQ.out
                      have p0 := (hbl2.cell (p := ⟨b, off + j * 5, none⟩) hb).trans q0
                      have p1 := (hbl2.cell (p := ⟨b, off + j * 5 + 1, none⟩) hb).trans q1
                      have p2 := (hbl2.cell (p := ⟨b, off + j * 5 + 2, none⟩) hb).trans q2
                      have p3 := (hbl2.cell (p := ⟨b, off + j * 5 + 3, none⟩) hb).trans q3
                      have p4 := (hbl2.cell (p := ⟨b, off + j * 5 + 4, none⟩) hb).trans q4
                      have RDO := rdo_any B' D o pv x2 hB2 (fun b => b < w.heap.size) HFB'.out (HOP.out.keeps (Keeps.of_below (F := fun _ => False) hbl2) (fun _ _ _ h => h))
                      have HA2 := Lib.hid (And.intro hA2 hbl2)
                      clear hB1 hbl hB2 hbl2 hA2 hk2 HB q0 q1 q2 q3 q4
                      go_wp2_with fail
                      refine (RDO).mono ?_
                      rintro e x3 ⟨rfl, hB3, hk3⟩
                      clear RDO p0 p1 p2 p3 p4
                      obtain ⟨hA2, hbl2⟩ := HA2.out
                      have hA3 := Lib.hid (hA2.keeps hk3 (fun b ha hb => HS1.out b ha hb))
                      have hbl3 := Lib.hid (Below.kp2 hbl2 hk3 HFB'.out)
                      have hB4 := Lib.hid hB3
                      have hc2 := Hhc.out.keeps hk3 (fun b h e => HS4.out b e h)
                      clear Hhc
                      have Hhc := Lib.hid hc2
                      clear hc2
                      have hd2 := Hhd.out.keeps hk3 (fun b h e => HS5.out b e h)
                      clear Hhd
                      have Hhd := Lib.hid hd2
                      clear hd2
                      clear hA2 hbl2 HA2 hB3 hk3
                      go_wp2_with fail
                      go_roundw
                      case rel => exact ⟨j + 1, _, by omega, by go_num, hA3.out, hB4.out, hbl3.out, Hhc.out, Hhd.out⟩
                      case measure => simp [intOf]; omega
                    · have he : j = N3 := by omega
                      subst he
                      have SA := same_any A B D2 wr hc hd
                      have HK5 := Lib.hid (And.intro hc (And.intro hd (And.intro hA (And.intro hB hbl))))
                      clear hc hd hA hB hbl HK4
                      go_wp2_with fail
                      refine (SA).mono ?_
                      rintro e z1 ⟨rfl, hb1⟩
                      clear SA
                      obtain ⟨hc, hd, hA, hB, hbl⟩ := HK5.out
                      have k1 := Keeps.of_below (F := fun _ => False) hb1
                      have SA := same_any A' B' D z1 (hA.keeps k1 (fun _ _ h => h)) (hB.keeps k1 (fun _ _ h => h))
                      have HB := Lib.hid (hbl.trans (hb1.mono hbl.size))
                      clear hc hd hA hB hbl HK5 k1 hb1
                      go_wp2_with fail
                      refine (SA).mono ?_
                      rintro e z2 ⟨rfl, hb2⟩
                      clear SA
                      go_wp2_with fail
                      go_ret
                      exact ⟨rfl, HB.out.trans (hb2.mono HB.out.size)⟩
end Go.Proofs.Ytdanhfanepmhkaa
