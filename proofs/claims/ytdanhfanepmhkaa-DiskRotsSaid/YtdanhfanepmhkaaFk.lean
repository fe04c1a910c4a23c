/- The walk of Tears. -/
import Derived.Test.YtdanhfanepmhkaaFj
namespace Go.Proofs.Ytdanhfanepmhkaa
open Go.RowKit Go.Maps Go.Sort

theorem mix_extract64 {u t : ByteArray} (ht : t.size = 64) : u.extract 0 64 = mix 64 u t := by
  rw [← mix_extract ht]; simp
theorem stepD_len (D : Dk) : D.stepD.S.length = D.S.length := by rw [(stepD_S D).1]
theorem do_len (D : Dk) (o : Opv) : (D.doD o).S.length = D.S.length := by
  unfold Dk.doD
  split
  · unfold Dk.writeD
    split
    · rfl
    · split
      · rfl
      · split
        · exact stepD_len D
        · exact stepD_len D
  · split
    · unfold Dk.flushD
      split
      · rfl
      · split
        · exact stepD_len D
        · rw [settles_len]; exact stepD_len D
    · split
      · rfl
      · split
        · exact mount_len D _
        · split
          · unfold Dk.rotD
            split
            · simp
            · rfl
          · split
            · unfold Dk.wear
              split <;> rfl
            · rfl

set_option maxRecDepth 100000 in
set_option maxHeartbeats 16000000 in
theorem tears_any (n : Int) (ov pv : Value) (N : Nat) (picks : List Int) (w : World) (hov : OpsRd w ov N) (hpk : Rd w (fun b => b < w.heap.size) 1 pv picks.length (ints picks)) :
    Calls Try.prog 6 #[.int .i64 n, ov, pv] w fun e w' => e = .returned (.bool true) ∧ Below w.heap.size w w' := by
  obtain ⟨oa, oc, rfl, hN, hat⟩ := hov
  obtain ⟨pa, pc, rfl, hpm, hpat⟩ := hpk.int
  have HAT := Lib.hid hat; have HPK := Lib.hid hpk; have HPAT := Lib.hid hpat
  clear hat hpk hpat
  by_cases hn : n < 1 ∨ 64 < n
  · rcases hn with h | h
    · go_enter Try.func6, Try.ntmps6
      go_wp2_with fail
      refine (sanity_any w).mono ?_
      rintro e w1 ⟨rfl, hB1⟩
      go_wp2_with fail
      refine (start_bad n w1 (.inl h)).mono ?_
      rintro e w2 ⟨rfl, rfl⟩
      go_wp2_with fail
      go_ret
      exact ⟨rfl, hB1⟩
    · have h' : ¬ n < 1 := by omega
      go_enter Try.func6, Try.ntmps6
      go_wp2_with fail
      refine (sanity_any w).mono ?_
      rintro e w1 ⟨rfl, hB1⟩
      go_wp2_with fail
      refine (start_bad n w1 (.inr h)).mono ?_
      rintro e w2 ⟨rfl, rfl⟩
      go_wp2_with fail
      go_ret
      exact ⟨rfl, hB1⟩
  · obtain ⟨k, rfl⟩ : ∃ k : Nat, n = k := ⟨n.toNat, by omega⟩
    have hk1 : 1 ≤ k := by omega
    have hk64 : k ≤ 64 := by omega
    have ST := fun w1 => start_any k w1 (by omega) (by omega)
    by_cases g1 : (60 : Int) < (N : Int)
    · go_enter Try.func6, Try.ntmps6
      go_wp2_with fail
      refine (sanity_any w).mono ?_
      rintro e w1 ⟨rfl, hB1⟩
      go_wp2_with fail
      refine (ST w1).mono ?_
      rintro e w2 ⟨A, B, rfl, _, _, _, _, _, hb2⟩
      go_wp2_with fail
      go_ret
      exact ⟨rfl, hB1.trans (hb2.mono hB1.size)⟩
    · skip
      go_enter Try.func6, Try.ntmps6
      go_wp2_with fail
      refine (sanity_any w).mono ?_
      rintro e w1 ⟨rfl, hB1⟩
      go_wp2_with fail
      refine (ST w1).mono ?_
      rintro e w2 ⟨A, B, rfl, hA, hB, hAB, hFA, hFB, hb2⟩
      clear ST
      have HS := Lib.hid hAB
      have HFA := Lib.hid (show ∀ b, b < w.heap.size → ¬ A.F b from fun b h e => by have := hFA b e; have := hB1.size; omega)
      have HFB := Lib.hid (show ∀ b, b < w.heap.size → ¬ B.F b from fun b h e => by have := hFB b e; have := hB1.size; omega)
      have HW := Lib.hid (And.intro hA (And.intro hB (hB1.trans (hb2.mono hB1.size))))
      clear hA hB hAB hFA hFB hB1 hb2
      go_wp2_with fail
      go_loopw [11] (fun i wr => ∃ (j : Nat) (D : Dk), j ≤ N ∧ i = .int .i64 j ∧ DskAt wr A D ∧ RefAt wr B D ∧ Below w.heap.size w wr ∧ D.S.length = k) (fun i _ => N - (intOf i).toNat)
      case atStart => exact ⟨0, _, Nat.zero_le _, rfl, HW.out.1, HW.out.2.1, HW.out.2.2, by simp [newD]⟩
      case round =>
        obtain ⟨j, D, hj, rfl, hA, hB, hbl, hlen⟩ := hrel
        by_cases hlt : j < N
        · obtain ⟨b, off, o, pv, rfl, hb, q0, q1, q2, q3, q4, hop⟩ := HAT.out j hlt
          have kk := Keeps.of_below (F := fun _ => False) hbl
          have p0 := (hbl.cell (p := ⟨b, off + j * 5, none⟩) hb).trans q0
          have p1 := (hbl.cell (p := ⟨b, off + j * 5 + 1, none⟩) hb).trans q1
          have p2 := (hbl.cell (p := ⟨b, off + j * 5 + 2, none⟩) hb).trans q2
          have p3 := (hbl.cell (p := ⟨b, off + j * 5 + 3, none⟩) hb).trans q3
          have p4 := (hbl.cell (p := ⟨b, off + j * 5 + 4, none⟩) hb).trans q4
          have DO := do_any A D o pv wr hA (fun b => b < w.heap.size) HFA.out (hop.keeps kk (fun _ _ _ h => h))
          have HB := Lib.hid (And.intro hB hbl)
          have HOP := Lib.hid hop
          have HQ := Lib.hid (And.intro q0 (And.intro q1 (And.intro q2 (And.intro q3 q4))))
          have hj0 : (0 : Int) ≤ (j : Int) := Int.natCast_nonneg _
          have hj1 : (j : Int) < (N : Int) := by omega
          clear hA hB hop kk hbl q0 q1 q2 q3 q4
          go_wp2_with fail
          refine (DO).mono ?_
          rintro e x2 ⟨rfl, hA2, hk2⟩
          clear DO p0 p1 p2 p3 p4
          obtain ⟨hB1, hbl⟩ := HB.out
          have hB2 := hB1.keeps hk2 (fun b hb ha => HS.out b ha hb)
          have hbl2 := Below.kp2 hbl hk2 HFA.out
          obtain ⟨q0, q1, q2, q3, q4⟩ := HQ.out
          have p0 := (hbl2.cell (p := ⟨b, off + j * 5, none⟩) hb).trans q0
          have p1 := (hbl2.cell (p := ⟨b, off + j * 5 + 1, none⟩) hb).trans q1
          have p2 := (hbl2.cell (p := ⟨b, off + j * 5 + 2, none⟩) hb).trans q2
          have p3 := (hbl2.cell (p := ⟨b, off + j * 5 + 3, none⟩) hb).trans q3
          have p4 := (hbl2.cell (p := ⟨b, off + j * 5 + 4, none⟩) hb).trans q4
          have RDO := rdo_any B D o pv x2 hB2 (fun b => b < w.heap.size) HFB.out (HOP.out.keeps (Keeps.of_below (F := fun _ => False) hbl2) (fun _ _ _ h => h))
          have HA2 := Lib.hid (And.intro hA2 hbl2)
          clear hB1 hbl hB2 hbl2 hA2 hk2 HB q0 q1 q2 q3 q4
          go_wp2_with fail
          refine (RDO).mono ?_
          rintro e x3 ⟨rfl, hB3, hk3⟩
          clear RDO p0 p1 p2 p3 p4
          obtain ⟨hA2, hbl2⟩ := HA2.out
          have hA3 := Lib.hid (hA2.keeps hk3 (fun b ha hb => HS.out b ha hb))
          have hbl3 := Lib.hid (Below.kp2 hbl2 hk3 HFB.out)
          have hB4 := Lib.hid hB3
          clear hA2 hbl2 HA2 hB3 hk3
          go_wp2_with fail
          go_roundw
          case rel => exact ⟨j + 1, _, by omega, by go_num, hA3.out, hB4.out, hbl3.out, (do_len D o).trans hlen⟩
          case measure => simp [intOf]; omega
        · have he : j = N := by omega
          subst he
          have IM := image_any A D wr hA
          have HX := Lib.hid (And.intro hA (And.intro hB hbl))
          have HAL := Lib.hid (fun b (h : A.F b) => hA.ltF h)
          have hok := hB.ok
          have HOK := Lib.hid hok
          clear hA hB hbl HW hok
          go_wp2_with fail
          refine (IM).mono ?_
          rintro e x1 ⟨v12, rfl, hr12, hb1⟩
          clear IM
          have k1 := Keeps.of_below (F := fun _ => False) hb1
          have HX1 := Lib.hid (And.intro (HX.out.1.keeps k1 (fun _ _ h => h)) (And.intro (HX.out.2.1.keeps k1 (fun _ _ h => h)) (Below.kp2 HX.out.2.2 k1 (fun _ _ h => h))))
          have kw : Keeps (fun b => w.heap.size ≤ b) w x1 := ⟨HX1.out.2.2.os, HX1.out.2.2.tape, HX1.out.2.2.output, HX1.out.2.2.size, fun b hb _ => HX1.out.2.2.block b hb⟩
          have MO := mount_any A D x1 HX1.out.1 (fun b => b < w.heap.size) HFA.out _ picks (HPK.out.keeps kw (fun b hb _ h => by omega))
          have HR12 := Lib.hid hr12
          clear HX k1 hb1 kw hr12
          go_wp2_with fail
          refine (MO).mono ?_
          rintro e x2 ⟨rfl, hA2, hk2⟩
          clear MO
          have IM := image_any A (D.mountD picks) x2 hA2
          have HX2 := Lib.hid (And.intro hA2 (And.intro (HX1.out.2.1.keeps hk2 (fun b hb ha => HS.out b ha hb)) (And.intro (Below.kp2 HX1.out.2.2 hk2 HFA.out) (HR12.out.keeps hk2 (fun b _ hb ha => by have := HAL.out b ha; omega)))))
          clear HX1 hA2 hk2 HR12
          go_wp2_with fail
          refine (IM).mono ?_
          rintro e x3 ⟨v13, rfl, hr13, hb3⟩
          clear IM
          have k3 := Keeps.of_below (F := fun _ => False) hb3
          have PE := pending_any A (D.mountD picks) x3 (HX2.out.1.keeps k3 (fun _ _ h => h))
          rw [mount_keys] at PE
          have hr12 := HX2.out.2.2.2.keeps k3 (fun _ _ _ h => h)
          have HR := Lib.hid (And.intro hr12 hr13)
          obtain ⟨a12, c12, rfl, _, _⟩ := hr12.str
          obtain ⟨a13, c13, rfl, _, _⟩ := hr13.str
          have hml : (D.mountD picks).S.length = k := (mount_len D picks).trans hlen
          have HX3 := Lib.hid (And.intro (HX2.out.1.keeps k3 (fun _ _ h => h)) (And.intro (HX2.out.2.1.keeps k3 (fun _ _ h => h)) (Below.kp2 HX2.out.2.2.1 k3 (fun _ _ h => h))))
          clear HX2 k3 hb3 hr12 hr13
          rw [hlen, hml]
          have hkk : ((k : Int) != (k : Int)) = false := by simp
          go_wp2_with fail
          refine (PE).mono ?_
          rintro e x4 ⟨v4, rfl, hr4, hb4⟩
          clear PE
          obtain ⟨a4, c4, rfl, _, _⟩ := Rd.int (xs := []) (Rd_of_owns hr4)
          have k4 := Keeps.of_below (F := fun _ => False) hb4
          have UP := up_any A (D.mountD picks) x4 (HX3.out.1.keeps k4 (fun _ _ h => h))
          rw [show (D.mountD picks).off = false from rfl] at UP
          have HX4 := Lib.hid (And.intro (HX3.out.2.1.keeps k4 (fun _ _ h => h)) (Below.kp2 HX3.out.2.2 k4 (fun _ _ h => h)))
          have HR4 := Lib.hid (And.intro (HR.out.1.keeps k4 (fun _ _ _ h => h)) (HR.out.2.keeps k4 (fun _ _ _ h => h)))
          clear HX3 HR k4 hb4 hr4
          go_wp2_with fail
          refine (UP).mono ?_
          rintro e x5 ⟨rfl, rfl⟩
          clear UP
          go_wp2_with fail
          go_loopw [14, 15, 16, 17, 18] (fun c i _ _ _ wr => ∃ j : Nat, j ≤ k ∧ i = .int .i64 j ∧ c = .int .i64 (keysN j D.P).length ∧ Keeps (fun _ => False) x4 wr) (fun _ i _ _ _ _ => k - (intOf i).toNat)
          case atStart => exact ⟨0, Nat.zero_le _, rfl, rfl, Keeps.refl _ _⟩
          case round =>
            obtain ⟨j, hj, rfl, rfl, hk⟩ := hrel
            by_cases hlt : j < k
            · have hB := HX4.out.1.keeps hk (fun _ _ h => h)
              have hbd := hB.l.ltF B.fd
              have hbg := hB.l.ltF B.fg
              have c0 := hB.box0
              have hjD : j < D.S.length := by omega
              obtain ⟨s, hs⟩ := elem_at hjD
              have hsz := HOK.out.ssz j s hs
              have q0 := hB.row hjD 0 (by omega)
              have q1 := hB.row hjD 1 (by omega)
              have q2 := hB.row hjD 2 (by omega)
              have q3 := hB.row hjD 3 (by omega)
              obtain ⟨a12', c12', e12, _, hat12⟩ := HR4.out.1.str
              obtain ⟨a13', c13', e13, _, hat13⟩ := HR4.out.2.str
              cases e12; cases e13
              obtain ⟨b12, o12, rfl, hl12, _, hc12⟩ := hat12 j s hs
              obtain ⟨b13, o13, rfl, hl13, _, hc13⟩ := hat13 j _ (mount_S D picks hs)
              have p12 := (World.cell?_of_block (hk.block _ hl12 (fun h => h))).trans hc12
              have p13 := (World.cell?_of_block (hk.block _ hl13 (fun h => h))).trans hc13
              have hb12 : b12 < wr.heap.size := Nat.lt_of_lt_of_le hl12 hk.size
              have hb13 : b13 < wr.heap.size := Nat.lt_of_lt_of_le hl13 hk.size
              have hj0 : (0 : Int) ≤ (j : Int) := Int.natCast_nonneg _
              have hj1 : (j : Int) < (k : Int) := by omega
              have hkl := keysN_len j D.P
              have HK := Lib.hid hk; have HSS := Lib.hid hs
              clear hat12 hat13 hc12 hc13 hB
              cases hP : D.P j with
              | none =>
                have er : row D j = ⟨s, ⟨#[]⟩, false, D.W j⟩ := by unfold row; rw [hs, hP]; rfl
                have et : D.tornAt picks j s = s := by unfold Dk.tornAt; rw [hP]
                rw [er] at q0 q1 q2 q3
                rw [et] at p13
                simp [sc] at q0 q1 q2 q3
                have HP := Lib.hid hP
                have hxy : (s.toList == s.toList) = true := by simp
                clear hk hs hP er et
                go_wp2_with fail
                go_roundw
                case rel => exact ⟨j + 1, by omega, by go_num, by rw [keysN_none HP.out], HK.out.alloc _⟩
                case measure => simp [intOf]; omega
              | some u =>
                have hu := HOK.out.psz j u hP
                have er : row D j = ⟨s, u, true, D.W j⟩ := by unfold row; rw [hs, hP]; rfl
                rw [er] at q0 q1 q2 q3
                have HP := Lib.hid hP
                have hks : (keysN (j + 1) D.P).length = (keysN j D.P).length + 1 := by rw [keysN_some hP, List.length_append]; rfl
                have HKS := Lib.hid hks
                obtain ⟨m, hm⟩ : ∃ m : Nat, (m : Int) = max 0 (min (picks.getD (keysN j D.P).length 64) 64) := ⟨(max 0 (min (picks.getD (keysN j D.P).length 64) 64)).toNat, by omega⟩
                have hmz : (m : Int) ≤ 64 := by omega
                have hmu : (m : Int) ≤ (u.size : Int) := by omega
                have hmt : (m : Int) ≤ (s.size : Int) := by omega
                have hm0 : (0 : Int) ≤ (m : Int) := by omega
                have htn : (max 0 (min (picks.getD (keysN j D.P).length 64) 64)).toNat = m := by omega
                have et : D.tornAt picks j s = if D.W j = true then s else mix m u s := by unfold Dk.tornAt; rw [hP]; dsimp only; rw [htn]
                rw [et] at p13
                simp only [sc, List.getElem?_cons_zero, List.getElem?_cons_succ, Nat.add_zero] at q0 q1 q2 q3
                clear hk hs hP er et hks htn
                generalize hcc : (keysN j D.P).length = c at *
                have HC := Lib.hid hcc
                clear hcc
                by_cases hjp : c < picks.length
                · obtain ⟨nn, hnn⟩ := elem_at hjp
                  obtain ⟨b2, off2, rfl, hb3, _, hcell2⟩ := HPAT.out c nn hnn
                  have hbw : Below w.heap.size w wr := Below.kp2 HX4.out.2 HK.out (fun _ _ h => h)
                  have hc4 : wr.cell? ⟨b2, off2 + c, none⟩ = some (.int .i64 nn) := (hbw.cell (p := ⟨b2, off2 + c, none⟩) hb3).trans hcell2
                  have hb2w : b2 < wr.heap.size := Nat.lt_of_lt_of_le hb3 hbw.size
                  have hgd : picks.getD c 64 = nn := by rw [List.getD_eq_getElem?_getD, hnn]; rfl
                  rw [hgd] at hm
                  have HM := Lib.hid hm
                  have hjp0 : (0 : Int) ≤ (c : Int) := Int.natCast_nonneg _
                  have hjp1 : (c : Int) < (picks.length : Int) := by omega
                  clear hcell2 hnn hgd hbw hm
                  by_cases hw0 : D.W j = true
                  · have hw : D.W j = true := by simpa using hw0
                    rw [hw] at q3 p13
                    rw [if_pos rfl] at p13
                    have hxy : (s.toList == s.toList) = true := by simp
                    clear hw hw0
                    go_wp2_with fail
                    go_roundw
                    case rel => exact ⟨j + 1, by omega, by go_num, by rw [HKS.out]; go_num, HK.out.alloc _⟩
                    case measure => simp [intOf]; omega
                  · have hw : D.W j = false := by simpa using hw0
                    rw [hw] at q3 p13
                    rw [if_neg (by simp)] at p13
                    have hxy : ((mix m u s).toList == (mix m u s).toList) = true := by simp
                    clear hw hw0
                    go_wp2_with fail
                    rw [← HM.out]
                    go_region
                    rw [mix_extract hsz]
                    go_wp2_with fail
                    go_roundw
                    case rel => exact ⟨j + 1, by omega, by go_num, by rw [HKS.out]; go_num, (HK.out.alloc _).drew⟩
                    case measure => simp [intOf]; omega
                · have hgd : picks.getD c 64 = 64 := by rw [List.getD_eq_getElem?_getD, List.getElem?_eq_none (by omega)]; rfl
                  rw [hgd] at hm
                  have hm64 : m = 64 := by omega
                  subst hm64
                  have hjp1 : ¬ (c : Int) < (picks.length : Int) := by omega
                  clear hgd hm
                  by_cases hw0 : D.W j = true
                  · have hw : D.W j = true := by simpa using hw0
                    rw [hw] at q3 p13
                    rw [if_pos rfl] at p13
                    have hxy : (s.toList == s.toList) = true := by simp
                    clear hw hw0
                    go_wp2_with fail
                    go_roundw
                    case rel => exact ⟨j + 1, by omega, by go_num, by rw [HKS.out]; go_num, HK.out.alloc _⟩
                    case measure => simp [intOf]; omega
                  · have hw : D.W j = false := by simpa using hw0
                    rw [hw] at q3 p13
                    rw [if_neg (by simp)] at p13
                    have hxy : ((mix 64 u s).toList == (mix 64 u s).toList) = true := by simp
                    clear hw hw0
                    go_wp2_with fail
                    go_region
                    rw [mix_extract64 (u := u) hsz]
                    go_wp2_with fail
                    go_roundw
                    case rel => exact ⟨j + 1, by omega, by go_num, by rw [HKS.out]; go_num, (HK.out.alloc _).drew⟩
                    case measure => simp [intOf]; omega
            · have HB := Lib.hid (Below.kp2 HX4.out.2 hk (fun _ _ h => h))
              have hj' : ¬ (j : Int) < (k : Int) := by omega
              clear hk
              go_wp2_with fail
              go_ret
              exact ⟨rfl, HB.out⟩
end Go.Proofs.Ytdanhfanepmhkaa
