/- The walk of Rots. -/
import Derived.Test.YtdanhfanepmhkaaFl
import Derived.BigQuiet
namespace Go.Proofs.Ytdanhfanepmhkaa
open Go.RowKit Go.Maps Go.Sort

theorem w64_byte (x : UInt8) : wrap64 (x.toNat : Int) = (x.toNat : Int) := by
  have := x.toNat_lt
  unfold wrap64; omega

set_option maxRecDepth 100000 in
set_option maxHeartbeats 16000000 in
theorem rots_any (n : Int) (ov : Value) (N : Nat) (i bt : Int) (w : World) (hov : OpsRd w ov N) :
    Calls Try.prog 7 #[.int .i64 n, ov, .int .i64 i, .int .i64 bt] w fun e w' => e = .returned (.bool true) ∧ Below w.heap.size w w' := by
  obtain ⟨oa, oc, rfl, hN, hat⟩ := hov
  have HAT := Lib.hid hat
  clear hat
  by_cases hn : n < 1 ∨ 64 < n
  · rcases hn with h | h
    · go_enter Try.func7, Try.ntmps7
      go_wp2_with fail
      refine (sanity_any w).mono ?_
      rintro e w1 ⟨rfl, hB1⟩
      go_wp2_with fail
      refine (start_bad n w1 (.inl h)).mono ?_
      rintro e w2 ⟨rfl, rfl⟩
      go_wp2_with fail
      go_ret
      exact ⟨rfl, hB1⟩
    · have h' : ¬ n < 1 := by omega
      go_enter Try.func7, Try.ntmps7
      go_wp2_with fail
      refine (sanity_any w).mono ?_
      rintro e w1 ⟨rfl, hB1⟩
      go_wp2_with fail
      refine (start_bad n w1 (.inr h)).mono ?_
      rintro e w2 ⟨rfl, rfl⟩
      go_wp2_with fail
      go_ret
      exact ⟨rfl, hB1⟩
  · obtain ⟨k, rfl⟩ : ∃ k : Nat, n = k := ⟨n.toNat, by omega⟩
    have hk1 : 1 ≤ k := by omega
    have hk64 : k ≤ 64 := by omega
    have ST := fun w1 => start_any k w1 (by omega) (by omega)
    by_cases g1 : (60 : Int) < (N : Int)
    · go_enter Try.func7, Try.ntmps7
      go_wp2_with fail
      refine (sanity_any w).mono ?_
      rintro e w1 ⟨rfl, hB1⟩
      go_wp2_with fail
      refine (ST w1).mono ?_
      rintro e w2 ⟨A, B, rfl, _, _, _, _, _, hb2⟩
      go_wp2_with fail
      go_ret
      exact ⟨rfl, hB1.trans (hb2.mono hB1.size)⟩
    · skip
      go_enter Try.func7, Try.ntmps7
      go_wp2_with fail
      refine (sanity_any w).mono ?_
      rintro e w1 ⟨rfl, hB1⟩
      go_wp2_with fail
      refine (ST w1).mono ?_
      rintro e w2 ⟨A, B, rfl, hA, hB, hAB, hFA, hFB, hb2⟩
      clear ST
      have HFA := Lib.hid (show ∀ b, b < w.heap.size → ¬ A.F b from fun b h e => by have := hFA b e; have := hB1.size; omega)
      have HW := Lib.hid (And.intro hA (hB1.trans (hb2.mono hB1.size)))
      clear hA hB hAB hFA hFB hB1 hb2
      go_wp2_with fail
      go_loopw [13] (fun i wr => ∃ (j : Nat) (D : Dk), j ≤ N ∧ i = .int .i64 j ∧ DskAt wr A D ∧ Below w.heap.size w wr ∧ D.S.length = k) (fun i _ => N - (intOf i).toNat)
      case atStart => exact ⟨0, _, Nat.zero_le _, rfl, HW.out.1, HW.out.2, by simp [newD]⟩
      case round =>
        obtain ⟨j, D, hj, rfl, hA, hbl, hlen⟩ := hrel
        clear HW
        by_cases hlt : j < N
        · obtain ⟨b, off, o, pv, rfl, hb, q0, q1, q2, q3, q4, hop⟩ := HAT.out j hlt
          have kk := Keeps.of_below (F := fun _ => False) hbl
          have p0 := (hbl.cell (p := ⟨b, off + j * 5, none⟩) hb).trans q0
          have p1 := (hbl.cell (p := ⟨b, off + j * 5 + 1, none⟩) hb).trans q1
          have p2 := (hbl.cell (p := ⟨b, off + j * 5 + 2, none⟩) hb).trans q2
          have p3 := (hbl.cell (p := ⟨b, off + j * 5 + 3, none⟩) hb).trans q3
          have p4 := (hbl.cell (p := ⟨b, off + j * 5 + 4, none⟩) hb).trans q4
          have DO := do_any A D o pv wr hA (fun b => b < w.heap.size) HFA.out (hop.keeps kk (fun _ _ _ h => h))
          have HB := Lib.hid hbl
          have HL := Lib.hid hlen
          have hj0 : (0 : Int) ≤ (j : Int) := Int.natCast_nonneg _
          have hj1 : (j : Int) < (N : Int) := by omega
          clear hA hop kk hbl q0 q1 q2 q3 q4 hlen
          go_wp2_with fail
          refine (DO).mono ?_
          rintro e x2 ⟨rfl, hA2, hk2⟩
          clear DO p0 p1 p2 p3 p4
          have HA2 := Lib.hid (And.intro hA2 (Below.kp2 HB.out hk2 HFA.out))
          clear hA2 hk2 HB
          go_wp2_with fail
          go_roundw
          case rel => exact ⟨j + 1, _, by omega, by go_num, HA2.out.1, HA2.out.2, (do_len D o).trans HL.out⟩
          case measure => simp [intOf]; omega
        · have he : j = N := by omega
          subst he
          have IM := image_any A D wr hA
          have HX := Lib.hid (And.intro hA hbl)
          have HAL := Lib.hid (fun b (h : A.F b) => hA.ltF h)
          have HOK := Lib.hid hA.ok
          clear hA hbl
          go_wp2_with fail
          refine (IM).mono ?_
          rintro e x1 ⟨v14, rfl, hr14, hb1⟩
          clear IM
          have k1 := Keeps.of_below (F := fun _ => False) hb1
          have RO := rot_any A D i bt x1 (HX.out.1.keeps k1 (fun _ _ h => h))
          have HB1 := Lib.hid (Below.kp2 HX.out.2 k1 (fun _ _ h => h))
          have HR14 := Lib.hid hr14
          clear HX k1 hb1 hr14
          go_wp2_with fail
          refine (RO).mono ?_
          rintro e x2 ⟨rfl, hA2, hk2⟩
          clear RO
          obtain ⟨D1, hD1⟩ : ∃ D1, D1 = D.rotD i bt := ⟨_, rfl⟩
          rw [← hD1] at hA2
          have IM := image_any A D1 x2 hA2
          have HX2 := Lib.hid (And.intro hA2 (And.intro (Below.kp2 HB1.out hk2 HFA.out) (HR14.out.keeps hk2 (fun b _ hb ha => by have := HAL.out b ha; omega))))
          have HAL2 := Lib.hid (fun b (h : A.F b) => hA2.ltF h)
          have HD1 := Lib.hid hD1
          clear HB1 HR14 hA2 hk2 hD1
          go_wp2_with fail
          refine (IM).mono ?_
          rintro e x3 ⟨v16, rfl, hr16, hb3⟩
          clear IM
          have k3 := Keeps.of_below (F := fun _ => False) hb3
          have RO := rot_any A D1 i bt x3 (HX2.out.1.keeps k3 (fun _ _ h => h))
          have HX3 := Lib.hid (And.intro (Below.kp2 HX2.out.2.1 k3 (fun _ _ h => h)) (And.intro (HX2.out.2.2.keeps k3 (fun _ _ _ h => h)) hr16))
          clear HX2 k3 hb3 hr16
          go_wp2_with fail
          refine (RO).mono ?_
          rintro e x4 ⟨rfl, hA4, hk4⟩
          clear RO
          obtain ⟨D2, hD2⟩ : ∃ D2, D2 = D1.rotD i bt := ⟨_, rfl⟩
          rw [← hD2] at hA4
          have IM := image_any A D2 x4 hA4
          have HX4 := Lib.hid (And.intro (Below.kp2 HX3.out.1 hk4 HFA.out) (And.intro (HX3.out.2.1.keeps hk4 (fun b _ hb ha => by have := HAL.out b ha; omega)) (HX3.out.2.2.keeps hk4 (fun b _ hb ha => by have := HAL2.out b ha; omega))))
          have HD2 := Lib.hid hD2
          clear HX3 hA4 hk4 hD2
          go_wp2_with fail
          refine (IM).mono ?_
          rintro e x5 ⟨v18, rfl, hr18, hb5⟩
          clear IM
          have k5 := Keeps.of_below (F := fun _ => False) hb5
          have R14 := HX4.out.2.1.keeps k5 (fun _ _ _ h => h)
          have SM := sameTexts_any v14 v18 D.S D2.S x5 _ _ R14 hr18
          have HX5 := Lib.hid (And.intro (Below.kp2 HX4.out.1 k5 (fun _ _ h => h)) (And.intro R14 (HX4.out.2.2.keeps k5 (fun _ _ _ h => h))))
          clear HX4 k5 hb5 hr18 R14
          go_wp2_with fail
          refine (SM).mono ?_
          rintro e x6 ⟨rfl, hb6⟩
          clear SM
          have k6 := Keeps.of_below (F := fun _ => False) hb6
          have HX6 := Lib.hid (And.intro (Below.kp2 HX5.out.1 k6 (fun _ _ h => h)) (And.intro (HX5.out.2.1.keeps k6 (fun _ _ _ h => h)) (HX5.out.2.2.keeps k6 (fun _ _ _ h => h))))
          clear HX5 k6 hb6
          by_cases hin : D.inB i = true ∧ 0 ≤ bt ∧ bt < 512
          · obtain ⟨h1, h3, h4⟩ := hin
            obtain ⟨ii, rfl, hii⟩ := inB_nat h1
            obtain ⟨q, rfl⟩ : ∃ q : Nat, bt = q := ⟨bt.toNat, by omega⟩
            obtain ⟨s, hs⟩ := elem_at hii
            have hsz := HOK.out.ssz ii s hs
            have hq8 : q / 8 < 64 := by omega
            have e1 : D.rotE ii q = 0 := by unfold Dk.rotE; rw [if_pos ⟨h1, h3, h4⟩]
            have d1 : D1.S = D.S.set ii (flip q s) := by
              rw [HD1.out]; unfold Dk.rotD; rw [if_pos ⟨h1, h3, h4⟩]
              simp only [Int.toNat_natCast, hs, Option.getD_some]
            have l1 : D1.S.length = k := by rw [d1, List.length_set]; exact hlen
            have h1' : D1.inB ii = true := inB_iff.2 ⟨by omega, by rw [l1]; omega⟩
            have s1 : D1.S[ii]? = some (flip q s) := by rw [d1, List.getElem?_set_self hii]
            have e2 : D1.rotE ii q = 0 := by unfold Dk.rotE; rw [if_pos ⟨h1', h3, h4⟩]
            have d2 : D2.S = D.S := by
              rw [HD2.out]; unfold Dk.rotD; rw [if_pos ⟨h1', h3, h4⟩]
              simp only [Int.toNat_natCast, s1, Option.getD_some]
              rw [flip_flip, d1, List.set_set]
              exact set_same hs
            rw [e1, e2, show decide (D.S = D2.S) = true from decide_eq_true d2.symm]
            obtain ⟨a14, c14, rfl, _, hat14⟩ := HX6.out.2.1.str
            obtain ⟨a16, c16, rfl, _, hat16⟩ := HX6.out.2.2.str
            rw [hlen, l1]
            have H14 := Lib.hid hat14; have H16 := Lib.hid hat16; have HDS := Lib.hid (And.intro d1 (And.intro s1 hs))
            have hiik : ii < k := by omega
            have hkk : ((k : Int) != (k : Int)) = false := by simp
            have hi0 : ¬ (ii : Int) < 0 := by omega
            have hi1 : ¬ (k : Int) ≤ (ii : Int) := by omega
            have hi2 : ¬ (q : Int) < 0 := by omega
            have hi3 : ¬ (511 : Int) < (q : Int) := by omega
            clear hat14 hat16 d1 s1 hs e1 e2 d2 l1 h1 h1' HD1 HD2
            go_wp2_with fail
            go_loopw [19] (fun i wr => ∃ j : Nat, j ≤ k ∧ i = .int .i64 j ∧ Keeps (fun _ => False) x6 wr) (fun i _ => k - (intOf i).toNat)
            case atStart => exact ⟨0, Nat.zero_le _, rfl, Keeps.refl _ _⟩
            case round =>
              obtain ⟨j, hj, rfl, hk⟩ := hrel
              by_cases hlt : j < k
              · have hj0 : (0 : Int) ≤ (j : Int) := Int.natCast_nonneg _
                have hj1 : (j : Int) < (k : Int) := by omega
                by_cases e : j = ii
                · subst e
                  obtain ⟨b1, o1, rfl, hl1, _, hc1⟩ := H14.out j s HDS.out.2.2
                  obtain ⟨b2, o2, rfl, hl2, _, hc2⟩ := H16.out j _ HDS.out.2.1
                  have p1 := (World.cell?_of_block (hk.block _ hl1 (fun h => h))).trans hc1
                  have p2 := (World.cell?_of_block (hk.block _ hl2 (fun h => h))).trans hc2
                  have hne : (s.toList == (flip q s).toList) = false := bytes_ne (fun e => flip_neS q s (by omega) e.symm)
                  have hz : (((flip q s).size : Int) != 64) = false := by rw [flip_size, hsz]; rfl
                  have HK := Lib.hid hk
                  clear hk hc1 hc2
                  generalize flip q s = t at *
                  go_wp2_with fail
                  go_quiet (fail)
                  go_wp2_with fail
                  go_roundw
                  case rel => exact ⟨j + 1, by omega, by go_num, HK.out.dn _⟩
                  case measure => simp [intOf]; omega
                · obtain ⟨t, ht⟩ := elem_at (show j < D.S.length by omega)
                  have ht1 : D1.S[j]? = some t := by rw [HDS.out.1, List.getElem?_set_ne (Ne.symm e)]; exact ht
                  obtain ⟨b1, o1, rfl, hl1, _, hc1⟩ := H14.out j t ht
                  obtain ⟨b2, o2, rfl, hl2, _, hc2⟩ := H16.out j t ht1
                  have p1 := (World.cell?_of_block (hk.block _ hl1 (fun h => h))).trans hc1
                  have p2 := (World.cell?_of_block (hk.block _ hl2 (fun h => h))).trans hc2
                  have hne : (t.toList == t.toList) = true := by simp
                  have hji : ((j : Int) == (ii : Int)) = false := beq_eq_false_iff_ne.2 (by omega)
                  have htz := HOK.out.ssz j t ht
                  have hz : ((t.size : Int) != 64) = false := by rw [htz]; rfl
                  have HK := Lib.hid hk
                  clear hk hc1 hc2 ht ht1 e
                  go_wp2_with fail
                  go_quiet (fail)
                  go_wp2_with fail
                  go_roundw
                  case rel => exact ⟨j + 1, by omega, by go_num, HK.out.dn _⟩
                  case measure => simp [intOf]; omega
              · have hj' : ¬ (j : Int) < (k : Int) := by omega
                obtain ⟨b1, o1, rfl, hl1, _, hc1⟩ := H14.out ii s HDS.out.2.2
                obtain ⟨b2, o2, rfl, hl2, _, hc2⟩ := H16.out ii _ HDS.out.2.1
                have p1 := (World.cell?_of_block (hk.block _ hl1 (fun h => h))).trans hc1
                have p2 := (World.cell?_of_block (hk.block _ hl2 (fun h => h))).trans hc2
                have HBW := Lib.hid (Below.kp2 HX6.out.1 hk (fun _ _ h => h))
                have hlt1 := World.block_lt_of_cell? _ _ p1
                have hlt2 := World.block_lt_of_cell? _ _ p2
                clear hc1 hc2 hl1 hl2 hk
                go_wp2_with fail
                go_loopw [20, 21] (fun i _ wr2 => ∃ b : Nat, b ≤ 64 ∧ i = .int .i64 b ∧ Keeps (fun _ => False) wr wr2) (fun i _ _ => 64 - (intOf i).toNat)
                case atStart => exact ⟨0, Nat.zero_le _, rfl, Keeps.refl _ _⟩
                case round =>
                  obtain ⟨b, hb, rfl, hk2⟩ := hrel
                  by_cases hb64 : b < 64
                  · have hbs : b < s.size := by omega
                    have tsz : (flip q s).size = 64 := by rw [flip_size]; exact hsz
                    have hbt2 : b < (flip q s).size := by omega
                    have r1 := (World.cell?_of_block (hk2.block _ hlt1 (fun h => h))).trans p1
                    have r2 := (World.cell?_of_block (hk2.block _ hlt2 (fun h => h))).trans p2
                    have hb0 : (0 : Int) ≤ (b : Int) := Int.natCast_nonneg _
                    have hb1 : (b : Int) < 64 := by omega
                    have hb2 : (b : Int) < (s.size : Int) := by omega
                    have hb3 : (b : Int) < ((flip q s).size : Int) := by omega
                    have HK2 := Lib.hid hk2
                    clear hk2
                    by_cases e : q / 8 = b
                    · have hX : bits BinOp.xor .i64 (s[b].toNat : Int) ((flip q s)[b].toNat : Int) = 2 ^ (q % 8) := by
                        rw [flip_get hbs, if_pos e]; exact flip_xor _ _
                      have HX := Lib.hid hX
                      have heq : ((b : Int) == (q : Int) / 8) = true := by rw [beq_iff_eq]; omega
                      have hne : ((b : Int) != (q : Int) / 8) = false := by rw [bne, heq]; rfl
                      clear hX
                      generalize flip q s = t at *
                      go_wp2_with fail
                      go_quiet (fail)
                      rw [w64_byte, w64_byte, HX.out]
                      rcases (show q % 8 = 0 ∨ q % 8 = 1 ∨ q % 8 = 2 ∨ q % 8 = 3 ∨ q % 8 = 4 ∨ q % 8 = 5 ∨ q % 8 = 6 ∨ q % 8 = 7 by omega) with hr | hr | hr | hr | hr | hr | hr | hr
                      · have hI : (q : Int) % 8 = 0 := by omega
                        rw [hr, show (2 : Int) ^ 0 = 1 from rfl]
                        clear hr
                        go_wp2_with fail
                        go_roundw
                        case rel => exact ⟨b + 1, by omega, by go_num, HK2.out.dn _⟩
                        case measure => simp [intOf]; omega
                      · have hI : (q : Int) % 8 = 1 := by omega
                        rw [hr, show (2 : Int) ^ 1 = 2 from rfl]
                        clear hr
                        go_wp2_with fail
                        go_roundw
                        case rel => exact ⟨b + 1, by omega, by go_num, HK2.out.dn _⟩
                        case measure => simp [intOf]; omega
                      · have hI : (q : Int) % 8 = 2 := by omega
                        rw [hr, show (2 : Int) ^ 2 = 4 from rfl]
                        clear hr
                        go_wp2_with fail
                        go_roundw
                        case rel => exact ⟨b + 1, by omega, by go_num, HK2.out.dn _⟩
                        case measure => simp [intOf]; omega
                      · have hI : (q : Int) % 8 = 3 := by omega
                        rw [hr, show (2 : Int) ^ 3 = 8 from rfl]
                        clear hr
                        go_wp2_with fail
                        go_roundw
                        case rel => exact ⟨b + 1, by omega, by go_num, HK2.out.dn _⟩
                        case measure => simp [intOf]; omega
                      · have hI : (q : Int) % 8 = 4 := by omega
                        rw [hr, show (2 : Int) ^ 4 = 16 from rfl]
                        clear hr
                        go_wp2_with fail
                        go_roundw
                        case rel => exact ⟨b + 1, by omega, by go_num, HK2.out.dn _⟩
                        case measure => simp [intOf]; omega
                      · have hI : (q : Int) % 8 = 5 := by omega
                        rw [hr, show (2 : Int) ^ 5 = 32 from rfl]
                        clear hr
                        go_wp2_with fail
                        go_roundw
                        case rel => exact ⟨b + 1, by omega, by go_num, HK2.out.dn _⟩
                        case measure => simp [intOf]; omega
                      · have hI : (q : Int) % 8 = 6 := by omega
                        rw [hr, show (2 : Int) ^ 6 = 64 from rfl]
                        clear hr
                        go_wp2_with fail
                        go_roundw
                        case rel => exact ⟨b + 1, by omega, by go_num, HK2.out.dn _⟩
                        case measure => simp [intOf]; omega
                      · have hI : (q : Int) % 8 = 7 := by omega
                        rw [hr, show (2 : Int) ^ 7 = 128 from rfl]
                        clear hr
                        go_wp2_with fail
                        go_roundw
                        case rel => exact ⟨b + 1, by omega, by go_num, HK2.out.dn _⟩
                        case measure => simp [intOf]; omega
                    · have hX : bits BinOp.xor .i64 (s[b].toNat : Int) ((flip q s)[b].toNat : Int) = 0 := by
                        rw [flip_get hbs, if_neg e]; exact byte_xor _
                      have HX := Lib.hid hX
                      have heq : ((b : Int) == (q : Int) / 8) = false := beq_eq_false_iff_ne.2 (by omega)
                      have hne : ((b : Int) != (q : Int) / 8) = true := by rw [bne, heq]; rfl
                      clear hX
                      generalize flip q s = t at *
                      go_wp2_with fail
                      go_quiet (fail)
                      rw [w64_byte, w64_byte, HX.out]
                      go_wp2_with fail
                      go_roundw
                      case rel => exact ⟨b + 1, by omega, by go_num, HK2.out.dn _⟩
                      case measure => simp [intOf]; omega
                  · have hb' : ¬ (b : Int) < 64 := by omega
                    have HB2 := Lib.hid (Below.kp2 HBW.out hk2 (fun _ _ h => h))
                    clear hk2
                    go_wp2_with fail
                    go_ret
                    exact ⟨rfl, HB2.out⟩
          · have e1 : D.rotE i bt = 1 := by unfold Dk.rotE; rw [if_neg hin]
            have d1 : D1 = D := by rw [HD1.out]; unfold Dk.rotD; rw [if_neg hin]
            have d2 : D2 = D := by rw [HD2.out, d1]; unfold Dk.rotD; rw [if_neg hin]
            rw [d1, d2, e1, show decide (D.S = D.S) = true from decide_eq_true rfl]
            have hbad : ¬ (0 ≤ i ∧ i < (k : Int) ∧ 0 ≤ bt ∧ bt < 512) := fun h => hin ⟨inB_iff.2 ⟨h.1, by rw [hlen]; exact h.2.1⟩, h.2.2.1, h.2.2.2⟩
            clear d1 d2 e1 hin HD1 HD2
            by_cases c1 : i < 0
            · go_wp2_with fail
              go_ret
              exact ⟨rfl, HX6.out.1⟩
            · by_cases c2 : (k : Int) ≤ i
              · go_wp2_with fail
                go_ret
                exact ⟨rfl, HX6.out.1⟩
              · by_cases c3 : bt < 0
                · go_wp2_with fail
                  go_ret
                  exact ⟨rfl, HX6.out.1⟩
                · have c4 : (511 : Int) < bt := by omega
                  clear hbad
                  go_wp2_with fail
                  go_ret
                  exact ⟨rfl, HX6.out.1⟩
end Go.Proofs.Ytdanhfanepmhkaa
