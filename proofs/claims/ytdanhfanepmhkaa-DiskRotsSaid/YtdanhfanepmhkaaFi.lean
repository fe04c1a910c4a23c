/- The walk of KeepsWhatWasFlushed. -/
import Derived.Test.YtdanhfanepmhkaaFh
namespace Go.Proofs.Ytdanhfanepmhkaa
open Go.RowKit Go.Maps Go.Sort

def opKeep (o : Opv) : Prop := o.k ≠ 6 ∧ o.k ≠ 7 ∧ o.k ≠ 4 ∧ o.k ≠ 5
theorem do_keep {D : Dk} {o : Opv} (h : D.quiet) (ho : opKeep o) :
    (o.k = 1 ∧ D.doE o = 0 ∧ ∃ k : Nat, o.i = k ∧ k < D.S.length ∧ (D.doD o).quiet ∧ (D.doD o).S.length = D.S.length ∧ ats (D.doD o) = (ats D).set k (textF o.s)) ∨
    (¬ (o.k = 1 ∧ D.doE o = 0) ∧ (D.doD o).quiet ∧ (D.doD o).S.length = D.S.length ∧ ats (D.doD o) = ats D) := by
  obtain ⟨h6, h7, h4, h5⟩ := ho
  by_cases h1 : o.k = 1
  · have hE : D.doE o = D.writeE o.i (textF o.s) := if_pos h1
    have hD : D.doD o = D.writeD o.i (textF o.s) := if_pos h1
    rw [hE, hD]
    rcases quiet_write h o.i (textF o.s) with ⟨a, b⟩ | ⟨k, a1, a2, _, a4, a5, a6, a7⟩
    · exact .inr ⟨fun e => a e.2, by rw [b]; exact h, by rw [b], by rw [b]⟩
    · exact .inl ⟨h1, a4, k, a1, a2, a5, a6, a7⟩
  · right
    refine ⟨fun e => h1 e.1, ?_⟩
    unfold Dk.doD
    rw [if_neg h1]
    by_cases h3 : o.k = 3
    · rw [if_pos h3]
      obtain ⟨_, a, b, c, _⟩ := quiet_flush h
      exact ⟨a, b, c⟩
    · rw [if_neg h3, if_neg h4, if_neg h5, if_neg h6, if_neg h7]
      exact ⟨h, rfl, rfl⟩

set_option maxRecDepth 100000 in
set_option maxHeartbeats 16000000 in
theorem keeps_any (n : Int) (ov pv : Value) (N : Nat) (picks : List Int) (w : World) (hov : OpsRd w ov N) (hpk : Rd w (fun b => b < w.heap.size) 1 pv picks.length (ints picks)) :
    Calls Try.prog 5 #[.int .i64 n, ov, pv] w fun e w' => e = .returned (.bool true) ∧ Below w.heap.size w w' := by
  obtain ⟨oa, oc, rfl, hN, hat⟩ := hov
  have HAT := Lib.hid hat; have HPK := Lib.hid hpk
  clear hat hpk
  obtain ⟨i0, hi0, hz0, hz1, hz2⟩ := info_parts Try.info9i
  have HI := Lib.hid hi0; have HZ0 := Lib.hid hz0; have HZ1 := Lib.hid hz1; have HZ2 := Lib.hid hz2
  clear hi0 hz0 hz1 hz2
  by_cases hn : n < 1 ∨ 64 < n
  · rcases hn with h | h
    · go_enter Try.func5, Try.ntmps5
      go_wp2_with fail
      refine (sanity_any w).mono ?_
      rintro e w1 ⟨rfl, hB1⟩
      go_wp2_with fail
      refine (start_bad n w1 (.inl h)).mono ?_
      rintro e w2 ⟨rfl, rfl⟩
      go_wp2_with fail
      go_ret
      exact ⟨rfl, hB1⟩
    · have h' : ¬ n < 1 := by omega
      go_enter Try.func5, Try.ntmps5
      go_wp2_with fail
      refine (sanity_any w).mono ?_
      rintro e w1 ⟨rfl, hB1⟩
      go_wp2_with fail
      refine (start_bad n w1 (.inr h)).mono ?_
      rintro e w2 ⟨rfl, rfl⟩
      go_wp2_with fail
      go_ret
      exact ⟨rfl, hB1⟩
  · obtain ⟨k, rfl⟩ : ∃ k : Nat, n = k := ⟨n.toNat, by omega⟩
    have hk1 : 1 ≤ k := by omega
    have hk64 : k ≤ 64 := by omega
    have ST := fun w1 => start_any k w1 (by omega) (by omega)
    by_cases g1 : (60 : Int) < (N : Int)
    · go_enter Try.func5, Try.ntmps5
      go_wp2_with fail
      refine (sanity_any w).mono ?_
      rintro e w1 ⟨rfl, hB1⟩
      go_wp2_with fail
      refine (ST w1).mono ?_
      rintro e w2 ⟨A, B, rfl, _, _, _, _, _, hb2⟩
      go_wp2_with fail
      go_ret
      exact ⟨rfl, hB1.trans (hb2.mono hB1.size)⟩
    · skip
      go_enter Try.func5, Try.ntmps5
      go_wp2_with fail
      refine (sanity_any w).mono ?_
      rintro e w1 ⟨rfl, hB1⟩
      go_wp2_with fail
      refine (ST w1).mono ?_
      rintro e w2 ⟨A, B, rfl, hA, _, _, hFA, _, hb2⟩
      clear ST
      have HFA := Lib.hid (show ∀ b, b < w.heap.size → ¬ A.F b from fun b h e => by have := hFA b e; have := hB1.size; omega)
      have HW := Lib.hid (And.intro hA (hB1.trans (hb2.mono hB1.size)))
      have hAl := fun b (h : A.F b) => hA.ltF h
      have HAL := Lib.hid hAl
      clear hA hFA hB1 hb2 hAl
      go_wp2_with (refine wpList_make_full _ rfl _ _ 39 rfl w2.heap.size 9 i0 (.string ⟨#[]⟩) 1 Try.underlying39 HI.out HZ0.out HZ1.out .i64 .i64 _ _ k rfl rfl rfl rfl (by rw [HZ2.out]; omega) (by unfold maxLen; omega) (Nat.le_refl _) ?_; intro w3 hown hgrow)
      have hg : ∃ C, Boxs w3 w2.heap.size 9 C ∧ C.toList = List.replicate k (.string ⟨#[]⟩) := by
        rcases hown.2 with ⟨h3, _⟩ | ⟨g, cap, cur, he, _, hg, hnc, _, hcs, ht⟩
        · cases h3
        · cases he
          refine ⟨cur, hg, ?_⟩
          rw [madeStr] at ht
          rw [← ht, List.take_of_length_le (by rw [Array.length_toList]; omega)]
      have k3 : Keeps (fun _ => False) w2 w3 := Keeps.of_grown hgrow (fun i e => by cases e)
      have HW3 := Lib.hid (And.intro (HW.out.1.keeps k3 (fun _ _ h => h)) (Below.kp2 HW.out.2 k3 (fun _ _ h => h)))
      have HNB := Lib.hid (show ¬ A.F w2.heap.size from fun e => by have := HAL.out _ e; omega)
      have hwl : w.heap.size ≤ w2.heap.size := HW.out.2.size
      clear hown hgrow k3 HW
      go_loopw [12] (fun i wr => ∃ j : Nat, j ≤ k ∧ i = .int .i64 j ∧ (∃ C, Boxs wr w2.heap.size 9 C ∧ C.toList = List.replicate j (.string (fullS 0)) ++ List.replicate (k - j) (.string ⟨#[]⟩)) ∧ DskAt wr A (newD k) ∧ Below w.heap.size w wr) (fun i _ => k - (intOf i).toNat)
      case atStart => exact ⟨0, Nat.zero_le _, rfl, by simpa using hg, HW3.out.1, HW3.out.2⟩
      case round =>
        clear HW3 hg
        obtain ⟨j, hj, rfl, ⟨C, hC, hCl⟩, hA, hbl⟩ := hrel
        by_cases hlt : j < k
        · have HK := Lib.hid (And.intro hA hbl); have HC := Lib.hid hC; have HCL := Lib.hid hCl
          clear hA hbl hC hCl
          have hj0 : (0 : Int) ≤ (j : Int) := Int.natCast_nonneg _
          have hj1 : (j : Int) < (k : Int) := by omega
          go_wp2_with fail
          refine (full_any 0 _).mono ?_
          rintro e x1 ⟨rfl, hb⟩
          have k1 := Keeps.of_below (F := fun _ => False) hb
          have hC1 := HC.out.keeps k1 (fun h => h)
          have hcs : C.size = k := by rw [← Array.length_toList, HCL.out]; simp; omega
          have cc : x1.cell? ⟨w2.heap.size, j, none⟩ = some C[j] := by rw [hC1.cell, Array.getElem?_eq_getElem (by omega)]
          have cf := hC1.frozen j
          have HK1 := Lib.hid (And.intro (HK.out.1.keeps k1 (fun _ _ h => h)) (Below.kp2 HK.out.2 k1 (fun _ _ h => h)))
          have HC1 := Lib.hid hC1
          clear k1 hC1 hb HK HC
          go_wp2_with fail
          go_roundw
          case rel =>
            have ks : Keeps (fun b => b = w2.heap.size) x1 (x1.setCell ⟨w2.heap.size, j, none⟩ (.string (fullS 0))) := Keeps.setCell (F := fun b => b = w2.heap.size) (p := ⟨w2.heap.size, j, none⟩) (Keeps.refl _ _) rfl _
            refine ⟨j + 1, by omega, by go_num, ⟨_, HC1.out.put j (.string (fullS 0)), ?_⟩, HK1.out.1.keeps ks (fun b h e => HNB.out (e ▸ h)), Below.kp2 HK1.out.2 ks (fun i hi e => by omega)⟩
            rw [Array.toList_setIfInBounds, HCL.out, set_next' _ _ j _ hlt]
          case measure => simp [intOf]; omega
        · have he : j = k := by omega
          subst he
          have hC0 : ∃ C, Boxs wr w2.heap.size 9 C ∧ C.toList = strs (ats (newD j)) := ⟨C, hC, by rw [hCl, ats_new]; simp [strs]; exact .inr rfl⟩
          have HQ := Lib.hid (new_quiet hk1 (Nat.le_trans hk64 (by omega)))
          have hl0 : (newD j).S.length = j := by simp [newD]
          have HK := Lib.hid (And.intro hC0 (And.intro hA hbl))
          clear hC hCl hA hbl hC0
          go_wp2_with fail
          go_loopw [13] (fun i wr => ∃ (q : Nat) (D : Dk), q ≤ N ∧ i = .int .i64 q ∧ D.quiet ∧ D.S.length = j ∧ (∃ C, Boxs wr w2.heap.size 9 C ∧ C.toList = strs (ats D)) ∧ DskAt wr A D ∧ Below w.heap.size w wr) (fun i _ => N - (intOf i).toNat)
          case atStart => exact ⟨0, _, Nat.zero_le _, rfl, HQ.out, hl0, HK.out.1, HK.out.2.1, HK.out.2.2⟩
          case round =>
            clear HK HQ hl0
            obtain ⟨q, D, hq, rfl, hQ, hlen, hC, hA, hbl⟩ := hrel
            by_cases hlt : q < N
            · obtain ⟨b, off, o, pv', rfl, hb, q0, q1, q2, q3, q4, hop⟩ := HAT.out q hlt
              obtain ⟨pa, pc, rfl, hpm, _⟩ := hop.picks.int
              have kk := Keeps.of_below (F := fun _ => False) hbl
              have p0 := (hbl.cell (p := ⟨b, off + q * 5, none⟩) hb).trans q0
              have p1 := (hbl.cell (p := ⟨b, off + q * 5 + 1, none⟩) hb).trans q1
              have p2 := (hbl.cell (p := ⟨b, off + q * 5 + 2, none⟩) hb).trans q2
              have p3 := (hbl.cell (p := ⟨b, off + q * 5 + 3, none⟩) hb).trans q3
              have p4 := (hbl.cell (p := ⟨b, off + q * 5 + 4, none⟩) hb).trans q4
              have ka := (Keeps.refl (fun _ => False) wr).alloc (.cells #[.int .i64 o.k, .int .i64 o.i, .int .i64 o.b, .string o.s, .slice pa o.picks.length pc] 33)
              have B0 : Boxs (wr.alloc (.cells #[.int .i64 o.k, .int .i64 o.i, .int .i64 o.b, .string o.s, .slice pa o.picks.length pc] 33)) wr.heap.size 33 #[.int .i64 o.k, .int .i64 o.i, .int .i64 o.b, .string o.s, .slice pa o.picks.length pc] := Boxs.new wr 33 _
              have hA1 := hA.keeps ka (fun _ _ h => h)
              have hbl1 : Below w.heap.size w (wr.alloc (.cells #[.int .i64 o.k, .int .i64 o.i, .int .i64 o.b, .string o.s, .slice pa o.picks.length pc] 33)) := Below.kp2 hbl ka (fun _ _ h => h)
              have hC1 : ∃ C, Boxs (wr.alloc (.cells #[.int .i64 o.k, .int .i64 o.i, .int .i64 o.b, .string o.s, .slice pa o.picks.length pc] 33)) w2.heap.size 9 C ∧ C.toList = strs (ats D) := by
                obtain ⟨C, h1, h2⟩ := hC
                exact ⟨C, h1.keeps ka (fun h => h), h2⟩
              have hnA : ¬ A.F wr.heap.size := fun e => by have := hA.ltF e; omega
              have hnb : w2.heap.size < wr.heap.size := by obtain ⟨C, h1, _⟩ := hC; exact h1.lt
              have DO := do_any A D o _ _ hA1 (fun b => b < w.heap.size) HFA.out (hop.keeps (kk.trans ka) (fun _ _ _ h => h))
              have HX := Lib.hid (And.intro hC1 (And.intro hA1 hbl1))
              have HQ := Lib.hid hQ; have HLEN := Lib.hid hlen
              have HB0 := Lib.hid B0
              have hj0 : (0 : Int) ≤ (q : Int) := Int.natCast_nonneg _
              have hj1 : (q : Int) < (N : Int) := by omega
              clear hA hC hop kk hbl q0 q1 q2 q3 q4 ka hA1 hbl1 hC1 hQ hlen B0
              by_cases k6 : o.k = 6
              · have e6 : (o.k == 6) = true := by rw [k6]; rfl
                clear DO k6
                go_wp2_with fail
                go_roundw
                case rel => exact ⟨q + 1, D, by omega, by go_num, HQ.out, HLEN.out, HX.out.1, HX.out.2.1, HX.out.2.2⟩
                case measure => simp [intOf]; omega
              by_cases k7 : o.k = 7
              · have e7 : (o.k == 7) = true := by rw [k7]; rfl
                have e6 : (o.k == 6) = false := by simpa using k6
                clear DO k6 k7
                go_wp2_with fail
                go_roundw
                case rel => exact ⟨q + 1, D, by omega, by go_num, HQ.out, HLEN.out, HX.out.1, HX.out.2.1, HX.out.2.2⟩
                case measure => simp [intOf]; omega
              by_cases k4 : o.k = 4
              · have e4 : (o.k == 4) = true := by rw [k4]; rfl
                have e6 : (o.k == 6) = false := by simpa using k6
                have e7 : (o.k == 7) = false := by simpa using k7
                clear DO k6 k7 k4
                go_wp2_with fail
                go_roundw
                case rel => exact ⟨q + 1, D, by omega, by go_num, HQ.out, HLEN.out, HX.out.1, HX.out.2.1, HX.out.2.2⟩
                case measure => simp [intOf]; omega
              by_cases k5 : o.k = 5
              · have e5 : (o.k == 5) = true := by rw [k5]; rfl
                have e6 : (o.k == 6) = false := by simpa using k6
                have e7 : (o.k == 7) = false := by simpa using k7
                have e4 : (o.k == 4) = false := by simpa using k4
                clear DO k6 k7 k4 k5
                go_wp2_with fail
                go_roundw
                case rel => exact ⟨q + 1, D, by omega, by go_num, HQ.out, HLEN.out, HX.out.1, HX.out.2.1, HX.out.2.2⟩
                case measure => simp [intOf]; omega
              have HKP := Lib.hid (show opKeep o from ⟨k6, k7, k4, k5⟩)
              have e6 : (o.k == 6) = false := by simpa using k6
              have e7 : (o.k == 7) = false := by simpa using k7
              have e4 : (o.k == 4) = false := by simpa using k4
              have e5 : (o.k == 5) = false := by simpa using k5
              clear k6 k7 k4 k5
              rcases do_keep HQ.out HKP.out with ⟨w1', wE, kx, wi, wk, wq, wl, wa⟩ | ⟨wn, wq, wl, wa⟩
              · have e1 : (o.k == 1) = true := by rw [w1']; rfl
                rw [wE] at DO
                have HWW := Lib.hid (And.intro wi (And.intro wk (And.intro wq (And.intro wl wa))))
                clear w1' wE wi wk wq wl wa HQ
                go_wp2_with fail
                refine (DO).mono ?_
                rintro e x2 ⟨rfl, hA2, hk2⟩
                clear DO
                have B2 := HB0.out.keeps hk2 hnA
                have c0 := B2.cell 0
                simp at c0
                have hC2 : ∃ C, Boxs x2 w2.heap.size 9 C ∧ C.toList = strs (ats D) := by
                  obtain ⟨C, h1, h2⟩ := HX.out.1
                  exact ⟨C, h1.keeps hk2 HNB.out, h2⟩
                have HY := Lib.hid (And.intro hC2 (And.intro hA2 (Below.kp2 HX.out.2.2 hk2 HFA.out)))
                have HB2 := Lib.hid B2
                clear HX HB0 B2 hC2 hA2 hk2
                go_wp2_with fail
                have hdr : x2.drew = { x2 with drawn := x2.drawn + 1 } := rfl
                have HBd := Lib.hid (show Boxs x2.drew wr.heap.size 33 #[.int .i64 o.k, .int .i64 o.i, .int .i64 o.b, .string o.s, .slice pa o.picks.length pc] from HB2.out)
                refine wp_region_held (S := fun W => Boxs W wr.heap.size 33 #[.int .i64 o.k, .int .i64 o.i, .int .i64 o.b, .string o.s, .slice pa o.picks.length pc]) (by kernel_rfl) ?_
                rw [← hdr]
                clear hdr
                have hi0 : 0 ≤ o.i := by have := HWW.out.1; omega
                have hi1 : o.i < (j : Int) := by have := HWW.out.1; have := HWW.out.2.1; have := HLEN.out; omega
                have hix : o.i.toNat = kx := by have := HWW.out.1; omega
                have HIX := Lib.hid hix
                clear hix
                refine wpAnyHTake 0 (some 98) (.slice (some ⟨w2.heap.size, 0, none⟩) j j) rfl rfl (by kernel_rfl) (by kernel_rfl) (by kernel_rfl) (fun _ _ _ h => h) (by rfl) (fun _ _ => by rfl) (HBd.out) ?_
                simp only [Act.put, List.setIfInBounds_toArray, List.set_cons_zero, List.set_cons_succ]
                refine wpAnyHTake 1 (some 99) (.pointer (some ⟨wr.heap.size, 1, none⟩)) rfl rfl (by kernel_rfl) (by kernel_rfl) (by kernel_rfl) (fun _ _ _ h => h) (by rfl) (fun _ _ => by rfl) (HBd.out) ?_
                simp only [Act.put, List.setIfInBounds_toArray, List.set_cons_zero, List.set_cons_succ]
                refine wpAnyHTake 2 (some 100) (.int .i64 o.i) rfl rfl (by kernel_rfl) (by kernel_rfl) (by kernel_rfl) (fun _ _ _ h => h) (by rfl) (fun W hW => by have e := Boxs.cell hW 1; simp at e; clear hW; go_simp) (HBd.out) ?_
                simp only [Act.put, List.setIfInBounds_toArray, List.set_cons_zero, List.set_cons_succ]
                refine wpAnyHTake 3 (some 101) (.agg #[.int .i64 o.k, .int .i64 o.i, .int .i64 o.b, .string o.s, .slice pa o.picks.length pc]) rfl rfl (by kernel_rfl) (by kernel_rfl) (by kernel_rfl) (fun _ _ _ h => h) (by rfl) (fun W hW => execOp_load_mid 33 _ rfl rfl (run_loadAt_mid W wr.heap.size 0 33 #[.int .i64 o.k, .int .i64 o.i, .int .i64 o.b, .string o.s, .slice pa o.picks.length pc].toList _ (boxs_range hW) Try.underlying33 rfl (by kernel_rfl))) (HBd.out) ?_
                simp only [Act.put, List.setIfInBounds_toArray, List.set_cons_zero, List.set_cons_succ]
                refine wpAnyHCall 4 (some 102) 24 #[.agg #[.int .i64 o.k, .int .i64 o.i, .int .i64 o.b, .string o.s, .slice pa o.picks.length pc]] (by kernel_rfl) rfl rfl (by rfl) (by go_simp) (text_any o.k o.i o.b o.s _ ⟨_, _, _, rfl⟩ _) ?_
                rintro e x3 ⟨rfl, hb3⟩
                have k3 : Keeps (fun _ => False) x2 x3 := ((Keeps.refl _ x2).drew).trans (Keeps.of_below hb3)
                have B3 := HB2.out.keeps k3 (fun h => h)
                obtain ⟨C, hC, hCl⟩ := HY.out.1
                have hC3 := hC.keeps k3 (fun h => h)
                have hlC : C.size = j := by rw [← Array.length_toList, hCl]; simp [strs, ats_len]; exact HLEN.out
                have cc : x3.cell? ⟨w2.heap.size, o.i.toNat, none⟩ = some (C[o.i.toNat]'(by omega)) := by rw [hC3.cell, Array.getElem?_eq_getElem (by omega)]
                have cf := hC3.frozen o.i.toNat
                have HC3 := Lib.hid (And.intro hC3 hCl)
                have HY3 := Lib.hid (And.intro (HY.out.2.1.keeps k3 (fun _ _ h => h)) (Below.kp2 HY.out.2.2 k3 (fun _ _ h => h)))
                have HB3 := Lib.hid B3
                refine ⟨_, rfl, HB3.out, ?_⟩
                simp only [Act.put, List.setIfInBounds_toArray, List.set_cons_zero, List.set_cons_succ]
                clear hC hCl hC3 B3 k3 hb3 HY HB2 HBd
                refine wpAnyHTake 5 (some 103) (.pointer (some ⟨w2.heap.size, o.i.toNat, none⟩)) rfl rfl (by kernel_rfl) (by kernel_rfl) (by kernel_rfl) (fun _ _ _ h => h) (by rfl) (fun W hW => by clear hW; go_simp) (HB3.out) ?_
                simp only [Act.put, List.setIfInBounds_toArray, List.set_cons_zero, List.set_cons_succ]
                have ks : Keeps (fun b => b = w2.heap.size) x3 (x3.setCell ⟨w2.heap.size, o.i.toNat, none⟩ (.string (textF o.s))) := Keeps.setCell (F := fun b => b = w2.heap.size) (p := ⟨w2.heap.size, o.i.toNat, none⟩) (Keeps.refl _ _) rfl _
                have B4 := HB3.out.keeps ks (by omega)
                have HKS := Lib.hid ks
                clear ks
                refine wpAnyHSkip 6 none (w' := x3.setCell ⟨w2.heap.size, o.i.toNat, none⟩ (.string (textF o.s))) (by kernel_rfl) rfl rfl (by rfl) (by clear B4; go_simp) B4 ?_
                refine wpAnyH_done (by kernel_rfl) ?_ _
                rename_i K hK
                refine hK _ _ ?_
                clear hK
                simp only [Act.put]
                go_wp2_with fail
                go_roundw
                case rel =>
                  obtain ⟨wi, wk, wq, wl, wa⟩ := HWW.out
                  refine ⟨q + 1, D.doD o, by omega, by go_num, wq, wl.trans HLEN.out, ⟨_, HC3.out.1.put o.i.toNat (.string (textF o.s)), ?_⟩, HY3.out.1.keeps HKS.out (fun b h e => HNB.out (e ▸ h)), Below.kp2 HY3.out.2 HKS.out (fun i hi e => by omega)⟩
                  rw [Array.toList_setIfInBounds, HC3.out.2, wa, HIX.out]
                  unfold strs
                  rw [List.map_set]
                case measure => simp [intOf]; omega
              · have HWW := Lib.hid (And.intro wq (And.intro wl wa))
                by_cases h1 : o.k = 1
                · have e1 : (o.k == 1) = true := by rw [h1]; rfl
                  have eE : (D.doE o == 0) = false := by simpa using fun h => wn ⟨h1, h⟩
                  clear wn wq wl wa h1 HQ
                  go_wp2_with fail
                  refine (DO).mono ?_
                  rintro e x2 ⟨rfl, hA2, hk2⟩
                  clear DO
                  have B2 := HB0.out.keeps hk2 hnA
                  have c0 := B2.cell 0
                  simp at c0
                  have hC2 : ∃ C, Boxs x2 w2.heap.size 9 C ∧ C.toList = strs (ats D) := by
                    obtain ⟨C, h1, h2⟩ := HX.out.1
                    exact ⟨C, h1.keeps hk2 HNB.out, h2⟩
                  have HY := Lib.hid (And.intro hC2 (And.intro hA2 (Below.kp2 HX.out.2.2 hk2 HFA.out)))
                  have HB2 := Lib.hid B2
                  clear HX HB0 B2 hC2 hA2 hk2
                  go_wp2_with fail
                  go_roundw
                  case rel => exact ⟨q + 1, D.doD o, by omega, by go_num, HWW.out.1, HWW.out.2.1.trans HLEN.out, by rw [HWW.out.2.2]; exact HY.out.1, HY.out.2.1, HY.out.2.2⟩
                  case measure => simp [intOf]; omega
                · have e1 : (o.k == 1) = false := by simpa using h1
                  clear wn wq wl wa h1 HQ
                  go_wp2_with fail
                  refine (DO).mono ?_
                  rintro e x2 ⟨rfl, hA2, hk2⟩
                  clear DO
                  have B2 := HB0.out.keeps hk2 hnA
                  have c0 := B2.cell 0
                  simp at c0
                  have hC2 : ∃ C, Boxs x2 w2.heap.size 9 C ∧ C.toList = strs (ats D) := by
                    obtain ⟨C, h1, h2⟩ := HX.out.1
                    exact ⟨C, h1.keeps hk2 HNB.out, h2⟩
                  have HY := Lib.hid (And.intro hC2 (And.intro hA2 (Below.kp2 HX.out.2.2 hk2 HFA.out)))
                  have HB2 := Lib.hid B2
                  clear HX HB0 B2 hC2 hA2 hk2
                  go_wp2_with fail
                  go_roundw
                  case rel => exact ⟨q + 1, D.doD o, by omega, by go_num, HWW.out.1, HWW.out.2.1.trans HLEN.out, by rw [HWW.out.2.2]; exact HY.out.1, HY.out.2.1, HY.out.2.2⟩
                  case measure => simp [intOf]; omega
            · have he : q = N := by omega
              subst he
              obtain ⟨fE, fq, fl, fa, fS, fP⟩ := quiet_flush hQ
              have FL := flush_any A D wr hA
              rw [fE] at FL
              obtain ⟨C, hC, hCl⟩ := hC
              have hlC : C.size = j := by rw [← Array.length_toList, hCl]; simp [strs, ats_len]; exact hlen
              have hal : (ats D).length = j := by rw [ats_len]; exact hlen
              have hR : Rd wr (fun b => b = w2.heap.size) 1 (.slice (some ⟨w2.heap.size, 0, none⟩) j j) (ats D).length (strs (ats D)) := by
                have := Rd_block (G := fun b => b = w2.heap.size) (n := j) (sz := 1) hC rfl (by omega) (by omega)
                rw [hCl] at this
                rw [hal]
                exact this
              have HR := Lib.hid hR; have HBL := Lib.hid hbl
              have HFS := Lib.hid (And.intro fS (mount_none (D := D.flushD) (by rw [fl]; exact fP) picks))
              clear hR hbl hC hCl hlC hA hQ fE fq fl fa fS fP
              go_wp2_with fail
              refine (FL).mono ?_
              rintro e x1 ⟨rfl, hA1, hk1⟩
              clear FL
              have IM := image_any A D.flushD x1 hA1
              have HX := Lib.hid (And.intro hA1 (And.intro (Below.kp2 HBL.out hk1 HFA.out) (HR.out.keeps hk1 (fun b _ e h => HNB.out (e ▸ h)))))
              clear hA1 hk1 HBL HR
              go_wp2_with fail
              refine (IM).mono ?_
              rintro e x2 ⟨v2, rfl, hr2, hb2⟩
              clear IM
              have k2 := Keeps.of_below (F := fun _ => False) hb2
              have SM := sameTexts_any v2 (.slice (some ⟨w2.heap.size, 0, none⟩) j j) D.flushD.S (ats D) x2 _ _ hr2 (HX.out.2.2.keeps k2 (fun _ _ _ h => h))
              rw [show decide (D.flushD.S = ats D) = true from decide_eq_true HFS.out.1] at SM
              have HX2 := Lib.hid (And.intro (HX.out.1.keeps k2 (fun _ _ h => h)) (And.intro (Below.kp2 HX.out.2.1 k2 (fun _ _ h => h)) (HX.out.2.2.keeps k2 (fun _ _ _ h => h))))
              clear HX k2 hb2 hr2
              go_wp2_with fail
              refine (SM).mono ?_
              rintro e x3 ⟨rfl, hb3⟩
              clear SM
              have k3 := Keeps.of_below (F := fun _ => False) hb3
              have HX3 := Lib.hid (And.intro (HX2.out.1.keeps k3 (fun _ _ h => h)) (And.intro (Below.kp2 HX2.out.2.1 k3 (fun _ _ h => h)) (HX2.out.2.2.keeps k3 (fun _ _ _ h => h))))
              have kw : Keeps (fun b => w.heap.size ≤ b) w x3 := ⟨HX3.out.2.1.os, HX3.out.2.1.tape, HX3.out.2.1.output, HX3.out.2.1.size, fun b hb _ => HX3.out.2.1.block b hb⟩
              have MO := mount_any A D.flushD x3 HX3.out.1 (fun b => b < w.heap.size) HFA.out pv picks (HPK.out.keeps kw (fun b hb _ h => by omega))
              clear HX2 k3 hb3 kw
              go_wp2_with fail
              refine (MO).mono ?_
              rintro e x4 ⟨rfl, hA4, hk4⟩
              clear MO
              have IM := image_any A (D.flushD.mountD picks) x4 hA4
              have HX4 := Lib.hid (And.intro (Below.kp2 HX3.out.2.1 hk4 HFA.out) (HX3.out.2.2.keeps hk4 (fun b _ e h => HNB.out (e ▸ h))))
              clear HX3 hA4 hk4
              go_wp2_with fail
              refine (IM).mono ?_
              rintro e x5 ⟨v5, rfl, hr5, hb5⟩
              clear IM
              have k5 := Keeps.of_below (F := fun _ => False) hb5
              have SM := sameTexts_any v5 (.slice (some ⟨w2.heap.size, 0, none⟩) j j) (D.flushD.mountD picks).S (ats D) x5 _ _ hr5 (HX4.out.2.keeps k5 (fun _ _ _ h => h))
              rw [show decide ((D.flushD.mountD picks).S = ats D) = true from decide_eq_true (HFS.out.2.trans HFS.out.1)] at SM
              have HB5 := Lib.hid (Below.kp2 HX4.out.1 k5 (fun _ _ h => h))
              clear HX4 k5 hb5 hr5
              go_wp2_with fail
              refine (SM).mono ?_
              rintro e x6 ⟨rfl, hb6⟩
              clear SM
              have HB6 := Lib.hid (Below.kp2 HB5.out (Keeps.of_below (F := fun _ => False) hb6) (fun _ _ h => h))
              clear HB5 hb6
              go_wp2_with fail
              go_ret
              exact ⟨rfl, HB6.out⟩
end Go.Proofs.Ytdanhfanepmhkaa
