import Derived.Test.YthldekpbjfhmcaaWm
import Derived.Deep.CutRange
import Derived.Deep.CutBlock
import Derived.Deep.AppendLies
namespace Go.Proofs.Ythldekpbjfhmcaa
open Go.RowKit

theorem info_i : (Try.prog.info? 3).map (fun i => (i.zero, i.size, i.bytes)) = some (some (.int .i64 0), 1, 8) := Try.info3

theorem dn2 (w : World) (a b : Nat) : ∃ n, (w.drewN a).drewN b = w.drewN n := ⟨a + b, by simp⟩

theorem drop_at {α : Type} {l : List α} {a j : Nat} {x : α} (h : l[a + j]? = some x) : (l.drop a)[j]? = some x := by rw [List.getElem?_drop]; exact h

set_option maxRecDepth 100000 in
set_option maxHeartbeats 4000000 in
theorem rread_any (v1 : Value) (xs : List Sh) (w : World) (h1 : RdS w v1 xs) (hn : xs.length * 40 ≤ 140737488351232) :
    Calls Try.prog 15 #[v1] w fun e w' => ∃ v, e = .returned (.tuple #[v, .int .i64 (readL xs).2]) ∧ OwnI w' w.heap.size v (readL xs).1 ∧ Below w.heap.size w w' := by
  obtain ⟨a1, c1, rfl, l1, f1⟩ := h1.open
  clear h1
  have F1 := Lib.hid f1; clear f1
  obtain ⟨i0, hi0, hz0, hz1, hz2⟩ := info_parts Try.info3
  have HI := Lib.hid hi0; have HZ0 := Lib.hid hz0; have HZ1 := Lib.hid hz1; have HZ2 := Lib.hid hz2
  clear hi0 hz0 hz1 hz2
  go_enter Try.func15, Try.ntmps15
  go_wp2
  go_loopw [4, 5, 6] (fun v q i wr => ∃ (a : Nat) (f : Nat) (qi : Int) (acc : List Int), a ≤ xs.length ∧ i = .int .i64 a ∧ -1 ≤ qi ∧ qi ≤ a ∧ q = .int .i64 qi ∧ acc.length = 4 * a ∧ (xs.drop a).length ≤ f ∧ readL xs = readF f (qi + 1) (xs.drop a) acc ∧ OwnI wr w.heap.size v acc ∧ Below w.heap.size w wr) (fun _ _ i _ => xs.length - (intOf i).toNat)
  case atStart => exact ⟨0, xs.length, -1, [], by omega, rfl, by omega, by omega, rfl, rfl, by simp, rfl, OwnI.nil _ _, Below.refl _ _⟩
  case round =>
    obtain ⟨a, f, qi, acc, ha, rfl, hq1, hq2, rfl, hacc, hf, hR, hown, hbl⟩ := hrel
    have HACC := Lib.hid hacc; have HF := Lib.hid hf; have HR := Lib.hid hR; have HO := Lib.hid hown; have HB := Lib.hid hbl
    have hbs := hbl.size
    clear hacc hf hR hown
    by_cases hlt : a < xs.length
    · obtain ⟨x, hx⟩ := elem_at hlt
      obtain ⟨b1, o1, rfl, hb1, q0, _⟩ := F1.out a x hx
      have hb1r : b1 < wr.heap.size := by omega
      have g0 := (hbl.cell (p := ⟨b1, o1 + a * 5, none⟩) hb1).trans q0
      have HX := Lib.hid hx
      clear hx q0 hbl
      obtain ⟨wo, rfl⟩ : ∃ wo : World, wo = wr := ⟨_, rfl⟩
      go_upto_block 2 with (fail)
      go_cut [7] from 15 to 33 (fun v7 w' => ∃ e : Nat, a < e ∧ e ≤ xs.length ∧ v7 = .int .i64 e ∧ runLen (xs.drop a) = e - a ∧ (∀ s, s ∈ (xs.drop a).take (e - a) → s.q = x.q) ∧ ∃ nq, w' = wo.drewN nq)
      case first =>
        go_wp2_with fail
        go_loopw [7] (fun e wr => ∃ j : Nat, a ≤ j ∧ j ≤ xs.length ∧ e = .int .i64 j ∧ (∀ s, s ∈ (xs.drop a).take (j - a) → s.q = x.q) ∧ ∃ nq, wr = wo.drewN nq) (fun e _ => xs.length - (intOf e).toNat)
        case atStart => exact ⟨a, by omega, by omega, rfl, by simp, 0, rfl⟩
        case round =>
          obtain ⟨j, hj1, hj, rfl, hall, nq, rfl⟩ := hrel
          have HALL := Lib.hid hall; clear hall
          by_cases hlt2 : j < xs.length
          · obtain ⟨y, hy⟩ := elem_at hlt2
            obtain ⟨b2, o2, hbo, _, y0, _⟩ := F1.out j y hy
            cases hbo
            have gy := (HB.out.cell (p := ⟨b1, o1 + j * 5, none⟩) hb1).trans y0
            have HY := Lib.hid hy
            clear y0 hy
            have hd : decide ((j : Int) < (xs.length : Int)) = true := by simp; omega
            by_cases hyx : y.q = x.q
            · have hyb : (y.q == x.q) = true := by simpa using hyx
              have hall2 : ∀ s, s ∈ (xs.drop a).take (j + 1 - a) → s.q = x.q := by
                intro s hs
                rw [show j + 1 - a = (j - a) + 1 by omega, List.take_add_one, drop_at (a := a) (j := j - a) (x := y) (by rw [show a + (j - a) = j by omega]; exact HY.out)] at hs
                simp only [Option.toList_some, List.mem_append, List.mem_singleton] at hs
                rcases hs with hs | rfl
                · exact HALL.out s hs
                · exact hyx
              have HA2 := Lib.hid hall2
              clear hall2 hyx
              go_wp2
              go_quiet (fail)
              go_wp2
              go_roundw
              case rel => exact ⟨j + 1, by omega, by omega, by go_num, HA2.out, _, rfl⟩
              case measure => simp [intOf]; omega
            · have hyb : (y.q == x.q) = false := by simpa using hyx
              have hja : a < j := by
                rcases Nat.lt_or_ge a j with h | h
                · exact h
                · exfalso
                  have : j = a := by omega
                  subst this
                  have e := HX.out.symm.trans HY.out
                  exact hyx (by rw [Option.some.inj e])
              have hrun : runLen (xs.drop a) = j - a := runLen_eq _ x _ (drop_at (j := 0) HX.out) (by omega) (by simp; omega) HALL.out (fun y' hy' => by
                rw [List.getElem?_drop, show a + (j - a) = j by omega, HY.out] at hy'
                rw [← Option.some.inj hy']; exact hyx)
              have HRUN := Lib.hid hrun
              clear hrun hyx
              go_wp2
              go_quiet (fail)
              go_wp2
              go_meet
              case rel => exact ⟨j, hja, by omega, rfl, HRUN.out, HALL.out, dn2 _ _ _⟩
          · have hd : decide ((j : Int) < (xs.length : Int)) = false := by simp; omega
            have hrun : runLen (xs.drop a) = j - a := runLen_eq _ x _ (drop_at (j := 0) HX.out) (by omega) (by simp; omega) HALL.out (fun y' hy' => by
                rw [List.getElem?_drop, List.getElem?_eq_none (by omega)] at hy'; cases hy')
            have HRUN := Lib.hid hrun
            clear hrun
            go_wp2
            go_quiet (fail)
            go_wp2
            go_meet
            case rel => exact ⟨j, by omega, by omega, rfl, HRUN.out, HALL.out, dn2 _ _ _⟩
      case rest =>
        obtain ⟨e, he1, he2, rfl, hrun, hall, nq, rfl⟩ := hcut
        have HRUN := Lib.hid hrun
        clear hrun hall
        have hrp := readF_step (q := qi + 1) (acc := acc) (drop_at (j := 0) HX.out) HF.out HRUN.out
        by_cases hqq : x.q = qi + 1
        · obtain ⟨f', hf', hRR⟩ := hrp hqq
          have HF' := Lib.hid hf'; have HRR := Lib.hid (HR.out.trans hRR)
          have hqb : (x.q != qi + 1) = false := by simpa using hqq
          have hql : -1 ≤ qi + 1 := by omega
          have hgl : ((xs.drop a).take (e - a)).length = e - a := by rw [List.length_take, List.length_drop]; omega
          have HGL := Lib.hid hgl
          generalize hG : (xs.drop a).take (e - a) = G at *
          have HG := Lib.hid hG
          clear hf' hRR hrp hqq hgl hG
          have hgx : ∀ i y, G[i]? = some y → xs[a + i]? = some y := by
            intro i y h
            rw [← HG.out, List.getElem?_take] at h
            split at h
            · rwa [List.getElem?_drop] at h
            · cases h
          have HGX := Lib.hid hgx
          clear hgx
          go_wp2_with fail
          go_loopw [4, 8] (fun v i wr => ∃ j : Nat, a ≤ j ∧ j ≤ e ∧ i = .int .i64 j ∧ OwnI wr w.heap.size v (acc ++ fwd (G.take (j - a))) ∧ Below w.heap.size w wr) (fun _ i _ => e - (intOf i).toNat)
          case atStart => exact ⟨a, by omega, by omega, rfl, by have h : OwnI (wo.drewN nq) w.heap.size _ acc := HO.out; simpa [fwd] using h, Below.dn HB.out _⟩
          case round =>
            obtain ⟨j, hj1, hj, rfl, hown, hbl⟩ := hrel
            have hbs' := hbl.size
            by_cases hlt2 : j < e
            · obtain ⟨y, hy⟩ := elem_at (l := G) (k := j - a) (by rw [HGL.out]; omega)
              have hyx := HGX.out _ _ hy
              rw [show a + (j - a) = j by omega] at hyx
              obtain ⟨b2, o2, hbo, _, _, _, y2, y3, _⟩ := F1.out j y hyx
              cases hbo
              have k2 := (hbl.cell (p := ⟨b1, o1 + j * 5 + 2, none⟩) hb1).trans y2
              have k3 := (hbl.cell (p := ⟨b1, o1 + j * 5 + 3, none⟩) hb1).trans y3
              have hll : (acc ++ fwd (G.take (j - a))).length ≤ 4 * xs.length := by
                rw [List.length_append, HACC.out, fwd_len, List.length_take, HGL.out]; omega
              have hT : fwd (G.take (j + 1 - a)) = fwd (G.take (j - a)) ++ [y.f1, y.b0] := by rw [show j + 1 - a = (j - a) + 1 by omega]; exact fwd_snoc G _ y hy
              have HT := Lib.hid hT
              have ag := own_ne hown hb1
              have HO' := Lib.hid hown; have HB' := Lib.hid hbl
              have hb1w : b1 < wr.heap.size := by omega
              have hk0 : (0 : Int) ≤ (j : Int) := Int.natCast_nonneg _
              have hk1 : (j : Int) < (xs.length : Int) := by omega
              clear hown hbl y2 y3 hT hy hyx
              generalize hL : acc ++ fwd (G.take (j - a)) = L at *
              have HL := Lib.hid hL; clear hL
              go_wp2_with fail
              go_region_held3 (fun w' => w'.cell? ⟨b1, o1 + j * 5 + 2, none⟩ = some (.int .i64 y.f1) ∧ w'.cell? ⟨b1, o1 + j * 5 + 3, none⟩ = some (.int .i64 y.b0))
                (first
                  | go_keep
                  | (go_split_ands
                     refine ⟨?_, ?_⟩ <;> (rw [hgrow.cell_far _ (by simp; omega) (Ne.symm ag)]; assumption)))
                ((refine step_append_lies _ (by rfl) _ _ _ (by rfl) w.heap.size 3 i0 _ 1 8 Try.underlying28 HI.out HZ0.out HZ1.out HZ2.out rfl (by omega) _ L.length (ints L) (by rfl) ((HO'.out.alloc _).drew)
                    ⟨wr.heap.size, 0, none⟩ 2 2 [.int .i64 y.f1, .int .i64 y.b0] (by rfl) (by rfl) (World.news_of_block (cs := #[.int .i64 y.f1, .int .i64 y.b0]) (t := 3) (fr := (0, 0)) (heap_alloc_new wr _)) (by simp [Value.oneCell'])
                    (by omega) (by unfold maxLen; omega) (by omega) (by simp; omega) (wr.heap.size + 1) (by simp) ?_; intro gg cap w3 hown1 hgrow hat hltg))
              have hown2 := OwnI.snoc2 hown1
              have HO2 := Lib.hid hown2
              go_wp2_with fail
              go_roundw
              case rel => exact ⟨j + 1, by omega, by omega, by go_num, by rw [HT.out, ← List.append_assoc, HL.out]; exact HO2.out, ((HB'.out.alloc hbs' _).drew).grown hgrow (by simp; omega) (fun j e => (HO'.out.lt j e).1)⟩
              case measure => simp [intOf]; omega
            · have hje : j = e := by omega
              have hown' : OwnI wr w.heap.size u4 (acc ++ fwd G) := by
                rw [hje, List.take_of_length_le (by rw [HGL.out]; omega)] at hown; exact hown
              have HO' := Lib.hid hown'; have HB' := Lib.hid hbl
              clear hown hown' hbl hje
              obtain ⟨wp, rfl⟩ : ∃ wp : World, wp = wr := ⟨_, rfl⟩
              go_wp2_with fail
              go_loopw [4, 9] (fun v i wr => ∃ m : Nat, a ≤ m ∧ m ≤ e ∧ i = .int .i64 ((m : Int) - 1) ∧ OwnI wr w.heap.size v (acc ++ fwd G ++ bwd (G.drop (m - a))) ∧ Below w.heap.size w wr) (fun _ i _ => (intOf i + 1).toNat)
              case atStart => exact ⟨e, by omega, by omega, rfl, by rw [List.drop_eq_nil_of_le (by rw [HGL.out]; omega)]; simpa [bwd] using HO'.out, HB'.out⟩
              case round =>
                obtain ⟨m, hm1, hm, rfl, hown, hbl⟩ := hrel
                have hbs'' := hbl.size
                by_cases hlt3 : a < m
                · obtain ⟨m, rfl⟩ : ∃ m', m = m' + 1 := ⟨m - 1, by omega⟩
                  rw [show (((m + 1 : Nat) : Int) - 1) = (m : Int) by omega]
                  obtain ⟨y, hy⟩ := elem_at (l := G) (k := m - a) (by rw [HGL.out]; omega)
                  have hyx := HGX.out _ _ hy
                  rw [show a + (m - a) = m by omega] at hyx
                  obtain ⟨b2, o2, hbo, _, _, y1, _, _, y4⟩ := F1.out m y hyx
                  cases hbo
                  have k1 := (hbl.cell (p := ⟨b1, o1 + m * 5 + 1, none⟩) hb1).trans y1
                  have k4 := (hbl.cell (p := ⟨b1, o1 + m * 5 + 4, none⟩) hb1).trans y4
                  have hT : bwd (G.drop (m - a)) = bwd (G.drop (m + 1 - a)) ++ [y.b1, y.f0] := by rw [show m + 1 - a = (m - a) + 1 by omega]; exact bwd_snoc G _ y hy
                  have hll : (acc ++ fwd G ++ bwd (G.drop (m + 1 - a))).length ≤ 4 * xs.length := by
                    rw [List.length_append, List.length_append, HACC.out, fwd_len, bwd_len, List.length_drop, HGL.out]; omega
                  have HT := Lib.hid hT
                  have ag := own_ne hown hb1
                  have HO2 := Lib.hid hown; have HB2 := Lib.hid hbl
                  have hb1w : b1 < wr.heap.size := by omega
                  have hk0 : (0 : Int) ≤ (m : Int) := Int.natCast_nonneg _
                  have hk1 : (m : Int) < (xs.length : Int) := by omega
                  clear hown hbl y1 y4 hT hy hyx
                  generalize hL : acc ++ fwd G ++ bwd (G.drop (m + 1 - a)) = L at *
                  have HL := Lib.hid hL; clear hL
                  go_wp2_with fail
                  go_region_held3 (fun w' => w'.cell? ⟨b1, o1 + m * 5 + 1, none⟩ = some (.int .i64 y.f0) ∧ w'.cell? ⟨b1, o1 + m * 5 + 4, none⟩ = some (.int .i64 y.b1))
                    (first
                      | go_keep
                      | (go_split_ands
                         refine ⟨?_, ?_⟩ <;> (rw [hgrow.cell_far _ (by simp; omega) (Ne.symm ag)]; assumption)))
                    ((refine step_append_lies _ (by rfl) _ _ _ (by rfl) w.heap.size 3 i0 _ 1 8 Try.underlying28 HI.out HZ0.out HZ1.out HZ2.out rfl (by omega) _ L.length (ints L) (by rfl) ((HO2.out.alloc _).drew)
                        ⟨wr.heap.size, 0, none⟩ 2 2 [.int .i64 y.b1, .int .i64 y.f0] (by rfl) (by rfl) (World.news_of_block (cs := #[.int .i64 y.b1, .int .i64 y.f0]) (t := 3) (fr := (0, 0)) (heap_alloc_new wr _)) (by simp [Value.oneCell'])
                        (by omega) (by unfold maxLen; omega) (by omega) (by simp; omega) (wr.heap.size + 1) (by simp) ?_; intro gg cap w3 hown1 hgrow hat hltg))
                  have hown2 := OwnI.snoc2 hown1
                  have HO3 := Lib.hid hown2
                  go_wp2_with fail
                  go_roundw
                  case rel => exact ⟨m, by omega, by omega, rfl, by rw [HT.out, ← List.append_assoc, HL.out]; exact HO3.out, ((HB2.out.alloc hbs'' _).drew).grown hgrow (by simp; omega) (fun j e => (HO2.out.lt j e).1)⟩
                  case measure => simp [intOf]
                · have hma : m = a := by omega
                  have hown' : OwnI wr w.heap.size u4 (acc ++ fwd G ++ bwd G) := by
                    rw [hma] at hown; simpa using hown
                  have HO2 := Lib.hid hown'; have HB2 := Lib.hid hbl
                  clear hown hown' hbl
                  have hlen : (acc ++ fwd G ++ bwd G).length = 4 * e := by
                    rw [List.length_append, List.length_append, HACC.out, fwd_len, bwd_len, HGL.out]; omega
                  have HLEN := Lib.hid hlen; have HMA := Lib.hid hma
                  clear hlen hma
                  have hdd : (xs.drop a).drop (e - a) = xs.drop e := by rw [List.drop_drop, show a + (e - a) = e by omega]
                  have HDD := Lib.hid hdd; clear hdd
                  go_wp2_with fail
                  go_roundw
                  case rel => exact ⟨e, f', qi + 1, acc ++ fwd G ++ bwd G, by omega, rfl, by omega, by omega, rfl, HLEN.out, by rw [← HDD.out]; exact HF'.out, by rw [← HDD.out, ← HG.out]; rw [← HG.out] at HRR; exact HRR.out, HO2.out, HB2.out⟩
                  case measure => simp [intOf]; omega
        · have hqb : (x.q != qi + 1) = true := by simpa using hqq
          have hRe : readL xs = ([], 2) := by rw [HR.out]; exact readF_bad (drop_at (j := 0) HX.out) HF.out hqq
          have HRE := Lib.hid hRe
          clear hRe hrp hqq
          go_wp2
          go_ret2
          exact ⟨_, by rw [HRE.out]; rfl, by rw [HRE.out]; exact OwnI.nil _ _, Below.dn HB.out _⟩
    · have haa : a = xs.length := by omega
      have hRe : readL xs = (acc, 0) := by rw [HR.out, List.drop_eq_nil_of_le (by omega), readF_nil]
      have HRE := Lib.hid hRe
      clear hRe haa hbl
      go_wp2
      go_ret2
      refine ⟨_, by rw [HRE.out]; rfl, ?_, HB.out⟩
      rw [HRE.out]; exact HO.out
end Go.Proofs.Ythldekpbjfhmcaa
