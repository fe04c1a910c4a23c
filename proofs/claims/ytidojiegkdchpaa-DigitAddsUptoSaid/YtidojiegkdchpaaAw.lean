/- The reference's Weak; plain. -/
import Derived.Test.YtidojiegkdchpaaAv
namespace Go.Proofs.Ytidojiegkdchpaa
open Go.RowKit Go.Maps

def spO (ws : List Int) (k : Nat) : Nat → List Slip
  | 0 => []
  | 1 => spA ws k
  | _ => spA ws k ++ spB ws k
theorem noHit_pre {m : Int} {a b : List Slip} (h : noHit m (a ++ b)) : noHit m a := fun y hy => h y (List.mem_append.2 (.inl hy))

set_option maxHeartbeats 1000000 in
theorem plain_any (a b c d : Int) (w : World) :
    Calls Try.prog 19 #[.agg #[.int .i64 a, .int .i64 b, .int .i64 c, .int .i64 d]] w fun e w' => e = .returned (.agg #[.int .i64 a, .int .i64 b, .int .i64 c, .int .i64 d]) ∧ Below w.heap.size w w' := by
  go_enter Try.func19, Try.ntmps19
  go_wp2
  have b4 := Boxs.new (w.alloc (.cells #[.int .i64 a, .int .i64 b, .int .i64 c, .int .i64 d] 35)) 38 #[.int .i64 a, .int .i64 b, .int .i64 c, .int .i64 d]
  rw [World.size_alloc] at b4
  have e0 := b4.cell 0
  have e1 := b4.cell 1
  have e2 := b4.cell 2
  have e3 := b4.cell 3
  simp at e0 e1 e2 e3
  refine bodyPost_ret (v := .agg #[.int .i64 a, .int .i64 b, .int .i64 c, .int .i64 d]) ?_ rfl ⟨rfl, ((Below.refl _ w).alloc (Nat.le_refl _) _).alloc (by simp) _⟩
  simp only [results, Try.results19]
  simp [go_sem]

set_option maxRecDepth 100000 in
set_option maxHeartbeats 8000000 in
theorem rweak_any (v : Value) (ws : List Int) (m : Int) (w : World) (h : RdI w v ws) :
    Calls Try.prog 18 #[v, .int .i64 m] w fun e w' => e = .returned (.tuple #[flV (weakV ws m), .bool (weakV ws m).isSome, .int .i64 (errF ws m)]) ∧ Below w.heap.size w w' := by
  have P0 := error_any v ws m (w.alloc (.cells #[.int .i64 0, .int .i64 0, .int .i64 0, .int .i64 0] 38)) (h.below ((Below.refl _ w).alloc (Nat.le_refl _) _))
  have HR := Lib.hid h
  obtain ⟨a, c, rfl, l1, _⟩ := h.open
  clear h
  have B0 := Boxs.new w 38 #[.int .i64 0, .int .i64 0, .int .i64 0, .int .i64 0]
  have BB := (Below.refl w.heap.size w).alloc (Nat.le_refl _) (.cells #[.int .i64 0, .int .i64 0, .int .i64 0, .int .i64 0] 38)
  by_cases he : errF ws m = 0
  · obtain ⟨z1, z2, z3, z4⟩ := errF_0 he
    have hwv : weakV ws m = weakR ws m := if_neg (by simp [he])
    rw [hwv, he]
    rw [he] at P0
    have hmid : mid 1024 ws := fun x hx => by have := z4 x hx; omega
    have HMID := Lib.hid hmid
    clear hwv he z4 hmid
    go_enter Try.func18, Try.ntmps18
    go_wp2_with fail
    refine P0.mono ?_
    rintro e w1 ⟨rfl, hb1⟩
    have A4 : Boxs w1 w.heap.size 38 #[.int .i64 0, .int .i64 0, .int .i64 0, .int .i64 0] := (hb1.block _ B0.lt).trans B0
    have AB : Below w.heap.size w w1 := BB.trans (hb1.mono (by simp))
    have HA4 := Lib.hid A4; have HAB := Lib.hid AB
    clear A4 AB hb1 B0 BB P0
    go_wp2_with fail
    go_loopw [8] (fun i wr => ∃ k : Nat, k ≤ ws.length ∧ i = .int .i64 k ∧ noHit m (spN ws k) ∧ Boxs wr w.heap.size 38 #[.int .i64 0, .int .i64 0, .int .i64 0, .int .i64 0] ∧ Below w.heap.size w wr) (fun i _ => ws.length - (intOf i).toNat)
    case atStart => exact ⟨0, Nat.zero_le _, rfl, noHit_nil m, HA4.out, HAB.out⟩
    case round =>
      obtain ⟨k, hk, rfl, hnh, hbx, hbl⟩ := hrel
      have HNH := Lib.hid hnh; have HBX := Lib.hid hbx; have HBL := Lib.hid hbl
      by_cases hlt : k < ws.length
      · have q1 : (k : Int) < (ws.length : Int) := by omega
        obtain ⟨x, hx⟩ := elem_at hlt
        have HX := Lib.hid hx
        clear hnh hbx hbl hx
        go_wp2_with fail
        go_loopw [9] (fun i wr => ∃ o : Int, (o = 0 ∨ o = 1 ∨ o = 2) ∧ i = .int .i64 o ∧ (o = 2 → k + 1 < ws.length) ∧ noHit m (spN ws k ++ spO ws k o.toNat) ∧ Boxs wr w.heap.size 38 #[.int .i64 0, .int .i64 0, .int .i64 0, .int .i64 0] ∧ Below w.heap.size w wr) (fun i _ => 2 - (intOf i).toNat)
        case atStart => exact ⟨0, .inl rfl, rfl, by omega, by rw [show spO ws k (0 : Int).toNat = [] from rfl, List.append_nil]; exact HNH.out, HBX.out, HBL.out⟩
        case round =>
          obtain ⟨o, ho, rfl, hol, hnh, hbx, hbl⟩ := hrel
          have HN2 := Lib.hid hnh; have HX2 := Lib.hid hbx; have HL2 := Lib.hid hbl
          rcases ho with rfl | rfl | rfl
          · have q2 : (k : Int) < (ws.length : Int) := by omega
            have hpfx : spN ws k ++ [(k, -1, x)] <+: spL ws := by
              have e := spN_pre (ws := ws) (k := k + 1) (j := ws.length) hlt
              rw [spN_succ, spA_at HX.out, ← List.append_assoc] at e
              exact (List.prefix_append _ _).trans e
            have HPFX := Lib.hid hpfx
            have hnp : noHit m (spN ws k) := by have e := HN2.out; rw [show spO ws k (0 : Int).toNat = [] from rfl, List.append_nil] at e; exact e
            have HNP := Lib.hid hnp
            have hlw := hbx.lt
            have hbs := hbl.size
            clear hnh hbx hbl hpfx hnp hol
            go_wp2_with fail
            have bF : Boxs (wr.alloc (.cells #[.int .i64 k, .int .i64 (-1), .int .i64 0, .int .i64 0] 38)) wr.heap.size 38 #[.int .i64 k, .int .i64 (-1), .int .i64 0, .int .i64 0] := Boxs.new wr 38 _
            have bR := HX2.out.alloc (.cells #[.int .i64 k, .int .i64 (-1), .int .i64 0, .int .i64 0] 38)
            have bL := HL2.out.alloc hbs (.cells #[.int .i64 k, .int .i64 (-1), .int .i64 0, .int .i64 0] 38)
            have hfn : wr.heap.size ≠ w.heap.size := by omega
            generalize wr.alloc (.cells #[.int .i64 k, .int .i64 (-1), .int .i64 0, .int .i64 0] 38) = W0 at *
            generalize hfb : wr.heap.size = fB at *
            have HF := Lib.hid bF; have HRr := Lib.hid bR; have HLl := Lib.hid bL
            clear bF bR bL
            go_loopw [11] (fun i wd => ∃ (d : Nat) (z : Int), 1 ≤ d ∧ (d : Int) ≤ m ∧ i = .int .i64 d ∧ (∀ j : Nat, 1 ≤ j → j < d → (x * (j : Int)) % m ≠ 0) ∧ Boxs wd fB 38 #[.int .i64 k, .int .i64 (-1), .int .i64 0, .int .i64 z] ∧ Boxs wd w.heap.size 38 #[.int .i64 0, .int .i64 0, .int .i64 0, .int .i64 0] ∧ Below w.heap.size w wd) (fun i _ => m.toNat - (intOf i).toNat)
            case atStart => exact ⟨1, 0, Nat.le_refl _, by omega, rfl, by omega, HF.out, HRr.out, HLl.out⟩
            case round =>
              obtain ⟨d, z, hd1, hd2, rfl, hno, bF, bR, bL⟩ := hrel
              have HNO := Lib.hid hno
              clear hno
              by_cases hlt2 : (d : Int) < m
              · have e0 := bF.cell 0
                have e1 := bF.cell 1
                have e2 := bF.cell 2
                have e3 := bF.cell 3
                have ff := bF.frozen
                simp at e0 e1 e2 e3
                have bF2 := (bF.put 3 (.int .i64 d)).same (cs' := #[.int .i64 k, .int .i64 (-1), .int .i64 0, .int .i64 d]) (by simp)
                have bR2 := bR.setOther (Ne.symm hfn) 3 (.int .i64 d)
                have bL2 := bL.setCell (p := ⟨fB, 3, none⟩) (show w.heap.size ≤ fB from (by omega)) (.int .i64 d)
                have RDW := HR.out.below bL2
                have LO := rlostA_any _ ws m k x d _ RDW HMID.out z1 z2 z3 HX.out (by omega)
                have HF2 := Lib.hid bF2; have HR2 := Lib.hid bR2; have HL3 := Lib.hid bL2
                clear bF bR bL bF2 bR2 bL2 RDW
                by_cases hh : (x * (d : Int)) % m = 0
                · have hlo : lostF x 0 m d = true := (by rw [lost_hit, Int.sub_zero]; exact decide_eq_true hh)
                  rw [hlo] at LO
                  have hhit := hit_some hd1 hlt2 hh HNO.out
                  have hwr := weak_some (x := (k, -1, x)) HPFX.out HNP.out hhit
                  have HWR := Lib.hid hwr
                  clear hlo hh hhit hwr
                  go_wp2_with fail
                  refine LO.mono ?_
                  rintro e w4 ⟨rfl, hb4⟩
                  have bF4 := (hb4.block _ HF2.out.lt).trans HF2.out
                  have bR4 : Boxs w4 w.heap.size 38 #[.int .i64 0, .int .i64 0, .int .i64 0, .int .i64 0] := (hb4.block _ HR2.out.lt).trans HR2.out
                  have bF5 : Boxs w4 fB 38 #[.int .i64 k, .int .i64 (-1), .int .i64 0, .int .i64 d] := bF4
                  have g0 := bF5.cell 0
                  have g1 := bF5.cell 1
                  have g2 := bF5.cell 2
                  have g3 := bF5.cell 3
                  have r0 := bR4.cell 0
                  have r1 := bR4.cell 1
                  have r2 := bR4.cell 2
                  have r3 := bR4.cell 3
                  have rf := bR4.frozen
                  simp at g0 g1 g2 g3 r0 r1 r2 r3
                  have HR4 := Lib.hid bR4; have HB4 := Lib.hid (HL3.out.trans (hb4.mono HL3.out.size))
                  clear bF4 bF5 bR4 hb4 e0 e1 e2 e3 LO
                  go_wp2_with fail
                  have sc := fun (W W' : World) (b o : Nat) (v : Value) (hb : w.heap.size ≤ b) (h : Below w.heap.size W W') => h.setCell (p := ⟨b, o, none⟩) hb v
                  have q4 := (((HR4.out.put 0 (.int .i64 k)).put 1 (.int .i64 (-1))).put 2 (.int .i64 0)).put 3 (.int .i64 d)
                  refine bodyPost_ret (results_fr rfl (q4.same (cs' := #[.int .i64 k, .int .i64 (-1), .int .i64 0, .int .i64 d]) (by simp))) rfl ?_
                  rw [HWR.out]
                  exact ⟨rfl, sc _ _ _ _ _ (by omega) (sc _ _ _ _ _ (by omega) (sc _ _ _ _ _ (by omega) (sc _ _ _ _ _ (by omega) HB4.out)))⟩
                · have hlo : lostF x 0 m d = false := (by rw [lost_hit, Int.sub_zero]; exact decide_eq_false hh)
                  rw [hlo] at LO
                  have HH := Lib.hid hh
                  clear hlo hh
                  go_wp2_with fail
                  refine LO.mono ?_
                  rintro e w4 ⟨rfl, hb4⟩
                  have HF4 := Lib.hid ((hb4.block _ HF2.out.lt).trans HF2.out); have HR4 := Lib.hid ((hb4.block _ HR2.out.lt).trans HR2.out); have HB4 := Lib.hid (HL3.out.trans (hb4.mono HL3.out.size))
                  clear hb4 e0 e1 e2 e3 LO
                  go_wp2_with fail
                  go_roundw
                  case rel =>
                    refine ⟨d + 1, d, by omega, by omega, by go_num, fun j hj1 hj2 => ?_, HF4.out, HR4.out, HB4.out⟩
                    rcases Nat.lt_or_ge j d with h | h
                    · exact HNO.out j hj1 h
                    · obtain rfl : j = d := by omega
                      exact HH.out
                  case measure => simp [intOf]; omega
              · have hhit : hitF m x = none := hit_none fun j hj1 hj2 => HNO.out j hj1 (by omega)
                have hn4 := noHit_snoc (x := (k, -1, x)) HNP.out hhit
                have HN4 := Lib.hid hn4; have HF4 := Lib.hid bF; have HR4 := Lib.hid bR; have HB4 := Lib.hid bL
                clear hhit hn4 bF bR bL
                go_wp2_with fail
                go_roundw
                case rel => exact ⟨1, by omega, by first | rfl | go_num, by omega, by rw [show spO ws k (1 : Int).toNat = spA ws k from rfl, spA_at HX.out]; exact HN4.out, HR4.out, HB4.out⟩
                case measure => simp [intOf]
          · by_cases hnx : k + 1 < ws.length
            · obtain ⟨y, hy⟩ := elem_at hnx
              have HY := Lib.hid hy
              have q2 : (k : Int) + 1 < (ws.length : Int) := by omega
              clear hy
              have hpfx : spN ws k ++ spA ws k ++ [(k, (k : Int) + 1, x - y)] <+: spL ws := by
                have e := spN_pre (ws := ws) (k := k + 1) (j := ws.length) hlt
                rw [spN_succ, spB_at HX.out HY.out, ← List.append_assoc] at e
                exact e
              have HPFX := Lib.hid hpfx
              have hnp : noHit m (spN ws k ++ spA ws k) := by exact HN2.out
              have HNP := Lib.hid hnp
              have hlw := hbx.lt
              have hbs := hbl.size
              clear hnh hbx hbl hpfx hnp hol
              go_wp2_with fail
              have bF : Boxs (wr.alloc (.cells #[.int .i64 k, .int .i64 ((k : Int) + 1), .int .i64 0, .int .i64 0] 38)) wr.heap.size 38 #[.int .i64 k, .int .i64 ((k : Int) + 1), .int .i64 0, .int .i64 0] := Boxs.new wr 38 _
              have bR := HX2.out.alloc (.cells #[.int .i64 k, .int .i64 ((k : Int) + 1), .int .i64 0, .int .i64 0] 38)
              have bL := HL2.out.alloc hbs (.cells #[.int .i64 k, .int .i64 ((k : Int) + 1), .int .i64 0, .int .i64 0] 38)
              have hfn : wr.heap.size ≠ w.heap.size := by omega
              generalize wr.alloc (.cells #[.int .i64 k, .int .i64 ((k : Int) + 1), .int .i64 0, .int .i64 0] 38) = W0 at *
              generalize hfb : wr.heap.size = fB at *
              have HF := Lib.hid bF; have HRr := Lib.hid bR; have HLl := Lib.hid bL
              clear bF bR bL
              go_loopw [11] (fun i wd => ∃ (d : Nat) (z : Int), 1 ≤ d ∧ (d : Int) ≤ m ∧ i = .int .i64 d ∧ (∀ j : Nat, 1 ≤ j → j < d → ((x - y) * (j : Int)) % m ≠ 0) ∧ Boxs wd fB 38 #[.int .i64 k, .int .i64 ((k : Int) + 1), .int .i64 0, .int .i64 z] ∧ Boxs wd w.heap.size 38 #[.int .i64 0, .int .i64 0, .int .i64 0, .int .i64 0] ∧ Below w.heap.size w wd) (fun i _ => m.toNat - (intOf i).toNat)
              case atStart => exact ⟨1, 0, Nat.le_refl _, by omega, rfl, by omega, HF.out, HRr.out, HLl.out⟩
              case round =>
                obtain ⟨d, z, hd1, hd2, rfl, hno, bF, bR, bL⟩ := hrel
                have HNO := Lib.hid hno
                clear hno
                by_cases hlt2 : (d : Int) < m
                · have e0 := bF.cell 0
                  have e1 := bF.cell 1
                  have e2 := bF.cell 2
                  have e3 := bF.cell 3
                  have ff := bF.frozen
                  simp at e0 e1 e2 e3
                  have bF2 := (bF.put 3 (.int .i64 d)).same (cs' := #[.int .i64 k, .int .i64 ((k : Int) + 1), .int .i64 0, .int .i64 d]) (by simp)
                  have bR2 := bR.setOther (Ne.symm hfn) 3 (.int .i64 d)
                  have bL2 := bL.setCell (p := ⟨fB, 3, none⟩) (show w.heap.size ≤ fB from (by omega)) (.int .i64 d)
                  have RDW := HR.out.below bL2
                  have LO := rlostB_any _ ws m k (k + 1) x y d _ RDW HMID.out z1 z2 z3 HX.out HY.out (by omega) (by omega)
                  have HF2 := Lib.hid bF2; have HR2 := Lib.hid bR2; have HL3 := Lib.hid bL2
                  clear bF bR bL bF2 bR2 bL2 RDW
                  by_cases hh : ((x - y) * (d : Int)) % m = 0
                  · have hlo : lostF x y m d = true := (by rw [lost_hit]; exact decide_eq_true hh)
                    rw [hlo] at LO
                    have hhit := hit_some hd1 hlt2 hh HNO.out
                    have hwr := weak_some (x := (k, (k : Int) + 1, x - y)) HPFX.out HNP.out hhit
                    have HWR := Lib.hid hwr
                    clear hlo hh hhit hwr
                    go_wp2_with fail
                    refine LO.mono ?_
                    rintro e w4 ⟨rfl, hb4⟩
                    have bF4 := (hb4.block _ HF2.out.lt).trans HF2.out
                    have bR4 : Boxs w4 w.heap.size 38 #[.int .i64 0, .int .i64 0, .int .i64 0, .int .i64 0] := (hb4.block _ HR2.out.lt).trans HR2.out
                    have bF5 : Boxs w4 fB 38 #[.int .i64 k, .int .i64 ((k : Int) + 1), .int .i64 0, .int .i64 d] := bF4
                    have g0 := bF5.cell 0
                    have g1 := bF5.cell 1
                    have g2 := bF5.cell 2
                    have g3 := bF5.cell 3
                    have r0 := bR4.cell 0
                    have r1 := bR4.cell 1
                    have r2 := bR4.cell 2
                    have r3 := bR4.cell 3
                    have rf := bR4.frozen
                    simp at g0 g1 g2 g3 r0 r1 r2 r3
                    have HR4 := Lib.hid bR4; have HB4 := Lib.hid (HL3.out.trans (hb4.mono HL3.out.size))
                    clear bF4 bF5 bR4 hb4 e0 e1 e2 e3 LO
                    go_wp2_with fail
                    have sc := fun (W W' : World) (b o : Nat) (v : Value) (hb : w.heap.size ≤ b) (h : Below w.heap.size W W') => h.setCell (p := ⟨b, o, none⟩) hb v
                    have q4 := (((HR4.out.put 0 (.int .i64 k)).put 1 (.int .i64 ((k : Int) + 1))).put 2 (.int .i64 0)).put 3 (.int .i64 d)
                    refine bodyPost_ret (results_fr rfl (q4.same (cs' := #[.int .i64 k, .int .i64 ((k : Int) + 1), .int .i64 0, .int .i64 d]) (by simp))) rfl ?_
                    rw [HWR.out]
                    exact ⟨rfl, sc _ _ _ _ _ (by omega) (sc _ _ _ _ _ (by omega) (sc _ _ _ _ _ (by omega) (sc _ _ _ _ _ (by omega) HB4.out)))⟩
                  · have hlo : lostF x y m d = false := (by rw [lost_hit]; exact decide_eq_false hh)
                    rw [hlo] at LO
                    have HH := Lib.hid hh
                    clear hlo hh
                    go_wp2_with fail
                    refine LO.mono ?_
                    rintro e w4 ⟨rfl, hb4⟩
                    have HF4 := Lib.hid ((hb4.block _ HF2.out.lt).trans HF2.out); have HR4 := Lib.hid ((hb4.block _ HR2.out.lt).trans HR2.out); have HB4 := Lib.hid (HL3.out.trans (hb4.mono HL3.out.size))
                    clear hb4 e0 e1 e2 e3 LO
                    go_wp2_with fail
                    go_roundw
                    case rel =>
                      refine ⟨d + 1, d, by omega, by omega, by go_num, fun j hj1 hj2 => ?_, HF4.out, HR4.out, HB4.out⟩
                      rcases Nat.lt_or_ge j d with h | h
                      · exact HNO.out j hj1 h
                      · obtain rfl : j = d := by omega
                        exact HH.out
                    case measure => simp [intOf]; omega
                · have hhit : hitF m (x - y) = none := hit_none fun j hj1 hj2 => HNO.out j hj1 (by omega)
                  have hn4 := noHit_snoc (x := (k, (k : Int) + 1, x - y)) HNP.out hhit
                  have HN4 := Lib.hid hn4; have HF4 := Lib.hid bF; have HR4 := Lib.hid bR; have HB4 := Lib.hid bL
                  clear hhit hn4 bF bR bL
                  go_wp2_with fail
                  go_roundw
                  case rel => exact ⟨2, by omega, by first | rfl | go_num, fun _ => hnx, by rw [show spO ws k (2 : Int).toNat = spA ws k ++ spB ws k from rfl, spB_at HX.out HY.out, ← List.append_assoc]; exact HN4.out, HR4.out, HB4.out⟩
                  case measure => simp [intOf]
            · have hn3 : noHit m (spN ws (k + 1)) := by rw [spN_succ, spB_no (by omega), List.append_nil]; exact HN2.out
              have HN3 := Lib.hid hn3
              have q2 : ¬ (k : Int) + 1 < (ws.length : Int) := by omega
              clear hnh hbx hbl hn3 hol
              go_wp2_with fail
              all_goals first | (go_quiet (fail); go_wp2_with fail) | skip
              go_roundw
              case rel => exact ⟨k + 1, by omega, by go_num, HN3.out, HX2.out, HL2.out⟩
              case measure => simp [intOf]; omega
          · have hnx := hol rfl
            have hn3 : noHit m (spN ws (k + 1)) := by rw [spN_succ]; exact HN2.out
            have HN3 := Lib.hid hn3
            clear hnh hbx hbl hn3 hol
            go_wp2_with fail
            all_goals first | (go_quiet (fail); go_wp2_with fail) | skip
            go_roundw
            case rel => exact ⟨k + 1, by omega, by go_num, HN3.out, HX2.out, HL2.out⟩
            case measure => simp [intOf]; omega
      · have hke : k = ws.length := by omega
        have q1 : ¬ (k : Int) < (ws.length : Int) := by omega
        have hwr : weakR ws m = none := by rw [hke] at hnh; exact weak_none hnh
        have HWR := Lib.hid hwr
        have d0 := hbx.cell 0
        have d1 := hbx.cell 1
        have d2 := hbx.cell 2
        have d3 := hbx.cell 3
        have ff := hbx.frozen
        simp at d0 d1 d2 d3
        clear hnh hbx hbl hwr hke
        go_wp2_with fail
        have sc := fun (W W' : World) (b o : Nat) (v : Value) (hb : w.heap.size ≤ b) (h : Below w.heap.size W W') => h.setCell (p := ⟨b, o, none⟩) hb v
        have q4 := (((HBX.out.put 0 (.int .i64 0)).put 1 (.int .i64 0)).put 2 (.int .i64 0)).put 3 (.int .i64 0)
        refine bodyPost_ret (results_fr rfl (q4.same (cs' := #[.int .i64 0, .int .i64 0, .int .i64 0, .int .i64 0]) (by simp))) rfl ?_
        rw [HWR.out]
        exact ⟨rfl, sc _ _ _ _ _ (by omega) (sc _ _ _ _ _ (by omega) (sc _ _ _ _ _ (by omega) (sc _ _ _ _ _ (by omega) HBL.out)))⟩
  · have hwv : weakV ws m = none := if_pos he
    have hb : (errF ws m != 0) = true := by simpa using he
    have HWV := Lib.hid hwv
    clear hwv he
    go_enter Try.func18, Try.ntmps18
    go_wp2_with fail
    refine P0.mono ?_
    rintro e w1 ⟨rfl, hb1⟩
    have b2 : Boxs w1 w.heap.size 38 #[.int .i64 0, .int .i64 0, .int .i64 0, .int .i64 0] := (hb1.block _ B0.lt).trans B0
    have d0 := b2.cell 0
    have d1 := b2.cell 1
    have d2 := b2.cell 2
    have d3 := b2.cell 3
    have ff := b2.frozen
    simp at d0 d1 d2 d3
    have HB2 := Lib.hid b2; have HB1 := Lib.hid (BB.trans (hb1.mono (by simp)))
    clear b2 hb1 P0 B0
    go_wp2_with fail
    have sc := fun (W W' : World) (b o : Nat) (v : Value) (hb : w.heap.size ≤ b) (h : Below w.heap.size W W') => h.setCell (p := ⟨b, o, none⟩) hb v
    have q4 := (((HB2.out.put 0 (.int .i64 0)).put 1 (.int .i64 0)).put 2 (.int .i64 0)).put 3 (.int .i64 0)
    refine bodyPost_ret (results_fr rfl (q4.same (cs' := #[.int .i64 0, .int .i64 0, .int .i64 0, .int .i64 0]) (by simp))) rfl ?_
    rw [HWV.out]
    exact ⟨rfl, sc _ _ _ _ _ (by omega) (sc _ _ _ _ _ (by omega) (sc _ _ _ _ _ (by omega) (sc _ _ _ _ _ (by omega) HB1.out)))⟩
end Go.Proofs.Ytidojiegkdchpaa
