/- The walk of DigitWeak. -/
import Derived.Test.YtidojiegkdchpaaBc
import Derived.Deep.OwnRows
import Derived.Deep.CutRange
namespace Go.Proofs.Ytidojiegkdchpaa
open Go.RowKit Go.Maps

theorem made_zeros (n : Nat) : madeCells #[.int .i64 0] n = (ints (List.replicate n 0)).toArray := by
  unfold madeCells ints
  apply Array.ext
  · simp
  · intro i h1 h2
    simp [Nat.mod_one]
theorem makeZ (t : TypeId) (ht : Try.prog.underlying t = some (.slice 3)) (n : Nat) (hn : n ≤ 1000) (w : World) : (Instr.makeSlice t (.int .i64 n) (.int .i64 n)).run Try.prog w = .ok (.slice (some ⟨w.heap.size, 0, none⟩) n n) (w.alloc (.cells (ints (List.replicate n 0)).toArray 3)) := by
  rw [← made_zeros]
  exact run_make_row' t 3 (.int .i64 0) 8 ht Try.info3i rfl .i64 .i64 n (by omega) (by omega) w
theorem make257 : ∃ Z : List Int, Z.length = 257 ∧ (∀ x, x ∈ Z → x = 0) ∧ ∀ w : World, (Instr.makeSlice 22 (.int .i64 257) (.int .i64 257)).run Try.prog w = .ok (.slice (some ⟨w.heap.size, 0, none⟩) 257 257) (w.alloc (.cells (ints Z).toArray 3)) :=
  ⟨List.replicate 257 0, List.length_replicate, fun x h => (List.mem_replicate.1 h).2, fun w => makeZ 22 Try.underlying22 257 (by omega) w⟩

def Lst (wL : World) (bA bB : Nat) : Prop := ∀ k : Nat, k < 5 → ∃ (p : Option Addr) (cp : Nat) (L : List Int) (m : Int), wL.cell? ⟨bA, k, none⟩ = some (.slice p L.length cp) ∧ RdI wL (.slice p L.length cp) L ∧ wL.cell? ⟨bB, k, none⟩ = some (.int .i64 m) ∧ bA < wL.heap.size ∧ bB < wL.heap.size
theorem lst_new {w1 : World} {au a2 : Option Addr} {sw raw Z : List Int} {cu c2 : Nat} {M mod : Int} (hu : RdI w1 (.slice au sw.length cu) sw) (h2 : RdI w1 (.slice a2 raw.length c2) raw) (hz : Z.length = 257) :
    Lst (((w1.alloc (.cells (ints Z).toArray 3)).alloc (.cells #[.slice au sw.length cu, .slice a2 raw.length c2, .slice a2 raw.length c2, .slice none 0 0, .slice (some ⟨w1.heap.size, 0, none⟩) 257 257] 22)).alloc (.cells #[.int .i64 M, .int .i64 mod, .int .i64 M, .int .i64 M, .int .i64 9] 3)) (w1.heap.size + 1) (w1.heap.size + 1 + 1) := by
  have rz := rdI_new w1 Z (by omega)
  rw [hz] at rz
  have b0 := (Below.refl w1.heap.size w1).alloc (Nat.le_refl _) (.cells (ints Z).toArray 3)
  have hu1 := hu.below b0
  have h21 := h2.below b0
  clear b0 hu h2
  have hs0 : (w1.alloc (.cells (ints Z).toArray 3)).heap.size = w1.heap.size + 1 := by simp
  rw [← hs0]
  generalize w1.alloc (.cells (ints Z).toArray 3) = W1 at *
  have B1 := Boxs.new W1 22 #[.slice au sw.length cu, .slice a2 raw.length c2, .slice a2 raw.length c2, .slice none 0 0, .slice (some ⟨w1.heap.size, 0, none⟩) 257 257]
  have b1 := (Below.refl W1.heap.size W1).alloc (Nat.le_refl _) (.cells #[.slice au sw.length cu, .slice a2 raw.length c2, .slice a2 raw.length c2, .slice none 0 0, .slice (some ⟨w1.heap.size, 0, none⟩) 257 257] 22)
  have hu2 := hu1.below b1
  have h22 := h21.below b1
  have hz2 := rz.below b1
  have hs1 : (W1.alloc (.cells #[.slice au sw.length cu, .slice a2 raw.length c2, .slice a2 raw.length c2, .slice none 0 0, .slice (some ⟨w1.heap.size, 0, none⟩) 257 257] 22)).heap.size = W1.heap.size + 1 := by simp
  rw [← hs1]
  have hlt := B1.lt
  clear b1 hu1 h21 rz hs0
  generalize W1.alloc (.cells #[.slice au sw.length cu, .slice a2 raw.length c2, .slice a2 raw.length c2, .slice none 0 0, .slice (some ⟨w1.heap.size, 0, none⟩) 257 257] 22) = W2 at *
  have B2 := Boxs.new W2 3 #[.int .i64 M, .int .i64 mod, .int .i64 M, .int .i64 M, .int .i64 9]
  have b2 := (Below.refl W2.heap.size W2).alloc (Nat.le_refl _) (.cells #[.int .i64 M, .int .i64 mod, .int .i64 M, .int .i64 M, .int .i64 9] 3)
  have hu3 := hu2.below b2
  have h23 := h22.below b2
  have hz3 := hz2.below b2
  have lt2 := B2.lt
  have g : ∀ k, (W2.alloc (.cells #[.int .i64 M, .int .i64 mod, .int .i64 M, .int .i64 M, .int .i64 9] 3)).cell? ⟨W1.heap.size, k, none⟩ = #[.slice au sw.length cu, .slice a2 raw.length c2, .slice a2 raw.length c2, .slice none 0 0, .slice (some ⟨w1.heap.size, 0, none⟩) 257 257][k]? := fun k => (b2.cell (p := ⟨W1.heap.size, k, none⟩) hlt).trans (B1.cell k)
  have hlt3 := Nat.lt_of_lt_of_le hlt b2.size
  generalize W2.alloc (.cells #[.int .i64 M, .int .i64 mod, .int .i64 M, .int .i64 M, .int .i64 9] 3) = W3 at *
  intro k hk
  rcases k with _ | _ | _ | _ | _ | k
  · exact ⟨au, cu, sw, M, g 0, hu3, B2.cell 0, hlt3, lt2⟩
  · exact ⟨a2, c2, raw, mod, g 1, h23, B2.cell 1, hlt3, lt2⟩
  · exact ⟨a2, c2, raw, M, g 2, h23, B2.cell 2, hlt3, lt2⟩
  · exact ⟨.none, 0, [], M, g 3, RdI.none _, B2.cell 3, hlt3, lt2⟩
  · exact ⟨some ⟨w1.heap.size, 0, none⟩, 257, Z, 9, by rw [hz]; exact g 4, by rw [hz]; exact hz3, B2.cell 4, hlt3, lt2⟩
  · omega

theorem store4 (t : TypeId) (ht : t = 35 ∨ t = 38) {W : World} {b : Nat} {z0 z1 z2 z3 : Value} (v0 v1 v2 v3 : Int) (h : Boxs W b t #[z0, z1, z2, z3]) :
    ∃ W', (Instr.storeAt t (.pointer (some ⟨b, 0, none⟩)) (.agg #[.int .i64 v0, .int .i64 v1, .int .i64 v2, .int .i64 v3])).run Try.prog W = .ok () W' ∧ Boxs W' b t #[.int .i64 v0, .int .i64 v1, .int .i64 v2, .int .i64 v3] ∧ (∀ B a, B ≤ b → Below B a W → Below B a W') := by
  have B1 := h.put 0 (.int .i64 v0)
  have B2 := B1.put 1 (.int .i64 v1)
  have B3 := B2.put 2 (.int .i64 v2)
  have B4 := B3.put 3 (.int .i64 v3)
  have c0 : W.cell? ⟨b, 0, none⟩ = some z0 := h.cell 0
  have c1 : (W.setCell ⟨b, 0, none⟩ (.int .i64 v0)).cell? ⟨b, 1, none⟩ = some z1 := B1.cell 1
  have c2 : ((W.setCell ⟨b, 0, none⟩ (.int .i64 v0)).setCell ⟨b, 1, none⟩ (.int .i64 v1)).cell? ⟨b, 2, none⟩ = some z2 := B2.cell 2
  have c3 : (((W.setCell ⟨b, 0, none⟩ (.int .i64 v0)).setCell ⟨b, 1, none⟩ (.int .i64 v1)).setCell ⟨b, 2, none⟩ (.int .i64 v2)).cell? ⟨b, 3, none⟩ = some z3 := B3.cell 3
  have n0 := h.frozen 0
  have n1 := B1.frozen 1
  have n2 := B2.frozen 2
  have n3 := B3.frozen 3
  have sc := fun (B : Nat) (a W' : World) (o : Nat) (v : Value) (hb : B ≤ b) (h : Below B a W') => h.setCell (p := ⟨b, o, none⟩) hb v
  refine ⟨_, ?_, B4, fun B a hB hab => sc _ _ _ _ _ hB (sc _ _ _ _ _ hB (sc _ _ _ _ _ hB (sc _ _ _ _ _ hB hab)))⟩
  rcases ht with rfl | rfl <;> simp [go_sem, c0, c1, c2, c3, n0, n1, n2, n3]
theorem execOp_store {ρ : Operand → Value} {o : Oper} (t : TypeId) (a x : Operand) (ho : o.op = .store t a x) {p v : Value} (ha : ρ a = p) (hx : ρ x = v) {w w' : World} (h : (Instr.storeAt t p v).run Try.prog w = .ok () w') :
    (execOp ρ o).run Try.prog w = .ok .skip w' := by
  simp only [Instr.storeAt, Sem.run_bind] at h
  unfold execOp
  simp only [ho, ha, hx, Instr.storeAt, Sem.run_bind, Sem.run_pure, h, Result.andThen_ok]
theorem Boxs.dn {W : World} {B : Nat} {t : TypeId} {cs : Array Value} (h : Boxs W B t cs) (n : Nat) : Boxs (W.drewN n) B t cs := h
def Cells8 (W' : World) (b1 b2 : Nat) (f0 f1 f2 f3 : Int) : Prop := W'.cell? ⟨b1, 0, none⟩ = some (.int .i64 f0) ∧ W'.cell? ⟨b1, 1, none⟩ = some (.int .i64 f1) ∧ W'.cell? ⟨b1, 2, none⟩ = some (.int .i64 f2) ∧ W'.cell? ⟨b1, 3, none⟩ = some (.int .i64 f3) ∧ W'.cell? ⟨b2, 0, none⟩ = some (.int .i64 f0) ∧ W'.cell? ⟨b2, 1, none⟩ = some (.int .i64 f1) ∧ W'.cell? ⟨b2, 2, none⟩ = some (.int .i64 f2) ∧ W'.cell? ⟨b2, 3, none⟩ = some (.int .i64 f3)
theorem cells8 {W : World} {b1 b2 : Nat} {t1 t2 : TypeId} {f0 f1 f2 f3 : Int} (h1 : Boxs W b1 t1 #[.int .i64 f0, .int .i64 f1, .int .i64 f2, .int .i64 f3]) (h2 : Boxs W b2 t2 #[.int .i64 f0, .int .i64 f1, .int .i64 f2, .int .i64 f3]) : Cells8 W b1 b2 f0 f1 f2 f3 :=
  ⟨h1.cell 0, h1.cell 1, h1.cell 2, h1.cell 3, h2.cell 0, h2.cell 1, h2.cell 2, h2.cell 3⟩
theorem cells8_below {V V2 : World} {b1 b2 : Nat} {f0 f1 f2 f3 : Int} (h : Cells8 V b1 b2 f0 f1 f2 f3) (h1 : b1 < V.heap.size) (h2 : b2 < V.heap.size) (hb : Below V.heap.size V V2) : Cells8 V2 b1 b2 f0 f1 f2 f3 := by
  obtain ⟨a0, a1, a2, a3, a4, a5, a6, a7⟩ := h
  have e1 := fun o => hb.cell (p := ⟨b1, o, none⟩) h1
  have e2 := fun o => hb.cell (p := ⟨b2, o, none⟩) h2
  exact ⟨(e1 0).trans a0, (e1 1).trans a1, (e1 2).trans a2, (e1 3).trans a3, (e2 0).trans a4, (e2 1).trans a5, (e2 2).trans a6, (e2 3).trans a7⟩
/-- two operations may come up -/
theorem wpAnyHBoth {P : Program} {md : Region.Mode} {ops : Array Oper} {Q : Exit → Act → World → Prop} {S : World → Prop} {fuel : Nat} {listed : Array Bool} {a : Act} {w : World} (i j : Nat) (hr : Region.ready md ops listed = [i, j])
    (hi : wpOp P ops Q i (fun a' w' => S w' ∧ wpAnyH P md ops Q S fuel (listed.setIfInBounds i true) a' w') a w)
    (hj : wpOp P ops Q j (fun a' w' => S w' ∧ wpAnyH P md ops Q S fuel (listed.setIfInBounds j true) a' w') a w) : wpAnyH P md ops Q S (fuel + 1) listed a w :=
  wpAnyH_all hr (by simp) fun t ht => by
    rcases List.mem_cons.1 ht with rfl | ht
    · exact hi
    · rw [List.mem_singleton.1 ht]; exact hj
theorem wpOpRun' {P : Program} {ops : Array Oper} {Q : Exit → Act → World → Prop} {i : Nat} {o : Oper} {K : Act → World → Prop} {a : Act} {w w' : World} {v : Value} (d : Option Nat) (ho : ops[i]? = some o) (hd : o.dst = d)
    (hw : Region.wanted o (yielded ops a.tmps) = true) (hr : (execOp a.eval o).run P w = .ok (.value v) w') (h : K (a.put d v) w') : wpOp P ops Q i K a w := by
  subst hd; exact wpOpRun ho hw hr h
theorem wpOpCall {P : Program} {ops : Array Oper} {Q : Exit → Act → World → Prop} {K : Act → World → Prop} {a : Act} {w : World} {R : Ending → World → Prop} {i : Nat} (d : Option Nat) (f : Nat) (args : Array Value) {o : Oper}
    (ho : ops[i]? = some o) (hd : o.dst = d) (hw : Region.wanted o (yielded ops a.tmps) = true) (hrun : (execOp a.eval o).run P w = .ok (.enter f args) w) (hc : Calls P f args w R)
    (h : ∀ e w', R e w' → ∃ v, e = .returned v ∧ K (a.put d v) w') : wpOp P ops Q i K a w := by
  subst hd
  refine wpOp_step ho fun K' hK => ?_
  rw [if_pos hw]
  unfold Oper.wp
  rw [hrun]
  refine Calls.mono hc fun e w' he => ?_
  obtain ⟨v, rfl, hn⟩ := h e w' he
  exact hK _ _ hn
theorem fl_agg (o : Option (Nat × Int × Nat)) : ∃ a b c d : Int, flV o = .agg #[.int .i64 a, .int .i64 b, .int .i64 c, .int .i64 d] := by
  rcases o with _ | ⟨a, b, d⟩
  · exact ⟨0, 0, 0, 0, rfl⟩
  · exact ⟨a, b, 0, d, rfl⟩

set_option maxRecDepth 100000 in
set_option maxHeartbeats 8000000 in
theorem digitWeak_any (v1 v2 : Value) (l raw : List Int) (n mod : Int) (w : World) (h1 : RdI w v1 l) (h2 : RdI w v2 raw) (i1 : inI l) (hn : -9223372036854775808 ≤ n) (hn' : n ≤ 9223372036854775807) :
    Calls Try.prog 4 #[v1, .int .i64 n, v2, .int .i64 mod] w fun e w' => e = .returned (.bool true) ∧ Below w.heap.size w w' := by
  have SC := scheme_any v1 l n w h1 i1 hn hn'
  have LV := Lib.hid lives_any
  have H2 := Lib.hid h2
  obtain ⟨a1, c1, rfl, _, _⟩ := h1.open
  obtain ⟨a2, c2, rfl, _, _⟩ := h2.open
  clear h1 h2
  obtain ⟨Z, hZ1, hZ2, hmk⟩ := make257
  go_enter Try.func4, Try.ntmps4
  go_wp2_with fail
  refine SC.mono ?_
  rintro e w1 ⟨u, rfl, hru, hb1⟩
  have HU := Lib.hid hru
  obtain ⟨au, cu, rfl, _, _⟩ := hru.open
  generalize schF l n = sw at *
  generalize modF n = M at *
  have HB1 := Lib.hid hb1
  clear hru hb1 SC
  go_wp2_with fail
  have HLS := Lib.hid (lst_new (mod := mod) HU.out (H2.out.below HB1.out) hZ1 (M := M))
  have HBL := Lib.hid (((HB1.out.alloc HB1.out.size (.cells (ints Z).toArray 3)).alloc (by simp; have := HB1.out.size; omega) (.cells #[.slice au sw.length cu, .slice a2 raw.length c2, .slice a2 raw.length c2, .slice none 0 0, .slice (some ⟨w1.heap.size, 0, none⟩) 257 257] 22)).alloc (by simp; have := HB1.out.size; omega) (.cells #[.int .i64 M, .int .i64 mod, .int .i64 M, .int .i64 M, .int .i64 9] 3))
  clear hmk hZ1 hZ2
  generalize ((w1.alloc (.cells (ints Z).toArray 3)).alloc (.cells #[.slice au sw.length cu, .slice a2 raw.length c2, .slice a2 raw.length c2, .slice none 0 0, .slice (some ⟨w1.heap.size, 0, none⟩) 257 257] 22)).alloc (.cells #[.int .i64 M, .int .i64 mod, .int .i64 M, .int .i64 M, .int .i64 9] 3) = wL at *
  generalize w1.heap.size + 1 + 1 = bB at *
  generalize w1.heap.size + 1 = bA at *
  go_loopw [13] (fun i wr => ∃ k : Nat, k ≤ 5 ∧ i = .int .i64 k ∧ Below w.heap.size w wr ∧ Below wL.heap.size wL wr) (fun i _ => 5 - (intOf i).toNat)
  case atStart => exact ⟨0, Nat.zero_le _, rfl, HBL.out, Below.refl _ _⟩
  case round =>
    obtain ⟨k, hk, rfl, hbl, hbl1⟩ := hrel
    have H1 := Lib.hid hbl; have HL1 := Lib.hid hbl1
    by_cases hlt : k < 5
    · have q1 : (k : Int) < 5 := by omega
      obtain ⟨p, cp, L, m, h1, h2, h3, h4, h5⟩ := HLS.out k hlt
      have g1 := (hbl1.cell (p := ⟨bA, k, none⟩) h4).trans h1
      have g3 := (hbl1.cell (p := ⟨bB, k, none⟩) h5).trans h3
      have HR := Lib.hid (h2.below hbl1)
      have hA := Nat.lt_of_lt_of_le h4 hbl1.size
      have hB := Nat.lt_of_lt_of_le h5 hbl1.size
      clear h1 h2 h3 h4 h5 hbl hbl1
      go_upto_region 7 with fail
      go_cut [77] from 36 to 117 (fun v w' => w' = wr ∧ v = .bool (decide ((20 < L.length ∧ L.length < 257) ∨ (100 < m ∧ m ≤ 1024 ∧ 4 < L.length))))
      case first =>
        by_cases k1 : 20 < L.length
        · have z1 : 20 < (L.length : Int) := by omega
          by_cases k2 : L.length < 257
          · have z2 : (L.length : Int) < 257 := by omega
            go_wp2_with fail
            go_meet
            case rel => exact ⟨rfl, congrArg Value.bool (decide_eq_true (.inl ⟨k1, k2⟩)).symm⟩
          · have z2 : ¬ (L.length : Int) < 257 := by omega
            have z5 : 4 < (L.length : Int) := by omega
            by_cases z3 : 100 < m
            · by_cases z4 : m ≤ 1024
              · go_wp2_with fail
                go_meet
                case rel => exact ⟨rfl, congrArg Value.bool (Eq.symm (by first | exact decide_eq_false (by omega) | exact decide_eq_true (by omega)))⟩
              · go_wp2_with fail
                go_meet
                case rel => exact ⟨rfl, congrArg Value.bool (Eq.symm (by first | exact decide_eq_false (by omega) | exact decide_eq_true (by omega)))⟩
            · go_wp2_with fail
              go_meet
              case rel => exact ⟨rfl, congrArg Value.bool (Eq.symm (by first | exact decide_eq_false (by omega) | exact decide_eq_true (by omega)))⟩
        · have z1 : ¬ 20 < (L.length : Int) := by omega
          by_cases k5 : 4 < L.length
          · have z5 : 4 < (L.length : Int) := by omega
            by_cases z3 : 100 < m
            · by_cases z4 : m ≤ 1024
              · go_wp2_with fail
                go_meet
                case rel => exact ⟨rfl, congrArg Value.bool (Eq.symm (by first | exact decide_eq_false (by omega) | exact decide_eq_true (by omega)))⟩
              · go_wp2_with fail
                go_meet
                case rel => exact ⟨rfl, congrArg Value.bool (Eq.symm (by first | exact decide_eq_false (by omega) | exact decide_eq_true (by omega)))⟩
            · go_wp2_with fail
              go_meet
              case rel => exact ⟨rfl, congrArg Value.bool (Eq.symm (by first | exact decide_eq_false (by omega) | exact decide_eq_true (by omega)))⟩
          · have z5 : ¬ 4 < (L.length : Int) := by omega
            by_cases z3 : 100 < m
            · by_cases z4 : m ≤ 1024
              · go_wp2_with fail
                go_meet
                case rel => exact ⟨rfl, congrArg Value.bool (Eq.symm (by first | exact decide_eq_false (by omega) | exact decide_eq_true (by omega)))⟩
              · go_wp2_with fail
                go_meet
                case rel => exact ⟨rfl, congrArg Value.bool (Eq.symm (by first | exact decide_eq_false (by omega) | exact decide_eq_true (by omega)))⟩
            · go_wp2_with fail
              go_meet
              case rel => exact ⟨rfl, congrArg Value.bool (Eq.symm (by first | exact decide_eq_false (by omega) | exact decide_eq_true (by omega)))⟩
      case rest =>
        obtain ⟨e, rfl⟩ := hcut
        have e' := e.symm
        clear e
        subst e'
        by_cases hsk : (20 < L.length ∧ L.length < 257) ∨ (100 < m ∧ m ≤ 1024 ∧ 4 < L.length)
        · have hd : decide ((20 < L.length ∧ L.length < 257) ∨ (100 < m ∧ m ≤ 1024 ∧ 4 < L.length)) = true := decide_eq_true hsk
          rw [hd]
          clear hd hsk
          go_wp2_with fail
          go_roundw
          case rel => exact ⟨k + 1, by omega, by go_num, H1.out, HL1.out⟩
          case measure => simp [intOf]; omega
        · have hd : decide ((20 < L.length ∧ L.length < 257) ∨ (100 < m ∧ m ≤ 1024 ∧ 4 < L.length)) = false := decide_eq_false hsk
          rw [hd]
          clear hd hsk
          have HRW := HR
          have G1 := Lib.hid g1; have G3 := Lib.hid g3
          have WK := weak_any (.slice p L.length cp) L m
          have RK := rweak_any (.slice p L.length cp) L m
          obtain ⟨f0, f1, f2, f3, hfl⟩ := fl_agg (weakV L m)
          rw [hfl] at WK RK
          generalize (weakV L m).isSome = s0 at *
          generalize errF L m = e0 at *
          have HWK := Lib.hid WK; have HRK := Lib.hid RK
          clear WK RK hfl
          go_upto_region 8 with fail
          go_cut [14, 15, 16] from 36 to 117 (fun u v x w' => ∃ b : Nat, u = .pointer (some ⟨b, 0, none⟩) ∧ v = .bool s0 ∧ x = .int .i64 e0 ∧ Boxs w' b 35 #[.int .i64 f0, .int .i64 f1, .int .i64 f2, .int .i64 f3] ∧ wr.heap.size ≤ b ∧ Below wr.heap.size wr w')
          case first =>
            refine wp_region_held (S := fun W' => W'.cell? ⟨bA, k, none⟩ = some (.slice p L.length cp) ∧ W'.cell? ⟨bB, k, none⟩ = some (.int .i64 m)) (by kernel_rfl) ?_
            have hdr : (wr).drew = { wr with drawn := (wr).drawn + 1 } := rfl
            rw [← hdr]
            clear hdr
            have HRV := Lib.hid (HRW.out.below (Below.dn (Below.refl wr.heap.size wr) 1))
            have GA := Lib.hid (show (wr.drewN 1).cell? ⟨bA, k, none⟩ = some (.slice p L.length cp) from G1.out)
            have GB := Lib.hid (show (wr.drewN 1).cell? ⟨bB, k, none⟩ = some (.int .i64 m) from G3.out)
            have HBV := Lib.hid (Below.dn (Below.refl wr.heap.size wr) 1)
            have hsv : (wr.drewN 1).heap.size = wr.heap.size := rfl
            have hA' : bA < (wr.drewN 1).heap.size := hA
            have hB' : bB < (wr.drewN 1).heap.size := hB
            clear g1 g3
            change wpAnyH _ _ _ _ _ _ _ _ (wr.drewN 1)
            generalize wr.drewN 1 = V at *
            refine wpAnyHTake 0 (some 79) (.slice (some ⟨bA, 0, none⟩) 5 5) rfl rfl (by kernel_rfl) (by kernel_rfl) (by kernel_rfl) (fun _ _ _ h => h) (by rfl) (fun _ _ => by rfl) (⟨GA.out, GB.out⟩) ?_
            simp only [Act.put, List.setIfInBounds_toArray, List.set_cons_zero, List.set_cons_succ]
            refine wpAnyHTake 1 (some 80) (.int .i64 k) rfl rfl (by kernel_rfl) (by kernel_rfl) (by kernel_rfl) (fun _ _ _ h => h) (by rfl) (fun _ _ => by rfl) (⟨GA.out, GB.out⟩) ?_
            simp only [Act.put, List.setIfInBounds_toArray, List.set_cons_zero, List.set_cons_succ]
            refine wpAnyHTake 2 (some 81) (.pointer (some ⟨bA, k, none⟩)) rfl rfl (by kernel_rfl) (by kernel_rfl) (by kernel_rfl) (fun _ _ _ h => h) (by rfl) (fun _ _ => by go_simp) (⟨GA.out, GB.out⟩) ?_
            simp only [Act.put, List.setIfInBounds_toArray, List.set_cons_zero, List.set_cons_succ]
            refine wpAnyHTake 3 (some 82) (.slice p L.length cp) rfl rfl (by kernel_rfl) (by kernel_rfl) (by kernel_rfl) (fun _ _ _ h => h) (by rfl) (fun W hW => by have g1 := hW.1; go_simp) (⟨GA.out, GB.out⟩) ?_
            simp only [Act.put, List.setIfInBounds_toArray, List.set_cons_zero, List.set_cons_succ]
            refine wpAnyHTake 4 (some 83) (.slice (some ⟨bB, 0, none⟩) 5 5) rfl rfl (by kernel_rfl) (by kernel_rfl) (by kernel_rfl) (fun _ _ _ h => h) (by rfl) (fun _ _ => by rfl) (⟨GA.out, GB.out⟩) ?_
            simp only [Act.put, List.setIfInBounds_toArray, List.set_cons_zero, List.set_cons_succ]
            refine wpAnyHTake 5 (some 84) (.int .i64 k) rfl rfl (by kernel_rfl) (by kernel_rfl) (by kernel_rfl) (fun _ _ _ h => h) (by rfl) (fun _ _ => by rfl) (⟨GA.out, GB.out⟩) ?_
            simp only [Act.put, List.setIfInBounds_toArray, List.set_cons_zero, List.set_cons_succ]
            refine wpAnyHTake 6 (some 85) (.pointer (some ⟨bB, k, none⟩)) rfl rfl (by kernel_rfl) (by kernel_rfl) (by kernel_rfl) (fun _ _ _ h => h) (by rfl) (fun _ _ => by go_simp) (⟨GA.out, GB.out⟩) ?_
            simp only [Act.put, List.setIfInBounds_toArray, List.set_cons_zero, List.set_cons_succ]
            refine wpAnyHTake 7 (some 86) (.int .i64 m) rfl rfl (by kernel_rfl) (by kernel_rfl) (by kernel_rfl) (fun _ _ _ h => h) (by rfl) (fun W hW => by have g1 := hW.2; go_simp) (⟨GA.out, GB.out⟩) ?_
            simp only [Act.put, List.setIfInBounds_toArray, List.set_cons_zero, List.set_cons_succ]
            refine wpAnyHBoth 8 13 (by kernel_rfl) ?_ ?_
            · refine wpOpCall (some 87) 17 #[.slice p L.length cp, .int .i64 m] rfl rfl (by rfl) (by go_simp) (HWK.out V HRV.out) ?_
              rintro e V2 ⟨rfl, hb⟩
              have HB2 := Lib.hid hb
              have GA2 := Lib.hid ((hb.cell (p := ⟨bA, k, none⟩) hA').trans GA.out)
              have GB2 := Lib.hid ((hb.cell (p := ⟨bB, k, none⟩) hB').trans GB.out)
              clear hb
              refine ⟨_, rfl, ⟨GA2.out, GB2.out⟩, ?_⟩
              simp only [Act.put, List.setIfInBounds_toArray, List.set_cons_zero, List.set_cons_succ]
              refine wpAnyHTake 9 (some 78) (.tuple #[.agg #[.int .i64 f0, .int .i64 f1, .int .i64 f2, .int .i64 f3], .bool s0, .int .i64 e0]) rfl rfl (by kernel_rfl) (by kernel_rfl) (by kernel_rfl) (fun _ _ _ h => h) (by rfl) (fun _ _ => by rfl) (⟨GA2.out, GB2.out⟩) ?_
              simp only [Act.put, List.setIfInBounds_toArray, List.set_cons_zero, List.set_cons_succ]
              refine wpAnyHTake 10 (some 88) (.agg #[.int .i64 f0, .int .i64 f1, .int .i64 f2, .int .i64 f3]) rfl rfl (by kernel_rfl) (by kernel_rfl) (by kernel_rfl) (fun _ _ _ h => h) (by rfl) (fun _ _ => by go_simp) (⟨GA2.out, GB2.out⟩) ?_
              simp only [Act.put, List.setIfInBounds_toArray, List.set_cons_zero, List.set_cons_succ]
              refine wpAnyHTake 11 (some 89) (.bool s0) rfl rfl (by kernel_rfl) (by kernel_rfl) (by kernel_rfl) (fun _ _ _ h => h) (by rfl) (fun _ _ => by go_simp) (⟨GA2.out, GB2.out⟩) ?_
              simp only [Act.put, List.setIfInBounds_toArray, List.set_cons_zero, List.set_cons_succ]
              refine wpAnyHTake 12 (some 90) (.int .i64 e0) rfl rfl (by kernel_rfl) (by kernel_rfl) (by kernel_rfl) (fun _ _ _ h => h) (by rfl) (fun _ _ => by go_simp) (⟨GA2.out, GB2.out⟩) ?_
              simp only [Act.put, List.setIfInBounds_toArray, List.set_cons_zero, List.set_cons_succ]
              have hbA := ((Below.refl V2.heap.size V2).alloc (Nat.le_refl _) (.cells #[.int .i64 0, .int .i64 0, .int .i64 0, .int .i64 0] 35))
              have sz2 := HB2.out.size
              have HA3 := Lib.hid (show bA < V2.heap.size by omega)
              have HB3 := Lib.hid (show bB < V2.heap.size by omega)
              have GA5 := Lib.hid ((hbA.cell (p := ⟨bA, k, none⟩) HA3.out).trans GA2.out)
              have GB5 := Lib.hid ((hbA.cell (p := ⟨bB, k, none⟩) HB3.out).trans GB2.out)
              clear GA2 GB2
              have HBX := Lib.hid (Boxs.new V2 35 #[.int .i64 0, .int .i64 0, .int .i64 0, .int .i64 0])
              have HLE := Lib.hid (show wr.heap.size ≤ V2.heap.size by omega)
              have HBW := Lib.hid ((HBV.out.trans (HB2.out.mono (by omega))).alloc HLE.out (.cells #[.int .i64 0, .int .i64 0, .int .i64 0, .int .i64 0] 35))
              refine wpAnyHOne 13 (some 14) (v := .pointer (some ⟨V2.heap.size, 0, none⟩)) (w' := V2.alloc (.cells #[.int .i64 0, .int .i64 0, .int .i64 0, .int .i64 0] 35)) (by kernel_rfl) rfl rfl (by rfl) (by go_simp) ⟨GA5.out, GB5.out⟩ ?_
              have GA2 := GA5
              have GB2 := GB5
              clear hbA sz2 GA5 GB5
              simp only [Act.put, List.setIfInBounds_toArray, List.set_cons_zero, List.set_cons_succ]
              generalize V2.alloc (.cells #[.int .i64 0, .int .i64 0, .int .i64 0, .int .i64 0] 35) = V3 at *
              generalize V2.heap.size = bF at *
              obtain ⟨W4, hst, hB4, hK4⟩ := store4 35 (by simp) f0 f1 f2 f3 HBX.out
              have HBB := Lib.hid (hK4 wr.heap.size wr HLE.out HBW.out)
              have GA3 := Lib.hid (((hK4 bF _ (Nat.le_refl _) (Below.refl bF _)).cell (p := ⟨bA, k, none⟩) HA3.out).trans GA2.out)
              have GB3 := Lib.hid (((hK4 bF _ (Nat.le_refl _) (Below.refl bF _)).cell (p := ⟨bB, k, none⟩) HB3.out).trans GB2.out)
              have HB4 := Lib.hid hB4
              refine wpAnyHSkip 14 none (by kernel_rfl) rfl rfl (by rfl) (execOp_store _ _ _ rfl rfl rfl hst) ⟨GA3.out, GB3.out⟩ ?_
              clear hst hB4 hK4
              simp only [Act.put]
              refine wpAnyHTake 15 (some 15) (.bool s0) rfl rfl (by kernel_rfl) (by kernel_rfl) (by kernel_rfl) (fun _ _ _ h => h) (by rfl) (fun _ _ => by rfl) (⟨GA3.out, GB3.out⟩) ?_
              simp only [Act.put, List.setIfInBounds_toArray, List.set_cons_zero, List.set_cons_succ]
              refine wpAnyHTake 16 (some 16) (.int .i64 e0) rfl rfl (by kernel_rfl) (by kernel_rfl) (by kernel_rfl) (fun _ _ _ h => h) (by rfl) (fun _ _ => by rfl) (⟨GA3.out, GB3.out⟩) ?_
              simp only [Act.put, List.setIfInBounds_toArray, List.set_cons_zero, List.set_cons_succ]
              refine wpAnyH_done (by kernel_rfl) ?_ _
              rename_i K hK
              refine hK _ _ ?_
              clear hK
              go_meet
              case rel => exact ⟨_, rfl, rfl, rfl, HB4.out, HLE.out, HBB.out⟩
            · have hbA := ((Below.refl V.heap.size V).alloc (Nat.le_refl _) (.cells #[.int .i64 0, .int .i64 0, .int .i64 0, .int .i64 0] 35))
              have HA3 := Lib.hid (show bA < V.heap.size from hA')
              have HB3 := Lib.hid (show bB < V.heap.size from hB')
              have GA1 := Lib.hid ((hbA.cell (p := ⟨bA, k, none⟩) HA3.out).trans GA.out)
              have GB1 := Lib.hid ((hbA.cell (p := ⟨bB, k, none⟩) HB3.out).trans GB.out)
              have HBX0 := Lib.hid (Boxs.new V 35 #[.int .i64 0, .int .i64 0, .int .i64 0, .int .i64 0])
              have HLE := Lib.hid (show wr.heap.size ≤ V.heap.size by omega)
              have HBW0 := Lib.hid (HBV.out.alloc HLE.out (.cells #[.int .i64 0, .int .i64 0, .int .i64 0, .int .i64 0] 35))
              have HRV1 := Lib.hid (HRV.out.below hbA)
              refine wpOpRun' (some 14) (v := .pointer (some ⟨V.heap.size, 0, none⟩)) (w' := V.alloc (.cells #[.int .i64 0, .int .i64 0, .int .i64 0, .int .i64 0] 35)) rfl rfl (by rfl) (by go_simp) ⟨⟨GA1.out, GB1.out⟩, ?_⟩
              have hszl : V.heap.size < (V.alloc (.cells #[.int .i64 0, .int .i64 0, .int .i64 0, .int .i64 0] 35)).heap.size := by simp
              clear hbA
              simp only [Act.put, List.setIfInBounds_toArray, List.set_cons_zero, List.set_cons_succ]
              generalize V.alloc (.cells #[.int .i64 0, .int .i64 0, .int .i64 0, .int .i64 0] 35) = V1 at *
              generalize V.heap.size = bF at *
              refine wpAnyHCall 8 (some 87) 17 #[.slice p L.length cp, .int .i64 m] (by kernel_rfl) rfl rfl (by rfl) (by go_simp) (HWK.out V1 HRV1.out) ?_
              rintro e V2 ⟨rfl, hb⟩
              have GA2 := Lib.hid ((hb.cell (p := ⟨bA, k, none⟩) (Nat.lt_trans HA3.out hszl)).trans GA1.out)
              have GB2 := Lib.hid ((hb.cell (p := ⟨bB, k, none⟩) (Nat.lt_trans HB3.out hszl)).trans GB1.out)
              have HBX := Lib.hid (show Boxs V2 bF 35 #[.int .i64 0, .int .i64 0, .int .i64 0, .int .i64 0] from (hb.block _ hszl).trans HBX0.out)
              have HBW := Lib.hid (HBW0.out.trans (hb.mono (by omega)))
              clear hb
              refine ⟨_, rfl, ⟨GA2.out, GB2.out⟩, ?_⟩
              simp only [Act.put, List.setIfInBounds_toArray, List.set_cons_zero, List.set_cons_succ]
              refine wpAnyHTake 9 (some 78) (.tuple #[.agg #[.int .i64 f0, .int .i64 f1, .int .i64 f2, .int .i64 f3], .bool s0, .int .i64 e0]) rfl rfl (by kernel_rfl) (by kernel_rfl) (by kernel_rfl) (fun _ _ _ h => h) (by rfl) (fun _ _ => by rfl) (⟨GA2.out, GB2.out⟩) ?_
              simp only [Act.put, List.setIfInBounds_toArray, List.set_cons_zero, List.set_cons_succ]
              refine wpAnyHTake 10 (some 88) (.agg #[.int .i64 f0, .int .i64 f1, .int .i64 f2, .int .i64 f3]) rfl rfl (by kernel_rfl) (by kernel_rfl) (by kernel_rfl) (fun _ _ _ h => h) (by rfl) (fun _ _ => by go_simp) (⟨GA2.out, GB2.out⟩) ?_
              simp only [Act.put, List.setIfInBounds_toArray, List.set_cons_zero, List.set_cons_succ]
              refine wpAnyHTake 11 (some 89) (.bool s0) rfl rfl (by kernel_rfl) (by kernel_rfl) (by kernel_rfl) (fun _ _ _ h => h) (by rfl) (fun _ _ => by go_simp) (⟨GA2.out, GB2.out⟩) ?_
              simp only [Act.put, List.setIfInBounds_toArray, List.set_cons_zero, List.set_cons_succ]
              refine wpAnyHTake 12 (some 90) (.int .i64 e0) rfl rfl (by kernel_rfl) (by kernel_rfl) (by kernel_rfl) (fun _ _ _ h => h) (by rfl) (fun _ _ => by go_simp) (⟨GA2.out, GB2.out⟩) ?_
              simp only [Act.put, List.setIfInBounds_toArray, List.set_cons_zero, List.set_cons_succ]
              obtain ⟨W4, hst, hB4, hK4⟩ := store4 35 (by simp) f0 f1 f2 f3 HBX.out
              have HBB := Lib.hid (hK4 wr.heap.size wr HLE.out HBW.out)
              have GA3 := Lib.hid (((hK4 bF _ (Nat.le_refl _) (Below.refl bF _)).cell (p := ⟨bA, k, none⟩) HA3.out).trans GA2.out)
              have GB3 := Lib.hid (((hK4 bF _ (Nat.le_refl _) (Below.refl bF _)).cell (p := ⟨bB, k, none⟩) HB3.out).trans GB2.out)
              have HB4 := Lib.hid hB4
              refine wpAnyHSkip 14 none (by kernel_rfl) rfl rfl (by rfl) (execOp_store _ _ _ rfl rfl rfl hst) ⟨GA3.out, GB3.out⟩ ?_
              clear hst hB4 hK4
              simp only [Act.put]
              refine wpAnyHTake 15 (some 15) (.bool s0) rfl rfl (by kernel_rfl) (by kernel_rfl) (by kernel_rfl) (fun _ _ _ h => h) (by rfl) (fun _ _ => by rfl) (⟨GA3.out, GB3.out⟩) ?_
              simp only [Act.put, List.setIfInBounds_toArray, List.set_cons_zero, List.set_cons_succ]
              refine wpAnyHTake 16 (some 16) (.int .i64 e0) rfl rfl (by kernel_rfl) (by kernel_rfl) (by kernel_rfl) (fun _ _ _ h => h) (by rfl) (fun _ _ => by rfl) (⟨GA3.out, GB3.out⟩) ?_
              simp only [Act.put, List.setIfInBounds_toArray, List.set_cons_zero, List.set_cons_succ]
              refine wpAnyH_done (by kernel_rfl) ?_ _
              rename_i K hK
              refine hK _ _ ?_
              clear hK
              go_meet
              case rel => exact ⟨_, rfl, rfl, rfl, HB4.out, HLE.out, HBB.out⟩
          case rest =>
            obtain ⟨b1, rfl, rfl, rfl, hx1, hle1, hb1⟩ := hcut
            obtain ⟨wq, hwq⟩ : ∃ wq, wq = wc := ⟨_, rfl⟩
            subst hwq
            have HX1 := Lib.hid hx1; have HY1 := Lib.hid (H1.out.trans (hb1.mono H1.out.size)); have HYL := Lib.hid (HL1.out.trans (hb1.mono HL1.out.size))
            have HRW2 := Lib.hid (HRW.out.below hb1)
            have G12 := Lib.hid ((hb1.cell (p := ⟨bA, k, none⟩) hA).trans G1.out); have G32 := Lib.hid ((hb1.cell (p := ⟨bB, k, none⟩) hB).trans G3.out)
            have hA2 := Nat.lt_of_lt_of_le hA hb1.size
            have hB2 := Nat.lt_of_lt_of_le hB hb1.size
            clear HRW G1 G3 hA hB
            have HRW := HRW2; have G1 := G12; have G3 := G32; have hA := hA2; have hB := hB2
            clear HRW2 G12 G32 hA2 hB2 hx1 hb1 g1 g3
            go_upto_region 9 with fail
            go_cut [17, 18, 19] from 36 to 117 (fun u v x w' => ∃ b : Nat, u = .pointer (some ⟨b, 0, none⟩) ∧ v = .bool s0 ∧ x = .int .i64 e0 ∧ Boxs w' b 38 #[.int .i64 f0, .int .i64 f1, .int .i64 f2, .int .i64 f3] ∧ wq.heap.size ≤ b ∧ Below wq.heap.size wq w')
            case first =>
              refine wp_region_held (S := fun W' => W'.cell? ⟨bA, k, none⟩ = some (.slice p L.length cp) ∧ W'.cell? ⟨bB, k, none⟩ = some (.int .i64 m)) (by kernel_rfl) ?_
              have hdr : (wq).drew = { wq with drawn := (wq).drawn + 1 } := rfl
              rw [← hdr]
              clear hdr
              have HRV := Lib.hid (HRW.out.below (Below.dn (Below.refl wq.heap.size wq) 1))
              have GA := Lib.hid (show (wq.drewN 1).cell? ⟨bA, k, none⟩ = some (.slice p L.length cp) from G1.out)
              have GB := Lib.hid (show (wq.drewN 1).cell? ⟨bB, k, none⟩ = some (.int .i64 m) from G3.out)
              have HBV := Lib.hid (Below.dn (Below.refl wq.heap.size wq) 1)
              have hsv : (wq.drewN 1).heap.size = wq.heap.size := rfl
              have hA' : bA < (wq.drewN 1).heap.size := hA
              have hB' : bB < (wq.drewN 1).heap.size := hB
              
              change wpAnyH _ _ _ _ _ _ _ _ (wq.drewN 1)
              generalize wq.drewN 1 = V at *
              refine wpAnyHTake 0 (some 92) (.slice (some ⟨bA, 0, none⟩) 5 5) rfl rfl (by kernel_rfl) (by kernel_rfl) (by kernel_rfl) (fun _ _ _ h => h) (by rfl) (fun _ _ => by rfl) (⟨GA.out, GB.out⟩) ?_
              simp only [Act.put, List.setIfInBounds_toArray, List.set_cons_zero, List.set_cons_succ]
              refine wpAnyHTake 1 (some 93) (.int .i64 k) rfl rfl (by kernel_rfl) (by kernel_rfl) (by kernel_rfl) (fun _ _ _ h => h) (by rfl) (fun _ _ => by rfl) (⟨GA.out, GB.out⟩) ?_
              simp only [Act.put, List.setIfInBounds_toArray, List.set_cons_zero, List.set_cons_succ]
              refine wpAnyHTake 2 (some 94) (.pointer (some ⟨bA, k, none⟩)) rfl rfl (by kernel_rfl) (by kernel_rfl) (by kernel_rfl) (fun _ _ _ h => h) (by rfl) (fun _ _ => by go_simp) (⟨GA.out, GB.out⟩) ?_
              simp only [Act.put, List.setIfInBounds_toArray, List.set_cons_zero, List.set_cons_succ]
              refine wpAnyHTake 3 (some 95) (.slice p L.length cp) rfl rfl (by kernel_rfl) (by kernel_rfl) (by kernel_rfl) (fun _ _ _ h => h) (by rfl) (fun W hW => by have g1 := hW.1; go_simp) (⟨GA.out, GB.out⟩) ?_
              simp only [Act.put, List.setIfInBounds_toArray, List.set_cons_zero, List.set_cons_succ]
              refine wpAnyHTake 4 (some 96) (.slice (some ⟨bB, 0, none⟩) 5 5) rfl rfl (by kernel_rfl) (by kernel_rfl) (by kernel_rfl) (fun _ _ _ h => h) (by rfl) (fun _ _ => by rfl) (⟨GA.out, GB.out⟩) ?_
              simp only [Act.put, List.setIfInBounds_toArray, List.set_cons_zero, List.set_cons_succ]
              refine wpAnyHTake 5 (some 97) (.int .i64 k) rfl rfl (by kernel_rfl) (by kernel_rfl) (by kernel_rfl) (fun _ _ _ h => h) (by rfl) (fun _ _ => by rfl) (⟨GA.out, GB.out⟩) ?_
              simp only [Act.put, List.setIfInBounds_toArray, List.set_cons_zero, List.set_cons_succ]
              refine wpAnyHTake 6 (some 98) (.pointer (some ⟨bB, k, none⟩)) rfl rfl (by kernel_rfl) (by kernel_rfl) (by kernel_rfl) (fun _ _ _ h => h) (by rfl) (fun _ _ => by go_simp) (⟨GA.out, GB.out⟩) ?_
              simp only [Act.put, List.setIfInBounds_toArray, List.set_cons_zero, List.set_cons_succ]
              refine wpAnyHTake 7 (some 99) (.int .i64 m) rfl rfl (by kernel_rfl) (by kernel_rfl) (by kernel_rfl) (fun _ _ _ h => h) (by rfl) (fun W hW => by have g1 := hW.2; go_simp) (⟨GA.out, GB.out⟩) ?_
              simp only [Act.put, List.setIfInBounds_toArray, List.set_cons_zero, List.set_cons_succ]
              refine wpAnyHBoth 8 13 (by kernel_rfl) ?_ ?_
              · refine wpOpCall (some 100) 18 #[.slice p L.length cp, .int .i64 m] rfl rfl (by rfl) (by go_simp) (HRK.out V HRV.out) ?_
                rintro e V2 ⟨rfl, hb⟩
                have HB2 := Lib.hid hb
                have GA2 := Lib.hid ((hb.cell (p := ⟨bA, k, none⟩) hA').trans GA.out)
                have GB2 := Lib.hid ((hb.cell (p := ⟨bB, k, none⟩) hB').trans GB.out)
                clear hb
                refine ⟨_, rfl, ⟨GA2.out, GB2.out⟩, ?_⟩
                simp only [Act.put, List.setIfInBounds_toArray, List.set_cons_zero, List.set_cons_succ]
                refine wpAnyHTake 9 (some 91) (.tuple #[.agg #[.int .i64 f0, .int .i64 f1, .int .i64 f2, .int .i64 f3], .bool s0, .int .i64 e0]) rfl rfl (by kernel_rfl) (by kernel_rfl) (by kernel_rfl) (fun _ _ _ h => h) (by rfl) (fun _ _ => by rfl) (⟨GA2.out, GB2.out⟩) ?_
                simp only [Act.put, List.setIfInBounds_toArray, List.set_cons_zero, List.set_cons_succ]
                refine wpAnyHTake 10 (some 101) (.agg #[.int .i64 f0, .int .i64 f1, .int .i64 f2, .int .i64 f3]) rfl rfl (by kernel_rfl) (by kernel_rfl) (by kernel_rfl) (fun _ _ _ h => h) (by rfl) (fun _ _ => by go_simp) (⟨GA2.out, GB2.out⟩) ?_
                simp only [Act.put, List.setIfInBounds_toArray, List.set_cons_zero, List.set_cons_succ]
                refine wpAnyHTake 11 (some 102) (.bool s0) rfl rfl (by kernel_rfl) (by kernel_rfl) (by kernel_rfl) (fun _ _ _ h => h) (by rfl) (fun _ _ => by go_simp) (⟨GA2.out, GB2.out⟩) ?_
                simp only [Act.put, List.setIfInBounds_toArray, List.set_cons_zero, List.set_cons_succ]
                refine wpAnyHTake 12 (some 103) (.int .i64 e0) rfl rfl (by kernel_rfl) (by kernel_rfl) (by kernel_rfl) (fun _ _ _ h => h) (by rfl) (fun _ _ => by go_simp) (⟨GA2.out, GB2.out⟩) ?_
                simp only [Act.put, List.setIfInBounds_toArray, List.set_cons_zero, List.set_cons_succ]
                have hbA := ((Below.refl V2.heap.size V2).alloc (Nat.le_refl _) (.cells #[.int .i64 0, .int .i64 0, .int .i64 0, .int .i64 0] 38))
                have sz2 := HB2.out.size
                have HA3 := Lib.hid (show bA < V2.heap.size by omega)
                have HB3 := Lib.hid (show bB < V2.heap.size by omega)
                have GA5 := Lib.hid ((hbA.cell (p := ⟨bA, k, none⟩) HA3.out).trans GA2.out)
                have GB5 := Lib.hid ((hbA.cell (p := ⟨bB, k, none⟩) HB3.out).trans GB2.out)
                clear GA2 GB2
                have HBX := Lib.hid (Boxs.new V2 38 #[.int .i64 0, .int .i64 0, .int .i64 0, .int .i64 0])
                have HLE := Lib.hid (show wq.heap.size ≤ V2.heap.size by omega)
                have HBW := Lib.hid ((HBV.out.trans (HB2.out.mono (by omega))).alloc HLE.out (.cells #[.int .i64 0, .int .i64 0, .int .i64 0, .int .i64 0] 38))
                refine wpAnyHOne 13 (some 17) (v := .pointer (some ⟨V2.heap.size, 0, none⟩)) (w' := V2.alloc (.cells #[.int .i64 0, .int .i64 0, .int .i64 0, .int .i64 0] 38)) (by kernel_rfl) rfl rfl (by rfl) (by go_simp) ⟨GA5.out, GB5.out⟩ ?_
                have GA2 := GA5
                have GB2 := GB5
                clear hbA sz2 GA5 GB5
                simp only [Act.put, List.setIfInBounds_toArray, List.set_cons_zero, List.set_cons_succ]
                generalize V2.alloc (.cells #[.int .i64 0, .int .i64 0, .int .i64 0, .int .i64 0] 38) = V3 at *
                generalize V2.heap.size = bF at *
                obtain ⟨W4, hst, hB4, hK4⟩ := store4 38 (by simp) f0 f1 f2 f3 HBX.out
                have HBB := Lib.hid (hK4 wq.heap.size wq HLE.out HBW.out)
                have GA3 := Lib.hid (((hK4 bF _ (Nat.le_refl _) (Below.refl bF _)).cell (p := ⟨bA, k, none⟩) HA3.out).trans GA2.out)
                have GB3 := Lib.hid (((hK4 bF _ (Nat.le_refl _) (Below.refl bF _)).cell (p := ⟨bB, k, none⟩) HB3.out).trans GB2.out)
                have HB4 := Lib.hid hB4
                refine wpAnyHSkip 14 none (by kernel_rfl) rfl rfl (by rfl) (execOp_store _ _ _ rfl rfl rfl hst) ⟨GA3.out, GB3.out⟩ ?_
                clear hst hB4 hK4
                simp only [Act.put]
                refine wpAnyHTake 15 (some 18) (.bool s0) rfl rfl (by kernel_rfl) (by kernel_rfl) (by kernel_rfl) (fun _ _ _ h => h) (by rfl) (fun _ _ => by rfl) (⟨GA3.out, GB3.out⟩) ?_
                simp only [Act.put, List.setIfInBounds_toArray, List.set_cons_zero, List.set_cons_succ]
                refine wpAnyHTake 16 (some 19) (.int .i64 e0) rfl rfl (by kernel_rfl) (by kernel_rfl) (by kernel_rfl) (fun _ _ _ h => h) (by rfl) (fun _ _ => by rfl) (⟨GA3.out, GB3.out⟩) ?_
                simp only [Act.put, List.setIfInBounds_toArray, List.set_cons_zero, List.set_cons_succ]
                refine wpAnyH_done (by kernel_rfl) ?_ _
                rename_i K hK
                refine hK _ _ ?_
                clear hK
                go_meet
                case rel => exact ⟨_, rfl, rfl, rfl, HB4.out, HLE.out, HBB.out⟩
              · have hbA := ((Below.refl V.heap.size V).alloc (Nat.le_refl _) (.cells #[.int .i64 0, .int .i64 0, .int .i64 0, .int .i64 0] 38))
                have HA3 := Lib.hid (show bA < V.heap.size from hA')
                have HB3 := Lib.hid (show bB < V.heap.size from hB')
                have GA1 := Lib.hid ((hbA.cell (p := ⟨bA, k, none⟩) HA3.out).trans GA.out)
                have GB1 := Lib.hid ((hbA.cell (p := ⟨bB, k, none⟩) HB3.out).trans GB.out)
                have HBX0 := Lib.hid (Boxs.new V 38 #[.int .i64 0, .int .i64 0, .int .i64 0, .int .i64 0])
                have HLE := Lib.hid (show wq.heap.size ≤ V.heap.size by omega)
                have HBW0 := Lib.hid (HBV.out.alloc HLE.out (.cells #[.int .i64 0, .int .i64 0, .int .i64 0, .int .i64 0] 38))
                have HRV1 := Lib.hid (HRV.out.below hbA)
                refine wpOpRun' (some 17) (v := .pointer (some ⟨V.heap.size, 0, none⟩)) (w' := V.alloc (.cells #[.int .i64 0, .int .i64 0, .int .i64 0, .int .i64 0] 38)) rfl rfl (by rfl) (by go_simp) ⟨⟨GA1.out, GB1.out⟩, ?_⟩
                have hszl : V.heap.size < (V.alloc (.cells #[.int .i64 0, .int .i64 0, .int .i64 0, .int .i64 0] 38)).heap.size := by simp
                clear hbA
                simp only [Act.put, List.setIfInBounds_toArray, List.set_cons_zero, List.set_cons_succ]
                generalize V.alloc (.cells #[.int .i64 0, .int .i64 0, .int .i64 0, .int .i64 0] 38) = V1 at *
                generalize V.heap.size = bF at *
                refine wpAnyHCall 8 (some 100) 18 #[.slice p L.length cp, .int .i64 m] (by kernel_rfl) rfl rfl (by rfl) (by go_simp) (HRK.out V1 HRV1.out) ?_
                rintro e V2 ⟨rfl, hb⟩
                have GA2 := Lib.hid ((hb.cell (p := ⟨bA, k, none⟩) (Nat.lt_trans HA3.out hszl)).trans GA1.out)
                have GB2 := Lib.hid ((hb.cell (p := ⟨bB, k, none⟩) (Nat.lt_trans HB3.out hszl)).trans GB1.out)
                have HBX := Lib.hid (show Boxs V2 bF 38 #[.int .i64 0, .int .i64 0, .int .i64 0, .int .i64 0] from (hb.block _ hszl).trans HBX0.out)
                have HBW := Lib.hid (HBW0.out.trans (hb.mono (by omega)))
                clear hb
                refine ⟨_, rfl, ⟨GA2.out, GB2.out⟩, ?_⟩
                simp only [Act.put, List.setIfInBounds_toArray, List.set_cons_zero, List.set_cons_succ]
                refine wpAnyHTake 9 (some 91) (.tuple #[.agg #[.int .i64 f0, .int .i64 f1, .int .i64 f2, .int .i64 f3], .bool s0, .int .i64 e0]) rfl rfl (by kernel_rfl) (by kernel_rfl) (by kernel_rfl) (fun _ _ _ h => h) (by rfl) (fun _ _ => by rfl) (⟨GA2.out, GB2.out⟩) ?_
                simp only [Act.put, List.setIfInBounds_toArray, List.set_cons_zero, List.set_cons_succ]
                refine wpAnyHTake 10 (some 101) (.agg #[.int .i64 f0, .int .i64 f1, .int .i64 f2, .int .i64 f3]) rfl rfl (by kernel_rfl) (by kernel_rfl) (by kernel_rfl) (fun _ _ _ h => h) (by rfl) (fun _ _ => by go_simp) (⟨GA2.out, GB2.out⟩) ?_
                simp only [Act.put, List.setIfInBounds_toArray, List.set_cons_zero, List.set_cons_succ]
                refine wpAnyHTake 11 (some 102) (.bool s0) rfl rfl (by kernel_rfl) (by kernel_rfl) (by kernel_rfl) (fun _ _ _ h => h) (by rfl) (fun _ _ => by go_simp) (⟨GA2.out, GB2.out⟩) ?_
                simp only [Act.put, List.setIfInBounds_toArray, List.set_cons_zero, List.set_cons_succ]
                refine wpAnyHTake 12 (some 103) (.int .i64 e0) rfl rfl (by kernel_rfl) (by kernel_rfl) (by kernel_rfl) (fun _ _ _ h => h) (by rfl) (fun _ _ => by go_simp) (⟨GA2.out, GB2.out⟩) ?_
                simp only [Act.put, List.setIfInBounds_toArray, List.set_cons_zero, List.set_cons_succ]
                obtain ⟨W4, hst, hB4, hK4⟩ := store4 38 (by simp) f0 f1 f2 f3 HBX.out
                have HBB := Lib.hid (hK4 wq.heap.size wq HLE.out HBW.out)
                have GA3 := Lib.hid (((hK4 bF _ (Nat.le_refl _) (Below.refl bF _)).cell (p := ⟨bA, k, none⟩) HA3.out).trans GA2.out)
                have GB3 := Lib.hid (((hK4 bF _ (Nat.le_refl _) (Below.refl bF _)).cell (p := ⟨bB, k, none⟩) HB3.out).trans GB2.out)
                have HB4 := Lib.hid hB4
                refine wpAnyHSkip 14 none (by kernel_rfl) rfl rfl (by rfl) (execOp_store _ _ _ rfl rfl rfl hst) ⟨GA3.out, GB3.out⟩ ?_
                clear hst hB4 hK4
                simp only [Act.put]
                refine wpAnyHTake 15 (some 18) (.bool s0) rfl rfl (by kernel_rfl) (by kernel_rfl) (by kernel_rfl) (fun _ _ _ h => h) (by rfl) (fun _ _ => by rfl) (⟨GA3.out, GB3.out⟩) ?_
                simp only [Act.put, List.setIfInBounds_toArray, List.set_cons_zero, List.set_cons_succ]
                refine wpAnyHTake 16 (some 19) (.int .i64 e0) rfl rfl (by kernel_rfl) (by kernel_rfl) (by kernel_rfl) (fun _ _ _ h => h) (by rfl) (fun _ _ => by rfl) (⟨GA3.out, GB3.out⟩) ?_
                simp only [Act.put, List.setIfInBounds_toArray, List.set_cons_zero, List.set_cons_succ]
                refine wpAnyH_done (by kernel_rfl) ?_ _
                rename_i K hK
                refine hK _ _ ?_
                clear hK
                go_meet
                case rel => exact ⟨_, rfl, rfl, rfl, HB4.out, HLE.out, HBB.out⟩
            case rest =>
              obtain ⟨b2, rfl, rfl, rfl, hx2, hle2, hb2⟩ := hcut
              have HXB := Lib.hid hx2
              have HXA := Lib.hid (show Boxs wc b1 35 #[.int .i64 f0, .int .i64 f1, .int .i64 f2, .int .i64 f3] from (hb2.block _ HX1.out.lt).trans HX1.out)
              have HZ1 := Lib.hid (HY1.out.trans (hb2.mono HY1.out.size)); have HZL := Lib.hid (HYL.out.trans (hb2.mono HYL.out.size))
              clear hx2 hle2 hb2 HRW G1 G3 HX1
              go_upto_region 10 with fail
              refine wp_region_held (S := fun W' => W'.cell? ⟨b1, 0, none⟩ = some (.int .i64 f0) ∧ W'.cell? ⟨b1, 1, none⟩ = some (.int .i64 f1) ∧ W'.cell? ⟨b1, 2, none⟩ = some (.int .i64 f2) ∧ W'.cell? ⟨b1, 3, none⟩ = some (.int .i64 f3) ∧ W'.cell? ⟨b2, 0, none⟩ = some (.int .i64 f0) ∧ W'.cell? ⟨b2, 1, none⟩ = some (.int .i64 f1) ∧ W'.cell? ⟨b2, 2, none⟩ = some (.int .i64 f2) ∧ W'.cell? ⟨b2, 3, none⟩ = some (.int .i64 f3)) (by kernel_rfl) ?_
              have hdr : (wc).drew = { wc with drawn := (wc).drawn + 1 } := rfl
              rw [← hdr]
              clear hdr
              have HC := Lib.hid (cells8 (HXA.out.dn 1) (HXB.out.dn 1))
              have HBV := Lib.hid (Below.dn (Below.refl wc.heap.size wc) 1)
              have hl1 : b1 < (wc.drewN 1).heap.size := HXA.out.lt
              have hl2 : b2 < (wc.drewN 1).heap.size := HXB.out.lt
              change wpAnyH _ _ _ _ _ _ _ _ (wc.drewN 1)
              generalize wc.drewN 1 = V at *
              refine wpAnyHTake 0 (some 104) (.int .i64 e0) rfl rfl (by kernel_rfl) (by kernel_rfl) (by kernel_rfl) (fun _ _ _ h => h) (by rfl) (fun _ _ => by rfl) (HC.out) ?_
              simp only [Act.put, List.setIfInBounds_toArray, List.set_cons_zero, List.set_cons_succ]
              refine wpAnyHTake 1 (some 105) (.int .i64 e0) rfl rfl (by kernel_rfl) (by kernel_rfl) (by kernel_rfl) (fun _ _ _ h => h) (by rfl) (fun _ _ => by rfl) (HC.out) ?_
              simp only [Act.put, List.setIfInBounds_toArray, List.set_cons_zero, List.set_cons_succ]
              refine wpAnyHTake 2 (some 106) (.bool false) rfl rfl (by kernel_rfl) (by kernel_rfl) (by kernel_rfl) (fun _ _ _ h => h) (by rfl) (fun _ _ => by go_simp) (HC.out) ?_
              simp only [Act.put, List.setIfInBounds_toArray, List.set_cons_zero, List.set_cons_succ]
              refine wpAnyHTake 3 (some 107) (.bool false) rfl rfl (by kernel_rfl) (by kernel_rfl) (by kernel_rfl) (fun _ _ _ h => h) (by rfl) (fun _ _ => by rfl) (HC.out) ?_
              simp only [Act.put, List.setIfInBounds_toArray, List.set_cons_zero, List.set_cons_succ]
              refine wpAnyHTake 4 (some 108) (.bool s0) rfl rfl (by kernel_rfl) (by kernel_rfl) (by kernel_rfl) (fun _ _ _ h => h) (by rfl) (fun _ _ => by rfl) (HC.out) ?_
              simp only [Act.put, List.setIfInBounds_toArray, List.set_cons_zero, List.set_cons_succ]
              refine wpAnyHTake 5 (some 109) (.bool s0) rfl rfl (by kernel_rfl) (by kernel_rfl) (by kernel_rfl) (fun _ _ _ h => h) (by rfl) (fun _ _ => by rfl) (HC.out) ?_
              simp only [Act.put, List.setIfInBounds_toArray, List.set_cons_zero, List.set_cons_succ]
              refine wpAnyHTake 6 (some 110) (.bool false) rfl rfl (by kernel_rfl) (by kernel_rfl) (by kernel_rfl) (fun _ _ _ h => h) (by rfl) (fun _ _ => by go_simp) (HC.out) ?_
              simp only [Act.put, List.setIfInBounds_toArray, List.set_cons_zero, List.set_cons_succ]
              refine wpAnyHTake 7 (some 111) (.bool false) rfl rfl (by kernel_rfl) (by kernel_rfl) (by kernel_rfl) (fun _ _ _ h => h) (by rfl) (fun _ _ => by go_simp) (HC.out) ?_
              simp only [Act.put, List.setIfInBounds_toArray, List.set_cons_zero, List.set_cons_succ]
              refine wpAnyHTake 8 (some 112) (.bool false) rfl rfl (by kernel_rfl) (by kernel_rfl) (by kernel_rfl) (fun _ _ _ h => h) (by rfl) (fun _ _ => by rfl) (HC.out) ?_
              simp only [Act.put, List.setIfInBounds_toArray, List.set_cons_zero, List.set_cons_succ]
              refine wpAnyHTake 9 (some 113) (.agg #[.int .i64 f0, .int .i64 f1, .int .i64 f2, .int .i64 f3]) rfl rfl (by kernel_rfl) (by kernel_rfl) (by kernel_rfl) (fun _ _ _ h => h) (by rfl) (fun W hW => by obtain ⟨d0, d1, d2, d3, -⟩ := hW; go_simp) (HC.out) ?_
              simp only [Act.put, List.setIfInBounds_toArray, List.set_cons_zero, List.set_cons_succ]
              refine wpAnyHTake 11 (some 115) (.agg #[.int .i64 f0, .int .i64 f1, .int .i64 f2, .int .i64 f3]) rfl rfl (by kernel_rfl) (by kernel_rfl) (by kernel_rfl) (fun _ _ _ h => h) (by rfl) (fun W hW => by obtain ⟨-, -, -, -, d0, d1, d2, d3⟩ := hW; go_simp) (HC.out) ?_
              simp only [Act.put, List.setIfInBounds_toArray, List.set_cons_zero, List.set_cons_succ]
              refine wpAnyHCall 10 (some 114) 19 #[.agg #[.int .i64 f0, .int .i64 f1, .int .i64 f2, .int .i64 f3]] (by kernel_rfl) rfl rfl (by rfl) (by go_simp) (plain_any f0 f1 f2 f3 V) ?_
              rintro e V2 ⟨rfl, hb⟩
              have HC2 := Lib.hid (cells8_below HC.out hl1 hl2 hb)
              have HB2 := Lib.hid (HBV.out.trans (hb.mono (by have := HBV.out.size; omega)))
              clear hb
              refine ⟨_, rfl, HC2.out, ?_⟩
              simp only [Act.put, List.setIfInBounds_toArray, List.set_cons_zero, List.set_cons_succ]
              refine wpAnyHTake 12 (some 116) (.bool false) rfl rfl (by kernel_rfl) (by kernel_rfl) (by kernel_rfl) (fun _ _ _ h => h) (by rfl) (fun _ _ => by go_simp) (HC2.out) ?_
              simp only [Act.put, List.setIfInBounds_toArray, List.set_cons_zero, List.set_cons_succ]
              refine wpAnyHTake 13 (some 117) (.bool false) rfl rfl (by kernel_rfl) (by kernel_rfl) (by kernel_rfl) (fun _ _ _ h => h) (by rfl) (fun _ _ => by go_simp) (HC2.out) ?_
              simp only [Act.put, List.setIfInBounds_toArray, List.set_cons_zero, List.set_cons_succ]
              refine wpAnyH_done (by kernel_rfl) ?_ _
              rename_i K hK
              refine hK _ _ ?_
              clear hK
              have HV1 := Lib.hid (HZ1.out.trans (HB2.out.mono HZ1.out.size)); have HVL := Lib.hid (HZL.out.trans (HB2.out.mono HZL.out.size))
              clear HC HC2
              go_wp2_with fail
              go_roundw
              case rel => exact ⟨k + 1, by omega, by go_num, HV1.out, HVL.out⟩
              case measure => simp [intOf]; omega
    · have q1 : ¬ (k : Int) < 5 := by omega
      clear hbl hbl1
      go_wp2_with fail
      refine (LV.out _).mono ?_
      rintro e w8 ⟨rfl, hb8⟩
      go_wp2_with fail
      go_ret
      exact ⟨rfl, H1.out.trans (hb8.mono H1.out.size)⟩
end Go.Proofs.Ytidojiegkdchpaa
