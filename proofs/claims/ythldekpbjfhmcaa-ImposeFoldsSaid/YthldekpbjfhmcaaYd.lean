/- ImposeSides: the walk of the law's function: it returns true for all numbers. -/
import Derived.Test.YthldekpbjfhmcaaYc
import Derived.Test.YthldekpbjfhmcaaYb
import Derived.Deep.OwnRows
import Derived.Test.YthldekpbjfhmcaaWu
namespace Go.Proofs.Ythldekpbjfhmcaa
open Go.RowKit

/-- a block of counters -/
def Met (w : World) (B : Nat) (M : Nat → Int) : Prop := ∃ C : Array Value, w.heap[B]? = some (.cells C 3 (0, 0)) ∧ C.size = 1001 ∧ ∀ u, u < 1001 → C[u]? = some (.int .i64 (M u))

theorem Met.lt {w : World} {B : Nat} {M : Nat → Int} (h : Met w B M) : B < w.heap.size := by
  obtain ⟨C, h1, _⟩ := h; exact (Array.getElem?_eq_some_iff.1 h1).1
theorem Met.cell {w : World} {B : Nat} {M : Nat → Int} (h : Met w B M) (u : Nat) (hu : u < 1001) : w.cell? ⟨B, u, none⟩ = some (.int .i64 (M u)) := by
  obtain ⟨C, h1, h2, h3⟩ := h
  simp only [World.cell?, h1]
  exact h3 u hu
theorem Met.frozen {w : World} {B : Nat} {M : Nat → Int} (h : Met w B M) (u : Nat) : w.frozen? ⟨B, u, none⟩ = false := by
  obtain ⟨C, h1, _⟩ := h
  simp [World.frozen?, h1]
theorem Met.below {w w' : World} {B : Nat} {M : Nat → Int} (h : Met w B M) (hb : Below w.heap.size w w') : Met w' B M := by
  have hl := h.lt
  obtain ⟨C, h1, h2, h3⟩ := h
  exact ⟨C, (hb.block B hl).trans h1, h2, h3⟩
theorem Met.alloc {w : World} {B : Nat} {M : Nat → Int} (h : Met w B M) (o : Obj) : Met (w.alloc o) B M := h.below ((Below.refl _ _).alloc (Nat.le_refl _) _)
theorem Met.same {w : World} {B : Nat} {M M' : Nat → Int} (h : Met w B M) (e : ∀ u, M u = M' u) : Met w B M' := by
  have : M = M' := funext e
  rwa [← this]
theorem Met.set {w : World} {B : Nat} {M : Nat → Int} (h : Met w B M) (v : Nat) (x : Int) : Met (w.setCell ⟨B, v, none⟩ (.int .i64 x)) B (fun u => if u = v then x else M u) := by
  obtain ⟨C, h1, h2, h3⟩ := h
  refine ⟨C.setIfInBounds v (.int .i64 x), ?_, by simpa using h2, fun u hu => ?_⟩
  · simp [World.setCell, Array.getElem?_modify, h1]
  · by_cases hv : u = v
    · subst hv; simp [h2, hu]
    · rw [Array.getElem?_setIfInBounds_ne (Ne.symm hv)]; simp [hv, h3 u hu]

/-- all blocks but one are as they were -/
def KeepBut (B : Nat) (w w' : World) : Prop := ∀ b, b ≠ B → w'.heap[b]? = w.heap[b]?
theorem KeepBut.refl (B : Nat) (w : World) : KeepBut B w w := fun _ _ => rfl
theorem KeepBut.set {B : Nat} {w w' : World} (h : KeepBut B w w') (v : Nat) (x : Value) : KeepBut B w (w'.setCell ⟨B, v, none⟩ x) := fun b hb => (Below.heap_setCell _ _ _ _ hb).trans (h b hb)
theorem KeepBut.cell {B : Nat} {w w' : World} (h : KeepBut B w w') {b o : Nat} {x : Value} (hb : b ≠ B) (hc : w.cell? ⟨b, o, none⟩ = some x) : w'.cell? ⟨b, o, none⟩ = some x :=
  (World.cell?_of_block (w := w) (h b hb)).trans hc

def cntF (L : List Int) (u : Nat) : Int := ((L.count (u : Int) : Nat) : Int)
theorem cntF_bd (L : List Int) (u : Nat) : 0 ≤ cntF L u ∧ cntF L u ≤ L.length := by
  unfold cntF; have := List.count_le_length (a := (u : Int)) (l := L); omega
theorem cntF_snoc (L : List Int) (v u : Nat) : (if u = v then cntF L v + 1 else cntF L u) = cntF (L ++ [(v : Int)]) u := by
  unfold cntF
  rw [List.count_append, List.count_cons]
  by_cases h : u = v
  · subst h; simp
  · have : ¬ (v : Int) = u := by omega
    simp [h, this]

theorem make1001 : ∃ Z : Array Value, Z.size = 1001 ∧ (∀ u, u < 1001 → Z[u]? = some (.int .i64 0)) ∧ ∀ w : World, (Instr.makeSlice 28 (.int .i64 1001) (.int .i64 1001)).run Try.prog w = .ok (.slice (some ⟨w.heap.size, 0, none⟩) 1001 1001) (w.alloc (.cells Z 3)) := by
  refine ⟨madeCells #[.int .i64 0] 1001, size_madeCells _ _, fun u hu => ?_, fun w => run_make_row' 28 3 (.int .i64 0) 8 Try.underlying28 Try.info3 rfl .i64 .i64 1001 (by omega) (by omega) w⟩
  unfold madeCells
  simp [hu, Nat.mod_one]

theorem pgs_snoc (xs : List Sh) (n : Nat) (s : Sh) (h : xs[n]? = some s) : pgs (xs.take (n + 1)) = pgs (xs.take n) ++ pg s := take_flat pg xs n s h

theorem pg_at (s : Sh) (j : Nat) (hj : j < 4) : ∃ x, (pg s)[j]? = some x := ⟨_, List.getElem?_eq_getElem (by simpa [pg] using hj)⟩
theorem pg_bd {p k : Int} {s : Sh} (h : SheetLaw p k s) (j : Nat) (x : Int) (hx : (pg s)[j]? = some x) : 0 ≤ x ∧ x ≤ p := by
  have h0 := h.bf0; have h1 := h.bf1; have h2 := h.bb0; have h3 := h.bb1
  have hm := List.mem_of_getElem? hx
  unfold pg at hm
  simp only [List.mem_cons, List.not_mem_nil, or_false] at hm
  rcases hm with rfl | rfl | rfl | rfl <;> assumption

theorem all_new (w : World) (o : Obj) (s : Sh) : ∀ (t : Nat) (x : Int), (pg s)[t]? = some x → ((w.alloc o).alloc (.cells #[.int .i64 s.f0, .int .i64 s.f1, .int .i64 s.b0, .int .i64 s.b1] 3)).cell? ⟨w.heap.size + 1, t, none⟩ = some (.int .i64 x) := by
  intro t x hx
  have h := new2 w o (.cells #[.int .i64 s.f0, .int .i64 s.f1, .int .i64 s.b0, .int .i64 s.b1] 3)
  simp only [World.cell?, h]
  have e : (#[.int .i64 s.f0, .int .i64 s.f1, .int .i64 s.b0, .int .i64 s.b1] : Array Value)[t]? = ((pg s).map (Value.int .i64))[t]? := by simp [pg]
  rw [e, List.getElem?_map, hx]; rfl

theorem pgs_len (xs : List Sh) (s : Sh) (i : Nat) (h : xs.length ≤ 600) (t : Nat) : (pgs (xs.take i) ++ (pg s).take t).length ≤ 3000 := by
  have h1 := flat_len pg 4 (fun _ => rfl) (xs.take i)
  have h2 : (pg s).length = 4 := rfl
  unfold pgs
  rw [List.length_append, h1, List.length_take, List.length_take]
  omega

def posAll (l : List Int) : Bool := l.all fun y => decide (0 < y)
theorem posAll_snoc {l : List Int} {j : Nat} {x : Int} (h : l[j]? = some x) : posAll (l.take (j + 1)) = (posAll (l.take j) && decide (0 < x)) := by
  unfold posAll; rw [List.take_add_one, h]; simp
theorem posAll_pg (s : Sh) : posAll ((pg s).take 4) = true ↔ 0 < s.f0 ∧ 0 < s.f1 ∧ 0 < s.b0 ∧ 0 < s.b1 := by
  simp [posAll, pg]

set_option maxRecDepth 100000 in
set_option maxHeartbeats 8000000 in
theorem sides_any (LV : Lives) (n m : Int) (w : World) (hn : -9223372036854775808 ≤ n) (hn' : n ≤ 9223372036854775807) (hm : -9223372036854775808 ≤ m) (hm' : m ≤ 9223372036854775807) :
    Calls Try.prog 7 #[.int .i64 n, .int .i64 m] w fun e w' => e = .returned (.bool true) ∧ Below w.heap.size w w' := by
  obtain ⟨Z, hZ1, hZ2, hmk⟩ := make1001
  go_enter Try.func7, Try.ntmps7
  go_wp2_with fail
  refine (volume_any n m _ hn hn' hm hm').mono ?_
  rintro e w1 ⟨⟨p, k, rfl, p1, p2, k1, k2⟩, BB⟩
  go_wp2_with fail
  refine (fold_any p k _ (by omega) (by omega) (by omega) (by omega)).mono ?_
  rintro e w2 ⟨v2, rfl, o2, b2⟩
  have BB := BB.trans (b2.mono BB.size)
  have R2 : RdS w2 v2 (fold p k) := Rd_of_owns o2
  clear o2 b2
  by_cases h0 : errOf p k = 0
  · obtain ⟨hp1, hp2, hk1, hk2, hk3⟩ := errOf_zero h0
    have HL := Lib.hid (sheet_law p k h0)
    have HO := Lib.hid (page_once p k h0)
    rw [h0]
    have hlen : (fold p k).length ≤ 600 := by
      have := nh_bd p k (cnt p k).toNat 0 hp1 hp2 hk1 hk2 (by have := cnt_bd p k hp1 hp2 hk1 hk2; omega) (by omega)
      rw [List.length_append] at this; unfold fold; rw [if_pos h0]; omega
    obtain ⟨a2, c2, hv2, _⟩ := RdS.open R2
    subst hv2
    generalize fold p k = xs at R2 HL HO hlen ⊢
    clear h0 hk3
    have R2' := Lib.hid R2; have BB' := Lib.hid BB
    clear R2 BB
    go_wp2_with fail
    have B3 : Below w2.heap.size w2 (w2.alloc (.cells Z 3)) := (Below.refl _ _).alloc (Nat.le_refl _) _
    have M3 : Met (w2.alloc (.cells Z 3)) w2.heap.size (cntF (pgs (xs.take 0))) := ⟨Z, heap_alloc_new _ _, hZ1, hZ2⟩
    generalize (w2.alloc (.cells Z 3)) = W3 at B3 M3 ⊢
    clear hmk hZ1 hZ2
    generalize hBm : w2.heap.size = Bm at B3 M3 ⊢
    have HBm := Lib.hid hBm
    clear hBm
    go_loopw [10] (fun i wr => ∃ j : Nat, j ≤ xs.length ∧ i = .int .i64 j ∧ Met wr Bm (cntF (pgs (xs.take j))) ∧ Below Bm w2 wr) (fun i _ => xs.length - (intOf i).toNat)
    case atStart => exact ⟨0, by omega, rfl, M3, B3⟩
    case round =>
      obtain ⟨i, hi, rfl, hM, hb⟩ := hrel
      clear B3 M3
      by_cases hlt : i < xs.length
      · obtain ⟨s, hs⟩ := elem_at hlt
        have SL := HL.out i s hs
        obtain ⟨_, _, hv, _, g⟩ := RdS.open (Rd.below R2'.out (by rw [HBm.out]; exact hb))
        obtain ⟨b1, o1, hp, hl, g0, g1, g2, g3, g4⟩ := g i s hs
        cases hv
        cases hp
        have HM := Lib.hid hM; have HB := Lib.hid hb; have HSL := Lib.hid SL; have HS := Lib.hid hs
        clear g hM hb SL hs
        go_wp2_with fail
        clear g0 g1 g2 g3 g4
        have hBl : Bm < wr.heap.size := HM.out.lt
        have hN1 : wr.heap.size ≠ Bm := by omega
        have hN2 : wr.heap.size + 1 ≠ Bm := by omega
        have s1 : ((wr.alloc (.cells #[.int .i64 s.q, .int .i64 s.f0, .int .i64 s.f1, .int .i64 s.b0, .int .i64 s.b1] 54)).alloc (.cells #[.int .i64 s.f0, .int .i64 s.f1, .int .i64 s.b0, .int .i64 s.b1] 3)).cell? ⟨wr.heap.size, 1, none⟩ = some (.int .i64 s.f0) := by simp [go_sem]
        have s2 : ((wr.alloc (.cells #[.int .i64 s.q, .int .i64 s.f0, .int .i64 s.f1, .int .i64 s.b0, .int .i64 s.b1] 54)).alloc (.cells #[.int .i64 s.f0, .int .i64 s.f1, .int .i64 s.b0, .int .i64 s.b1] 3)).cell? ⟨wr.heap.size, 2, none⟩ = some (.int .i64 s.f1) := by simp [go_sem]
        have s3 : ((wr.alloc (.cells #[.int .i64 s.q, .int .i64 s.f0, .int .i64 s.f1, .int .i64 s.b0, .int .i64 s.b1] 54)).alloc (.cells #[.int .i64 s.f0, .int .i64 s.f1, .int .i64 s.b0, .int .i64 s.b1] 3)).cell? ⟨wr.heap.size, 3, none⟩ = some (.int .i64 s.b0) := by simp [go_sem]
        have s4 : ((wr.alloc (.cells #[.int .i64 s.q, .int .i64 s.f0, .int .i64 s.f1, .int .i64 s.b0, .int .i64 s.b1] 54)).alloc (.cells #[.int .i64 s.f0, .int .i64 s.f1, .int .i64 s.b0, .int .i64 s.b1] 3)).cell? ⟨wr.heap.size, 4, none⟩ = some (.int .i64 s.b1) := by simp [go_sem]
        have ga := all_new wr (.cells #[.int .i64 s.q, .int .i64 s.f0, .int .i64 s.f1, .int .i64 s.b0, .int .i64 s.b1] 54) s
        have MW : Met ((wr.alloc (.cells #[.int .i64 s.q, .int .i64 s.f0, .int .i64 s.f1, .int .i64 s.b0, .int .i64 s.b1] 54)).alloc (.cells #[.int .i64 s.f0, .int .i64 s.f1, .int .i64 s.b0, .int .i64 s.b1] 3)) Bm (cntF (pgs (xs.take i))) := (HM.out.alloc _).alloc _
        have BW : Below Bm w2 ((wr.alloc (.cells #[.int .i64 s.q, .int .i64 s.f0, .int .i64 s.f1, .int .i64 s.b0, .int .i64 s.b1] 54)).alloc (.cells #[.int .i64 s.f0, .int .i64 s.f1, .int .i64 s.b0, .int .i64 s.b1] 3)) := (HB.out.alloc (Nat.le_of_lt hBl) _).alloc (by simp; omega) _
        have HLen := Lib.hid (pgs_len xs s i hlen)
        generalize ((wr.alloc (.cells #[.int .i64 s.q, .int .i64 s.f0, .int .i64 s.f1, .int .i64 s.b0, .int .i64 s.b1] 54)).alloc (.cells #[.int .i64 s.f0, .int .i64 s.f1, .int .i64 s.b0, .int .i64 s.b1] 3)) = Wi at s1 s2 s3 s4 ga MW BW ⊢
        generalize hb11 : wr.heap.size = b11 at hN1 hN2 s1 s2 s3 s4 ga ⊢
        clear hb11 hBl
        go_loopw [13, 14] (fun f j ws => ∃ (t : Nat) (fb : Bool), t ≤ 4 ∧ j = .int .i64 t ∧ f = .bool fb ∧ fb = posAll ((pg s).take t) ∧ Met ws Bm (cntF (pgs (xs.take i) ++ (pg s).take t)) ∧ Below Bm w2 ws ∧ KeepBut Bm Wi ws) (fun _ j _ => 4 - (intOf j).toNat)
        case atStart => exact ⟨0, true, by omega, rfl, rfl, by simp [posAll], by simpa using MW, BW, KeepBut.refl _ _⟩
        case round =>
          obtain ⟨t, fb, ht, rfl, rfl, hfb, hM, hb, hK⟩ := hrel
          by_cases htl : t < 4
          · obtain ⟨x, hx⟩ := pg_at s t htl
            obtain ⟨x0, xp⟩ := pg_bd HSL.out t x hx
            have q0 := hK.cell hN2 (ga t x hx)
            obtain ⟨u, hu⟩ : ∃ u : Nat, x = u := ⟨x.toNat, by omega⟩
            subst hu
            have hc := hM.cell u (by omega)
            have hf := hM.frozen u
            obtain ⟨m1, m2⟩ := cntF_bd (pgs (xs.take i) ++ (pg s).take t) u
            have hm3 := HLen.out t
            have hP := posAll_snoc hx
            rw [← hfb] at hP
            have hT : (pg s).take (t + 1) = (pg s).take t ++ [(u : Int)] := by rw [List.take_add_one, hx]; rfl
            have hM2 := (hM.set u (cntF (pgs (xs.take i) ++ (pg s).take t) u + 1)).same (fun v => (cntF_snoc _ u v).trans (by rw [List.append_assoc, ← hT]))
            have hB2 := Below.setCell hb (p := ⟨Bm, u, none⟩) (Nat.le_refl _) (.int .i64 (cntF (pgs (xs.take i) ++ (pg s).take t) u + 1))
            have hK2 := hK.set u (.int .i64 (cntF (pgs (xs.take i) ++ (pg s).take t) u + 1))
            have d1 : decide ((u : Int) < 0) = false := decide_eq_false (by omega)
            have d2 : decide (p < (u : Int)) = false := decide_eq_false (by omega)
            have HM2 := Lib.hid hM2; have HB2 := Lib.hid hB2; have HK2 := Lib.hid hK2; have HP := Lib.hid hP
            clear hM2 hB2 hK2 hP hT hM hb hK hfb hx ga
            generalize cntF (pgs (xs.take i) ++ (pg s).take t) u = c at *
            cases fb
            · go_wp2_with fail
              go_roundw
              case rel => exact ⟨t + 1, false, by omega, by go_num, rfl, HP.out.symm, HM2.out, HB2.out, HK2.out⟩
              case measure => simp [intOf]; omega
            · by_cases hu0 : 0 < u
              · have d3 : decide ((0 : Int) < (u : Int)) = true := decide_eq_true (by omega)
                rw [d3] at HP
                go_wp2_with fail
                go_roundw
                case rel => exact ⟨t + 1, true, by omega, by go_num, rfl, HP.out.symm, HM2.out, HB2.out, HK2.out⟩
                case measure => simp [intOf]; omega
              · have d3 : decide ((0 : Int) < (u : Int)) = false := decide_eq_false (by omega)
                rw [d3] at HP
                go_wp2_with fail
                go_roundw
                case rel => exact ⟨t + 1, false, by omega, by go_num, rfl, HP.out.symm, HM2.out, HB2.out, HK2.out⟩
                case measure => simp [intOf]; omega
          · have t4 : t = 4 := by omega
            subst t4
            have s1 := hK.cell hN1 s1; have s2 := hK.cell hN1 s2; have s3 := hK.cell hN1 s3; have s4 := hK.cell hN1 s4
            have hM2 : Met wr Bm (cntF (pgs (xs.take (i + 1)))) := hM.same (fun u => by rw [pgs_snoc xs i s HS.out]; rfl)
            have HM2 := Lib.hid hM2; have HB2 := Lib.hid hb
            have SL := HSL.out
            have hpos := (Bool.eq_iff_iff.1 hfb).trans (posAll_pg s)
            have C29a := fun w => next_any s.f0 s.b1 w (by have := SL.bf0; omega) (by have := SL.bf0; omega) (by have := SL.bb1; omega) (by have := SL.bb1; omega)
            have C29b := fun w => next_any s.f1 s.b0 w (by have := SL.bf1; omega) (by have := SL.bf1; omega) (by have := SL.bb0; omega) (by have := SL.bb0; omega)
            rw [SL.n1] at C29a; rw [SL.n2] at C29b
            have z0 := SL.bf0; have z1 := SL.bf1; have z2 := SL.bb0; have z3 := SL.bb1
            have hlf := SL.leaf; have hsm := SL.sum
            clear hM hb hK hM2 SL hfb ga MW BW
            cases fb
            · clear hpos hsm
              by_cases hp1 : 0 < s.f1
              · have d1 : decide (0 < s.f1) = true := decide_eq_true hp1
                by_cases hp2 : 0 < s.b1
                · have d2 : decide (0 < s.b1) = true := decide_eq_true hp2
                  have hlf := hlf hp1 hp2
                  have C19a := leaf_any s.f1; have C19b := leaf_any s.b1
                  have C23 := fun w => conjugateL_any p k (leafOf s.f1) w (by omega) (by omega) (by omega) (by omega)
                  rw [hlf.1, hlf.2] at C23
                  have hll : (leafOf s.b1 != leafOf s.b1) = false := by simp
                  clear hlf
                  go_wp2_with fail
                  refine (C29a _).mono ?_; rintro e w4 ⟨rfl, rfl⟩
                  go_wp2_with fail
                  refine (C29b _).mono ?_; rintro e w4 ⟨rfl, rfl⟩
                  go_wp2_with fail
                  refine (C19a _).mono ?_; rintro e w4 ⟨rfl, rfl⟩
                  go_wp2_with fail
                  refine (C19b _).mono ?_; rintro e w4 ⟨rfl, rfl⟩
                  go_wp2_with fail
                  refine (C23 _).mono ?_; rintro e w4 ⟨rfl, b4⟩
                  have HM3 := Lib.hid (Met.below HM2.out b4); have HB3 := Lib.hid (HB2.out.trans (b4.mono (Nat.le_of_lt HM2.out.lt)))
                  clear b4
                  go_wp2_with fail
                  go_roundw
                  case rel => exact ⟨i + 1, by omega, by go_num, HM3.out, HB3.out⟩
                  case measure => simp [intOf]; omega
                · have d2 : decide (0 < s.b1) = false := decide_eq_false hp2
                  clear hlf
                  go_wp2_with fail
                  refine (C29a _).mono ?_; rintro e w4 ⟨rfl, rfl⟩
                  go_wp2_with fail
                  refine (C29b _).mono ?_; rintro e w4 ⟨rfl, rfl⟩
                  go_wp2_with fail
                  go_roundw
                  case rel => exact ⟨i + 1, by omega, by go_num, HM2.out, HB2.out⟩
                  case measure => simp [intOf]; omega
              · have d1 : decide (0 < s.f1) = false := decide_eq_false hp1
                clear hlf
                go_wp2_with fail
                refine (C29a _).mono ?_; rintro e w4 ⟨rfl, rfl⟩
                go_wp2_with fail
                refine (C29b _).mono ?_; rintro e w4 ⟨rfl, rfl⟩
                go_wp2_with fail
                go_roundw
                case rel => exact ⟨i + 1, by omega, by go_num, HM2.out, HB2.out⟩
                case measure => simp [intOf]; omega
            · obtain ⟨y0, y1, y2, y3⟩ := hpos.1 rfl
              have hsm := hsm y0 y1 y2 y3
              have hlf := hlf y1 y3
              have d1 : decide (0 < s.f1) = true := decide_eq_true y1
              have d2 : decide (0 < s.b1) = true := decide_eq_true y3
              have hsb : (s.f0 + s.f1 != s.b0 + s.b1) = false := by simpa using hsm
              clear hpos hsm
              have C19a := leaf_any s.f1; have C19b := leaf_any s.b1
              have C23 := fun w => conjugateL_any p k (leafOf s.f1) w (by omega) (by omega) (by omega) (by omega)
              rw [hlf.1, hlf.2] at C23
              have hll : (leafOf s.b1 != leafOf s.b1) = false := by simp
              clear hlf
              go_wp2_with fail
              refine (C29a _).mono ?_; rintro e w4 ⟨rfl, rfl⟩
              go_wp2_with fail
              refine (C29b _).mono ?_; rintro e w4 ⟨rfl, rfl⟩
              go_wp2_with fail
              refine (C19a _).mono ?_; rintro e w4 ⟨rfl, rfl⟩
              go_wp2_with fail
              refine (C19b _).mono ?_; rintro e w4 ⟨rfl, rfl⟩
              go_wp2_with fail
              refine (C23 _).mono ?_; rintro e w4 ⟨rfl, b4⟩
              have HM3 := Lib.hid (Met.below HM2.out b4); have HB3 := Lib.hid (HB2.out.trans (b4.mono (Nat.le_of_lt HM2.out.lt)))
              clear b4
              go_wp2_with fail
              go_roundw
              case rel => exact ⟨i + 1, by omega, by go_num, HM3.out, HB3.out⟩
              case measure => simp [intOf]; omega
      · have hi2 : i = xs.length := by omega
        subst hi2
        rw [List.take_length] at hM
        have HB := Lib.hid hb
        clear hb
        go_wp2_with fail
        go_loop [21] (fun j => ∃ v : Int, 1 ≤ v ∧ v ≤ p + 1 ∧ j = .int .i64 v) (fun j => (p + 1 - intOf j).toNat)
        case atStart => exact ⟨1, by omega, by omega, rfl⟩
        case round =>
          obtain ⟨v, v1, v2, rfl⟩ := hrel
          by_cases hvp : v ≤ p
          · obtain ⟨u, hu⟩ : ∃ u : Nat, v = u := ⟨v.toNat, by omega⟩
            subst hu
            have hc := hM.cell u (by omega)
            have h1 : cntF (pgs xs) u = 1 := by unfold cntF; rw [HO.out (u : Int) v1 hvp]; rfl
            rw [h1] at hc
            clear h1
            go_wp2_with fail
            go_round
            case rel => exact ⟨(u : Int) + 1, by omega, by omega, rfl⟩
            case measure => simp [intOf]; omega
          · go_wp2_with fail
            refine (LV _).mono ?_
            rintro e w5 ⟨rfl, b5⟩
            have b6 : Below w2.heap.size w2 wr := by rw [HBm.out]; exact HB.out
            have b7 := BB'.out.trans (b6.mono BB'.out.size)
            have b8 := b7.trans (b5.mono b7.size)
            go_wp2_with fail
            go_ret
            exact ⟨rfl, b8⟩
  · have hx := fold_err p k h0
    rw [hx] at R2
    obtain ⟨a2, c2, hv2, _⟩ := RdS.open R2
    subst hv2
    have h0' : (errOf p k != 0) = true := by simpa using h0
    clear R2 h0
    go_wp2_with fail
    refine (LV _).mono ?_
    rintro e w3 ⟨rfl, b3⟩
    have BB := BB.trans (b3.mono BB.size)
    go_wp2_with fail
    go_ret
    exact ⟨rfl, BB⟩
end Go.Proofs.Ythldekpbjfhmcaa
