/- ImposeLeaves: the walk of the law's function: it returns true for all numbers. -/
import Derived.Test.YthldekpbjfhmcaaWu
import Derived.Deep.CutRange
namespace Go.Proofs.Ythldekpbjfhmcaa
open Go.RowKit

set_option maxHeartbeats 400000 in
theorem rpages_at (x : Int) (w : World) :
    Calls Try.prog 22 #[.int .i64 x] w fun e w' => e = .returned (.agg #[.int .i64 (pgA x), .int .i64 (pgB x)]) ∧ w' = w.alloc (.cells #[.int .i64 (pgA x), .int .i64 (pgB x)] 43) := by
  by_cases h : x < 1 ∨ 512 < x
  · have h1 : pgA x = 0 := by unfold pgA; rw [if_pos h]
    have h2 : pgB x = 0 := by unfold pgB; rw [if_pos h]
    have H1 := Lib.hid h1; have H2 := Lib.hid h2; clear h1 h2
    rcases h with h | h
    all_goals
      go_enter Try.func22, Try.ntmps22
      go_wp2
      all_goals
        go_returns
        exact ⟨ret_two (by rw [H1.out]) (by rw [H2.out]), by rw [H1.out, H2.out]⟩
  · have h1 : pgA x = x + x - 1 := by unfold pgA; rw [if_neg h]; omega
    have h2 : pgB x = x + x := by unfold pgB; rw [if_neg h]; omega
    have H1 := Lib.hid h1; have H2 := Lib.hid h2; clear h1 h2
    have ha : 1 ≤ x := by omega
    have hb : x ≤ 512 := by omega
    clear h
    go_enter Try.func22, Try.ntmps22
    go_wp2
    all_goals
      go_returns
      exact ⟨ret_two (by rw [H1.out]) (by rw [H2.out]), by rw [H1.out, H2.out]⟩

theorem leaves_two (x : Int) : (pgA x = 0 ∧ pgB x = 0) ∨ (1 ≤ pgA x ∧ leafOf (pgA x) = x ∧ frontOf (pgA x) = true ∧ leafOf (pgB x) = x ∧ frontOf (pgB x) = false) := by
  by_cases h : x < 1 ∨ 512 < x
  · left; unfold pgA pgB; rw [if_pos h, if_pos h]; exact ⟨rfl, rfl⟩
  · right
    have hA : pgA x = 2 * x - 1 := by unfold pgA; rw [if_neg h]
    have hB : pgB x = 2 * x := by unfold pgB; rw [if_neg h]
    have hA' : ¬ (pgA x < 1 ∨ 1024 < pgA x) := by omega
    have hB' : ¬ (pgB x < 1 ∨ 1024 < pgB x) := by omega
    unfold leafOf frontOf
    rw [if_neg hA', if_neg hA', if_neg hB', if_neg hB']
    refine ⟨by omega, by omega, ?_, by omega, ?_⟩
    · simp only [beq_iff_eq]; omega
    · rw [beq_eq_false_iff_ne]; omega

theorem leaves_law (x : Int) : (leafOf x = 0 ∧ frontOf x = false) ∨ (1 ≤ leafOf x ∧ frontOf x = true ∧ pgA (leafOf x) = x) ∨ (1 ≤ leafOf x ∧ frontOf x = false ∧ pgB (leafOf x) = x) := by
  by_cases h : x < 1 ∨ 1024 < x
  · left; unfold leafOf frontOf; rw [if_pos h, if_pos h]; exact ⟨rfl, rfl⟩
  · right
    have hL : leafOf x = (x + 1) / 2 := by unfold leafOf; rw [if_neg h]
    have hF : frontOf x = (x % 2 == 1) := by unfold frontOf; rw [if_neg h]
    have hP : ¬ (leafOf x < 1 ∨ 512 < leafOf x) := by omega
    have hA : pgA (leafOf x) = 2 * leafOf x - 1 := by unfold pgA; rw [if_neg hP]
    have hB : pgB (leafOf x) = 2 * leafOf x := by unfold pgB; rw [if_neg hP]
    by_cases h2 : x % 2 = 1
    · left; refine ⟨by omega, by rw [hF]; simp [h2], by omega⟩
    · right; refine ⟨by omega, by rw [hF]; rw [beq_eq_false_iff_ne]; exact h2, by omega⟩

theorem leafOf0 : leafOf 0 = 0 := by decide
theorem frontOf0 : frontOf 0 = false := by decide

def lvs (n m : Int) : List Int := [n, m, around n 1026, around m 514, 0, 1, 512, 513, 1024, 1025]
theorem lvs_at (n m : Int) (hn : -9223372036854775808 ≤ n) (hn' : n ≤ 9223372036854775807) (hm : -9223372036854775808 ≤ m) (hm' : m ≤ 9223372036854775807) (k : Nat) (hk : k < 10) : ∃ x, (lvs n m)[k]? = some x ∧ -9223372036854775808 ≤ x ∧ x ≤ 9223372036854775807 := by
  obtain ⟨a1, a2⟩ := around_bd n 1026 (by omega)
  obtain ⟨b1, b2⟩ := around_bd m 514 (by omega)
  obtain rfl | rfl | rfl | rfl | rfl | rfl | rfl | rfl | rfl | rfl : k = 0 ∨ k = 1 ∨ k = 2 ∨ k = 3 ∨ k = 4 ∨ k = 5 ∨ k = 6 ∨ k = 7 ∨ k = 8 ∨ k = 9 := by omega
  all_goals exact ⟨_, rfl, by omega, by omega⟩

def Lives : Prop := ∀ w : World, Calls Try.prog 17 #[] w fun e w' => e = .returned (.bool true) ∧ Below w.heap.size w w'

set_option maxRecDepth 100000 in
set_option maxHeartbeats 8000000 in
theorem leaves_any (LV : Lives) (n m : Int) (w : World) (hn : -9223372036854775808 ≤ n) (hn' : n ≤ 9223372036854775807) (hm : -9223372036854775808 ≤ m) (hm' : m ≤ 9223372036854775807) :
    Calls Try.prog 4 #[.int .i64 n, .int .i64 m] w fun e w' => e = .returned (.bool true) ∧ Below w.heap.size w w' := by
  go_enter Try.func4, Try.ntmps4
  go_wp2_with fail
  refine (around_any n 1026 _ hn hn' (by omega) (by omega)).mono ?_
  rintro e w1 ⟨rfl, rfl⟩
  go_wp2_with fail
  refine (around_any m 514 _ hm hm' (by omega) (by omega)).mono ?_
  rintro e w1 ⟨rfl, rfl⟩
  go_wp2_with fail
  have R0 : RdI (w.alloc (.cells #[.int .i64 n, .int .i64 m, .int .i64 (around n 1026), .int .i64 (around m 514), .int .i64 0, .int .i64 1, .int .i64 512, .int .i64 513, .int .i64 1024, .int .i64 1025] 3)) (.slice (some ⟨w.heap.size, 0, none⟩) 10 10) (lvs n m) := Rd_block (cs := #[.int .i64 n, .int .i64 m, .int .i64 (around n 1026), .int .i64 (around m 514), .int .i64 0, .int .i64 1, .int .i64 512, .int .i64 513, .int .i64 1024, .int .i64 1025]) (t := 3) (n := 10) (sz := 1) (heap_alloc_new w _) rfl (by omega)
  have B0 : Below w.heap.size w (w.alloc (.cells #[.int .i64 n, .int .i64 m, .int .i64 (around n 1026), .int .i64 (around m 514), .int .i64 0, .int .i64 1, .int .i64 512, .int .i64 513, .int .i64 1024, .int .i64 1025] 3)) := (Below.refl w.heap.size w).alloc (Nat.le_refl _) _
  generalize (w.alloc (.cells #[.int .i64 n, .int .i64 m, .int .i64 (around n 1026), .int .i64 (around m 514), .int .i64 0, .int .i64 1, .int .i64 512, .int .i64 513, .int .i64 1024, .int .i64 1025] 3)) = W at R0 B0 ⊢
  go_loopw [6] (fun i wr => ∃ k : Nat, k ≤ 10 ∧ i = .int .i64 k ∧ Below W.heap.size W wr) (fun i _ => 10 - (intOf i).toNat)
  case atStart => exact ⟨0, by omega, rfl, Below.refl _ _⟩
  case round =>
    obtain ⟨k, hk, rfl, hb⟩ := hrel
    by_cases hlt : k < 10
    · obtain ⟨x, hx, hx1, hx2⟩ := lvs_at n m hn hn' hm hm' k hlt
      obtain ⟨_, _, hv, _, g⟩ := RdI.open (Rd.below R0 hb)
      obtain ⟨b1, o1, hp, hl, g0⟩ := g k x hx
      cases hv
      cases hp
      rw [Nat.zero_add] at g0
      have HB := Lib.hid hb
      have HR := Lib.hid R0
      clear g hx R0 hb
      have C19 := leaf_any x
      have C20 := rleaf_any x
      have C21 := pages_at x
      have C22 := rpages_at x
      have C21b := pages_at (leafOf x)
      have C19a := leaf_any (pgA x)
      have C19b := leaf_any (pgB x)
      have hs := eqP_self (pgA x, pgB x)
      have hll : (leafOf x != leafOf x) = false := by simp
      have q1 : ((wr.alloc (.cells #[.int .i64 (pgA x), .int .i64 (pgB x)] 43)).alloc (.cells #[.int .i64 (pgA x), .int .i64 (pgB x)] 43)).cell? ⟨w.heap.size, k, none⟩ = some (.int .i64 x) := cell_al _ (cell_al _ g0)
      have q2 : ((wr.alloc (.cells #[.int .i64 (pgA x), .int .i64 (pgB x)] 43)).alloc (.cells #[.int .i64 (pgA x), .int .i64 (pgB x)] 43)).cell? ⟨wr.heap.size + 1, 0, none⟩ = some (.int .i64 (pgA x)) := by simp [go_sem]
      have q3 : ((wr.alloc (.cells #[.int .i64 (pgA x), .int .i64 (pgB x)] 43)).alloc (.cells #[.int .i64 (pgA x), .int .i64 (pgB x)] 43)).cell? ⟨wr.heap.size + 1, 1, none⟩ = some (.int .i64 (pgB x)) := by simp [go_sem]
      have BW : Below W.heap.size W ((wr.alloc (.cells #[.int .i64 (pgA x), .int .i64 (pgB x)] 43)).alloc (.cells #[.int .i64 (pgA x), .int .i64 (pgB x)] 43)) := (HB.out.alloc HB.out.size _).alloc (by have := HB.out.size; simp; omega) _
      have Q1 := Lib.hid q1; have Q2 := Lib.hid q2; have Q3 := Lib.hid q3; have HBW := Lib.hid BW
      clear q1 q2 q3 BW
      have hs2 : eqP (pgA x, pgB x) (pgA x, pgB x) = true := hs
      have hbb : (true != true) = false := rfl
      have hbf : (false != false) = false := rfl
      rcases leaves_law x with ⟨hL, hF⟩ | ⟨hL, hF, hP⟩ | ⟨hL, hF, hP⟩
      · rw [hL, hF] at C19 C20
        clear HR
        rcases leaves_two x with ⟨hA, hB⟩ | ⟨hA, e1, e2, e3, e4⟩
        · have e1 : leafOf (pgA x) = 0 := by rw [hA]; decide
          have e2 : frontOf (pgA x) = false := by rw [hA]; decide
          have e3 : leafOf (pgB x) = 0 := by rw [hB]; decide
          have e4 : frontOf (pgB x) = false := by rw [hB]; decide
          clear hB
          rw [e1, e2] at C19a; rw [e3, e4] at C19b
          clear hF e1 e2 e3 e4
          clear hL
          have hA' := Lib.hid hA
          clear hA
          go_wp2_with fail
          refine (C19 _).mono ?_; rintro e w1 ⟨rfl, rfl⟩
          go_wp2_with fail
          refine (C20 _).mono ?_; rintro e w1 ⟨rfl, rfl⟩
          go_wp2_with fail
          refine (C21 _).mono ?_; rintro e w1 ⟨rfl, rfl⟩
          go_wp2_with fail
          clear C19 C20 C21
          have q1 := Q1.out; have q2 := Q2.out; have q3 := Q3.out
          clear Q1 Q2 Q3
          generalize ((wr.alloc (.cells #[.int .i64 (pgA x), .int .i64 (pgB x)] 43)).alloc (.cells #[.int .i64 (pgA x), .int .i64 (pgB x)] 43)) = W2 at q1 q2 q3 HBW ⊢
          refine wp_region_noPanic ?_
          go_region_held3 (fun w' => w'.cell? ⟨w.heap.size, k, none⟩ = some (.int .i64 x) ∧ w'.cell? ⟨wr.heap.size + 1, 0, none⟩ = some (.int .i64 (pgA x)) ∧ w'.cell? ⟨wr.heap.size + 1, 1, none⟩ = some (.int .i64 (pgB x))) (((try dsimp only); repeat' (first | assumption | refine And.intro ?_ ?_ | refine cell_al _ ?_ | refine cell_dr ?_))) (first | (go_at_call 22; refine (C22 _).mono ?_; rintro e w4 ⟨rfl, rfl⟩))
          refine NoPanic.normal ?_
          have BW := ((HBW.out).alloc HBW.out.size (.cells #[.int .i64 (pgA x), .int .i64 (pgB x)] 43)).drew
          have q1 := cell_dr (cell_al (.cells #[.int .i64 (pgA x), .int .i64 (pgB x)] 43) q1)
          have q2 := cell_dr (cell_al (.cells #[.int .i64 (pgA x), .int .i64 (pgB x)] 43) q2)
          have q3 := cell_dr (cell_al (.cells #[.int .i64 (pgA x), .int .i64 (pgB x)] 43) q3)
          clear HBW
          have HBW := Lib.hid BW
          clear BW C22
          generalize (W2.alloc (.cells #[.int .i64 (pgA x), .int .i64 (pgB x)] 43)).drew = W3 at q1 q2 q3 HBW ⊢
          go_wp2_with fail
          refine (C19a _).mono ?_; rintro e w1 ⟨rfl, rfl⟩
          go_wp2_with fail
          refine (C19b _).mono ?_; rintro e w1 ⟨rfl, rfl⟩
          have hA := hA'.out
          have hd : decide ((0 : Int) < pgA x) = false := by simp [hA]
          clear hA hA'
          go_wp2_with fail
          go_roundw
          case rel => exact ⟨k + 1, by omega, by go_num, HBW.out⟩
          case measure => simp [intOf]; omega
        · rw [e1, e2] at C19a; rw [e3, e4] at C19b
          clear hF e1 e2 e3 e4
          clear hL
          have hA' := Lib.hid hA
          clear hA
          go_wp2_with fail
          refine (C19 _).mono ?_; rintro e w1 ⟨rfl, rfl⟩
          go_wp2_with fail
          refine (C20 _).mono ?_; rintro e w1 ⟨rfl, rfl⟩
          go_wp2_with fail
          refine (C21 _).mono ?_; rintro e w1 ⟨rfl, rfl⟩
          go_wp2_with fail
          clear C19 C20 C21
          have q1 := Q1.out; have q2 := Q2.out; have q3 := Q3.out
          clear Q1 Q2 Q3
          generalize ((wr.alloc (.cells #[.int .i64 (pgA x), .int .i64 (pgB x)] 43)).alloc (.cells #[.int .i64 (pgA x), .int .i64 (pgB x)] 43)) = W2 at q1 q2 q3 HBW ⊢
          refine wp_region_noPanic ?_
          go_region_held3 (fun w' => w'.cell? ⟨w.heap.size, k, none⟩ = some (.int .i64 x) ∧ w'.cell? ⟨wr.heap.size + 1, 0, none⟩ = some (.int .i64 (pgA x)) ∧ w'.cell? ⟨wr.heap.size + 1, 1, none⟩ = some (.int .i64 (pgB x))) (((try dsimp only); repeat' (first | assumption | refine And.intro ?_ ?_ | refine cell_al _ ?_ | refine cell_dr ?_))) (first | (go_at_call 22; refine (C22 _).mono ?_; rintro e w4 ⟨rfl, rfl⟩))
          refine NoPanic.normal ?_
          have BW := ((HBW.out).alloc HBW.out.size (.cells #[.int .i64 (pgA x), .int .i64 (pgB x)] 43)).drew
          have q1 := cell_dr (cell_al (.cells #[.int .i64 (pgA x), .int .i64 (pgB x)] 43) q1)
          have q2 := cell_dr (cell_al (.cells #[.int .i64 (pgA x), .int .i64 (pgB x)] 43) q2)
          have q3 := cell_dr (cell_al (.cells #[.int .i64 (pgA x), .int .i64 (pgB x)] 43) q3)
          clear HBW
          have HBW := Lib.hid BW
          clear BW C22
          generalize (W2.alloc (.cells #[.int .i64 (pgA x), .int .i64 (pgB x)] 43)).drew = W3 at q1 q2 q3 HBW ⊢
          go_wp2_with fail
          refine (C19a _).mono ?_; rintro e w1 ⟨rfl, rfl⟩
          go_wp2_with fail
          refine (C19b _).mono ?_; rintro e w1 ⟨rfl, rfl⟩
          have hA := hA'.out
          have hd : decide ((0 : Int) < pgA x) = true := decide_eq_true (by omega)
          clear hA hA'
          go_wp2_with fail
          go_roundw
          case rel => exact ⟨k + 1, by omega, by go_num, HBW.out⟩
          case measure => simp [intOf]; omega
      · rw [hF] at C19 C20
        rw [hP] at C21b
        clear HR
        have hlp : decide ((0 : Int) < leafOf x) = true := decide_eq_true (by omega)
        rcases leaves_two x with ⟨hA, hB⟩ | ⟨hA, e1, e2, e3, e4⟩
        · have e1 : leafOf (pgA x) = 0 := by rw [hA]; decide
          have e2 : frontOf (pgA x) = false := by rw [hA]; decide
          have e3 : leafOf (pgB x) = 0 := by rw [hB]; decide
          have e4 : frontOf (pgB x) = false := by rw [hB]; decide
          clear hB
          rw [e1, e2] at C19a; rw [e3, e4] at C19b
          clear hF e1 e2 e3 e4
          clear hP
          have hA' := Lib.hid hA
          clear hA
          go_wp2_with fail
          refine (C19 _).mono ?_; rintro e w1 ⟨rfl, rfl⟩
          go_wp2_with fail
          refine (C20 _).mono ?_; rintro e w1 ⟨rfl, rfl⟩
          go_wp2_with fail
          refine (C21 _).mono ?_; rintro e w1 ⟨rfl, rfl⟩
          go_wp2_with fail
          clear C19 C20 C21
          have q1 := Q1.out; have q2 := Q2.out; have q3 := Q3.out
          clear Q1 Q2 Q3
          generalize ((wr.alloc (.cells #[.int .i64 (pgA x), .int .i64 (pgB x)] 43)).alloc (.cells #[.int .i64 (pgA x), .int .i64 (pgB x)] 43)) = W2 at q1 q2 q3 HBW ⊢
          refine wp_region_noPanic ?_
          go_region_held3 (fun w' => w'.cell? ⟨w.heap.size, k, none⟩ = some (.int .i64 x) ∧ w'.cell? ⟨wr.heap.size + 1, 0, none⟩ = some (.int .i64 (pgA x)) ∧ w'.cell? ⟨wr.heap.size + 1, 1, none⟩ = some (.int .i64 (pgB x))) (((try dsimp only); repeat' (first | assumption | refine And.intro ?_ ?_ | refine cell_al _ ?_ | refine cell_dr ?_))) (first | (go_at_call 22; refine (C22 _).mono ?_; rintro e w4 ⟨rfl, rfl⟩))
          refine NoPanic.normal ?_
          have BW := ((HBW.out).alloc HBW.out.size (.cells #[.int .i64 (pgA x), .int .i64 (pgB x)] 43)).drew
          have q1 := cell_dr (cell_al (.cells #[.int .i64 (pgA x), .int .i64 (pgB x)] 43) q1)
          have q2 := cell_dr (cell_al (.cells #[.int .i64 (pgA x), .int .i64 (pgB x)] 43) q2)
          have q3 := cell_dr (cell_al (.cells #[.int .i64 (pgA x), .int .i64 (pgB x)] 43) q3)
          clear HBW
          have HBW := Lib.hid BW
          clear BW C22
          generalize (W2.alloc (.cells #[.int .i64 (pgA x), .int .i64 (pgB x)] 43)).drew = W3 at q1 q2 q3 HBW ⊢
          go_wp2_with fail
          refine (C21b _).mono ?_; rintro e w1 ⟨rfl, rfl⟩
          go_wp2_with fail
          clear C21b
          have BW := ((HBW.out).alloc HBW.out.size (.cells #[.int .i64 x, .int .i64 (pgB (leafOf x))] 43)).alloc (by have := HBW.out.size; simp; omega) (.cells #[.int .i64 x, .int .i64 (pgB (leafOf x))] 43)
          have q1 := cell_al (.cells #[.int .i64 x, .int .i64 (pgB (leafOf x))] 43) (cell_al (.cells #[.int .i64 x, .int .i64 (pgB (leafOf x))] 43) q1)
          have q2 := cell_al (.cells #[.int .i64 x, .int .i64 (pgB (leafOf x))] 43) (cell_al (.cells #[.int .i64 x, .int .i64 (pgB (leafOf x))] 43) q2)
          have q3 := cell_al (.cells #[.int .i64 x, .int .i64 (pgB (leafOf x))] 43) (cell_al (.cells #[.int .i64 x, .int .i64 (pgB (leafOf x))] 43) q3)
          have r1 : ((W3.alloc (.cells #[.int .i64 x, .int .i64 (pgB (leafOf x))] 43)).alloc (.cells #[.int .i64 x, .int .i64 (pgB (leafOf x))] 43)).cell? ⟨W3.heap.size + 1, 0, none⟩ = some (.int .i64 x) := by simp [go_sem]
          have r2 : ((W3.alloc (.cells #[.int .i64 x, .int .i64 (pgB (leafOf x))] 43)).alloc (.cells #[.int .i64 x, .int .i64 (pgB (leafOf x))] 43)).cell? ⟨W3.heap.size + 1, 1, none⟩ = some (.int .i64 (pgB (leafOf x))) := by simp [go_sem]
          clear HBW
          have HBW := Lib.hid BW
          clear BW
          generalize ((W3.alloc (.cells #[.int .i64 x, .int .i64 (pgB (leafOf x))] 43)).alloc (.cells #[.int .i64 x, .int .i64 (pgB (leafOf x))] 43)) = W4 at q1 q2 q3 r1 r2 HBW ⊢
          go_quiet (fail)
          go_wp2_with fail
          refine (C19a _).mono ?_; rintro e w1 ⟨rfl, rfl⟩
          go_wp2_with fail
          refine (C19b _).mono ?_; rintro e w1 ⟨rfl, rfl⟩
          have hA := hA'.out
          have hd : decide ((0 : Int) < pgA x) = false := by simp [hA]
          clear hA hA'
          go_wp2_with fail
          go_roundw
          case rel => exact ⟨k + 1, by omega, by go_num, by first | exact HBW.out | exact HBW.out.drew | exact Below.dn HBW.out _⟩
          case measure => simp [intOf]; omega
        · rw [e1, e2] at C19a; rw [e3, e4] at C19b
          clear hF e1 e2 e3 e4
          clear hP
          have hA' := Lib.hid hA
          clear hA
          go_wp2_with fail
          refine (C19 _).mono ?_; rintro e w1 ⟨rfl, rfl⟩
          go_wp2_with fail
          refine (C20 _).mono ?_; rintro e w1 ⟨rfl, rfl⟩
          go_wp2_with fail
          refine (C21 _).mono ?_; rintro e w1 ⟨rfl, rfl⟩
          go_wp2_with fail
          clear C19 C20 C21
          have q1 := Q1.out; have q2 := Q2.out; have q3 := Q3.out
          clear Q1 Q2 Q3
          generalize ((wr.alloc (.cells #[.int .i64 (pgA x), .int .i64 (pgB x)] 43)).alloc (.cells #[.int .i64 (pgA x), .int .i64 (pgB x)] 43)) = W2 at q1 q2 q3 HBW ⊢
          refine wp_region_noPanic ?_
          go_region_held3 (fun w' => w'.cell? ⟨w.heap.size, k, none⟩ = some (.int .i64 x) ∧ w'.cell? ⟨wr.heap.size + 1, 0, none⟩ = some (.int .i64 (pgA x)) ∧ w'.cell? ⟨wr.heap.size + 1, 1, none⟩ = some (.int .i64 (pgB x))) (((try dsimp only); repeat' (first | assumption | refine And.intro ?_ ?_ | refine cell_al _ ?_ | refine cell_dr ?_))) (first | (go_at_call 22; refine (C22 _).mono ?_; rintro e w4 ⟨rfl, rfl⟩))
          refine NoPanic.normal ?_
          have BW := ((HBW.out).alloc HBW.out.size (.cells #[.int .i64 (pgA x), .int .i64 (pgB x)] 43)).drew
          have q1 := cell_dr (cell_al (.cells #[.int .i64 (pgA x), .int .i64 (pgB x)] 43) q1)
          have q2 := cell_dr (cell_al (.cells #[.int .i64 (pgA x), .int .i64 (pgB x)] 43) q2)
          have q3 := cell_dr (cell_al (.cells #[.int .i64 (pgA x), .int .i64 (pgB x)] 43) q3)
          clear HBW
          have HBW := Lib.hid BW
          clear BW C22
          generalize (W2.alloc (.cells #[.int .i64 (pgA x), .int .i64 (pgB x)] 43)).drew = W3 at q1 q2 q3 HBW ⊢
          go_wp2_with fail
          refine (C21b _).mono ?_; rintro e w1 ⟨rfl, rfl⟩
          go_wp2_with fail
          clear C21b
          have BW := ((HBW.out).alloc HBW.out.size (.cells #[.int .i64 x, .int .i64 (pgB (leafOf x))] 43)).alloc (by have := HBW.out.size; simp; omega) (.cells #[.int .i64 x, .int .i64 (pgB (leafOf x))] 43)
          have q1 := cell_al (.cells #[.int .i64 x, .int .i64 (pgB (leafOf x))] 43) (cell_al (.cells #[.int .i64 x, .int .i64 (pgB (leafOf x))] 43) q1)
          have q2 := cell_al (.cells #[.int .i64 x, .int .i64 (pgB (leafOf x))] 43) (cell_al (.cells #[.int .i64 x, .int .i64 (pgB (leafOf x))] 43) q2)
          have q3 := cell_al (.cells #[.int .i64 x, .int .i64 (pgB (leafOf x))] 43) (cell_al (.cells #[.int .i64 x, .int .i64 (pgB (leafOf x))] 43) q3)
          have r1 : ((W3.alloc (.cells #[.int .i64 x, .int .i64 (pgB (leafOf x))] 43)).alloc (.cells #[.int .i64 x, .int .i64 (pgB (leafOf x))] 43)).cell? ⟨W3.heap.size + 1, 0, none⟩ = some (.int .i64 x) := by simp [go_sem]
          have r2 : ((W3.alloc (.cells #[.int .i64 x, .int .i64 (pgB (leafOf x))] 43)).alloc (.cells #[.int .i64 x, .int .i64 (pgB (leafOf x))] 43)).cell? ⟨W3.heap.size + 1, 1, none⟩ = some (.int .i64 (pgB (leafOf x))) := by simp [go_sem]
          clear HBW
          have HBW := Lib.hid BW
          clear BW
          generalize ((W3.alloc (.cells #[.int .i64 x, .int .i64 (pgB (leafOf x))] 43)).alloc (.cells #[.int .i64 x, .int .i64 (pgB (leafOf x))] 43)) = W4 at q1 q2 q3 r1 r2 HBW ⊢
          go_quiet (fail)
          go_wp2_with fail
          refine (C19a _).mono ?_; rintro e w1 ⟨rfl, rfl⟩
          go_wp2_with fail
          refine (C19b _).mono ?_; rintro e w1 ⟨rfl, rfl⟩
          have hA := hA'.out
          have hd : decide ((0 : Int) < pgA x) = true := decide_eq_true (by omega)
          clear hA hA'
          go_wp2_with fail
          go_roundw
          case rel => exact ⟨k + 1, by omega, by go_num, by first | exact HBW.out | exact HBW.out.drew | exact Below.dn HBW.out _⟩
          case measure => simp [intOf]; omega
      · rw [hF] at C19 C20
        rw [hP] at C21b
        clear HR
        have hlp : decide ((0 : Int) < leafOf x) = true := decide_eq_true (by omega)
        rcases leaves_two x with ⟨hA, hB⟩ | ⟨hA, e1, e2, e3, e4⟩
        · have e1 : leafOf (pgA x) = 0 := by rw [hA]; decide
          have e2 : frontOf (pgA x) = false := by rw [hA]; decide
          have e3 : leafOf (pgB x) = 0 := by rw [hB]; decide
          have e4 : frontOf (pgB x) = false := by rw [hB]; decide
          clear hB
          rw [e1, e2] at C19a; rw [e3, e4] at C19b
          clear hF e1 e2 e3 e4
          clear hP
          have hA' := Lib.hid hA
          clear hA
          go_wp2_with fail
          refine (C19 _).mono ?_; rintro e w1 ⟨rfl, rfl⟩
          go_wp2_with fail
          refine (C20 _).mono ?_; rintro e w1 ⟨rfl, rfl⟩
          go_wp2_with fail
          refine (C21 _).mono ?_; rintro e w1 ⟨rfl, rfl⟩
          go_wp2_with fail
          clear C19 C20 C21
          have q1 := Q1.out; have q2 := Q2.out; have q3 := Q3.out
          clear Q1 Q2 Q3
          generalize ((wr.alloc (.cells #[.int .i64 (pgA x), .int .i64 (pgB x)] 43)).alloc (.cells #[.int .i64 (pgA x), .int .i64 (pgB x)] 43)) = W2 at q1 q2 q3 HBW ⊢
          refine wp_region_noPanic ?_
          go_region_held3 (fun w' => w'.cell? ⟨w.heap.size, k, none⟩ = some (.int .i64 x) ∧ w'.cell? ⟨wr.heap.size + 1, 0, none⟩ = some (.int .i64 (pgA x)) ∧ w'.cell? ⟨wr.heap.size + 1, 1, none⟩ = some (.int .i64 (pgB x))) (((try dsimp only); repeat' (first | assumption | refine And.intro ?_ ?_ | refine cell_al _ ?_ | refine cell_dr ?_))) (first | (go_at_call 22; refine (C22 _).mono ?_; rintro e w4 ⟨rfl, rfl⟩))
          refine NoPanic.normal ?_
          have BW := ((HBW.out).alloc HBW.out.size (.cells #[.int .i64 (pgA x), .int .i64 (pgB x)] 43)).drew
          have q1 := cell_dr (cell_al (.cells #[.int .i64 (pgA x), .int .i64 (pgB x)] 43) q1)
          have q2 := cell_dr (cell_al (.cells #[.int .i64 (pgA x), .int .i64 (pgB x)] 43) q2)
          have q3 := cell_dr (cell_al (.cells #[.int .i64 (pgA x), .int .i64 (pgB x)] 43) q3)
          clear HBW
          have HBW := Lib.hid BW
          clear BW C22
          generalize (W2.alloc (.cells #[.int .i64 (pgA x), .int .i64 (pgB x)] 43)).drew = W3 at q1 q2 q3 HBW ⊢
          go_wp2_with fail
          refine (C21b _).mono ?_; rintro e w1 ⟨rfl, rfl⟩
          go_wp2_with fail
          clear C21b
          have BW := ((HBW.out).alloc HBW.out.size (.cells #[.int .i64 (pgA (leafOf x)), .int .i64 x] 43)).alloc (by have := HBW.out.size; simp; omega) (.cells #[.int .i64 (pgA (leafOf x)), .int .i64 x] 43)
          have q1 := cell_al (.cells #[.int .i64 (pgA (leafOf x)), .int .i64 x] 43) (cell_al (.cells #[.int .i64 (pgA (leafOf x)), .int .i64 x] 43) q1)
          have q2 := cell_al (.cells #[.int .i64 (pgA (leafOf x)), .int .i64 x] 43) (cell_al (.cells #[.int .i64 (pgA (leafOf x)), .int .i64 x] 43) q2)
          have q3 := cell_al (.cells #[.int .i64 (pgA (leafOf x)), .int .i64 x] 43) (cell_al (.cells #[.int .i64 (pgA (leafOf x)), .int .i64 x] 43) q3)
          have r1 : ((W3.alloc (.cells #[.int .i64 (pgA (leafOf x)), .int .i64 x] 43)).alloc (.cells #[.int .i64 (pgA (leafOf x)), .int .i64 x] 43)).cell? ⟨W3.heap.size + 1, 0, none⟩ = some (.int .i64 (pgA (leafOf x))) := by simp [go_sem]
          have r2 : ((W3.alloc (.cells #[.int .i64 (pgA (leafOf x)), .int .i64 x] 43)).alloc (.cells #[.int .i64 (pgA (leafOf x)), .int .i64 x] 43)).cell? ⟨W3.heap.size + 1, 1, none⟩ = some (.int .i64 x) := by simp [go_sem]
          clear HBW
          have HBW := Lib.hid BW
          clear BW
          generalize ((W3.alloc (.cells #[.int .i64 (pgA (leafOf x)), .int .i64 x] 43)).alloc (.cells #[.int .i64 (pgA (leafOf x)), .int .i64 x] 43)) = W4 at q1 q2 q3 r1 r2 HBW ⊢
          go_quiet (fail)
          go_wp2_with fail
          refine (C19a _).mono ?_; rintro e w1 ⟨rfl, rfl⟩
          go_wp2_with fail
          refine (C19b _).mono ?_; rintro e w1 ⟨rfl, rfl⟩
          have hA := hA'.out
          have hd : decide ((0 : Int) < pgA x) = false := by simp [hA]
          clear hA hA'
          go_wp2_with fail
          go_roundw
          case rel => exact ⟨k + 1, by omega, by go_num, by first | exact HBW.out | exact HBW.out.drew | exact Below.dn HBW.out _⟩
          case measure => simp [intOf]; omega
        · rw [e1, e2] at C19a; rw [e3, e4] at C19b
          clear hF e1 e2 e3 e4
          clear hP
          have hA' := Lib.hid hA
          clear hA
          go_wp2_with fail
          refine (C19 _).mono ?_; rintro e w1 ⟨rfl, rfl⟩
          go_wp2_with fail
          refine (C20 _).mono ?_; rintro e w1 ⟨rfl, rfl⟩
          go_wp2_with fail
          refine (C21 _).mono ?_; rintro e w1 ⟨rfl, rfl⟩
          go_wp2_with fail
          clear C19 C20 C21
          have q1 := Q1.out; have q2 := Q2.out; have q3 := Q3.out
          clear Q1 Q2 Q3
          generalize ((wr.alloc (.cells #[.int .i64 (pgA x), .int .i64 (pgB x)] 43)).alloc (.cells #[.int .i64 (pgA x), .int .i64 (pgB x)] 43)) = W2 at q1 q2 q3 HBW ⊢
          refine wp_region_noPanic ?_
          go_region_held3 (fun w' => w'.cell? ⟨w.heap.size, k, none⟩ = some (.int .i64 x) ∧ w'.cell? ⟨wr.heap.size + 1, 0, none⟩ = some (.int .i64 (pgA x)) ∧ w'.cell? ⟨wr.heap.size + 1, 1, none⟩ = some (.int .i64 (pgB x))) (((try dsimp only); repeat' (first | assumption | refine And.intro ?_ ?_ | refine cell_al _ ?_ | refine cell_dr ?_))) (first | (go_at_call 22; refine (C22 _).mono ?_; rintro e w4 ⟨rfl, rfl⟩))
          refine NoPanic.normal ?_
          have BW := ((HBW.out).alloc HBW.out.size (.cells #[.int .i64 (pgA x), .int .i64 (pgB x)] 43)).drew
          have q1 := cell_dr (cell_al (.cells #[.int .i64 (pgA x), .int .i64 (pgB x)] 43) q1)
          have q2 := cell_dr (cell_al (.cells #[.int .i64 (pgA x), .int .i64 (pgB x)] 43) q2)
          have q3 := cell_dr (cell_al (.cells #[.int .i64 (pgA x), .int .i64 (pgB x)] 43) q3)
          clear HBW
          have HBW := Lib.hid BW
          clear BW C22
          generalize (W2.alloc (.cells #[.int .i64 (pgA x), .int .i64 (pgB x)] 43)).drew = W3 at q1 q2 q3 HBW ⊢
          go_wp2_with fail
          refine (C21b _).mono ?_; rintro e w1 ⟨rfl, rfl⟩
          go_wp2_with fail
          clear C21b
          have BW := ((HBW.out).alloc HBW.out.size (.cells #[.int .i64 (pgA (leafOf x)), .int .i64 x] 43)).alloc (by have := HBW.out.size; simp; omega) (.cells #[.int .i64 (pgA (leafOf x)), .int .i64 x] 43)
          have q1 := cell_al (.cells #[.int .i64 (pgA (leafOf x)), .int .i64 x] 43) (cell_al (.cells #[.int .i64 (pgA (leafOf x)), .int .i64 x] 43) q1)
          have q2 := cell_al (.cells #[.int .i64 (pgA (leafOf x)), .int .i64 x] 43) (cell_al (.cells #[.int .i64 (pgA (leafOf x)), .int .i64 x] 43) q2)
          have q3 := cell_al (.cells #[.int .i64 (pgA (leafOf x)), .int .i64 x] 43) (cell_al (.cells #[.int .i64 (pgA (leafOf x)), .int .i64 x] 43) q3)
          have r1 : ((W3.alloc (.cells #[.int .i64 (pgA (leafOf x)), .int .i64 x] 43)).alloc (.cells #[.int .i64 (pgA (leafOf x)), .int .i64 x] 43)).cell? ⟨W3.heap.size + 1, 0, none⟩ = some (.int .i64 (pgA (leafOf x))) := by simp [go_sem]
          have r2 : ((W3.alloc (.cells #[.int .i64 (pgA (leafOf x)), .int .i64 x] 43)).alloc (.cells #[.int .i64 (pgA (leafOf x)), .int .i64 x] 43)).cell? ⟨W3.heap.size + 1, 1, none⟩ = some (.int .i64 x) := by simp [go_sem]
          clear HBW
          have HBW := Lib.hid BW
          clear BW
          generalize ((W3.alloc (.cells #[.int .i64 (pgA (leafOf x)), .int .i64 x] 43)).alloc (.cells #[.int .i64 (pgA (leafOf x)), .int .i64 x] 43)) = W4 at q1 q2 q3 r1 r2 HBW ⊢
          go_quiet (fail)
          go_wp2_with fail
          refine (C19a _).mono ?_; rintro e w1 ⟨rfl, rfl⟩
          go_wp2_with fail
          refine (C19b _).mono ?_; rintro e w1 ⟨rfl, rfl⟩
          have hA := hA'.out
          have hd : decide ((0 : Int) < pgA x) = true := decide_eq_true (by omega)
          clear hA hA'
          go_wp2_with fail
          go_roundw
          case rel => exact ⟨k + 1, by omega, by go_num, by first | exact HBW.out | exact HBW.out.drew | exact Below.dn HBW.out _⟩
          case measure => simp [intOf]; omega
    · go_wp2_with fail
      refine (LV _).mono ?_
      rintro e w3 ⟨rfl, b3⟩
      have BB := B0.trans (hb.mono B0.size)
      have BB := BB.trans (b3.mono BB.size)
      go_wp2_with fail
      go_ret
      exact ⟨rfl, BB⟩
end Go.Proofs.Ythldekpbjfhmcaa
