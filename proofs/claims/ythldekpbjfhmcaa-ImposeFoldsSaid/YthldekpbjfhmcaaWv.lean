import Derived.Test.YthldekpbjfhmcaaWh
import Derived.Deep.RegionHeld3
namespace Go.Proofs.Ythldekpbjfhmcaa
open Go.RowKit

def nextB (a b : Int) : Bool := a == 0 || b == 0 || a + 1 == b || b + 1 == a

set_option maxHeartbeats 400000 in
theorem next_any (a b : Int) (w : World) (ha : 0 ≤ a) (ha' : a ≤ 1000) (hb : 0 ≤ b) (hb' : b ≤ 1000) :
    Calls Try.prog 29 #[.int .i64 a, .int .i64 b] w fun e w' => e = .returned (.bool (nextB a b)) ∧ w = w' := by
  have hx : nextB a b = (((decide (a = 0) || decide (b = 0)) || decide (a + 1 = b)) || decide (b + 1 = a)) := by
    unfold nextB; rw [Bool.eq_iff_iff]; simp
  have HX := Lib.hid hx; clear hx
  by_cases h1 : a = 0
  · have HX := Lib.hid (show nextB a b = true by rw [HX.out]; simp [h1])
    go_enter Try.func29, Try.ntmps29
    go_wp2
    go_ret
    exact ⟨ret_bool HX.out.symm, rfl⟩
  by_cases h2 : b = 0
  · have HX := Lib.hid (show nextB a b = true by rw [HX.out]; simp [h2])
    go_enter Try.func29, Try.ntmps29
    go_wp2
    go_ret
    exact ⟨ret_bool HX.out.symm, rfl⟩
  by_cases h3 : a + 1 = b
  · have HX := Lib.hid (show nextB a b = true by rw [HX.out]; simp [h3])
    go_enter Try.func29, Try.ntmps29
    go_wp2
    go_ret
    exact ⟨ret_bool HX.out.symm, rfl⟩
  by_cases h4 : b + 1 = a
  · have HX := Lib.hid (show nextB a b = true by rw [HX.out]; simp [h4])
    go_enter Try.func29, Try.ntmps29
    go_wp2
    go_ret
    exact ⟨ret_bool HX.out.symm, rfl⟩
  have HX := Lib.hid (show nextB a b = false by rw [HX.out]; simp [h1, h2, h3, h4])
  go_enter Try.func29, Try.ntmps29
  go_wp2
  go_ret
  exact ⟨ret_bool rfl, rfl⟩

theorem vol_lits (j : Nat) (h : j < 14) : ∃ k : Int, -2 ≤ k ∧ k ≤ 18 ∧ ∀ h' : j < [Value.int IntKind.i64 2, Value.int IntKind.i64 4, Value.int IntKind.i64 8, Value.int IntKind.i64 16, Value.int IntKind.i64 6, Value.int IntKind.i64 12, Value.int IntKind.i64 4, Value.int IntKind.i64 2, Value.int IntKind.i64 8, Value.int IntKind.i64 10, Value.int IntKind.i64 0, Value.int IntKind.i64 3, Value.int IntKind.i64 18, Value.int IntKind.i64 (-2)].length, [Value.int IntKind.i64 2, Value.int IntKind.i64 4, Value.int IntKind.i64 8, Value.int IntKind.i64 16, Value.int IntKind.i64 6, Value.int IntKind.i64 12, Value.int IntKind.i64 4, Value.int IntKind.i64 2, Value.int IntKind.i64 8, Value.int IntKind.i64 10, Value.int IntKind.i64 0, Value.int IntKind.i64 3, Value.int IntKind.i64 18, Value.int IntKind.i64 (-2)][j] = .int .i64 k := by
  obtain rfl | rfl | rfl | rfl | rfl | rfl | rfl | rfl | rfl | rfl | rfl | rfl | rfl | rfl : j = 0 ∨ j = 1 ∨ j = 2 ∨ j = 3 ∨ j = 4 ∨ j = 5 ∨ j = 6 ∨ j = 7 ∨ j = 8 ∨ j = 9 ∨ j = 10 ∨ j = 11 ∨ j = 12 ∨ j = 13 := by omega
  all_goals exact ⟨_, by decide, by decide, fun _ => rfl⟩

set_option maxRecDepth 100000 in
set_option maxHeartbeats 2000000 in
theorem volume_any (n m : Int) (w : World) (hn : -9223372036854775808 ≤ n) (hn' : n ≤ 9223372036854775807) (hm : -9223372036854775808 ≤ m) (hm' : m ≤ 9223372036854775807) :
    Calls Try.prog 9 #[.int .i64 n, .int .i64 m] w fun e w' => (∃ p k, e = .returned (.tuple #[.int .i64 p, .int .i64 k]) ∧ -1 ≤ p ∧ p ≤ 1000 ∧ -2 ≤ k ∧ k ≤ 18) ∧ Below w.heap.size w w' := by
  obtain ⟨a1, a2⟩ := around_bd n 140 (by omega)
  obtain ⟨c1, c2⟩ := around_bd m 14 (by omega)
  obtain ⟨kv, kv1, kv2, hkv⟩ := vol_lits (around m 14).toNat (by omega)
  have HK := Lib.hid hkv; clear hkv
  by_cases h : around n 140 ≤ 135
  · go_enter Try.func9, Try.ntmps9
    go_wp2_with (first | (go_at_call 18; refine (around_any n 140 _ hn hn' (by omega) (by omega)).mono ?_; rintro e w1 ⟨rfl, rfl⟩))
    go_region_with (first | (go_at_call 18; refine (around_any m 14 _ hm hm' (by omega) (by omega)).mono ?_; rintro e w4 ⟨rfl, rfl⟩))
    all_goals
      rw [HK.out]
      go_wp2
      go_ret2
      exact ⟨⟨_, _, rfl, by omega, by omega, by omega, by omega⟩, by go_grown⟩
  · obtain hj | hj | hj | hj : around n 140 = 136 ∨ around n 140 = 137 ∨ around n 140 = 138 ∨ around n 140 = 139 := by omega
    all_goals
      go_enter Try.func9, Try.ntmps9
      go_wp2_with (first | (go_at_call 18; refine (around_any n 140 _ hn hn' (by omega) (by omega)).mono ?_; rintro e w1 ⟨rfl, rfl⟩; rw [hj]))
      go_region_with (first | (go_at_call 18; refine (around_any m 14 _ hm hm' (by omega) (by omega)).mono ?_; rintro e w4 ⟨rfl, rfl⟩))
      all_goals
        rw [HK.out]
        go_wp2
        go_ret2
        exact ⟨⟨_, _, rfl, by omega, by omega, by omega, by omega⟩, by go_grown⟩
end Go.Proofs.Ythldekpbjfhmcaa
