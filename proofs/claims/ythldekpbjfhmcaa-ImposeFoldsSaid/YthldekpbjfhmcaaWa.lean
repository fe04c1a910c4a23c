import Derived.Test.YthldekpbjfhmcaaProg
import Derived.WalkKit
import Derived.WalkSpells
import Derived.WalkLawsBesides
import Derived.Handy
import Derived.Deep.QuietTactic
import Derived.BigQuiet
import Derived.Lib.Hide
namespace Go.Proofs.Ythldekpbjfhmcaa
open Go.RowKit

theorem ret_int {k : IntKind} {a b : Int} (h : a = b) : Ending.returned (.int k a) = .returned (.int k b) := by rw [h]
theorem ret_bool {a b : Bool} (h : a = b) : Ending.returned (.bool a) = .returned (.bool b) := by rw [h]

def around (n m : Int) : Int := (if n < 0 then -(n + 1) else n) % m

theorem around_bd (n m : Int) (hm : 0 < m) : 0 ≤ around n m ∧ around n m < m := by
  unfold around; exact ⟨Int.emod_nonneg _ (by omega), Int.emod_lt_of_pos _ hm⟩

set_option maxHeartbeats 400000 in
theorem around_any (n m : Int) (w : World) (hn : -9223372036854775808 ≤ n) (hn' : n ≤ 9223372036854775807) (hm : 0 < m) (hm' : m ≤ 1000000000) :
    Calls Try.prog 18 #[.int .i64 n, .int .i64 m] w fun e w' => e = .returned (.int .i64 (around n m)) ∧ w = w' := by
  by_cases h : n < 0
  · have hx : around n m = -((n + 1).tmod m) := by unfold around; rw [if_pos h, ← Int.neg_tmod, Int.tmod_eq_emod_of_nonneg (by omega)]
    have HX := Lib.hid hx; clear hx
    go_enter Try.func18, Try.ntmps18
    go_wp2
    go_ret
    exact ⟨ret_int (by rw [HX.out]), rfl⟩
  · have hx : around n m = n % m := by unfold around; rw [if_neg h]
    have HX := Lib.hid hx; clear hx
    go_enter Try.func18, Try.ntmps18
    go_wp2
    go_ret
    exact ⟨ret_int (by rw [HX.out]), rfl⟩

/-- the error of a volume -/
def errOf (p k : Int) : Int := if p < 0 ∨ k < 2 ∨ 16 < k ∨ ¬ k % 2 = 0 then 1 else if 999 < p then 4 else 0

theorem errOf_cases (p k : Int) : (p < 0 ∧ errOf p k = 1) ∨ (0 ≤ p ∧ k < 2 ∧ errOf p k = 1) ∨ (0 ≤ p ∧ 2 ≤ k ∧ 16 < k ∧ errOf p k = 1) ∨ (0 ≤ p ∧ 2 ≤ k ∧ k ≤ 16 ∧ k % 2 = 1 ∧ errOf p k = 1) ∨
   (999 < p ∧ 2 ≤ k ∧ k ≤ 16 ∧ k % 2 = 0 ∧ errOf p k = 4) ∨ (0 ≤ p ∧ p ≤ 999 ∧ 2 ≤ k ∧ k ≤ 16 ∧ k % 2 = 0 ∧ errOf p k = 0) := by
  unfold errOf
  split
  · omega
  · split <;> omega

set_option maxHeartbeats 400000 in
theorem valid_any (p k : Int) (w : World) (hp : -9223372036854775808 ≤ p) (hp' : p ≤ 9223372036854775807) (hk : -9223372036854775808 ≤ k) (hk' : k ≤ 9223372036854775807) :
    Calls Try.prog 37 #[.agg #[.int .i64 p, .int .i64 k]] w fun e w' => e = .returned (.int .i64 (errOf p k)) ∧ Below w.heap.size w w' := by
  rcases errOf_cases p k with ⟨h1, h⟩ | ⟨h1, h2, h⟩ | ⟨h1, h2, h3, h⟩ | ⟨h1, h2, h3, h4, h⟩ | ⟨h1, h2, h3, h4, h⟩ | ⟨h1, h1', h2, h3, h4, h⟩ <;> have H := Lib.hid h <;> clear h
  all_goals
    go_enter Try.func37, Try.ntmps37
    go_wp2
    go_ret
    exact ⟨ret_int (by rw [H.out]), by go_grown⟩

set_option maxHeartbeats 400000 in
theorem error_any (p k : Int) (w : World) (hp : -9223372036854775808 ≤ p) (hp' : p ≤ 9223372036854775807) (hk : -9223372036854775808 ≤ k) (hk' : k ≤ 9223372036854775807) :
    Calls Try.prog 42 #[.int .i64 p, .int .i64 k] w fun e w' => e = .returned (.int .i64 (errOf p k)) ∧ w = w' := by
  rcases errOf_cases p k with ⟨h1, h⟩ | ⟨h1, h2, h⟩ | ⟨h1, h2, h3, h⟩ | ⟨h1, h2, h3, h4, h⟩ | ⟨h1, h2, h3, h4, h⟩ | ⟨h1, h1', h2, h3, h4, h⟩ <;> have H := Lib.hid h <;> clear h
  all_goals
    go_enter Try.func42, Try.ntmps42
    go_wp2
    all_goals
      go_ret
      exact ⟨ret_int (by rw [H.out]), rfl⟩

end Go.Proofs.Ythldekpbjfhmcaa
