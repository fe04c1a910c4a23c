/- Take (32): the first of a list of numbers. -/
import Derived.Test.YtmkkegigajmhkaaN33
import Derived.Lib.MinMax
set_option linter.unusedVariables false
namespace Go.Proofs.Ytmkkegigajmhkaa
open Go.RowKit Go.Maps

set_option maxRecDepth 100000 in
set_option maxHeartbeats 4000000 in
theorem take_any (v : Value) (xs : List Int) (n : Nat) (hn : n ≤ 1000) (w : World) (h : RdI w v xs) : Calls Try.prog 32 #[v, .int .i64 (n : Int)] w fun e w' => OwnI w.heap.size w' e (xs.take n) ∧ Below w.heap.size w w' := by
  obtain ⟨a, c, e0, h3, h4, _⟩ := id h
  subst e0
  rw [ints_len] at h3 h ⊢
  obtain ⟨m, hm, hm1, hm2, hm3⟩ : ∃ m : Nat, min (xs.length : Int) (n : Int) = m ∧ m ≤ xs.length ∧ m ≤ n ∧ xs.take n = xs.take m := by
    refine ⟨min xs.length n, by omega, by omega, by omega, ?_⟩
    rw [List.take_eq_take_min]; congr 1; omega
  have HT := Lib.hid (h.take hm1)
  have hmc : m ≤ c := by omega
  have HE := Lib.hid hm3
  have hlt : (xs.take m).length = m := by rw [List.length_take]; omega
  have HL := Lib.hid hlt
  clear h h3 hm3 hlt
  go_enter Try.func32, Try.ntmps32
  go_wp2_with (at_builtin; refine wpList_appI (base := w.heap.size) rfl _ _ rfl (.slice none 0 0) [] rfl (World.ownsRow_nil _ _ _ _) (.slice a m c) (xs.take m) rfl HT.out (by rw [HL.out]; simp; omega) (Nat.le_refl _) ?_; intro v4 w4 happ)
  obtain ⟨a4, k4, rfl⟩ := happ.form
  go_wp2_with fail
  go_ret
  rw [HE.out]
  exact ⟨⟨_, rfl, happ.1⟩, happ.below (Below.refl _ _) (World.ownsRow_nil _ _ _ _) (Nat.le_refl _) (Nat.le_refl _)⟩
end Go.Proofs.Ytmkkegigajmhkaa

