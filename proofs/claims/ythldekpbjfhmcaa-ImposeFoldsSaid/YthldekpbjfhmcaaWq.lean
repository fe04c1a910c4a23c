import Derived.Test.YthldekpbjfhmcaaWo
import Derived.Maps.OwnIn
import Derived.Deep.CutRange
import Derived.Deep.CutBlock
namespace Go.Proofs.Ythldekpbjfhmcaa
open Go.RowKit Go.Shelf Go.Maps
attribute [local go_sem] Oper.semAt_some

theorem law3 : Keyed Try.prog 3 := int_keyed Try.underlying3
theorem zero4 (w : World) : (zeroValue 4).run Try.prog w = .ok (.bool false) w := by kernel_rfl
theorem key3 {a : Int} (h : -9223372036854775808 ≤ a ∧ a ≤ 9223372036854775807) : keyOf Try.prog 3 (.int .i64 a) = some (.int .i64 a) := keyOf_int_mk Try.underlying3 (WalkArith.wf_i64 h)

/-- a set of numbers in a map[int]bool: which numbers it answers true for -/
def OwnM (w : World) (b n : Nat) (S : Int → Bool) : Prop :=
  ∃ D : DataW Unit, w.ownsMap Try.prog 3 (plainElem Try.prog 4) b n D ∧ IsMap D ∧ ∀ a, D.atKey (.int .i64 a) (.lit (.bool false)) = .lit (.bool (S a))

theorem OwnM.made (w : World) : OwnM (w.alloc (.map #[] 0)) w.heap.size 0 (fun _ => false) :=
  ⟨.map [], World.ownsMap_made _ _ _ _, isMap_empty, fun _ => rfl⟩
theorem OwnM.kept {w w' : World} {row : Option Nat} {b n : Nat} {S : Int → Bool} (h : OwnM w b n S) (hg : w.grownBy w' row) (hne : some b ≠ row) : OwnM w' b n S := by
  obtain ⟨D, h1, h2, h3⟩ := h
  exact ⟨D, h1.kept hg hne, h2, h3⟩
theorem OwnM.lt {w : World} {b n : Nat} {S : Int → Bool} (h : OwnM w b n S) : b < w.heap.size := by obtain ⟨D, h1, _⟩ := h; exact h1.lt

theorem OwnM.look {w : World} {b n : Nat} {S : Int → Bool} (h : OwnM w b n S) {a : Int} (ha : -9223372036854775808 ≤ a ∧ a ≤ 9223372036854775807) :
    (Instr.lookup 80 (.map (some b)) (.int .i64 a) false).run Try.prog w = .ok (.bool (S a)) w := by
  obtain ⟨D, h1, h2, h3⟩ := h
  obtain ⟨v, ps, hrun, hv⟩ := h1.lookup law3 Try.underlying80 (zero4 w) (plainElem_bool Try.underlying4 false) (key3 ha)
  rw [hrun]
  rw [h3 a] at hv
  unfold plainElem at hv
  rw [Try.underlying4] at hv
  cases v <;> simp at hv
  rw [hv.1]

theorem OwnM.put {w : World} {b n : Nat} {D : DataW Unit} {S : Int → Bool} {a : Int} (h1 : w.ownsMap Try.prog 3 (plainElem Try.prog 4) b n (D.put (.int .i64 a) (.lit (.bool true)))) (h2 : IsMap D) (h3 : ∀ a, D.atKey (.int .i64 a) (.lit (.bool false)) = .lit (.bool (S a))) :
    OwnM w b n (fun y => y == a || S y) := by
  refine ⟨_, h1, h2.put _ _, fun y => ?_⟩
  by_cases hy : y = a
  · subst hy; rw [atKey_put_same h2 (show WideAt.IsKeyLit (.int .i64 y) from trivial)]; simp
  · rw [atKey_put_other (by simpa using hy), h3 y]; simp [hy]

theorem OwnM.del {w : World} {b n : Nat} {D : DataW Unit} {S : Int → Bool} {a : Int} (h1 : w.ownsMap Try.prog 3 (plainElem Try.prog 4) b n (D.del (.int .i64 a))) (h2 : IsMap D) (h3 : ∀ a, D.atKey (.int .i64 a) (.lit (.bool false)) = .lit (.bool (S a))) :
    OwnM w b n (fun y => !(y == a) && S y) := by
  refine ⟨_, h1, h2.del _, fun y => ?_⟩
  by_cases hy : y = a
  · subst hy; rw [atKey_del_same]; simp
  · rw [atKey_del_other (by simpa using hy), h3 y]; simp [hy]

theorem wpM_store {ops : Array Oper} {rest : List Oper} {o : Oper} {a : Act} {Q : Exit → Act → World → Prop} (w : World)
    (hg : o.guard = none) (m x v : Operand) (hop : o.op = Op.mapUpdate 80 m x v) (b n : Nat) (S : Int → Bool)
    (hm : a.eval m = .map (some b)) (hown : OwnM w b n S) (hn : n < maxLen) (k : Int) (hx : a.eval x = .int .i64 k) (hv : a.eval v = .bool true) (hk : -9223372036854775808 ≤ k ∧ k ≤ 9223372036854775807)
    (hK : ∀ w', OwnM w' b (n + 1) (fun y => y == k || S y) → w.grownBy w' (some b) → wpList Try.prog ops Q rest (a.put o.dst undef) w') :
    wpList Try.prog ops Q (o :: rest) a w := by
  obtain ⟨D, h1, h2, h3⟩ := hown
  exact wpList_mapUpdate_own w hg m x v 80 hop 3 4 law3 Try.underlying80 _ b n D hm h1 hn _ _ _ hx hv (key3 hk) _ [] (plainElem_bool Try.underlying4 true) (fun w' h hg' => hK w' (OwnM.put h h2 h3) hg')

theorem wpMIn_del {F : Fence} {nF : Nat} {ops : Array Oper} {rest : List Oper} {o : Oper} {a : Act} {Q : Exit → Act → World → Prop} (w : World)
    (hg : o.guard = none) (m x : Operand) (hop : o.op = Op.call { callee := Callee.builtin Builtin.delete, args := #[m, x], argTypes := #[80, 3] }) (b n : Nat) (S : Int → Bool)
    (hm : a.eval m = .map (some b)) (hown : OwnM w b n S) (k : Int) (hx : a.eval x = .int .i64 k) (hk : -9223372036854775808 ≤ k ∧ k ≤ 9223372036854775807)
    (hK : ∀ w', OwnM w' b n (fun y => !(y == k) && S y) → w.grownBy w' (some b) → wpListIn F nF Try.prog ops Q rest (a.put o.dst (.tuple #[])) w') :
    wpListIn F nF Try.prog ops Q (o :: rest) a w := by
  obtain ⟨D, h1, h2, h3⟩ := hown
  exact wpListIn_delete_own w hg m x 80 3 hop 4 law3 Try.underlying80 _ b n D hm h1 _ _ hx (key3 hk) (fun w' h ht => hK w' (OwnM.del h h2 h3) ht.grown)
end Go.Proofs.Ythldekpbjfhmcaa
