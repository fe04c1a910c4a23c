/- A slice of integers that came in reads as a list of integers, each of which fits its kind. -/
import Derived.Test.YthldekpbjfhmcaaWd
import Derived.WalkKit
import Derived.ProofKit
import Derived.OpenShut
namespace Go.Proofs.Ythldekpbjfhmcaa
open Go.ChangeShapes Go.WideShapes Go.ChangeAt Go.RowKit

theorem slice_place {P : Program} {W : World} {r : Reach} {base : Nat} {t e : TypeId} {x : Addr} {len cap : Nat} (ht : P.underlying t = some (.slice e)) (hv : Value.okWide P W r base t (.slice (some x) len cap)) : x.block < W.heap.size ∧ x.spot = none := by
  simp only [Value.okWide, ht, Cell.okWide, Cell.ok] at hv
  obtain ⟨_, _, _, hs, row, cells, hsh, _⟩ := hv
  refine ⟨?_, hs⟩
  unfold World.shape? at hsh
  rcases Nat.lt_or_ge x.block W.heap.size with h | h
  · exact h
  · rw [Array.getElem?_eq_none h] at hsh; cases hsh

theorem addr_add (b off i : Nat) : (⟨b, off, none⟩ : Addr).add i = ⟨b, off + i, none⟩ := by
  unfold Addr.add
  split
  · next h => subst h; rfl
  · rfl

theorem rd_ints {H : Type} {enc : TypeId × Value → H} {P : Program} {W : World} {base : Nat} {t e : TypeId} {v : Value} {d : DataW H} {p : List MemPlace} (ht : P.underlying t = some (.slice e)) (he : P.underlying e = some (.int .i64)) (hc : P.cellsOf e = 1)
    (hv : Value.okWide P W .any base t v) (h : DataW.Trod enc P W 0 (fun _ => true) true t v d p) : ∃ xs : List Int, RdI W v xs ∧ ∀ x, x ∈ xs → -9223372036854775808 ≤ x ∧ x ≤ 9223372036854775807 := by
  obtain ⟨a, len, cap, rfl⟩ := okWide_slice ht hv
  obtain ⟨fuel, hf⟩ := h
  rcases open_ints ht he hc hf with ⟨hcs, _⟩ | ⟨x, l, c, zs, hcs, _, hl, hm, hz, _, hcell, hwz⟩
  · simp [Value.cells] at hcs
    obtain ⟨rfl, rfl, rfl⟩ := hcs
    exact ⟨[], ⟨rfl, none, 0, rfl, Nat.le_refl _, by omega, .inl ⟨rfl, rfl⟩⟩, fun x hx => by cases hx⟩
  · simp [Value.cells] at hcs
    obtain ⟨rfl, rfl, rfl⟩ := hcs
    obtain ⟨hb, hs⟩ := slice_place ht hv
    obtain ⟨xb, xo, xs⟩ := x
    simp only at hs hb
    subst hs
    have hzl : zs.length = cap := by simpa using hz
    refine ⟨zs.take len, ⟨by simp [ints], _, cap, by rw [List.length_take, hzl, Nat.min_eq_left hl], by rw [List.length_take]; omega, by unfold maxLen at hm; omega, .inr ⟨xb, xo, rfl, hb, fun j u hu => ?_⟩⟩, fun x hx => bounds_i64 (hwz x (List.mem_of_mem_take hx))⟩
    unfold ints at hu
    rw [List.getElem?_map] at hu
    obtain ⟨y, hy, rfl⟩ := Option.map_eq_some_iff.1 hu
    rw [List.getElem?_take] at hy
    split at hy
    · obtain ⟨h1, h2⟩ := List.getElem?_eq_some_iff.1 hy
      have := hcell j h1
      rw [addr_add] at this
      rw [this, List.getD_eq_getElem?_getD, hy]; rfl
    · cases hy
end Go.Proofs.Ythldekpbjfhmcaa
