/- Arguments that came in, read as lists. -/
import Derived.Test.YtmkkegigajmhkaaN02
import Derived.WalkKit
import Derived.ProofKit
import Derived.Deep.Slices
import Derived.SizedLaws
import Derived.OpenShut
set_option linter.unusedVariables false
namespace Go.Proofs.Ytmkkegigajmhkaa
open Go.ChangeShapes Go.WideShapes Go.ChangeAt Go.RowKit

theorem addr_add (b off i : Nat) : (⟨b, off, none⟩ : Addr).add i = ⟨b, off + i, none⟩ := by
  unfold Addr.add
  split
  · next h => subst h; rfl
  · rfl
theorem spot_none {W : World} {a : Addr} {v : Value} (h : W.cell? a = some v) : a.spot = none := by
  unfold World.cell? at h
  split at h
  · split at h
    · cases h
    · rename_i hs; simpa using hs
  · cases h

section
variable {H : Type} {enc : TypeId × Value → H} {W : World}

theorem rd_ints0 {fuel : Nat} {v : Value} {x : DataW H × List MemPlace} (h : DataW.trod enc Try.prog W 0 (fun _ => true) true fuel 22 [v] = some x) :
    ∃ xs : List Int, RdI W v xs ∧ inI xs := by
  rcases open_ints Try.underlying22 Try.underlying3 (by kernel_rfl) h with ⟨hcs, _⟩ | ⟨x, l, c, zs, hcs, _, hl, hm, hz, _, hcell, hwz⟩
  · cases hcs
    exact ⟨[], RdI.none W, fun x hx => by cases hx⟩
  · cases hcs
    have hzl : zs.length = c := by simpa using hz
    have hc9 : c ≤ 9223372036854775807 := by unfold maxLen at hm; omega
    have htl : (zs.take l).length = l := by rw [List.length_take, hzl, Nat.min_eq_left hl]
    refine ⟨zs.take l, ⟨some x, c, by rw [ints_len, htl], by rw [ints_len, htl]; exact hl, hc9, ?_⟩, fun y hy => bounds_i64 (hwz y (List.mem_of_mem_take hy))⟩
    rcases Nat.eq_zero_or_pos l with h0 | hp
    · left; rw [ints_len, htl, h0]
    · right
      have h00 := hcell 0 (by omega)
      obtain ⟨xb, xo, xs⟩ := x
      have hsp : xs = none := by
        have := spot_none h00
        unfold Addr.add at this
        simpa using this
      subst hsp
      have hlt : xb < W.heap.size := by
        have := World.block_lt_of_cell? _ _ h00
        rw [addr_add] at this; exact this
      refine ⟨xb, xo, rfl, hlt, fun j u hu => ?_⟩
      unfold ints at hu
      rw [List.getElem?_map] at hu
      obtain ⟨y, hy, rfl⟩ := Option.map_eq_some_iff.1 hu
      rw [List.getElem?_take] at hy
      split at hy
      · obtain ⟨h1, h2⟩ := List.getElem?_eq_some_iff.1 hy
        have := hcell j h1
        rw [addr_add] at this
        rw [this, List.getD_eq_getElem?_getD, hy]; rfl
      · cases hy
set_option maxRecDepth 100000 in
theorem rd_list {base : Nat} {v : Value} {d : DataW H} {p : List MemPlace} (hv : Value.okWide Try.prog W .any base 22 v) (h : DataW.Trod enc Try.prog W 0 (fun _ => true) true 22 v d p) : ∃ xs : List Int, RdI W v xs ∧ inI xs := by
  obtain ⟨a, len, cap, rfl⟩ := okWide_slice Try.underlying22 hv
  obtain ⟨fuel, hf⟩ := h
  exact rd_ints0 hf
end
end Go.Proofs.Ytmkkegigajmhkaa

