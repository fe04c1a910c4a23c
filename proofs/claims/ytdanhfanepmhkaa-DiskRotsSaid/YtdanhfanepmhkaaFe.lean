/- A slice of steps that came in reads as a list of steps; so do integers. -/
import Derived.Test.YtdanhfanepmhkaaFd
import Derived.WalkKit
import Derived.ProofKit
import Derived.Deep.Slices
import Derived.SizedLaws
import Derived.OpenShut
namespace Go.Proofs.Ytdanhfanepmhkaa
open Go.ChangeShapes Go.WideShapes Go.ChangeAt Go.RowKit

theorem slice_place {P : Program} {W : World} {r : Reach} {base : Nat} {t e : TypeId} {x : Addr} {len cap : Nat} (ht : P.underlying t = some (.slice e)) (hv : Value.okWide P W r base t (.slice (some x) len cap)) : x.block < W.heap.size ∧ x.spot = none := by
  simp only [Value.okWide, ht, Cell.okWide, Cell.ok] at hv
  obtain ⟨_, _, _, hs, row, cells, hsh, _⟩ := hv
  refine ⟨?_, hs⟩
  unfold World.shape? at hsh
  rcases Nat.lt_or_ge x.block W.heap.size with h | h
  · exact h
  · rw [Array.getElem?_eq_none h] at hsh; cases hsh
theorem addr_add (b off i : Nat) : (⟨b, off, none⟩ : Addr).add i = ⟨b, off + i, none⟩ := by
  unfold Addr.add
  split
  · next h => subst h; rfl
  · rfl
theorem spot_none {W : World} {a : Addr} {v : Value} (h : W.cell? a = some v) : a.spot = none := by
  unfold World.cell? at h
  split at h
  · split at h
    · cases h
    · rename_i hs; simpa using hs
  · cases h
theorem one_at {cs : List Value} {o : Nat} {v : Value} (h : (cs.drop o).take 1 = [v]) : cs[o]? = some v := by
  have : ((cs.drop o).take 1)[0]? = some v := by rw [h]; rfl
  simpa [List.getElem?_take, List.getElem?_drop] using this

section
variable {H : Type} {enc : TypeId × Value → H} {W : World}

theorem rd_ints0 {fuel : Nat} {v : Value} {x : DataW H × List MemPlace} (h : DataW.trod enc Try.prog W 0 (fun _ => true) true fuel 31 [v] = some x) :
    ∃ xs : List Int, Rd W (fun b => b < W.heap.size) 1 v xs.length (ints xs) := by
  rcases open_ints Try.underlying31 Try.underlying3 (by kernel_rfl) h with ⟨hcs, _⟩ | ⟨x, l, c, zs, hcs, _, hl, hm, hz, _, hcell, hwz⟩
  · cases hcs
    exact ⟨[], rfl, none, 0, rfl, Nat.le_refl _, by omega, .inl rfl⟩
  · cases hcs
    have hzl : zs.length = c := by simpa using hz
    have hc9 : c ≤ 9223372036854775807 := by unfold maxLen at hm; omega
    refine ⟨zs.take l, by simp [ints], some x, c, by rw [List.length_take, hzl, Nat.min_eq_left hl], by rw [List.length_take]; omega, hc9, ?_⟩
    rcases Nat.eq_zero_or_pos l with h0 | hp
    · left; rw [h0]; simp
    · right
      have h00 := hcell 0 (by omega)
      obtain ⟨xb, xo, xs⟩ := x
      have hsp : xs = none := by
        have := spot_none h00
        unfold Addr.add at this
        simpa using this
      subst hsp
      have hlt : xb < W.heap.size := by
        have := World.block_lt_of_cell? _ _ h00
        rw [addr_add] at this; exact this
      refine ⟨xb, xo, rfl, hlt, hlt, fun j u hu => ?_⟩
      unfold ints at hu
      rw [List.getElem?_map] at hu
      obtain ⟨y, hy, rfl⟩ := Option.map_eq_some_iff.1 hu
      rw [List.getElem?_take] at hy
      split at hy
      · obtain ⟨h1, h2⟩ := List.getElem?_eq_some_iff.1 hy
        have := hcell j h1
        rw [addr_add] at this
        rw [this, List.getD_eq_getElem?_getD, hy]; rfl
      · cases hy

theorem op_cells {fuel : Nat} {cs : List Value} {x : DataW H × List MemPlace} (h : DataW.trod enc Try.prog W 0 (fun _ => true) true fuel 33 cs = some x) :
    ∃ (o : Opv) (pv : Value), cs[0]? = some (.int .i64 o.k) ∧ cs[1]? = some (.int .i64 o.i) ∧ cs[2]? = some (.int .i64 o.b) ∧ cs[3]? = some (.string o.s) ∧ cs[4]? = some pv ∧ OpAt W (fun b => b < W.heap.size) o pv := by
  obtain ⟨xs, n, _, _, hcl, hxl, hf⟩ := DataW.trod_struct Try.underlying33 h
  have hx : ∀ i, i < 5 → ∃ y, xs[i]? = some y := fun i hi => ⟨_, List.getElem?_eq_getElem (by rw [hxl]; exact hi)⟩
  have c3 : Try.prog.cellsOf 3 = 1 := by kernel_rfl
  have c9 : Try.prog.cellsOf 9 = 1 := by kernel_rfl
  have c31 : Try.prog.cellsOf 31 = 1 := by kernel_rfl
  have c33 : Try.prog.cellsOf 33 = 5 := by kernel_rfl
  obtain ⟨y0, h0⟩ := hx 0 (by omega)
  obtain ⟨y1, h1⟩ := hx 1 (by omega)
  obtain ⟨y2, h2⟩ := hx 2 (by omega)
  obtain ⟨y3, h3⟩ := hx 3 (by omega)
  obtain ⟨y4, h4⟩ := hx 4 (by omega)
  have e0 : DataW.trod enc Try.prog W 0 (fun _ => true) true n 3 ((cs.drop 0).take (Try.prog.cellsOf 3)) = some y0 := (hf 0 _ rfl).trans h0
  have e1 : DataW.trod enc Try.prog W 0 (fun _ => true) true n 3 ((cs.drop 1).take (Try.prog.cellsOf 3)) = some y1 := (hf 1 _ rfl).trans h1
  have e2 : DataW.trod enc Try.prog W 0 (fun _ => true) true n 3 ((cs.drop 2).take (Try.prog.cellsOf 3)) = some y2 := (hf 2 _ rfl).trans h2
  have e3 : DataW.trod enc Try.prog W 0 (fun _ => true) true n 9 ((cs.drop 3).take (Try.prog.cellsOf 9)) = some y3 := (hf 3 _ rfl).trans h3
  have e4 : DataW.trod enc Try.prog W 0 (fun _ => true) true n 31 ((cs.drop 4).take (Try.prog.cellsOf 31)) = some y4 := (hf 4 _ rfl).trans h4
  rw [c3] at e0 e1 e2
  rw [c9] at e3
  rw [c31] at e4
  rw [c33] at hcl
  obtain ⟨z0, q0, _⟩ := DataW.trod_int Try.underlying3 e0
  obtain ⟨z1, q1, _, w1⟩ := DataW.trod_int Try.underlying3 e1
  obtain ⟨z2, q2, _⟩ := DataW.trod_int Try.underlying3 e2
  obtain ⟨s3, q3, _⟩ := DataW.trod_string Try.underlying9 e3
  have h4' : (cs.drop 4).take 1 = [cs[4]'(by omega)] := by
    rw [List.drop_eq_getElem_cons (by omega)]; rfl
  rw [h4'] at e4
  obtain ⟨picks, hp⟩ := rd_ints0 e4
  exact ⟨⟨z0, z1, z2, s3, picks⟩, _, one_at q0, one_at q1, one_at q2, one_at q3, List.getElem?_eq_getElem _, hp, (bounds_i64 w1).1, (bounds_i64 w1).2⟩

/-- a slice of n steps -/
def OpsRd (W : World) (v : Value) (n : Nat) : Prop := ∃ a cap, v = .slice a n cap ∧ n ≤ 9223372036854775807 ∧ ∀ j, j < n → ∃ (b off : Nat) (o : Opv) (pv : Value), a = some ⟨b, off, none⟩ ∧ b < W.heap.size ∧
  W.cell? ⟨b, off + j * 5, none⟩ = some (.int .i64 o.k) ∧ W.cell? ⟨b, off + j * 5 + 1, none⟩ = some (.int .i64 o.i) ∧ W.cell? ⟨b, off + j * 5 + 2, none⟩ = some (.int .i64 o.b) ∧
  W.cell? ⟨b, off + j * 5 + 3, none⟩ = some (.string o.s) ∧ W.cell? ⟨b, off + j * 5 + 4, none⟩ = some pv ∧ OpAt W (fun b => b < W.heap.size) o pv

set_option maxRecDepth 100000 in
theorem rd_ops {base : Nat} {v : Value} {d : DataW H} {p : List MemPlace} (hv : Value.okWide Try.prog W .any base 22 v) (h : DataW.Trod enc Try.prog W 0 (fun _ => true) true 22 v d p) : ∃ n, OpsRd W v n := by
  obtain ⟨a, len, cap, rfl⟩ := okWide_slice Try.underlying22 hv
  obtain ⟨fuel, hf⟩ := h
  have c33 : Try.prog.cellsOf 33 = 5 := by kernel_rfl
  rcases Go.Deep.open_slice Try.underlying22 hf with ⟨hcs, _⟩ | ⟨x, l, c, m, n, D, Pl, hcs, _, hl, hm, hmm, hx, hi⟩
  · simp [Value.cells] at hcs
    obtain ⟨rfl, rfl, rfl⟩ := hcs
    exact ⟨0, none, 0, rfl, by omega, fun j hj => by omega⟩
  · simp [Value.cells] at hcs
    obtain ⟨rfl, rfl, rfl⟩ := hcs
    obtain ⟨hb, hs⟩ := slice_place Try.underlying22 hv
    obtain ⟨xb, xo, xs⟩ := x
    simp only at hs hb
    subst hs
    have hmm' : m = cap := by simpa using hmm
    rw [c33] at hi
    refine ⟨len, _, cap, rfl, by unfold maxLen at hm; omega, fun j hj => ?_⟩
    obtain ⟨cs', h1, h2⟩ := hi j (by omega)
    obtain ⟨_, h3, h4⟩ := World.cells?_some h1
    obtain ⟨o, pv, g0, g1, g2, g3, g4, hop⟩ := op_cells h2
    have at' : ∀ r, r < 5 → W.cell? ⟨xb, xo + j * 5 + r, none⟩ = cs'[r]? := fun r hr => by
      have := h4 r hr
      rw [addr_add, addr_add] at this
      exact this
    exact ⟨xb, xo, o, pv, rfl, hb, (at' 0 (by omega)).trans g0, (at' 1 (by omega)).trans g1, (at' 2 (by omega)).trans g2, (at' 3 (by omega)).trans g3, (at' 4 (by omega)).trans g4, hop⟩
set_option maxRecDepth 100000 in
theorem rd_list {base : Nat} {v : Value} {d : DataW H} {p : List MemPlace} (hv : Value.okWide Try.prog W .any base 31 v) (h : DataW.Trod enc Try.prog W 0 (fun _ => true) true 31 v d p) : ∃ xs : List Int, Rd W (fun b => b < W.heap.size) 1 v xs.length (ints xs) := by
  obtain ⟨a, len, cap, rfl⟩ := okWide_slice Try.underlying31 hv
  obtain ⟨fuel, hf⟩ := h
  exact rd_ints0 hf
end
end Go.Proofs.Ytdanhfanepmhkaa
