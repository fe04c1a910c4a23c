/- A slice of sheets that came in reads as a list of sheets, and takes no more memory than the form's own reach. -/
import Derived.Test.YthldekpbjfhmcaaZb
import Derived.Test.YthldekpbjfhmcaaYh
import Derived.Deep.Slices
import Derived.SizedLaws
import Derived.OpenShut
namespace Go.Proofs.Ythldekpbjfhmcaa
open Go.ChangeShapes Go.WideShapes Go.ChangeAt Go.RowKit

theorem rdS_ints {w : World} {b off n cap : Nat} (h : ∀ j, j < n * 5 → ∃ z : Int, w.cell? ⟨b, off + j, none⟩ = some (.int .i64 z)) (hb : b < w.heap.size) (hc : n ≤ cap) (hm : cap ≤ 9223372036854775807) :
    ∃ ys, ys.length = n ∧ RdS w (.slice (some ⟨b, off, none⟩) n cap) ys := by
  obtain ⟨zs, h1, h2⟩ := choose_ints (fun j z => w.cell? ⟨b, off + j, none⟩ = some (.int .i64 z)) (n * 5) h
  obtain ⟨ys, h3, h4⟩ := unflat n zs h1
  refine ⟨ys, h3, ?_⟩
  unfold RdS
  rw [h4, h3]
  refine ⟨by simp [ints, h1], _, cap, rfl, hc, hm, .inr ⟨b, off, rfl, hb, fun j u hu => ?_⟩⟩
  unfold ints at hu
  rw [List.getElem?_map] at hu
  obtain ⟨y, hy, rfl⟩ := Option.map_eq_some_iff.1 hu
  exact h2 j y hy

section
variable {H : Type} {enc : TypeId × Value → H} {W : World}

theorem one_at {cs : List Value} {o : Nat} {k : IntKind} {n : Int} (h : (cs.drop o).take 1 = [.int k n]) : cs[o]? = some (.int k n) := by
  have : ((cs.drop o).take 1)[0]? = some (.int k n) := by rw [h]; rfl
  simpa [List.getElem?_take, List.getElem?_drop] using this

theorem sheet_cells {fuel : Nat} {cs : List Value} {x : DataW H × List MemPlace} (h : DataW.trod enc Try.prog W 0 (fun _ => true) true fuel 54 cs = some x) : ∀ r, r < 5 → ∃ z : Int, cs[r]? = some (.int .i64 z) := by
  obtain ⟨xs, n, _, _, _, hxl, hf⟩ := DataW.trod_struct Try.underlying54 h
  have hx : ∀ i, i < 3 → ∃ y, xs[i]? = some y := fun i hi => ⟨_, List.getElem?_eq_getElem (by rw [hxl]; exact hi)⟩
  have c3 : Try.prog.cellsOf 3 = 1 := by kernel_rfl
  have c43 : Try.prog.cellsOf 43 = 2 := by kernel_rfl
  obtain ⟨y0, h0⟩ := hx 0 (by omega)
  obtain ⟨y1, h1⟩ := hx 1 (by omega)
  obtain ⟨y2, h2⟩ := hx 2 (by omega)
  have e0 : DataW.trod enc Try.prog W 0 (fun _ => true) true n 3 ((cs.drop 0).take (Try.prog.cellsOf 3)) = some y0 := (hf 0 _ rfl).trans h0
  have e1 : DataW.trod enc Try.prog W 0 (fun _ => true) true n 43 ((cs.drop 1).take (Try.prog.cellsOf 43)) = some y1 := (hf 1 _ rfl).trans h1
  have e2 : DataW.trod enc Try.prog W 0 (fun _ => true) true n 43 ((cs.drop 3).take (Try.prog.cellsOf 43)) = some y2 := (hf 2 _ rfl).trans h2
  rw [c3] at e0
  rw [c43] at e1 e2
  obtain ⟨z0, q0, _⟩ := DataW.trod_int Try.underlying3 e0
  have pair : ∀ (o : Nat) (y : DataW H × List MemPlace), DataW.trod enc Try.prog W 0 (fun _ => true) true n 43 ((cs.drop o).take 2) = some y → (∃ z : Int, cs[o]? = some (.int .i64 z)) ∧ ∃ z : Int, cs[o + 1]? = some (.int .i64 z) := by
    intro o y hy
    obtain ⟨es, m, _, _, _, hal, ha⟩ := DataW.trod_array Try.underlying43 hy
    have ax : ∀ i, i < 2 → ∃ y, es[i]? = some y := fun i hi => ⟨_, List.getElem?_eq_getElem (by rw [hal]; exact hi)⟩
    obtain ⟨u0, g0⟩ := ax 0 (by omega)
    obtain ⟨u1, g1⟩ := ax 1 (by omega)
    have t0 := (ha 0 (by omega)).trans g0
    have t1 := (ha 1 (by omega)).trans g1
    rw [c3] at t0 t1
    obtain ⟨w0, r0, _⟩ := DataW.trod_int Try.underlying3 t0
    obtain ⟨w1, r1, _⟩ := DataW.trod_int Try.underlying3 t1
    have s0 := one_at r0
    have s1 := one_at r1
    rw [List.getElem?_take, if_pos (by omega), List.getElem?_drop] at s0 s1
    exact ⟨⟨w0, by simpa using s0⟩, ⟨w1, by simpa using s1⟩⟩
  obtain ⟨p1, p2⟩ := pair 1 _ e1
  obtain ⟨p3, p4⟩ := pair 3 _ e2
  intro r hr
  obtain rfl | rfl | rfl | rfl | rfl : r = 0 ∨ r = 1 ∨ r = 2 ∨ r = 3 ∨ r = 4 := by omega
  · exact ⟨z0, one_at q0⟩
  · exact p1
  · exact p2
  · exact p3
  · exact p4

theorem rd_sheets {base : Nat} {v : Value} {d : DataW H} {p : List MemPlace} (hv : Value.okWide Try.prog W .any base 22 v) (h : DataW.Trod enc Try.prog W 0 (fun _ => true) true 22 v d p)
    (hsz : ∀ es sp, d = .slice es sp → (es.length + sp.length) * 40 ≤ 140737488351232) : ∃ xs : List Sh, RdS W v xs ∧ xs.length * 40 ≤ 140737488351232 := by
  obtain ⟨a, len, cap, rfl⟩ := okWide_slice Try.underlying22 hv
  obtain ⟨fuel, hf⟩ := h
  have c54 : Try.prog.cellsOf 54 = 5 := by kernel_rfl
  rcases Go.Deep.open_slice Try.underlying22 hf with ⟨hcs, _⟩ | ⟨x, l, c, m, n, D, Pl, hcs, _, hl, hm, hmm, hx, hi⟩
  · simp [Value.cells] at hcs
    obtain ⟨rfl, rfl, rfl⟩ := hcs
    exact ⟨[], ⟨rfl, none, 0, rfl, Nat.le_refl _, by omega, .inl ⟨rfl, rfl⟩⟩, by simp⟩
  · simp [Value.cells] at hcs
    obtain ⟨rfl, rfl, rfl⟩ := hcs
    obtain ⟨hb, hs⟩ := slice_place Try.underlying22 hv
    obtain ⟨xb, xo, xs⟩ := x
    simp only at hs hb
    subst hs
    have hmm' : m = cap := by simpa using hmm
    simp only [Prod.mk.injEq] at hx
    have hr := hsz _ _ hx.1
    simp only [List.length_map, List.length_range] at hr
    rw [c54] at hi
    have hall : ∀ j, j < len * 5 → ∃ z : Int, W.cell? ⟨xb, xo + j, none⟩ = some (.int .i64 z) := by
      intro j hj
      have hjm : j / 5 < m := by rw [hmm']; omega
      obtain ⟨cs', h1, h2⟩ := hi (j / 5) hjm
      obtain ⟨_, h3, h4⟩ := World.cells?_some h1
      obtain ⟨z, hz⟩ := sheet_cells h2 (j % 5) (by omega)
      refine ⟨z, ?_⟩
      have := h4 (j % 5) (by omega)
      rw [addr_add, addr_add, hz] at this
      rw [show xo + j = xo + j / 5 * 5 + j % 5 by omega]; exact this
    obtain ⟨ys, h1, h2⟩ := rdS_ints hall hb hl (by unfold maxLen at hm; omega)
    exact ⟨ys, h2, by rw [h1]; rw [hmm'] at hr; omega⟩
end
end Go.Proofs.Ythldekpbjfhmcaa
