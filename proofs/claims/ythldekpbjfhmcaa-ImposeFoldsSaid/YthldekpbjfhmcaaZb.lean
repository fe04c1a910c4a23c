/- the reference's Bent: it returns sheets, one more than came in at most -/
import Derived.Test.YthldekpbjfhmcaaYe
namespace Go.Proofs.Ythldekpbjfhmcaa
open Go.RowKit

/-- a block whose first N cells are integers -/
def AllI (w : World) (g N : Nat) : Prop := ∃ C : Array Value, w.heap[g]? = some (.cells C 76 (0, 0)) ∧ ∀ j, j < N → ∃ z : Int, C[j]? = some (.int .i64 z)
theorem AllI.cell {w : World} {g N : Nat} (h : AllI w g N) (j : Nat) (hj : j < N) : ∃ z : Int, w.cell? ⟨g, j, none⟩ = some (.int .i64 z) := by
  obtain ⟨C, h1, h2⟩ := h
  obtain ⟨z, hz⟩ := h2 j hj
  exact ⟨z, by simp only [World.cell?, h1]; exact hz⟩
theorem AllI.frozen {w : World} {g N : Nat} (h : AllI w g N) (j : Nat) : w.frozen? ⟨g, j, none⟩ = false := by
  obtain ⟨C, h1, _⟩ := h
  simp [World.frozen?, h1]
theorem AllI.lt {w : World} {g N : Nat} (h : AllI w g N) : g < w.heap.size := by
  obtain ⟨C, h1, _⟩ := h; exact (Array.getElem?_eq_some_iff.1 h1).1
theorem AllI.below {w w' : World} {g N : Nat} (h : AllI w g N) (hb : Below w.heap.size w w') : AllI w' g N := by
  have hl := h.lt
  obtain ⟨C, h1, h2⟩ := h
  exact ⟨C, (hb.block g hl).trans h1, h2⟩
theorem AllI.set {w : World} {g N : Nat} (h : AllI w g N) (o : Nat) (x : Int) : AllI (w.setCell ⟨g, o, none⟩ (.int .i64 x)) g N := by
  obtain ⟨C, h1, h2⟩ := h
  refine ⟨C.setIfInBounds o (.int .i64 x), by simp [World.setCell, Array.getElem?_modify, h1], fun j hj => ?_⟩
  obtain ⟨z, hz⟩ := h2 j hj
  by_cases hv : j = o
  · subst hv
    refine ⟨x, ?_⟩
    have := (Array.getElem?_eq_some_iff.1 hz).1
    simp [this]
  · rw [Array.getElem?_setIfInBounds_ne (Ne.symm hv)]; exact ⟨z, hz⟩

theorem choose_ints (f : Nat → Int → Prop) (N : Nat) (h : ∀ j, j < N → ∃ z, f j z) : ∃ zs : List Int, zs.length = N ∧ ∀ j z, zs[j]? = some z → f j z := by
  induction N with
  | zero => exact ⟨[], rfl, fun j z h => by simp at h⟩
  | succ N ih =>
    obtain ⟨zs, h1, h2⟩ := ih (fun j hj => h j (by omega))
    obtain ⟨z, hz⟩ := h N (by omega)
    refine ⟨zs ++ [z], by simp [h1], fun j y hy => ?_⟩
    rcases Nat.lt_or_ge j zs.length with hj | hj
    · rw [List.getElem?_append_left hj] at hy; exact h2 j y hy
    · rw [List.getElem?_append_right hj] at hy
      have : j - zs.length = 0 := by
        rcases Nat.eq_zero_or_pos (j - zs.length) with h | h
        · exact h
        · rw [List.getElem?_eq_none (by simp; omega)] at hy; cases hy
      rw [this] at hy
      have hj' : j = N := by omega
      simp at hy; rw [hj', ← hy]; exact hz

theorem unflat (n : Nat) : ∀ zs : List Int, zs.length = n * 5 → ∃ ys : List Sh, ys.length = n ∧ shs ys = ints zs := by
  induction n with
  | zero =>
    intro zs h
    have : zs = [] := List.eq_nil_of_length_eq_zero (by omega)
    subst this
    exact ⟨[], rfl, rfl⟩
  | succ n ih =>
    intro zs h
    rcases zs with _ | ⟨a, _ | ⟨b, _ | ⟨c, _ | ⟨d, _ | ⟨e, r⟩⟩⟩⟩⟩
    · exfalso; simp at h
    · exfalso; simp only [List.length_cons, List.length_nil] at h; omega
    · exfalso; simp only [List.length_cons, List.length_nil] at h; omega
    · exfalso; simp only [List.length_cons, List.length_nil] at h; omega
    · exfalso; simp only [List.length_cons, List.length_nil] at h; omega
    · obtain ⟨ys, h1, h2⟩ := ih r (by simp only [List.length_cons] at h; omega)
      exact ⟨⟨a, b, c, d, e⟩ :: ys, by simp [h1], by simp only [shs, List.flatMap_cons, sh, ints, List.map_cons] at h2 ⊢; rw [h2]; rfl⟩

theorem AllI.rd {w : World} {g n cap : Nat} (h : AllI w g (n * 5)) (hc : n ≤ cap) (hm : cap ≤ 9223372036854775807) : ∃ ys, ys.length = n ∧ RdS w (.slice (some ⟨g, 0, none⟩) n cap) ys := by
  obtain ⟨zs, h1, h2⟩ := choose_ints (fun j z => w.cell? ⟨g, j, none⟩ = some (.int .i64 z)) (n * 5) h.cell
  obtain ⟨ys, h3, h4⟩ := unflat n zs h1
  refine ⟨ys, h3, ?_⟩
  unfold RdS
  rw [h4, h3]
  refine ⟨by simp [ints, h1], _, cap, rfl, hc, hm, .inr ⟨g, 0, rfl, h.lt, fun j u hu => ?_⟩⟩
  unfold ints at hu
  rw [List.getElem?_map] at hu
  obtain ⟨y, hy, rfl⟩ := Option.map_eq_some_iff.1 hu
  rw [Nat.zero_add]; exact h2 j y hy

theorem all_own {w : World} {B n : Nat} {g cap : Nat} {xs : List Sh} (h : w.ownsRow B 76 5 (.slice (some ⟨g, 0, none⟩) n cap) n (shs xs)) : B ≤ g ∧ n ≤ cap ∧ cap ≤ maxLen ∧ AllI w g (n * 5) := by
  obtain ⟨h1, h2⟩ := h
  rcases h2 with ⟨h2, h3⟩ | ⟨g', cap', cur, he, hb, hg, hnc, hcm, hcs, ht⟩
  · cases h2
  · cases he
    refine ⟨hb, hnc, hcm, cur, hg, fun j hj => ?_⟩
    have hj2 : j < (shs xs).length := by omega
    obtain ⟨u, hu⟩ := elem_at hj2
    have hall : ∀ u, u ∈ shs xs → ∃ z : Int, u = .int .i64 z := by
      intro u hu
      obtain ⟨s, _, hs⟩ := List.mem_flatMap.1 hu
      simp only [sh, List.mem_cons, List.not_mem_nil, or_false] at hs
      rcases hs with rfl | rfl | rfl | rfl | rfl <;> exact ⟨_, rfl⟩
    obtain ⟨z, rfl⟩ := hall u (List.mem_of_getElem? hu)
    rw [← ht, List.getElem?_take] at hu
    rw [if_pos hj, Array.getElem?_toList] at hu
    exact ⟨z, hu⟩

theorem own_newS (w : World) (B : Nat) (hB : B ≤ w.heap.size) : (w.alloc (.cells #[] 76)).ownsRow B 76 5 (.slice (some ⟨w.heap.size, 0, none⟩) 0 0) 0 [] :=
  ⟨rfl, .inr ⟨w.heap.size, 0, _, rfl, hB, heap_alloc_new _ _, Nat.le_refl _, by unfold maxLen; omega, by simp, by simp⟩⟩

theorem shs_one (xs : List Sh) : ∀ u, u ∈ shs xs → u.oneCell' = true := by
  intro u hu
  obtain ⟨s, _, hs⟩ := List.mem_flatMap.1 hu
  simp only [sh, List.mem_cons, List.not_mem_nil, or_false] at hs
  rcases hs with rfl | rfl | rfl | rfl | rfl <;> rfl

theorem ret_v {a b : Value} (h : a = b) : Ending.returned a = .returned b := by rw [h]

set_option maxRecDepth 100000 in
set_option maxHeartbeats 1000000 in
theorem bent_nil (v1 : Value) (how bb : Int) (w : World) (hb1 : -9223372036854775808 ≤ bb) (hb2 : bb ≤ 9223372036854775807) (R : RdS w v1 []) :
    Calls Try.prog 12 #[v1, .int .i64 how, .int .i64 bb] w fun e w' => (∃ v ys, e = .returned v ∧ RdS w' v ys ∧ ys.length ≤ 1) ∧ Below w.heap.size w w' := by
  obtain ⟨i0, hi0, hz0, hz1, hz2⟩ := info_parts Try.info76
  have HI := Lib.hid hi0; have HZ0 := Lib.hid hz0; have HZ1 := Lib.hid hz1; have HZ2 := Lib.hid hz2
  clear hi0 hz0 hz1 hz2
  have HR := Lib.hid R
  clear R
  go_enter Try.func12, Try.ntmps12
  go_wp2_with (at_builtin; go_must (refine wpList_append_rd rfl _ _ _ rfl w.heap.size 76 i0 _ 5 40 Try.underlying31 HI.out HZ0.out HZ1.out HZ2.out rfl (by omega) (.slice (some ⟨w.heap.size, 0, none⟩) 0 0) 0 [] rfl (own_newS w _ (Nat.le_refl _)) v1 0 [] rfl (Rd.below HR.out ((Below.refl _ _).alloc (Nat.le_refl _) _)) (by simp) (by unfold maxLen; omega) (by omega) (by simp) ?_); intro v6 w6 hown6 hgrow6 _; have B6 : Below w.heap.size w w6 := ((Below.refl _ _).alloc (Nat.le_refl _) _).grown hgrow6 (by simp) (fun j e => by simp [Value.ownBlock] at e; omega); obtain ⟨_, a6, c6, hv6, _⟩ := Rd_of_owns hown6; subst hv6; have HB6 := Lib.hid B6; clear hown6 hgrow6 B6)
  refine (around_any bb 2 _ hb1 hb2 (by omega) (by omega)).mono ?_
  rintro e w1 ⟨rfl, rfl⟩
  go_wp2_with fail
  go_ret
  refine ⟨⟨_, [⟨around bb 2, 0, 0, 0, 0⟩], rfl, ?_, by simp⟩, HB6.out.alloc HB6.out.size _⟩
  exact Rd_block (cs := #[.int .i64 (around bb 2), .int .i64 0, .int .i64 0, .int .i64 0, .int .i64 0]) (t := 76) (n := 1) (sz := 5) (heap_alloc_new _ _) rfl (by omega)
end Go.Proofs.Ythldekpbjfhmcaa
