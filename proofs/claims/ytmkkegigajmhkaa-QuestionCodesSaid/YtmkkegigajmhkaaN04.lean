/- Groups: the program's. Groups: the reference's. A region that draws its order by an invariant; int rows of the call's own, no two in one block. append of whatever list, to a row of the call's own; also nothing to nothing. Threads of a drawn region: a copy of a list of ints in a block of its own. -/
import Derived.Test.YtmkkegigajmhkaaN03
set_option linter.unusedVariables false
namespace Go.Proofs.Ytmkkegigajmhkaa
open Go.RowKit Go.Maps

theorem Try.info3 : (Try.prog.info? 3).map (fun i => (i.zero, i.size, i.bytes)) = some (some (.int .i64 0), 1, 8) := by kernel_rfl
theorem Try.info22 : (Try.prog.info? 22).map (fun i => (i.zero, i.size, i.bytes)) = some (some (.slice none 0 0), 1, 24) := by kernel_rfl
theorem ints_app (xs ys : List Int) : ints (xs ++ ys) = ints xs ++ ints ys := by unfold ints; rw [List.map_append]
theorem owns_ints {w : World} {base : Nat} {v : Value} {n : Nat} {xs : List Int} (h : w.ownsRow base 3 1 v n (ints xs)) : RdI w v xs := by
  unfold RdI; exact Rd_of_owns h
theorem owns_form {w : World} {base : Nat} {e : TypeId} {s : Nat} {v : Value} {n : Nat} {xs : List Value} (h : w.ownsRow base e s v n xs) : ∃ a c, v = .slice a n c := by
  rcases h.2 with ⟨rfl, rfl⟩ | ⟨g, cap, _, rfl, _⟩
  · exact ⟨_, _, rfl⟩
  · exact ⟨_, _, rfl⟩
theorem cast_len {base : Nat} {W : World} {a : Option Addr} {n n' c : Nat} {us : List Value} {rows : List (List Int)} (e : n = n') (h : OwnRR base W (.slice a n c) us rows) : OwnRR base W (.slice a n' c) us rows := by subst e; exact h
theorem ownsRow_some {W : World} {base : Nat} {e : TypeId} {s : Nat} {v : Value} {n : Nat} {xs : List Value} (h : W.ownsRow base e s v n xs) (hn : 0 < n) : ∃ g cap, v = .slice (some ⟨g, 0, none⟩) n cap := by
  rcases h.2 with ⟨_, h0⟩ | ⟨g, cap, _, rfl, _⟩
  · omega
  · exact ⟨g, cap, rfl⟩
theorem bsz {B : Nat} {a w : World} (h : Below B a w) (hB : B ≤ a.heap.size) : B ≤ w.heap.size := Nat.le_trans hB h.size
theorem cell_last {W : World} {base : Nat} {e : TypeId} {g n c : Nat} {us : List Value} {u : Value} (h : W.ownsRow base e 1 (.slice (some ⟨g, 0, none⟩) (n + 1) c) (n + 1) (us ++ [u])) (hl : us.length = n) : W.cell? ⟨g, n, none⟩ = some u := by
  rw [h.cellAt n (by omega), List.getElem?_append_right (by omega)]
  simp [hl]
theorem cell_one_new (W : World) (t : TypeId) (x : Value) : ∀ j u, [x][j]? = some u → (W.alloc (.cells #[x] t)).cell? ((⟨W.heap.size, 0, none⟩ : Addr).add j) = some u :=
  World.news_of_block (cs := #[x]) (t := t) (fr := (0, 0)) (heap_alloc_new W _)
/-- groups so far: each has a first world, all its worlds have one row, no two groups have the same row -/
structure GrpOk (T : Tb) (n : Nat) (G : List (List Int)) : Prop where
  mem : ∀ g, g ∈ G → g ≠ [] ∧ ∀ x, x ∈ g → 0 ≤ x ∧ x < n
  dis : ∀ (j k : Nat) (g g' : List Int), G[j]? = some g → G[k]? = some g' → rowAt T (g.headD 0).toNat = rowAt T (g'.headD 0).toNat → j = k
  len : G.length ≤ n
  cov : ∀ i : Nat, i < n → ∃ g, g ∈ G ∧ rowAt T (g.headD 0).toNat = rowAt T i
  row : ∀ g, g ∈ G → ∀ x, x ∈ g → rowAt T x.toNat = rowAt T (g.headD 0).toNat
  glen : ∀ g, g ∈ G → g.length ≤ n
def grpP (T : Tb) (row : List Int) (g : List Int) : Bool := decide (rowAt T (g.headD 0).toNat = row)
def grpStep (T : Tb) (G : List (List Int)) (i : Nat) : List (List Int) :=
  let k := idxOf (grpP T (rowAt T i)) G
  if k < 0 then G ++ [[(i : Int)]] else G.set k.toNat ((G[k.toNat]?.getD []) ++ [(i : Int)])
def groupsN (T : Tb) : Nat → List (List Int)
  | 0 => []
  | n + 1 => grpStep T (groupsN T n) n
def groups (T : Tb) : List (List Int) := if validE T = 0 then groupsN T T.rows.length else []
theorem idxOf_neg {α : Type} {p : α → Bool} {l : List α} (h : idxOf p l < 0) : ∀ x, x ∈ l → p x = false := by
  unfold idxOf at h
  cases h' : l.findIdx? p with
  | none => rw [List.findIdx?_eq_none_iff] at h'; intro x hx; simpa using h' x hx
  | some i => rw [h'] at h; simp at h; omega
theorem idxOf_pos {α : Type} {p : α → Bool} {l : List α} (h : 0 ≤ idxOf p l) : ∃ k : Nat, ∃ x, idxOf p l = k ∧ l[k]? = some x ∧ p x = true ∧ ∀ j y, j < k → l[j]? = some y → p y = false := by
  unfold idxOf at h ⊢
  cases h' : l.findIdx? p with
  | none => rw [h'] at h; simp at h
  | some i =>
    rw [List.findIdx?_eq_some_iff_getElem] at h'
    obtain ⟨h1, h2, h3⟩ := h'
    refine ⟨i, l[i], rfl, List.getElem?_eq_getElem h1, h2, fun j y hj hy => ?_⟩
    have := h3 j hj
    rw [List.getElem?_eq_getElem (by omega)] at hy
    cases hy
    simpa using this
theorem grpOk_nil (T : Tb) : GrpOk T 0 [] := ⟨fun g h => by simp at h, fun j k g g' h => by simp at h, Nat.le_refl _, fun i h => absurd h (Nat.not_lt_zero _), fun g h => by simp at h, fun g h => by simp at h⟩
theorem headD_app {g : List Int} {x : Int} (h : g ≠ []) : (g ++ [x]).headD 0 = g.headD 0 := by
  cases g with
  | nil => exact absurd rfl h
  | cons a r => rfl
theorem grpOk_step {T : Tb} {n : Nat} {G : List (List Int)} (h : GrpOk T n G) : GrpOk T (n + 1) (grpStep T G n) := by
  unfold grpStep
  dsimp only
  split
  · rename_i hk
    have hno := idxOf_neg hk
    have e0 : rowAt T (([(n : Int)] : List Int).headD 0).toNat = rowAt T n := by simp
    have hne : ∀ g, g ∈ G → rowAt T (g.headD 0).toNat ≠ rowAt T n := fun g hg e => by
      have := hno g hg
      unfold grpP at this
      rw [e] at this
      simp at this
    refine ⟨fun g hg => ?_, fun j k g g' hj hk e => ?_, by rw [List.length_append]; have := h.len; simp; omega, fun i hi => ?_, fun g hg x hx => ?_, fun g hg => ?_⟩
    · rcases List.mem_append.1 hg with hg | hg
      · exact ⟨(h.mem g hg).1, fun x hx => by have := (h.mem g hg).2 x hx; omega⟩
      · simp at hg; subst hg
        exact ⟨by simp, fun x hx => by simp at hx; omega⟩
    · by_cases h1 : j < G.length
      · rw [List.getElem?_append_left h1] at hj
        by_cases h2 : k < G.length
        · rw [List.getElem?_append_left h2] at hk
          exact h.dis j k g g' hj hk e
        · rw [List.getElem?_append_right (by omega)] at hk
          have hk2 : k - G.length = 0 := by have := (List.getElem?_eq_some_iff.1 hk).1; simp at this; omega
          rw [hk2] at hk; simp at hk; subst hk
          rw [e0] at e
          exact absurd e (hne g (List.mem_of_getElem? hj))
      · rw [List.getElem?_append_right (by omega)] at hj
        have hj2 : j - G.length = 0 := by have := (List.getElem?_eq_some_iff.1 hj).1; simp at this; omega
        rw [hj2] at hj; simp at hj; subst hj
        by_cases h2 : k < G.length
        · rw [List.getElem?_append_left h2] at hk
          rw [e0] at e
          exact absurd e.symm (hne g' (List.mem_of_getElem? hk))
        · rw [List.getElem?_append_right (by omega)] at hk
          have hk2 : k - G.length = 0 := by have := (List.getElem?_eq_some_iff.1 hk).1; simp at this; omega
          omega
    · rcases Nat.lt_or_ge i n with hi' | hi'
      · obtain ⟨g, hg, e⟩ := h.cov i hi'
        exact ⟨g, List.mem_append_left _ hg, e⟩
      · obtain rfl : i = n := by omega
        exact ⟨[(i : Int)], List.mem_append_right _ (by simp), e0⟩
    · rcases List.mem_append.1 hg with hg | hg
      · exact h.row g hg x hx
      · simp at hg; subst hg
        simp at hx; subst hx; simp
    · rcases List.mem_append.1 hg with hg | hg
      · have := h.glen g hg; omega
      · simp at hg; subst hg; simp
  · rename_i hk
    obtain ⟨k, g, e, hg, hp, _⟩ := idxOf_pos (show 0 ≤ idxOf (grpP T (rowAt T n)) G by omega)
    rw [e]
    simp only [Int.toNat_natCast, hg, Option.getD_some]
    have hkl := (List.getElem?_eq_some_iff.1 hg).1
    have hgm := List.mem_of_getElem? hg
    have hp' : rowAt T (g.headD 0).toNat = rowAt T n := by unfold grpP at hp; simpa using hp
    have hgne := (h.mem g hgm).1
    have hh := headD_app (x := (n : Int)) hgne
    have key : ∀ (j : Nat) (y : List Int), (G.set k (g ++ [(n : Int)]))[j]? = some y → ∃ y0, G[j]? = some y0 ∧ y.headD 0 = y0.headD 0 := fun j y hy => by
      by_cases hj : j = k
      · subst hj
        rw [List.getElem?_set_self hkl] at hy
        cases hy
        exact ⟨g, hg, hh⟩
      · rw [List.getElem?_set_ne (by omega)] at hy
        exact ⟨y, hy, rfl⟩
    refine ⟨fun y hy => ?_, fun i j y y' hi hj e => ?_, by rw [List.length_set]; have := h.len; omega, fun i hi => ?_, fun y hy x hx => ?_, fun y hy => ?_⟩
    · rcases List.mem_or_eq_of_mem_set hy with hy | rfl
      · exact ⟨(h.mem y hy).1, fun x hx => by have := (h.mem y hy).2 x hx; omega⟩
      · refine ⟨by simp, fun x hx => ?_⟩
        rcases List.mem_append.1 hx with hx | hx
        · have := (h.mem g hgm).2 x hx; omega
        · simp at hx; omega
    · obtain ⟨a, ha, e1⟩ := key i y hi
      obtain ⟨b, hb, e2⟩ := key j y' hj
      rw [e1, e2] at e
      exact h.dis i j a b ha hb e
    · rcases Nat.lt_or_ge i n with hi' | hi'
      · obtain ⟨y, hy, e⟩ := h.cov i hi'
        obtain ⟨j, hj⟩ := List.mem_iff_getElem?.1 hy
        by_cases hjk : j = k
        · subst hjk
          rw [hg] at hj; cases hj
          exact ⟨g ++ [(n : Int)], List.mem_iff_getElem?.2 ⟨j, List.getElem?_set_self hkl⟩, by rw [hh]; exact e⟩
        · exact ⟨y, List.mem_iff_getElem?.2 ⟨j, by rw [List.getElem?_set_ne (by omega)]; exact hj⟩, e⟩
      · obtain rfl : i = n := by omega
        exact ⟨g ++ [(i : Int)], List.mem_iff_getElem?.2 ⟨k, List.getElem?_set_self hkl⟩, by rw [hh]; exact hp'⟩
    · rcases List.mem_or_eq_of_mem_set hy with hy | rfl
      · exact h.row y hy x hx
      · rw [hh]
        rcases List.mem_append.1 hx with hx | hx
        · exact h.row g hgm x hx
        · simp at hx; subst hx
          rw [hp']; simp
    · rcases List.mem_or_eq_of_mem_set hy with hy | rfl
      · have := h.glen y hy; omega
      · have := h.glen g hgm; simp; omega
theorem grpOk_N (T : Tb) (n : Nat) : GrpOk T n (groupsN T n) := by
  induction n with
  | zero => exact grpOk_nil T
  | succ n ih => exact grpOk_step ih

set_option maxRecDepth 100000 in
set_option maxHeartbeats 4000000 in
theorem v50_any (u : Value) (g : List Int) (B B5 : Nat) (va vc vk vr : Value) (T : Tb) (row : List Int) (w : World) (hu : RdI w u g) (hg : g ≠ []) (hm : ∀ x, x ∈ g → 0 ≤ x ∧ x < T.rows.length) (hT : BoxT w B va vc vk T)
    (hlt5 : B5 < w.heap.size) (c5 : w.cell? ⟨B5, 0, none⟩ = some vr) (hr : RdI w vr row) :
    Calls Try.prog 50 #[u, .pointer (some ⟨B, 0, none⟩), .pointer (some ⟨B5, 0, none⟩)] w fun e w' => e = .returned (.bool (grpP T row g)) ∧ Below w.heap.size w w' := by
  obtain ⟨x, rest, rfl⟩ : ∃ x rest, g = x :: rest := by cases g with | nil => exact absurd rfl hg | cons a r => exact ⟨a, r, rfl⟩
  obtain ⟨hx0, hx1⟩ := hm x (by simp)
  obtain ⟨i, rfl⟩ : ∃ i : Nat, x = i := ⟨x.toNat, by omega⟩
  obtain ⟨au, cg, e, _, fu⟩ := hu.open
  subst e
  obtain ⟨bu, ou, rfl, hltu, cu⟩ := fu 0 (i : Int) rfl
  obtain ⟨aa, ca, rfl⟩ := hT.tb.rows.form
  obtain ⟨ri, hri⟩ := elem_at (show i < T.rows.length by omega)
  obtain ⟨br, or, ui, rfl, hltr, li, hui⟩ := rows_at hT.tb.rows hri
  obtain ⟨ai, ci, rfl⟩ := hui.form
  obtain ⟨ar, cr, rfl⟩ := hr.form
  have EQ := equal_any _ _ ri row (w.drewN 1) (hui.below (Below.dn (Below.refl _ _) 1)) (hr.below (Below.dn (Below.refl _ _) 1))
  have c0 := hT.c0
  have hltB := hT.lt
  have hres : grpP T row ((i : Int) :: rest) = decide (ri = row) := by unfold grpP; simp [rowAt_of hri]
  have HR := Lib.hid hres
  have hgn : ((i : Int) :: rest) ≠ [] := by simp
  have hi2 : (i : Int) < (T.rows.length : Int) := by omega
  generalize hgg : ((i : Int) :: rest) = g at *
  clear fu hu hT hri hui hr hm hg hgg hres
  go_enter Try.func50, Try.ntmps50
  go_wp2_with fail
  refine wp_region_held (S := fun W => B < W.heap.size ∧ B5 < W.heap.size ∧ br < W.heap.size ∧ bu < W.heap.size ∧ W.cell? ⟨B, 0, none⟩ = some (.slice (some ⟨br, or, none⟩) T.rows.length ca) ∧ W.cell? ⟨B5, 0, none⟩ = some (.slice ar row.length cr) ∧ W.cell? ⟨bu, ou, none⟩ = some (.int .i64 (i : Int)) ∧ W.cell? ⟨br, or + i, none⟩ = some (.slice ai ri.length ci)) (by kernel_rfl) ?_
  have hdr : (w).drew = { w with drawn := (w).drawn + 1 } := rfl
  rw [← hdr]
  clear hdr
  have G1 := Lib.hid (show B < (w.drewN 1).heap.size ∧ B5 < (w.drewN 1).heap.size ∧ br < (w.drewN 1).heap.size ∧ bu < (w.drewN 1).heap.size ∧ (w.drewN 1).cell? ⟨B, 0, none⟩ = some (.slice (some ⟨br, or, none⟩) T.rows.length ca) ∧ (w.drewN 1).cell? ⟨B5, 0, none⟩ = some (.slice ar row.length cr) ∧ (w.drewN 1).cell? ⟨bu, ou, none⟩ = some (.int .i64 (i : Int)) ∧ (w.drewN 1).cell? ⟨br, or + i, none⟩ = some (.slice ai ri.length ci) from ⟨hltB, hlt5, hltr, hltu, c0, c5, cu, li⟩)
  clear c0 c5 cu li
  refine wpAnyHTake 0 (some 5) (.pointer (some ⟨B, 0, none⟩)) rfl rfl (by kernel_rfl) (by kernel_rfl) (by kernel_rfl) (fun _ _ _ h => h) (by rfl) (fun _ _ => by go_simp) (G1.out) ?_
  simp only [Act.put, List.setIfInBounds_toArray, List.set_cons_zero, List.set_cons_succ]
  refine wpAnyHTake 1 (some 6) (.slice (some ⟨br, or, none⟩) T.rows.length ca) rfl rfl (by kernel_rfl) (by kernel_rfl) (by kernel_rfl) (fun _ _ _ h => h) (by rfl) (fun W hW => by obtain ⟨_, _, _, _, c0, c5, cu, li⟩ := hW; go_simp) (G1.out) ?_
  simp only [Act.put, List.setIfInBounds_toArray, List.set_cons_zero, List.set_cons_succ]
  refine wpAnyHTake 2 (some 7) (.slice (some ⟨bu, ou, none⟩) g.length cg) rfl rfl (by kernel_rfl) (by kernel_rfl) (by kernel_rfl) (fun _ _ _ h => h) (by rfl) (fun _ _ => by rfl) (G1.out) ?_
  simp only [Act.put, List.setIfInBounds_toArray, List.set_cons_zero, List.set_cons_succ]
  refine wpAnyHTake 3 (some 8) (.pointer (some ⟨bu, ou, none⟩)) rfl rfl (by kernel_rfl) (by kernel_rfl) (by kernel_rfl) (fun _ _ _ h => h) (by rfl) (fun _ _ => by go_simp) (G1.out) ?_
  simp only [Act.put, List.setIfInBounds_toArray, List.set_cons_zero, List.set_cons_succ]
  refine wpAnyHTake 4 (some 9) (.int .i64 (i : Int)) rfl rfl (by kernel_rfl) (by kernel_rfl) (by kernel_rfl) (fun _ _ _ h => h) (by rfl) (fun W hW => by obtain ⟨_, _, _, _, c0, c5, cu, li⟩ := hW; go_simp) (G1.out) ?_
  simp only [Act.put, List.setIfInBounds_toArray, List.set_cons_zero, List.set_cons_succ]
  refine wpAnyHTake 5 (some 10) (.pointer (some ⟨br, or + i, none⟩)) rfl rfl (by kernel_rfl) (by kernel_rfl) (by kernel_rfl) (fun _ _ _ h => h) (by rfl) (fun _ _ => by go_simp) (G1.out) ?_
  simp only [Act.put, List.setIfInBounds_toArray, List.set_cons_zero, List.set_cons_succ]
  refine wpAnyHTake 6 (some 11) (.slice ai ri.length ci) rfl rfl (by kernel_rfl) (by kernel_rfl) (by kernel_rfl) (fun _ _ _ h => h) (by rfl) (fun W hW => by obtain ⟨_, _, _, _, c0, c5, cu, li⟩ := hW; go_simp) (G1.out) ?_
  simp only [Act.put, List.setIfInBounds_toArray, List.set_cons_zero, List.set_cons_succ]
  refine wpAnyHTake 7 (some 12) (.slice ar row.length cr) rfl rfl (by kernel_rfl) (by kernel_rfl) (by kernel_rfl) (fun _ _ _ h => h) (by rfl) (fun W hW => by obtain ⟨_, _, _, _, c0, c5, cu, li⟩ := hW; go_simp) (G1.out) ?_
  simp only [Act.put, List.setIfInBounds_toArray, List.set_cons_zero, List.set_cons_succ]
  refine wpAnyHCall 8 (some 13) 43 #[.slice ai ri.length ci, .slice ar row.length cr] (by kernel_rfl) rfl rfl (by rfl) (by go_simp) (EQ) ?_
  rintro e w2 ⟨rfl, hb9⟩
  have G2 := Lib.hid hb9
  clear hb9
  refine ⟨_, rfl, ⟨Nat.lt_of_lt_of_le G1.out.1 G2.out.size, Nat.lt_of_lt_of_le G1.out.2.1 G2.out.size, Nat.lt_of_lt_of_le G1.out.2.2.1 G2.out.size, Nat.lt_of_lt_of_le G1.out.2.2.2.1 G2.out.size, (G2.out.cell (p := ⟨B, 0, none⟩) G1.out.1).trans G1.out.2.2.2.2.1, (G2.out.cell (p := ⟨B5, 0, none⟩) G1.out.2.1).trans G1.out.2.2.2.2.2.1, (G2.out.cell (p := ⟨bu, ou, none⟩) G1.out.2.2.2.1).trans G1.out.2.2.2.2.2.2.1, (G2.out.cell (p := ⟨br, or + i, none⟩) G1.out.2.2.1).trans G1.out.2.2.2.2.2.2.2⟩, ?_⟩
  simp only [Act.put, List.setIfInBounds_toArray, List.set_cons_zero, List.set_cons_succ]
  refine wpAnyHTake 9 (some 4) (.bool (decide (ri = row))) rfl rfl (by kernel_rfl) (by kernel_rfl) (by kernel_rfl) (fun _ _ _ h => h) (by rfl) (fun _ _ => by rfl) (⟨Nat.lt_of_lt_of_le G1.out.1 G2.out.size, Nat.lt_of_lt_of_le G1.out.2.1 G2.out.size, Nat.lt_of_lt_of_le G1.out.2.2.1 G2.out.size, Nat.lt_of_lt_of_le G1.out.2.2.2.1 G2.out.size, (G2.out.cell (p := ⟨B, 0, none⟩) G1.out.1).trans G1.out.2.2.2.2.1, (G2.out.cell (p := ⟨B5, 0, none⟩) G1.out.2.1).trans G1.out.2.2.2.2.2.1, (G2.out.cell (p := ⟨bu, ou, none⟩) G1.out.2.2.2.1).trans G1.out.2.2.2.2.2.2.1, (G2.out.cell (p := ⟨br, or + i, none⟩) G1.out.2.2.1).trans G1.out.2.2.2.2.2.2.2⟩) ?_
  simp only [Act.put, List.setIfInBounds_toArray, List.set_cons_zero, List.set_cons_succ]
  refine wpAnyH_done (by kernel_rfl) ?_ _
  go_wp2_with fail
  go_ret
  exact ⟨ret_bool HR.out.symm, (Below.dn (Below.refl _ _) 1).trans G2.out⟩

/-- what Groups has made so far -/
def GrpOut (base : Nat) (T : Tb) (e : Ending) (w' : World) : Prop := ∃ v us, e = .returned v ∧ OwnRR base w' v us (groups T)
set_option maxRecDepth 100000 in
set_option maxHeartbeats 8000000 in
theorem groups_any (va vc vk : Value) (T : Tb) (w : World) (h : TbR w va vc vk T) :
    Calls Try.prog 18 #[.agg #[va, vc, vk]] w fun e w' => GrpOut w.heap.size T e w' ∧ Below w.heap.size w w' := by
  obtain ⟨aa, ca, rfl⟩ := h.rows.form
  obtain ⟨ac, cc, rfl⟩ := h.costs.form
  obtain ⟨ak, ck, rfl⟩ := h.cls.form
  obtain ⟨x, hx⟩ : ∃ x, validE T = x := ⟨_, rfl⟩
  have V := fun (W : World) hW => valid_any (.slice aa T.rows.length ca) (.slice ac T.costs.length cc) (.slice ak T.cls.length ck) T W hW
  have HBT := Lib.hid (BoxT.new h 33)
  have HBX := Lib.hid (alloc_below w (.cells #[.slice aa T.rows.length ca, .slice ac T.costs.length cc, .slice ak T.cls.length ck] 33))
  rw [hx] at V
  have HX := Lib.hid hx
  obtain ⟨i0, hi0, hz0, hz1, hz2⟩ := info_parts Try.info3
  have HI := Lib.hid hi0; have HZ0 := Lib.hid hz0; have HZ1 := Lib.hid hz1; have HZ2 := Lib.hid hz2
  clear hi0 hz0 hz1 hz2
  obtain ⟨j0, hi0, hz0, hz1, hz2⟩ := info_parts Try.info22
  have HJ := Lib.hid hi0; have HY0 := Lib.hid hz0; have HY1 := Lib.hid hz1; have HY2 := Lib.hid hz2
  clear hi0 hz0 hz1 hz2
  clear h hx
  go_enter Try.func18, Try.ntmps18
  go_wp2_with fail
  obtain ⟨B, hB⟩ : ∃ B, w.heap.size = B := ⟨_, rfl⟩
  rw [hB] at HBT ⊢
  generalize w.alloc (.cells #[.slice aa T.rows.length ca, .slice ac T.costs.length cc, .slice ak T.cls.length ck] 33) = w1 at *
  obtain ⟨N, hN⟩ : ∃ N, w1.heap.size = N := ⟨_, rfl⟩
  have hwN : w.heap.size ≤ N := by rw [← hN]; exact HBX.out.size
  refine (V _ HBT.out.tb).mono ?_
  rintro e w2 ⟨rfl, hb1⟩
  have HBK := Lib.hid (fun (W : World) (hw : Below N w1 W) => HBT.out.below (w' := W) (by rw [hN]; exact hw))
  rw [hN] at hb1
  have HB2 := Lib.hid hb1
  have c0 := (HBK.out _ hb1).c0
  clear hb1 V
  by_cases hv : x = 0
  · have hv' : (x != 0) = false := by simpa using hv
    subst hv
    have hr64 : T.rows.length ≤ 64 := ((okT_iff T).1 HX.out).r64
    go_wp2_with fail
    clear c0
    go_loopw [3, 13] (fun v i wr => ∃ (i' : Nat) (us : List Value), i' ≤ T.rows.length ∧ i = .int .i64 i' ∧ OwnRR N wr v us (groupsN T i') ∧ Below N w1 wr) (fun _ i _ => T.rows.length - (intOf i).toNat)
    case atStart => exact ⟨0, [], Nat.zero_le _, rfl, OwnRR.nil _ _, HB2.out⟩
    case round =>
      obtain ⟨i, us, hi, rfl, hown, hbl⟩ := hrel
      have HGO := Lib.hid (grpOk_N T i)
      have hbt := HBK.out _ hbl
      obtain ⟨av, cv, rfl⟩ := owns_form hown.out
      have hi0 : (0 : Int) ≤ (i : Int) := Int.natCast_nonneg _
      have HO := Lib.hid hown; have HBL := Lib.hid hbl
      clear hown hbl
      by_cases hlt : i < T.rows.length
      · have hi1 : (i : Int) < (T.rows.length : Int) := by omega
        obtain ⟨row, hrow⟩ := elem_at hlt
        obtain ⟨br, or, u, rfl, hltr, li, hu⟩ := rows_at hbt.tb.rows hrow
        obtain ⟨au, cu, rfl⟩ := hu.form
        have HU := Lib.hid hu; have HROW := Lib.hid hrow
        clear hbt hu hrow
        go_wp2_with fail
        have hgl : (groupsN T i).length ≤ i := HGO.out.len
        have HBA := Lib.hid (alloc_below wr (.cells #[.slice au row.length cu] 22))
        have b5 := Boxs.new wr 22 #[.slice au row.length cu]
        have c5 := b5.cell 0
        have hl5 := b5.lt
        have HBL := Lib.hid (HBL.out.alloc (bsz HBL.out (Nat.le_of_eq hN.symm)) (.cells #[.slice au row.length cu] 22))
        have IX := idx50_any (.pointer (some ⟨B, 0, none⟩)) (.pointer (some ⟨wr.heap.size, 0, none⟩)) (grpP T row) _ (groupsN T i) (wr.alloc (.cells #[.slice au row.length cu] 22)) ((HO.out.below HBA.out).rd) (fun k g W hg hb u hu =>
          v50_any u g B wr.heap.size _ _ _ _ T row W hu (HGO.out.mem g (List.mem_of_getElem? hg)).1 (fun x hx => by have := (HGO.out.mem g (List.mem_of_getElem? hg)).2 x hx; omega) ((HBK.out _ HBL.out).below hb) (Nat.lt_of_lt_of_le hl5 hb.size) ((hb.cell (p := ⟨wr.heap.size, 0, none⟩) hl5).trans c5) ((HU.out.below HBA.out).below hb))
        have hst : grpStep T (groupsN T i) i = groupsN T (i + 1) := rfl
        unfold grpStep at hst
        rw [rowAt_of HROW.out] at hst
        dsimp only at hst
        obtain ⟨ki, hki⟩ : ∃ ki, idxOf (grpP T row) (groupsN T i) = ki := ⟨_, rfl⟩
        rw [hki] at IX hst
        have HKI := Lib.hid hki
        have HST := Lib.hid hst
        clear hki hst b5 c5 hl5
        refine IX.mono ?_
        rintro e w3 ⟨rfl, hb1⟩
        have HO3 := Lib.hid ((HO.out.below HBA.out).below hb1)
        have HBL3 := Lib.hid (HBL.out.trans (hb1.mono (bsz HBL.out (Nat.le_of_eq hN.symm))))
        have hs3 : N ≤ w3.heap.size := (bsz HBL3.out (Nat.le_of_eq hN.symm))
        clear hb1 IX HBA HO HBL HU
        by_cases hneg : ki < 0
        · go_wp2_with (at_builtin; first | (refine wpList_append_lies _ rfl _ _ _ rfl N 22 j0 _ 1 24 Try.underlying23 HJ.out HY0.out HY1.out HY2.out rfl (by omega) (.slice av (groupsN T i).length cv) (groupsN T i).length us rfl (HO3.out.out.alloc _) ⟨w3.heap.size, 0, none⟩ 1 1 [.slice none 0 0] rfl rfl (cell_one_new _ _ _) (by simp [Value.oneCell']) (by omega) (by unfold maxLen; omega) (by omega) (by simp; omega) (w3.heap.size + 1) (by simp) ?_; intro gg cap w4 hown1 hgrow hat hltg; have hc1 := cell_last hown1 HO3.out.len; have hf1 := hown1.frozenAt (groupsN T i).length; have HP := Lib.hid ((HO3.out.below (alloc_below w3 (.cells #[.slice none 0 0] 22))).push (r := []) (World.ownsRow_nil _ _ _ _) (fun k u' b h1 h2 h3 => by cases h3) hown1 hgrow); have HB4 := Lib.hid ((HBL3.out.alloc hs3 (.cells #[.slice none 0 0] 22)).grown hgrow (by simp; omega) (fun j e => (HO3.out.out.lt j e).1)); have hs4 : N ≤ w4.heap.size := (bsz HB4.out (Nat.le_of_eq hN.symm)); clear hgrow hown1 hat) | (refine wpList_append_lies _ rfl _ _ _ rfl N 3 i0 _ 1 8 Try.underlying22 HI.out HZ0.out HZ1.out HZ2.out rfl (by omega) (.slice none 0 0) 0 (ints []) rfl (World.ownsRow_nil _ _ _ _) ⟨w4.heap.size, 0, none⟩ 1 1 [.int .i64 (i : Int)] rfl rfl (cell_one_new _ _ _) (by simp [Value.oneCell']) (by omega) (by unfold maxLen; omega) (by omega) (by simp; omega) (w4.heap.size + 1) (by simp) ?_; intro g2 cap2 w5 hown2 hgrow2 hat2 hltg2; have hc2 := (hgrow2.cell_far (a := ⟨gg, (groupsN T i).length, none⟩) (by simp; omega) (by simp [Value.ownBlock])).trans (((alloc_below w4 _).cell (p := ⟨gg, (groupsN T i).length, none⟩) hltg).trans hc1); have hf2 := (hgrow2.frozen_far (a := ⟨gg, (groupsN T i).length, none⟩) (by simp; omega) (by simp [Value.ownBlock])).trans (((alloc_below w4 (.cells #[.int .i64 (i : Int)] 3)).frozen (p := ⟨gg, (groupsN T i).length, none⟩) hltg).trans hf1)))
          have HI5 := Lib.hid ((HP.out.below (alloc_below w4 (.cells #[.int .i64 (i : Int)] 3))).inner (k := (groupsN T i).length) (u := .slice none 0 0) (u' := .slice (some ⟨g2, 0, none⟩) 1 cap2) (r := []) (r' := [(i : Int)]) (H := w4.heap.size + 1) (by rw [List.getElem?_append_right (by rw [HO3.out.len]; omega)]; simp [HO3.out.len]) (by simp) hown2 hgrow2 (by rcases hat2 with h | h; cases h; exact .inr (by rw [h]; rfl)) (by simp))
          have HB5 := Lib.hid (((HB4.out.alloc hs4 (.cells #[.int .i64 (i : Int)] 3)).grown hgrow2 (by simp; omega) (fun j e => by cases e)).setCell (p := ⟨gg, (groupsN T i).length, none⟩) ((HP.out.out.lt gg rfl).1) (.slice (some ⟨g2, 0, none⟩) 1 cap2))
          have hst := HST.out
          rw [if_pos hneg] at hst
          have hset : ((groupsN T i) ++ [([] : List Int)]).set (groupsN T i).length [(i : Int)] = groupsN T (i + 1) := by rw [← hst, List.set_append_right _ _ (Nat.le_refl _)]; simp
          have HSE := Lib.hid hset
          clear hst hset hown2 hgrow2 hat2
          go_roundw
          case rel => exact ⟨i + 1, _, by omega, by go_num, by rw [← HSE.out]; exact HI5.out, HB5.out⟩
          case measure => simp [intOf]; omega
        · obtain ⟨k, g, hke, hg, hp, _⟩ := idxOf_pos (show 0 ≤ idxOf (grpP T row) (groupsN T i) by rw [HKI.out]; omega)
          rw [HKI.out] at hke
          subst hke
          have hkl := (List.getElem?_eq_some_iff.1 hg).1
          have hst := HST.out
          rw [if_neg (by omega), Int.toNat_natCast, hg, Option.getD_some] at hst
          obtain ⟨u, hu, hou⟩ := HO3.out.row hg
          have hgl2 : g.length ≤ i := HGO.out.glen g (List.mem_of_getElem? hg)
          obtain ⟨au2, cu2, rfl⟩ := owns_form hou
          obtain ⟨gv, cv', hv⟩ := ownsRow_some HO3.out.out (show 0 < (groupsN T i).length by omega)
          cases hv
          have hc1 := HO3.out.out.cellAt k (by omega)
          rw [hu] at hc1
          have hf1 := HO3.out.out.frozenAt k
          have hl1 := (HO3.out.out.lt gv rfl).2
          have hk1 : (k : Int) < ((groupsN T i).length : Int) := by omega
          have hk0 : (0 : Int) ≤ (k : Int) := Int.natCast_nonneg _
          have hdis : (Value.slice au2 g.length cu2).ownBlock ≠ some gv := fun e => owns_type hou HO3.out.out (by decide) e rfl
          have HOU := Lib.hid hou; have HUS := Lib.hid hu; have HG := Lib.hid hg; have HSE := Lib.hid hst
          clear hst hg hp hou hu
          go_wp2_with (at_builtin; first | (refine wpList_append_lies _ rfl _ _ _ rfl N 3 i0 _ 1 8 Try.underlying22 HI.out HZ0.out HZ1.out HZ2.out rfl (by omega) (.slice au2 g.length cu2) g.length (ints g) rfl (HOU.out.alloc _) ⟨w3.heap.size, 0, none⟩ 1 1 [.int .i64 (i : Int)] rfl rfl (cell_one_new _ _ _) (by simp [Value.oneCell']) (by omega) (by unfold maxLen; omega) (by omega) (by simp; omega) (w3.heap.size + 1) (by simp) ?_; intro g2 cap2 w5 hown2 hgrow2 hat2 hltg2; have hc2 := (hgrow2.cell_far (a := ⟨gv, k, none⟩) (by simp; omega) (Ne.symm hdis)).trans (((alloc_below w3 (.cells #[.int .i64 (i : Int)] 3)).cell (p := ⟨gv, k, none⟩) hl1).trans hc1); have hf2 := (hgrow2.frozen_far (a := ⟨gv, k, none⟩) (by simp; omega) (Ne.symm hdis)).trans (((alloc_below w3 (.cells #[.int .i64 (i : Int)] 3)).frozen (p := ⟨gv, k, none⟩) hl1).trans hf1)))
          have HI5 := Lib.hid ((HO3.out.below (alloc_below w3 (.cells #[.int .i64 (i : Int)] 3))).inner (k := k) (r' := g ++ [(i : Int)]) (H := w3.heap.size + 1) HUS.out HG.out (by rw [List.length_append, ints_app]; exact hown2) hgrow2 (by rcases hat2 with h | h; exact .inl h.symm; exact .inr (by rw [h]; rfl)) (by simp))
          have HB5 := Lib.hid (((HBL3.out.alloc hs3 (.cells #[.int .i64 (i : Int)] 3)).grown hgrow2 (by simp; omega) (fun j e => (HOU.out.lt j e).1)).setCell (p := ⟨gv, k, none⟩) ((HO3.out.out.lt gv rfl).1) (.slice (some ⟨g2, 0, none⟩) (g.length + 1) cap2))
          clear hown2 hgrow2 hat2
          go_roundw
          case rel => exact ⟨i + 1, _, by omega, by go_num, by rw [← HSE.out]; exact HI5.out, HB5.out⟩
          case measure => simp [intOf]; omega
      · obtain rfl : i = T.rows.length := by omega
        have hi1 : ¬ (T.rows.length : Int) < (T.rows.length : Int) := by omega
        have hgr : groups T = groupsN T T.rows.length := by unfold groups; rw [if_pos HX.out]
        have HGR := Lib.hid hgr
        clear hgr
        go_wp2_with fail
        go_ret
        rw [← hB]
        exact ⟨⟨_, us, rfl, by rw [HGR.out]; exact HO.out.le hwN⟩, HBX.out.trans (HBL.out.mono hwN)⟩
  · have hv' : (x != 0) = true := by simpa using hv
    have hgr : groups T = [] := by unfold groups; rw [if_neg (by rw [HX.out]; exact hv)]
    have HGR := Lib.hid hgr
    clear hgr
    go_wp2_with fail
    go_ret
    first
    | exact ⟨⟨_, [], rfl, by rw [HGR.out]; exact OwnRR.nil _ _⟩, HBX.out.trans (HB2.out.mono hwN)⟩
    | (rw [← hB]; exact ⟨⟨_, [], rfl, by rw [HGR.out]; exact OwnRR.nil _ _⟩, HBX.out.trans (HB2.out.mono hwN)⟩)
end Go.Proofs.Ytmkkegigajmhkaa

namespace Go.Proofs.Ytmkkegigajmhkaa
open Go.RowKit Go.Maps

theorem idxOf_snoc_no {α : Type} {p : α → Bool} {l : List α} {x : α} (h : p x = false) : idxOf p (l ++ [x]) = idxOf p l := by
  unfold idxOf
  rw [List.findIdx?_append]
  cases l.findIdx? p with
  | none => simp [h]
  | some i => simp
theorem idxOf_snoc_yes {α : Type} {p : α → Bool} {l : List α} {x : α} (h : p x = true) (hl : ∀ y, y ∈ l → p y = false) : idxOf p (l ++ [x]) = l.length := by
  unfold idxOf
  rw [List.findIdx?_append, List.findIdx?_eq_none_iff.2 (fun y hy => by simp [hl y hy])]
  simp [h]
theorem owns_block {W : World} {B base : Nat} {t : TypeId} {size n : Nat} {cs : Array Value} {xs : List Value} (h : Boxs W B t cs) (hB : base ≤ B) (hc : cs.toList = xs) (hl : xs.length = n * size) (hn : n ≤ 1000000) : W.ownsRow base t size (.slice (some ⟨B, 0, none⟩) n n) n xs := by
  refine ⟨hl, .inr ⟨B, n, cs, rfl, hB, h, Nat.le_refl _, by unfold maxLen; omega, ?_, ?_⟩⟩
  · rw [← Array.length_toList, hc, hl]
  · rw [hc, ← hl, List.take_length]
theorem grp_last {T : Tb} {n : Nat} {G : List (List Int)} (h : GrpOk T n G) {row : List Int} {k : Nat} {g : List Int} (hg : G[k]? = some g) :
    idxOf (grpP T row) (G.take (k + 1)) = if grpP T row g = true then (k : Int) else idxOf (grpP T row) (G.take k) := by
  have hk := (List.getElem?_eq_some_iff.1 hg).1
  rw [take_succ_at hg]
  split
  · rename_i hp
    rw [idxOf_snoc_yes hp fun y hy => ?_, List.length_take]
    · congr 1; omega
    · refine Bool.eq_false_iff.2 fun hy' => ?_
      obtain ⟨j, hj⟩ := List.mem_iff_getElem?.1 hy
      have hjl := (List.getElem?_eq_some_iff.1 hj).1
      rw [List.length_take] at hjl
      rw [List.getElem?_take, if_pos (by omega)] at hj
      unfold grpP at hp hy'
      have e1 := of_decide_eq_true hp
      have e2 := of_decide_eq_true hy'
      have := h.dis j k y g hj hg (e2.trans e1.symm)
      omega
  · rename_i hp
    exact idxOf_snoc_no (by simpa using hp)
set_option maxRecDepth 100000 in
set_option maxHeartbeats 8000000 in
theorem rgroups_any (va vc vk : Value) (T : Tb) (w : World) (h : TbR w va vc vk T) :
    Calls Try.prog 19 #[.agg #[va, vc, vk]] w fun e w' => GrpOut w.heap.size T e w' ∧ Below w.heap.size w w' := by
  obtain ⟨aa, ca, rfl⟩ := h.rows.form
  obtain ⟨ac, cc, rfl⟩ := h.costs.form
  obtain ⟨ak, ck, rfl⟩ := h.cls.form
  obtain ⟨x, hx⟩ : ∃ x, validE T = x := ⟨_, rfl⟩
  have V := fun (W : World) hW => rvalid_any (.slice aa T.rows.length ca) (.slice ac T.costs.length cc) (.slice ak T.cls.length ck) T W hW
  have HBT := Lib.hid (BoxT.new h 25)
  have HBX := Lib.hid (alloc_below w (.cells #[.slice aa T.rows.length ca, .slice ac T.costs.length cc, .slice ak T.cls.length ck] 25))
  rw [hx] at V
  have HX := Lib.hid hx
  obtain ⟨i0, hi0, hz0, hz1, hz2⟩ := info_parts Try.info3
  have HI := Lib.hid hi0; have HZ0 := Lib.hid hz0; have HZ1 := Lib.hid hz1; have HZ2 := Lib.hid hz2
  clear hi0 hz0 hz1 hz2
  obtain ⟨j0, hi0, hz0, hz1, hz2⟩ := info_parts Try.info22
  have HJ := Lib.hid hi0; have HY0 := Lib.hid hz0; have HY1 := Lib.hid hz1; have HY2 := Lib.hid hz2
  clear hi0 hz0 hz1 hz2
  clear h hx
  go_enter Try.func19, Try.ntmps19
  go_wp2_with fail
  obtain ⟨B, hB⟩ : ∃ B, w.heap.size = B := ⟨_, rfl⟩
  rw [hB] at HBT ⊢
  generalize w.alloc (.cells #[.slice aa T.rows.length ca, .slice ac T.costs.length cc, .slice ak T.cls.length ck] 25) = w1 at *
  obtain ⟨N, hN⟩ : ∃ N, w1.heap.size = N := ⟨_, rfl⟩
  have hwN : w.heap.size ≤ N := by rw [← hN]; exact HBX.out.size
  refine (V _ HBT.out.tb).mono ?_
  rintro e w2 ⟨rfl, hb1⟩
  have HBK := Lib.hid (fun (W : World) (hw : Below N w1 W) => HBT.out.below (w' := W) (by rw [hN]; exact hw))
  rw [hN] at hb1
  have HB2 := Lib.hid hb1
  have c0 := (HBK.out _ hb1).c0
  clear hb1 V
  by_cases hv : x = 0
  · have hv' : (x != 0) = false := by simpa using hv
    subst hv
    have hr64 : T.rows.length ≤ 64 := ((okT_iff T).1 HX.out).r64
    go_wp2_with fail
    clear c0
    go_loopw [3, 4] (fun v i wr => ∃ (i' : Nat) (us : List Value), i' ≤ T.rows.length ∧ i = .int .i64 i' ∧ OwnRR N wr v us (groupsN T i') ∧ Below N w1 wr) (fun _ i _ => T.rows.length - (intOf i).toNat)
    case atStart => exact ⟨0, [], Nat.zero_le _, rfl, OwnRR.nil _ _, HB2.out⟩
    case round =>
      obtain ⟨i, us, hi, rfl, hown, hbl⟩ := hrel
      have HGO := Lib.hid (grpOk_N T i)
      have hbt := HBK.out _ hbl
      obtain ⟨av, cv, rfl⟩ := owns_form hown.out
      have hi0 : (0 : Int) ≤ (i : Int) := Int.natCast_nonneg _
      have HO := Lib.hid hown; have HBL := Lib.hid hbl
      clear hown hbl
      by_cases hlt : i < T.rows.length
      · have hi1 : (i : Int) < (T.rows.length : Int) := by omega
        obtain ⟨row, hrow⟩ := elem_at hlt
        obtain ⟨br, or, u, rfl, hltr, li, hu⟩ := rows_at hbt.tb.rows hrow
        obtain ⟨au, cu, rfl⟩ := hu.form
        have HU := Lib.hid hu; have HROW := Lib.hid hrow
        have c0 := hbt.c0
        have hgl : (groupsN T i).length ≤ i := HGO.out.len
        have hst : grpStep T (groupsN T i) i = groupsN T (i + 1) := rfl
        unfold grpStep at hst
        rw [rowAt_of HROW.out] at hst
        dsimp only at hst
        have HST := Lib.hid hst
        clear hbt hu hrow hst
        go_wp2_with fail
        clear c0 li
        obtain ⟨wo, hwo⟩ : ∃ wo, wo = wr := ⟨_, rfl⟩
        rw [← hwo] at HO HBL HU
        go_loopw [5, 6] (fun av kv w4 => ∃ k : Nat, k ≤ (groupsN T i).length ∧ kv = .int .i64 k ∧ av = .int .i64 (idxOf (grpP T row) ((groupsN T i).take k)) ∧ Below wo.heap.size wo w4) (fun _ kv _ => (groupsN T i).length - (intOf kv).toNat)
        case atStart => exact ⟨0, Nat.zero_le _, rfl, rfl, by rw [hwo]; exact Below.refl _ _⟩
        case round =>
          obtain ⟨k, hk, rfl, rfl, hb1⟩ := hrel
          have hk0 : (0 : Int) ≤ (k : Int) := Int.natCast_nonneg _
          rename World => w4
          have HBW := Lib.hid (HBL.out.trans (hb1.mono (bsz HBL.out (Nat.le_of_eq hN.symm))))
          have hbt := HBK.out _ HBW.out
          by_cases hkl : k < (groupsN T i).length
          · have hk1 : (k : Int) < ((groupsN T i).length : Int) := by omega
            obtain ⟨g, hg⟩ := elem_at hkl
            have hlast := grp_last HGO.out (row := row) hg
            obtain ⟨ug, hug, houg⟩ := HO.out.row hg
            obtain ⟨agv, cg, rfl⟩ := owns_form houg
            obtain ⟨hgne, hgm⟩ := HGO.out.mem g (List.mem_of_getElem? hg)
            obtain ⟨x, rest, hgx⟩ : ∃ x rest, g = x :: rest := by cases g with | nil => exact absurd rfl hgne | cons a r => exact ⟨a, r, rfl⟩
            have hx := hgm x (by rw [hgx]; simp)
            obtain ⟨m, rfl⟩ : ∃ m : Nat, x = m := ⟨x.toNat, by omega⟩
            have hg0 : g[0]? = some (m : Int) := by rw [hgx]; rfl
            obtain ⟨bu, ou, rfl, hltu0, cu0⟩ := ints_at (owns_ints houg) hg0
            obtain ⟨gv, cv', hv⟩ := ownsRow_some HO.out.out (show 0 < (groupsN T i).length by omega)
            cases hv
            have hltv0 := (HO.out.out.lt gv rfl).2
            have cg0 := HO.out.out.cellAt k (by omega)
            rw [hug] at cg0
            have cg0 := (hb1.cell (p := ⟨gv, k, none⟩) hltv0).trans cg0
            have cu0 := (hb1.cell (p := ⟨bu, ou, none⟩) hltu0).trans cu0
            have hltv := Nat.lt_of_lt_of_le hltv0 hb1.size
            have hltu := Nat.lt_of_lt_of_le hltu0 hb1.size
            obtain ⟨ri, hri⟩ := elem_at (show m < T.rows.length by omega)
            obtain ⟨br', or', ui, e, hltr, li, hui⟩ := rows_at hbt.tb.rows hri
            cases e
            obtain ⟨br', or', ur, e, _, lr, hur⟩ := rows_at hbt.tb.rows HROW.out
            cases e
            obtain ⟨ai, ci, rfl⟩ := hui.form
            obtain ⟨aw, cw, rfl⟩ := hur.form
            have c0 := hbt.c0
            have hltB := hbt.lt
            have EQ := sameInts_any _ _ ri row (w4.drewN 1) (hui.below (Below.dn (Below.refl _ _) 1)) (hur.below (Below.dn (Below.refl _ _) 1))
            have hgp : grpP T row g = decide (ri = row) := by unfold grpP; rw [hgx]; simp [rowAt_of hri]
            rw [hgp] at hlast
            have hm1 : (m : Int) < (T.rows.length : Int) := by omega
            have hB1 := Lib.hid hb1
            obtain ⟨eq, heq⟩ : ∃ b, decide (ri = row) = b := ⟨_, rfl⟩
            rw [heq] at hlast
            have HEQ := Lib.hid heq
            have HLA := Lib.hid hlast
            clear hg hug houg hri hui hur hgx hgm hx hg0 hgp heq hlast hb1 hbt
            cases eq
            · go_wp2_with fail
              refine wp_region_held (S := fun W => B < W.heap.size ∧ gv < W.heap.size ∧ br < W.heap.size ∧ bu < W.heap.size ∧ W.cell? ⟨B, 0, none⟩ = some (.slice (some ⟨br, or, none⟩) T.rows.length ca) ∧ W.cell? ⟨gv, k, none⟩ = some (.slice (some ⟨bu, ou, none⟩) g.length cg) ∧ W.cell? ⟨bu, ou, none⟩ = some (.int .i64 (m : Int)) ∧ W.cell? ⟨br, or + m, none⟩ = some (.slice ai ri.length ci) ∧ W.cell? ⟨br, or + i, none⟩ = some (.slice aw row.length cw)) (by kernel_rfl) ?_
              have hdr : (w4).drew = { w4 with drawn := (w4).drawn + 1 } := rfl
              rw [← hdr]
              clear hdr
              have G1 := Lib.hid (show (fun W => B < W.heap.size ∧ gv < W.heap.size ∧ br < W.heap.size ∧ bu < W.heap.size ∧ W.cell? ⟨B, 0, none⟩ = some (.slice (some ⟨br, or, none⟩) T.rows.length ca) ∧ W.cell? ⟨gv, k, none⟩ = some (.slice (some ⟨bu, ou, none⟩) g.length cg) ∧ W.cell? ⟨bu, ou, none⟩ = some (.int .i64 (m : Int)) ∧ W.cell? ⟨br, or + m, none⟩ = some (.slice ai ri.length ci) ∧ W.cell? ⟨br, or + i, none⟩ = some (.slice aw row.length cw)) (w4.drewN 1) from ⟨hltB, hltv, hltr, hltu, c0, cg0, cu0, li, lr⟩)
              clear c0 cg0 cu0 li lr
              refine wpAnyHTake 0 (some 23) (.pointer (some ⟨B, 0, none⟩)) rfl rfl (by kernel_rfl) (by kernel_rfl) (by kernel_rfl) (fun _ _ _ h => h) (by rfl) (fun _ _ => by go_simp) (G1.out) ?_
              simp only [Act.put, List.setIfInBounds_toArray, List.set_cons_zero, List.set_cons_succ]
              refine wpAnyHTake 1 (some 24) (.slice (some ⟨br, or, none⟩) T.rows.length ca) rfl rfl (by kernel_rfl) (by kernel_rfl) (by kernel_rfl) (fun _ _ _ h => h) (by rfl) (fun W hW => by obtain ⟨_, _, _, _, c0, cg, cu, li, lr⟩ := hW; go_simp) (G1.out) ?_
              simp only [Act.put, List.setIfInBounds_toArray, List.set_cons_zero, List.set_cons_succ]
              refine wpAnyHTake 2 (some 25) (.slice (some ⟨gv, 0, none⟩) (groupsN T i).length cv) rfl rfl (by kernel_rfl) (by kernel_rfl) (by kernel_rfl) (fun _ _ _ h => h) (by rfl) (fun _ _ => by rfl) (G1.out) ?_
              simp only [Act.put, List.setIfInBounds_toArray, List.set_cons_zero, List.set_cons_succ]
              refine wpAnyHTake 3 (some 26) (.int .i64 (k : Int)) rfl rfl (by kernel_rfl) (by kernel_rfl) (by kernel_rfl) (fun _ _ _ h => h) (by rfl) (fun _ _ => by rfl) (G1.out) ?_
              simp only [Act.put, List.setIfInBounds_toArray, List.set_cons_zero, List.set_cons_succ]
              refine wpAnyHTake 4 (some 27) (.pointer (some ⟨gv, k, none⟩)) rfl rfl (by kernel_rfl) (by kernel_rfl) (by kernel_rfl) (fun _ _ _ h => h) (by rfl) (fun _ _ => by go_simp) (G1.out) ?_
              simp only [Act.put, List.setIfInBounds_toArray, List.set_cons_zero, List.set_cons_succ]
              refine wpAnyHTake 5 (some 28) (.slice (some ⟨bu, ou, none⟩) g.length cg) rfl rfl (by kernel_rfl) (by kernel_rfl) (by kernel_rfl) (fun _ _ _ h => h) (by rfl) (fun W hW => by obtain ⟨_, _, _, _, c0, cg, cu, li, lr⟩ := hW; go_simp) (G1.out) ?_
              simp only [Act.put, List.setIfInBounds_toArray, List.set_cons_zero, List.set_cons_succ]
              refine wpAnyHTake 6 (some 29) (.pointer (some ⟨bu, ou, none⟩)) rfl rfl (by kernel_rfl) (by kernel_rfl) (by kernel_rfl) (fun _ _ _ h => h) (by rfl) (fun _ _ => by go_simp) (G1.out) ?_
              simp only [Act.put, List.setIfInBounds_toArray, List.set_cons_zero, List.set_cons_succ]
              refine wpAnyHTake 7 (some 30) (.int .i64 (m : Int)) rfl rfl (by kernel_rfl) (by kernel_rfl) (by kernel_rfl) (fun _ _ _ h => h) (by rfl) (fun W hW => by obtain ⟨_, _, _, _, c0, cg, cu, li, lr⟩ := hW; go_simp) (G1.out) ?_
              simp only [Act.put, List.setIfInBounds_toArray, List.set_cons_zero, List.set_cons_succ]
              refine wpAnyHTake 8 (some 31) (.pointer (some ⟨br, or + m, none⟩)) rfl rfl (by kernel_rfl) (by kernel_rfl) (by kernel_rfl) (fun _ _ _ h => h) (by rfl) (fun _ _ => by go_simp) (G1.out) ?_
              simp only [Act.put, List.setIfInBounds_toArray, List.set_cons_zero, List.set_cons_succ]
              refine wpAnyHTake 9 (some 32) (.slice ai ri.length ci) rfl rfl (by kernel_rfl) (by kernel_rfl) (by kernel_rfl) (fun _ _ _ h => h) (by rfl) (fun W hW => by obtain ⟨_, _, _, _, c0, cg, cu, li, lr⟩ := hW; go_simp) (G1.out) ?_
              simp only [Act.put, List.setIfInBounds_toArray, List.set_cons_zero, List.set_cons_succ]
              refine wpAnyHTake 10 (some 33) (.pointer (some ⟨B, 0, none⟩)) rfl rfl (by kernel_rfl) (by kernel_rfl) (by kernel_rfl) (fun _ _ _ h => h) (by rfl) (fun _ _ => by go_simp) (G1.out) ?_
              simp only [Act.put, List.setIfInBounds_toArray, List.set_cons_zero, List.set_cons_succ]
              refine wpAnyHTake 11 (some 34) (.slice (some ⟨br, or, none⟩) T.rows.length ca) rfl rfl (by kernel_rfl) (by kernel_rfl) (by kernel_rfl) (fun _ _ _ h => h) (by rfl) (fun W hW => by obtain ⟨_, _, _, _, c0, cg, cu, li, lr⟩ := hW; go_simp) (G1.out) ?_
              simp only [Act.put, List.setIfInBounds_toArray, List.set_cons_zero, List.set_cons_succ]
              refine wpAnyHTake 12 (some 35) (.int .i64 (i : Int)) rfl rfl (by kernel_rfl) (by kernel_rfl) (by kernel_rfl) (fun _ _ _ h => h) (by rfl) (fun _ _ => by rfl) (G1.out) ?_
              simp only [Act.put, List.setIfInBounds_toArray, List.set_cons_zero, List.set_cons_succ]
              refine wpAnyHTake 13 (some 36) (.pointer (some ⟨br, or + i, none⟩)) rfl rfl (by kernel_rfl) (by kernel_rfl) (by kernel_rfl) (fun _ _ _ h => h) (by rfl) (fun _ _ => by go_simp) (G1.out) ?_
              simp only [Act.put, List.setIfInBounds_toArray, List.set_cons_zero, List.set_cons_succ]
              refine wpAnyHTake 14 (some 37) (.slice aw row.length cw) rfl rfl (by kernel_rfl) (by kernel_rfl) (by kernel_rfl) (fun _ _ _ h => h) (by rfl) (fun W hW => by obtain ⟨_, _, _, _, c0, cg, cu, li, lr⟩ := hW; go_simp) (G1.out) ?_
              simp only [Act.put, List.setIfInBounds_toArray, List.set_cons_zero, List.set_cons_succ]
              refine wpAnyHCall 15 (some 38) 20 #[.slice ai ri.length ci, .slice aw row.length cw] (by kernel_rfl) rfl rfl (by rfl) (by go_simp) (EQ) ?_
              rintro e w5 ⟨rfl, hb9⟩
              have G2 := Lib.hid hb9
              rw [HEQ.out]
              clear hb9
              refine ⟨_, rfl, ⟨Nat.lt_of_lt_of_le G1.out.1 G2.out.size, Nat.lt_of_lt_of_le G1.out.2.1 G2.out.size, Nat.lt_of_lt_of_le G1.out.2.2.1 G2.out.size, Nat.lt_of_lt_of_le G1.out.2.2.2.1 G2.out.size, (G2.out.cell (p := ⟨B, 0, none⟩) G1.out.1).trans G1.out.2.2.2.2.1, (G2.out.cell (p := ⟨gv, k, none⟩) G1.out.2.1).trans G1.out.2.2.2.2.2.1, (G2.out.cell (p := ⟨bu, ou, none⟩) G1.out.2.2.2.1).trans G1.out.2.2.2.2.2.2.1, (G2.out.cell (p := ⟨br, or + m, none⟩) G1.out.2.2.1).trans G1.out.2.2.2.2.2.2.2.1, (G2.out.cell (p := ⟨br, or + i, none⟩) G1.out.2.2.1).trans G1.out.2.2.2.2.2.2.2.2⟩, ?_⟩
              simp only [Act.put, List.setIfInBounds_toArray, List.set_cons_zero, List.set_cons_succ]
              refine wpAnyH_done (by kernel_rfl) ?_ _
              go_wp2_with fail
              go_roundw
              case rel => exact ⟨k + 1, by omega, by go_num, by rw [HLA.out]; rfl, hB1.out.trans ((Below.dn (Below.refl _ _) 1).trans (G2.out.mono hB1.out.size))⟩
              case measure => simp [intOf]; omega
            · go_wp2_with fail
              refine wp_region_held (S := fun W => B < W.heap.size ∧ gv < W.heap.size ∧ br < W.heap.size ∧ bu < W.heap.size ∧ W.cell? ⟨B, 0, none⟩ = some (.slice (some ⟨br, or, none⟩) T.rows.length ca) ∧ W.cell? ⟨gv, k, none⟩ = some (.slice (some ⟨bu, ou, none⟩) g.length cg) ∧ W.cell? ⟨bu, ou, none⟩ = some (.int .i64 (m : Int)) ∧ W.cell? ⟨br, or + m, none⟩ = some (.slice ai ri.length ci) ∧ W.cell? ⟨br, or + i, none⟩ = some (.slice aw row.length cw)) (by kernel_rfl) ?_
              have hdr : (w4).drew = { w4 with drawn := (w4).drawn + 1 } := rfl
              rw [← hdr]
              clear hdr
              have G1 := Lib.hid (show (fun W => B < W.heap.size ∧ gv < W.heap.size ∧ br < W.heap.size ∧ bu < W.heap.size ∧ W.cell? ⟨B, 0, none⟩ = some (.slice (some ⟨br, or, none⟩) T.rows.length ca) ∧ W.cell? ⟨gv, k, none⟩ = some (.slice (some ⟨bu, ou, none⟩) g.length cg) ∧ W.cell? ⟨bu, ou, none⟩ = some (.int .i64 (m : Int)) ∧ W.cell? ⟨br, or + m, none⟩ = some (.slice ai ri.length ci) ∧ W.cell? ⟨br, or + i, none⟩ = some (.slice aw row.length cw)) (w4.drewN 1) from ⟨hltB, hltv, hltr, hltu, c0, cg0, cu0, li, lr⟩)
              clear c0 cg0 cu0 li lr
              refine wpAnyHTake 0 (some 23) (.pointer (some ⟨B, 0, none⟩)) rfl rfl (by kernel_rfl) (by kernel_rfl) (by kernel_rfl) (fun _ _ _ h => h) (by rfl) (fun _ _ => by go_simp) (G1.out) ?_
              simp only [Act.put, List.setIfInBounds_toArray, List.set_cons_zero, List.set_cons_succ]
              refine wpAnyHTake 1 (some 24) (.slice (some ⟨br, or, none⟩) T.rows.length ca) rfl rfl (by kernel_rfl) (by kernel_rfl) (by kernel_rfl) (fun _ _ _ h => h) (by rfl) (fun W hW => by obtain ⟨_, _, _, _, c0, cg, cu, li, lr⟩ := hW; go_simp) (G1.out) ?_
              simp only [Act.put, List.setIfInBounds_toArray, List.set_cons_zero, List.set_cons_succ]
              refine wpAnyHTake 2 (some 25) (.slice (some ⟨gv, 0, none⟩) (groupsN T i).length cv) rfl rfl (by kernel_rfl) (by kernel_rfl) (by kernel_rfl) (fun _ _ _ h => h) (by rfl) (fun _ _ => by rfl) (G1.out) ?_
              simp only [Act.put, List.setIfInBounds_toArray, List.set_cons_zero, List.set_cons_succ]
              refine wpAnyHTake 3 (some 26) (.int .i64 (k : Int)) rfl rfl (by kernel_rfl) (by kernel_rfl) (by kernel_rfl) (fun _ _ _ h => h) (by rfl) (fun _ _ => by rfl) (G1.out) ?_
              simp only [Act.put, List.setIfInBounds_toArray, List.set_cons_zero, List.set_cons_succ]
              refine wpAnyHTake 4 (some 27) (.pointer (some ⟨gv, k, none⟩)) rfl rfl (by kernel_rfl) (by kernel_rfl) (by kernel_rfl) (fun _ _ _ h => h) (by rfl) (fun _ _ => by go_simp) (G1.out) ?_
              simp only [Act.put, List.setIfInBounds_toArray, List.set_cons_zero, List.set_cons_succ]
              refine wpAnyHTake 5 (some 28) (.slice (some ⟨bu, ou, none⟩) g.length cg) rfl rfl (by kernel_rfl) (by kernel_rfl) (by kernel_rfl) (fun _ _ _ h => h) (by rfl) (fun W hW => by obtain ⟨_, _, _, _, c0, cg, cu, li, lr⟩ := hW; go_simp) (G1.out) ?_
              simp only [Act.put, List.setIfInBounds_toArray, List.set_cons_zero, List.set_cons_succ]
              refine wpAnyHTake 6 (some 29) (.pointer (some ⟨bu, ou, none⟩)) rfl rfl (by kernel_rfl) (by kernel_rfl) (by kernel_rfl) (fun _ _ _ h => h) (by rfl) (fun _ _ => by go_simp) (G1.out) ?_
              simp only [Act.put, List.setIfInBounds_toArray, List.set_cons_zero, List.set_cons_succ]
              refine wpAnyHTake 7 (some 30) (.int .i64 (m : Int)) rfl rfl (by kernel_rfl) (by kernel_rfl) (by kernel_rfl) (fun _ _ _ h => h) (by rfl) (fun W hW => by obtain ⟨_, _, _, _, c0, cg, cu, li, lr⟩ := hW; go_simp) (G1.out) ?_
              simp only [Act.put, List.setIfInBounds_toArray, List.set_cons_zero, List.set_cons_succ]
              refine wpAnyHTake 8 (some 31) (.pointer (some ⟨br, or + m, none⟩)) rfl rfl (by kernel_rfl) (by kernel_rfl) (by kernel_rfl) (fun _ _ _ h => h) (by rfl) (fun _ _ => by go_simp) (G1.out) ?_
              simp only [Act.put, List.setIfInBounds_toArray, List.set_cons_zero, List.set_cons_succ]
              refine wpAnyHTake 9 (some 32) (.slice ai ri.length ci) rfl rfl (by kernel_rfl) (by kernel_rfl) (by kernel_rfl) (fun _ _ _ h => h) (by rfl) (fun W hW => by obtain ⟨_, _, _, _, c0, cg, cu, li, lr⟩ := hW; go_simp) (G1.out) ?_
              simp only [Act.put, List.setIfInBounds_toArray, List.set_cons_zero, List.set_cons_succ]
              refine wpAnyHTake 10 (some 33) (.pointer (some ⟨B, 0, none⟩)) rfl rfl (by kernel_rfl) (by kernel_rfl) (by kernel_rfl) (fun _ _ _ h => h) (by rfl) (fun _ _ => by go_simp) (G1.out) ?_
              simp only [Act.put, List.setIfInBounds_toArray, List.set_cons_zero, List.set_cons_succ]
              refine wpAnyHTake 11 (some 34) (.slice (some ⟨br, or, none⟩) T.rows.length ca) rfl rfl (by kernel_rfl) (by kernel_rfl) (by kernel_rfl) (fun _ _ _ h => h) (by rfl) (fun W hW => by obtain ⟨_, _, _, _, c0, cg, cu, li, lr⟩ := hW; go_simp) (G1.out) ?_
              simp only [Act.put, List.setIfInBounds_toArray, List.set_cons_zero, List.set_cons_succ]
              refine wpAnyHTake 12 (some 35) (.int .i64 (i : Int)) rfl rfl (by kernel_rfl) (by kernel_rfl) (by kernel_rfl) (fun _ _ _ h => h) (by rfl) (fun _ _ => by rfl) (G1.out) ?_
              simp only [Act.put, List.setIfInBounds_toArray, List.set_cons_zero, List.set_cons_succ]
              refine wpAnyHTake 13 (some 36) (.pointer (some ⟨br, or + i, none⟩)) rfl rfl (by kernel_rfl) (by kernel_rfl) (by kernel_rfl) (fun _ _ _ h => h) (by rfl) (fun _ _ => by go_simp) (G1.out) ?_
              simp only [Act.put, List.setIfInBounds_toArray, List.set_cons_zero, List.set_cons_succ]
              refine wpAnyHTake 14 (some 37) (.slice aw row.length cw) rfl rfl (by kernel_rfl) (by kernel_rfl) (by kernel_rfl) (fun _ _ _ h => h) (by rfl) (fun W hW => by obtain ⟨_, _, _, _, c0, cg, cu, li, lr⟩ := hW; go_simp) (G1.out) ?_
              simp only [Act.put, List.setIfInBounds_toArray, List.set_cons_zero, List.set_cons_succ]
              refine wpAnyHCall 15 (some 38) 20 #[.slice ai ri.length ci, .slice aw row.length cw] (by kernel_rfl) rfl rfl (by rfl) (by go_simp) (EQ) ?_
              rintro e w5 ⟨rfl, hb9⟩
              have G2 := Lib.hid hb9
              rw [HEQ.out]
              clear hb9
              refine ⟨_, rfl, ⟨Nat.lt_of_lt_of_le G1.out.1 G2.out.size, Nat.lt_of_lt_of_le G1.out.2.1 G2.out.size, Nat.lt_of_lt_of_le G1.out.2.2.1 G2.out.size, Nat.lt_of_lt_of_le G1.out.2.2.2.1 G2.out.size, (G2.out.cell (p := ⟨B, 0, none⟩) G1.out.1).trans G1.out.2.2.2.2.1, (G2.out.cell (p := ⟨gv, k, none⟩) G1.out.2.1).trans G1.out.2.2.2.2.2.1, (G2.out.cell (p := ⟨bu, ou, none⟩) G1.out.2.2.2.1).trans G1.out.2.2.2.2.2.2.1, (G2.out.cell (p := ⟨br, or + m, none⟩) G1.out.2.2.1).trans G1.out.2.2.2.2.2.2.2.1, (G2.out.cell (p := ⟨br, or + i, none⟩) G1.out.2.2.1).trans G1.out.2.2.2.2.2.2.2.2⟩, ?_⟩
              simp only [Act.put, List.setIfInBounds_toArray, List.set_cons_zero, List.set_cons_succ]
              refine wpAnyH_done (by kernel_rfl) ?_ _
              go_wp2_with fail
              go_roundw
              case rel => exact ⟨k + 1, by omega, by go_num, by rw [HLA.out]; rfl, hB1.out.trans ((Below.dn (Below.refl _ _) 1).trans (G2.out.mono hB1.out.size))⟩
              case measure => simp [intOf]; omega
          · obtain rfl : k = (groupsN T i).length := by omega
            have hk1 : ¬ ((groupsN T i).length : Int) < ((groupsN T i).length : Int) := by omega
            have hst := HST.out
            rw [List.take_length]
            obtain ⟨ki, hki⟩ : ∃ ki, idxOf (grpP T row) (groupsN T i) = ki := ⟨_, rfl⟩
            rw [hki] at hst ⊢
            have HKI := Lib.hid hki
            have HST := Lib.hid hst
            have HO3 := Lib.hid (HO.out.below hb1)
            have HBL3 := Lib.hid HBW.out
            have hs3 : N ≤ w4.heap.size := bsz HBL3.out (Nat.le_of_eq hN.symm)
            clear hki hst hb1 HO HBL HBW hbt
            rename World => w3
            by_cases hneg : ki < 0
            · go_wp2_with (at_builtin; first | (refine wpList_append_lies _ rfl _ _ _ rfl N 22 j0 _ 1 24 Try.underlying23 HJ.out HY0.out HY1.out HY2.out rfl (by omega) (.slice av (groupsN T i).length cv) (groupsN T i).length us rfl ((HO3.out.out.alloc _).alloc _) ⟨w3.heap.size + 1, 0, none⟩ 1 1 [.slice (some ⟨w3.heap.size, 0, none⟩) 1 1] rfl rfl (by have := cell_one_new (w3.alloc (.cells #[.int .i64 (i : Int)] 3)) 22 (.slice (some ⟨w3.heap.size, 0, none⟩) 1 1); rwa [World.size_alloc] at this) (by simp [Value.oneCell']) (by omega) (by unfold maxLen; omega) (by omega) (by simp; omega) (w3.heap.size + 2) (by simp) ?_; intro gg cap w4 hown1 hgrow hat hltg))
              have hbx := Boxs.new w3 3 #[.int .i64 (i : Int)]
              have hbl2 := alloc_below (w3.alloc (.cells #[.int .i64 (i : Int)] 3)) (.cells #[.slice (some ⟨w3.heap.size, 0, none⟩) 1 1] 22)
              have HP := ((HO3.out.below (alloc_below w3 (.cells #[.int .i64 (i : Int)] 3))).below hbl2).push (r := [(i : Int)]) (owns_below (owns_block (base := N) (size := 1) (n := 1) hbx hs3 rfl rfl (by omega)) hbl2) (fun k u' b h1 h2 h3 => by
                have h4 : w3.heap.size = b := by simpa [Value.ownBlock] using h3
                obtain ⟨r1, hr1⟩ := elem_at (show k < (groupsN T i).length by have := (List.getElem?_eq_some_iff.1 h1).1; rw [HO3.out.len] at this; exact this)
                have := ((HO3.out.inn k u' r1 h1 hr1).lt b h2).2
                omega) hown1 hgrow
              have HB4 := ((HBL3.out.alloc hs3 (.cells #[.int .i64 (i : Int)] 3)).alloc (by simp; omega) (.cells #[.slice (some ⟨w3.heap.size, 0, none⟩) 1 1] 22)).grown hgrow (by simp; omega) (fun j e => (HO3.out.out.lt j e).1)
              have hst := HST.out
              rw [if_pos hneg] at hst
              have HPP := Lib.hid HP; have HBB := Lib.hid HB4; have HSE := Lib.hid hst
              clear hst HP HB4 hbx hbl2 hown1 hgrow
              go_roundw
              case rel => exact ⟨i + 1, _, by omega, by go_num, by rw [← HSE.out]; exact HPP.out, HBB.out⟩
              case measure => simp [intOf]; omega
            · obtain ⟨k, g, hke, hg, hp, _⟩ := idxOf_pos (show 0 ≤ idxOf (grpP T row) (groupsN T i) by rw [HKI.out]; omega)
              rw [HKI.out] at hke
              subst hke
              have hkl := (List.getElem?_eq_some_iff.1 hg).1
              have hst := HST.out
              rw [if_neg (by omega), Int.toNat_natCast, hg, Option.getD_some] at hst
              obtain ⟨u, hu, hou⟩ := HO3.out.row hg
              have hgl2 : g.length ≤ i := HGO.out.glen g (List.mem_of_getElem? hg)
              obtain ⟨au2, cu2, rfl⟩ := owns_form hou
              obtain ⟨gv, cv', hv⟩ := ownsRow_some HO3.out.out (show 0 < (groupsN T i).length by omega)
              cases hv
              have hc1 := HO3.out.out.cellAt k (by omega)
              rw [hu] at hc1
              have hf1 := HO3.out.out.frozenAt k
              have hl1 := (HO3.out.out.lt gv rfl).2
              have hk1 : (k : Int) < ((groupsN T i).length : Int) := by omega
              have hk0 : (0 : Int) ≤ (k : Int) := Int.natCast_nonneg _
              have hdis : (Value.slice au2 g.length cu2).ownBlock ≠ some gv := fun e => owns_type hou HO3.out.out (by decide) e rfl
              have HOU := Lib.hid hou; have HUS := Lib.hid hu; have HG := Lib.hid hg; have HSE := Lib.hid hst
              clear hst hg hp hou hu
              go_wp2_with (at_builtin; first | (refine wpList_append_lies _ rfl _ _ _ rfl N 3 i0 _ 1 8 Try.underlying22 HI.out HZ0.out HZ1.out HZ2.out rfl (by omega) (.slice au2 g.length cu2) g.length (ints g) rfl (HOU.out.alloc _) ⟨w3.heap.size, 0, none⟩ 1 1 [.int .i64 (i : Int)] rfl rfl (cell_one_new _ _ _) (by simp [Value.oneCell']) (by omega) (by unfold maxLen; omega) (by omega) (by simp; omega) (w3.heap.size + 1) (by simp) ?_; intro g2 cap2 w5 hown2 hgrow2 hat2 hltg2; have hc2 := (hgrow2.cell_far (a := ⟨gv, k, none⟩) (by simp; omega) (Ne.symm hdis)).trans (((alloc_below w3 (.cells #[.int .i64 (i : Int)] 3)).cell (p := ⟨gv, k, none⟩) hl1).trans hc1); have hf2 := (hgrow2.frozen_far (a := ⟨gv, k, none⟩) (by simp; omega) (Ne.symm hdis)).trans (((alloc_below w3 (.cells #[.int .i64 (i : Int)] 3)).frozen (p := ⟨gv, k, none⟩) hl1).trans hf1)))
              have HI5 := Lib.hid ((HO3.out.below (alloc_below w3 (.cells #[.int .i64 (i : Int)] 3))).inner (k := k) (r' := g ++ [(i : Int)]) (H := w3.heap.size + 1) HUS.out HG.out (by rw [List.length_append, ints_app]; exact hown2) hgrow2 (by rcases hat2 with h | h; exact .inl h.symm; exact .inr (by rw [h]; rfl)) (by simp))
              have HB5 := Lib.hid (((HBL3.out.alloc hs3 (.cells #[.int .i64 (i : Int)] 3)).grown hgrow2 (by simp; omega) (fun j e => (HOU.out.lt j e).1)).setCell (p := ⟨gv, k, none⟩) ((HO3.out.out.lt gv rfl).1) (.slice (some ⟨g2, 0, none⟩) (g.length + 1) cap2))
              clear hown2 hgrow2 hat2
              go_roundw
              case rel => exact ⟨i + 1, _, by omega, by go_num, by rw [← HSE.out]; exact HI5.out, HB5.out⟩
              case measure => simp [intOf]; omega
      · obtain rfl : i = T.rows.length := by omega
        have hi1 : ¬ (T.rows.length : Int) < (T.rows.length : Int) := by omega
        have hgr : groups T = groupsN T T.rows.length := by unfold groups; rw [if_pos HX.out]
        have HGR := Lib.hid hgr
        clear hgr
        have c0 := (HBK.out _ HBL.out).c0
        go_wp2_with fail
        go_ret
        rw [← hB]
        exact ⟨⟨_, us, rfl, by rw [HGR.out]; exact HO.out.le hwN⟩, HBX.out.trans (HBL.out.mono hwN)⟩
  · have hv' : (x != 0) = true := by simpa using hv
    have hgr : groups T = [] := by unfold groups; rw [if_neg (by rw [HX.out]; exact hv)]
    have HGR := Lib.hid hgr
    clear hgr
    go_wp2_with fail
    go_ret
    first
    | exact ⟨⟨_, [], rfl, by rw [HGR.out]; exact OwnRR.nil _ _⟩, HBX.out.trans (HB2.out.mono hwN)⟩
    | (rw [← hB]; exact ⟨⟨_, [], rfl, by rw [HGR.out]; exact OwnRR.nil _ _⟩, HBX.out.trans (HB2.out.mono hwN)⟩)
end Go.Proofs.Ytmkkegigajmhkaa

namespace Go.Proofs.Ytmkkegigajmhkaa
open Go.RowKit Go.Maps

section
variable {P : Program} {ops : Array Oper} {Q : Exit → Act → World → Prop} {md : Region.Mode}
theorem getD_set_ne {l : Array Bool} {i j : Nat} {d : Bool} (h : i ≠ j) : (l.setIfInBounds i true).getD j d = l.getD j d := by
  simp only [Array.getD_eq_getD_getElem?]
  rw [Array.getElem?_setIfInBounds_ne h]
theorem getD_set_self {l : Array Bool} {i : Nat} {d : Bool} (h : i < l.size) : (l.setIfInBounds i true).getD i d = true := by
  simp only [Array.getD_eq_getD_getElem?]
  rw [Array.getElem?_setIfInBounds_self_of_lt h]; rfl
/-- how many operations have not come up -/
def unl (n : Nat) (l : Array Bool) : Nat := ((List.range n).filter fun i => !l.getD i true).length
theorem unl_step {n : Nat} {l : Array Bool} {i : Nat} (hi : i < n) (hn : l.size = n) (hl : l.getD i true = false) : unl n (l.setIfInBounds i true) < unl n l := by
  unfold unl
  have hsub : ((List.range n).filter fun j => !(l.setIfInBounds i true).getD j true) = ((List.range n).filter fun j => !l.getD j true).filter (fun j => decide (j ≠ i)) := by
    rw [List.filter_filter]
    refine List.filter_congr fun j _ => ?_
    by_cases h : i = j
    · subst h; rw [getD_set_self (by omega)]; simp
    · rw [getD_set_ne h]; simp [show j ≠ i by omega]
  rw [hsub]
  refine List.length_filter_lt_length_iff_exists.2 ⟨i, ?_, by simp⟩
  rw [List.mem_filter]
  exact ⟨List.mem_range.2 hi, by simp [hl]⟩
/-- all edges of a region go backwards -/
def backB (ops : Array Oper) : Bool := (List.range ops.size).all fun i => match ops[i]? with | some o => o.after.all fun e => decide (e.on < i) | none => true
theorem wpAnyH_inv {S : World → Prop} (I : Array Bool → Act → World → Prop) (hback : backB ops = true) (hsz : ∀ l a w, I l a w → l.size = ops.size ∧ S w)
    (hstep : ∀ l a w i o, I l a w → ops[i]? = some o → l.getD i true = false → (∀ e, e ∈ o.after → Region.binds md e = true → l.getD e.on false = true) → wpOp P ops Q i (fun a' w' => I (l.setIfInBounds i true) a' w') a w)
    (hend : ∀ l a w, I l a w → (∀ i, i < ops.size → l.getD i true = true) → Q .normal a w) :
    ∀ (fuel : Nat) (l : Array Bool) (a : Act) (w : World), unl ops.size l ≤ fuel → I l a w → wpAnyH P md ops Q S fuel l a w := by
  have hdone : ∀ l a w, I l a w → Region.ready md ops l = [] → Q .normal a w := fun l a w hI hr => by
    refine hend l a w hI fun i => ?_
    induction i using Nat.strongRecOn with
    | ind i ih =>
      intro hi
      cases hl : l.getD i true with
      | true => rfl
      | false =>
        exfalso
        have hoi : ops[i]? = some ops[i] := Array.getElem?_eq_getElem hi
        have hb := List.all_eq_true.1 hback i (List.mem_range.2 hi)
        rw [hoi] at hb
        have : i ∈ Region.ready md ops l := by
          unfold Region.ready
          rw [List.mem_filter]
          refine ⟨List.mem_range.2 hi, ?_⟩
          rw [hl, hoi]
          simp only [Bool.not_false, Option.map_some, Option.getD_some, Bool.true_and, Array.all_eq_true_iff_forall_mem]
          intro e he
          have h1 := Array.all_eq_true_iff_forall_mem.1 hb e he
          have h2 : e.on < i := of_decide_eq_true h1
          have h3 := ih e.on h2 (by omega)
          have hls := (hsz l a w hI).1
          have : l.getD e.on false = true := by
            simp only [Array.getD_eq_getD_getElem?] at h3 ⊢
            rw [Array.getElem?_eq_getElem (by omega)] at h3 ⊢
            exact h3
          rw [this]; simp
        rw [hr] at this
        cases this
  intro fuel
  induction fuel with
  | zero =>
    intro l a w hf hI
    have hr : Region.ready md ops l = [] := by
      rw [List.eq_nil_iff_forall_not_mem]
      intro i hi
      unfold Region.ready at hi
      rw [List.mem_filter] at hi
      have h1 : unl ops.size l = 0 := by omega
      unfold unl at h1
      have h2 := List.eq_nil_of_length_eq_zero h1
      have h3 : i ∈ ((List.range ops.size).filter fun i => !l.getD i true) := by
        rw [List.mem_filter]
        refine ⟨hi.1, ?_⟩
        have := hi.2
        simp only [Bool.and_eq_true] at this
        exact this.1
      rw [h2] at h3
      cases h3
    exact ⟨hr, hdone l a w hI hr⟩
  | succ fuel ih =>
    intro l a w hf hI
    refine ⟨hdone l a w hI, fun i hi => ?_⟩
    unfold Region.ready at hi
    rw [List.mem_filter] at hi
    obtain ⟨h1, h2⟩ := hi
    have hi := List.mem_range.1 h1
    have hoi : ops[i]? = some ops[i] := Array.getElem?_eq_getElem hi
    rw [hoi] at h2
    simp only [Bool.and_eq_true, Bool.not_eq_true', Option.map_some, Option.getD_some, Array.all_eq_true_iff_forall_mem, Bool.or_eq_true] at h2
    have hls := (hsz l a w hI).1
    refine wpOp_mono (fun a' w' h' => ?_) (hstep l a w i _ hI hoi h2.1 fun e he hb => ?_)
    · have := unl_step hi hls h2.1
      exact ⟨(hsz _ _ _ h').2, ih _ _ _ (by omega) h'⟩
    · rcases h2.2 e he with h | h
      · rw [hb] at h; cases h
      · exact h
end

/-- int rows that the call owns, no two in one block -/
structure OwnRs (base : Nat) (W : World) (us : List Value) (rows : List (List Int)) : Prop where
  len : us.length = rows.length
  inn : ∀ (k : Nat) (u : Value) (r : List Int), us[k]? = some u → rows[k]? = some r → W.ownsRow base 3 1 u r.length (ints r)
  dis : ∀ (j k : Nat) (u u' : Value) (b : Nat), us[j]? = some u → us[k]? = some u' → u.ownBlock = some b → u'.ownBlock = some b → j = k
theorem OwnRs.below {base : Nat} {W W' : World} {us : List Value} {rows : List (List Int)} (h : OwnRs base W us rows) (hb : Below W.heap.size W W') : OwnRs base W' us rows :=
  ⟨h.len, fun k u r hu hr => owns_below (h.inn k u r hu hr) hb, h.dis⟩
theorem OwnRs.row {base : Nat} {W : World} {us : List Value} {rows : List (List Int)} (h : OwnRs base W us rows) {k : Nat} {r : List Int} (hr : rows[k]? = some r) : ∃ u, us[k]? = some u ∧ W.ownsRow base 3 1 u r.length (ints r) := by
  have hk := (List.getElem?_eq_some_iff.1 hr).1
  obtain ⟨u, hu⟩ := elem_at (show k < us.length by rw [h.len]; exact hk)
  exact ⟨u, hu, h.inn k u r hu hr⟩
theorem OwnRs.nils (base : Nat) (W : World) (n : Nat) : OwnRs base W (List.replicate n (.slice none 0 0)) (List.replicate n []) := by
  refine ⟨by simp, fun k u r hu hr => ?_, fun j k u u' b hu hu' hb hb' => ?_⟩
  · obtain ⟨_, rfl⟩ := List.mem_replicate.1 (List.mem_of_getElem? hu)
    obtain ⟨_, rfl⟩ := List.mem_replicate.1 (List.mem_of_getElem? hr)
    exact World.ownsRow_nil _ _ _ _
  · obtain ⟨_, rfl⟩ := List.mem_replicate.1 (List.mem_of_getElem? hu)
    cases hb
/-- the k-th row becomes another one: in its own block, or in a new one -/
theorem OwnRs.set {base : Nat} {W W' : World} {k H : Nat} {u u' : Value} {us : List Value} {rows : List (List Int)} {r' : List Int} (h : OwnRs base W us rows)
    (hu : us[k]? = some u) (hown : W'.ownsRow base 3 1 u' r'.length (ints r')) (hg : W.grownBy W' u.ownBlock) (hat : u'.ownBlock = u.ownBlock ∨ u'.ownBlock = some H) (hH : W.heap.size ≤ H) :
    OwnRs base W' (us.set k u') (rows.set k r') := by
  have hkl := (List.getElem?_eq_some_iff.1 hu).1
  have hl := h.len
  refine ⟨by simp [hl], fun j u1 r1 h1 hr1 => ?_, fun i j u1 u2 b h1 h2 hb1 hb2 => ?_⟩
  · by_cases hj : j = k
    · subst hj
      rw [List.getElem?_set_self (by omega)] at h1 hr1
      cases h1; cases hr1
      exact hown
    · rw [List.getElem?_set_ne (by omega)] at h1 hr1
      have h0 := h.inn j u1 r1 h1 hr1
      exact owns_grown h0 hg fun b hb e => hj (h.dis j k u1 u b h1 hu hb e)
  · have key : ∀ (j : Nat) (u1 : Value) (b : Nat), j ≠ k → us[j]? = some u1 → u1.ownBlock = some b → u'.ownBlock ≠ some b := fun j u1 b hj h1 hb e => by
      rcases hat with ha | ha
      · rw [ha] at e; exact hj (h.dis j k u1 u b h1 hu hb e)
      · rw [ha] at e
        have hb' : H = b := by simpa using e
        obtain ⟨r1, hr1⟩ := elem_at (show j < rows.length by have := (List.getElem?_eq_some_iff.1 h1).1; omega)
        have := ((h.inn j u1 r1 h1 hr1).lt b hb).2
        omega
    by_cases hi : i = k
    · subst hi
      rw [List.getElem?_set_self (by omega)] at h1
      cases h1
      by_cases hj : j = i
      · exact hj.symm
      · rw [List.getElem?_set_ne (by omega)] at h2
        exact absurd hb1 (key j u2 b hj h2 hb2)
    · rw [List.getElem?_set_ne (by omega)] at h1
      by_cases hj : j = k
      · subst hj
        rw [List.getElem?_set_self (by omega)] at h2
        cases h2
        exact absurd hb2 (key i u1 b hi h1 hb1)
      · rw [List.getElem?_set_ne (by omega)] at h2
        exact h.dis i j u1 u2 b h1 h2 hb1 hb2
theorem OwnRs.put {base : Nat} {W : World} {g n c k j : Nat} {us : List Value} {rows : List (List Int)} {r : List Int} (h : OwnRs base W us rows)
    (hu : us[k]? = some (.slice (some ⟨g, 0, none⟩) n c)) (hr : rows[k]? = some r) (x : Int) :
    OwnRs base (W.setCell ⟨g, j, none⟩ (.int .i64 x)) us (rows.set k (r.set j x)) := by
  have hkl := (List.getElem?_eq_some_iff.1 hu).1
  have hl := h.len
  have hou := h.inn k _ r hu hr
  have hn : n = r.length := by
    rcases hou.2 with ⟨e, _⟩ | ⟨_, _, _, e, _⟩
    · cases e
    · cases e; rfl
  subst hn
  refine ⟨by rw [List.length_set]; exact hl, fun i u1 r1 h1 hr1 => ?_, h.dis⟩
  by_cases hi : i = k
  · subst hi
    rw [hu] at h1; cases h1
    rw [List.getElem?_set_self (by omega)] at hr1
    cases hr1
    have := hou.stored j (.int .i64 x)
    have e : ints (r.set j x) = (ints r).set j (.int .i64 x) := by unfold ints; rw [List.map_set]
    rw [e, List.length_set]; exact this.1
  · rw [List.getElem?_set_ne (by omega)] at hr1
    exact ownsRow_setCell_other (a := ⟨g, j, none⟩) (h.inn i u1 r1 h1 hr1) (fun e => hi (h.dis i k u1 _ g h1 hu e rfl)) _
/-- memory that is not of these rows changes -/
theorem OwnRs.other {base : Nat} {W W' : World} {row : Option Nat} {us : List Value} {rows : List (List Int)} (h : OwnRs base W us rows) (hg : W.grownBy W' row)
    (h2 : ∀ (k : Nat) (u : Value) (b : Nat), us[k]? = some u → u.ownBlock = some b → row ≠ some b) : OwnRs base W' us rows :=
  ⟨h.len, fun k u r hu hr => owns_grown (h.inn k u r hu hr) hg (fun b hb => h2 k u b hu hb), h.dis⟩
theorem OwnRs.snoc {base : Nat} {W : World} {u : Value} {us : List Value} {rows : List (List Int)} {r : List Int} (h : OwnRs base W us rows) (hu : W.ownsRow base 3 1 u r.length (ints r))
    (hd : ∀ (k : Nat) (u' : Value) (b : Nat), us[k]? = some u' → u'.ownBlock = some b → u.ownBlock ≠ some b) : OwnRs base W (us ++ [u]) (rows ++ [r]) := by
  have hl := h.len
  refine ⟨by simp [hl], fun k u' r' hu' hr' => ?_, fun j k u1 u2 b h1 h2 hb1 hb2 => ?_⟩
  · by_cases hk : k < us.length
    · rw [List.getElem?_append_left hk] at hu'
      rw [List.getElem?_append_left (by omega)] at hr'
      exact h.inn k u' r' hu' hr'
    · rw [List.getElem?_append_right (by omega)] at hu' hr'
      have hk2 : k - us.length = 0 := by have := (List.getElem?_eq_some_iff.1 hu').1; simp at this; omega
      have hk3 : k - rows.length = 0 := by omega
      rw [hk2] at hu'; rw [hk3] at hr'
      simp at hu' hr'
      subst hu' hr'
      exact hu
  · by_cases hj : j < us.length
    · rw [List.getElem?_append_left hj] at h1
      by_cases hk : k < us.length
      · rw [List.getElem?_append_left hk] at h2
        exact h.dis j k u1 u2 b h1 h2 hb1 hb2
      · rw [List.getElem?_append_right (by omega)] at h2
        have hk2 : k - us.length = 0 := by have := (List.getElem?_eq_some_iff.1 h2).1; simp at this; omega
        rw [hk2] at h2; simp at h2; subst h2
        exact absurd hb2 (hd j u1 b h1 hb1)
    · rw [List.getElem?_append_right (by omega)] at h1
      have hj2 : j - us.length = 0 := by have := (List.getElem?_eq_some_iff.1 h1).1; simp at this; omega
      rw [hj2] at h1; simp at h1; subst h1
      by_cases hk : k < us.length
      · rw [List.getElem?_append_left hk] at h2
        exact absurd hb1 (hd k u2 b h2 hb2)
      · rw [List.getElem?_append_right (by omega)] at h2
        have hk2 : k - us.length = 0 := by have := (List.getElem?_eq_some_iff.1 h2).1; simp at this; omega
        omega
theorem OwnRs.tail {base : Nat} {W : World} {u : Value} {us : List Value} {rows : List (List Int)} {r : List Int} (h : OwnRs base W (u :: us) (r :: rows)) : OwnRs base W us rows :=
  ⟨by have := h.len; simp at this; exact this, fun k u' r' hu' hr' => h.inn (k + 1) u' r' (by simpa using hu') (by simpa using hr'), fun j k u1 u2 b h1 h2 hb1 hb2 => by
    have := h.dis (j + 1) (k + 1) u1 u2 b (by simpa using h1) (by simpa using h2) hb1 hb2; omega⟩
theorem OwnRs.le {base base' : Nat} {W : World} {us : List Value} {rows : List (List Int)} (h : OwnRs base W us rows) (hb : base' ≤ base) : OwnRs base' W us rows :=
  ⟨h.len, fun k u r hu hr => owns_lower (h.inn k u r hu hr) hb, h.dis⟩
theorem OwnRs.rr {base : Nat} {W : World} {v : Value} {us : List Value} {rows : List (List Int)} (h : OwnRs base W us rows) (ho : W.ownsRow base 22 1 v rows.length us) : OwnRR base W v us rows := ⟨ho, h.inn, h.dis⟩
theorem OwnRR.rs {base : Nat} {W : World} {v : Value} {us : List Value} {rows : List (List Int)} (h : OwnRR base W v us rows) : OwnRs base W us rows := ⟨h.len, h.inn, h.dis⟩
/-- a table that the call owns -/
structure OwnT (base : Nat) (W : World) (va vc vk : Value) (us : List Value) (T : Tb) : Prop where
  out : W.ownsRow base 22 1 va T.rows.length us
  rs : OwnRs base W (vc :: vk :: us) (T.costs :: T.cls :: T.rows)
theorem OwnT.below {base : Nat} {W W' : World} {va vc vk : Value} {us : List Value} {T : Tb} (h : OwnT base W va vc vk us T) (hb : Below W.heap.size W W') : OwnT base W' va vc vk us T := ⟨owns_below h.out hb, h.rs.below hb⟩
theorem OwnT.le {base base' : Nat} {W : World} {va vc vk : Value} {us : List Value} {T : Tb} (h : OwnT base W va vc vk us T) (hb : base' ≤ base) : OwnT base' W va vc vk us T := ⟨owns_lower h.out hb, h.rs.le hb⟩
theorem OwnT.tb {base : Nat} {W : World} {va vc vk : Value} {us : List Value} {T : Tb} (h : OwnT base W va vc vk us T) : TbR W va vc vk T :=
  ⟨(h.rs.tail.tail.rr h.out).rd, owns_ints (h.rs.inn 0 vc T.costs rfl rfl), owns_ints (h.rs.inn 1 vk T.cls rfl rfl)⟩
end Go.Proofs.Ytmkkegigajmhkaa

namespace Go.Proofs.Ytmkkegigajmhkaa
open Go.RowKit Go.Maps

theorem run_append_zero {P : Program} {w : World} {base : Nat} (t ty e : TypeId) (i : TypeInfo) (ht : P.underlying t = some (.slice e)) (hi : P.info? e = some i) (size : Nat) (v : Value) (n : Nat) (xs : List Value) (hown : w.ownsRow base e size v n xs) (a : Option Addr) (c : Nat) :
    (Builtin.append_ #[t, t] ty #[v, .slice a 0 c]).run P w = .ok v w := by
  rcases hown.2 with ⟨rfl, rfl⟩ | ⟨g, cap, cur, rfl, _, _, hn, hc, _⟩
  · cases a <;> simp [Builtin.append_, run_underlying ht, sizeOf, typeInfo, hi, Builtin.lenOf, Builtin.firstCells, loadCells, loadCellsFrom]
  · have h63 : ¬ maxLen < n := by omega
    cases a <;> simp [Builtin.append_, run_underlying ht, sizeOf, typeInfo, hi, Builtin.lenOf, Builtin.firstCells, loadCells, loadCellsFrom, storeCells, hn]
/-- what append leaves -/
def AppOut (base : Nat) (e : TypeId) (w : World) (v : Value) (n : Nat) (zs : List Value) (v' : Value) (w' : World) : Prop :=
  w'.ownsRow base e 1 v' n zs ∧ w.grownBy w' v.ownBlock ∧ (v'.ownBlock = v.ownBlock ∨ v'.ownBlock = some w.heap.size)
theorem run_append_rd {P : Program} {w : World} {base : Nat} (t ty e : TypeId) (i : TypeInfo) (z : Value) (bytes : Nat) (ht : P.underlying t = some (.slice e)) (hi : P.info? e = some i) (hz : i.zero = some z)
    (hsize : i.size = 1) (hby : i.bytes = bytes) (hzs : z.cells.size = 1) (hb24 : bytes ≤ 32) (v : Value) (n : Nat) (xs : List Value) (hown : w.ownsRow base e 1 v n xs) (vx : Value) (ys : List Value) (hrd : Rd w vx ys) (h1 : ∀ u ∈ ys, u.oneCell' = true)
    (hlen : n + ys.length ≤ 1000000) (hbase : base ≤ w.heap.size) :
    ∃ v' w', (Builtin.append_ #[t, t] ty #[v, vx]).run P w = .ok v' w' ∧ AppOut base e w v (n + ys.length) (xs ++ ys) v' w' := by
  obtain ⟨a, cap, rfl, hc1, hc2, hr⟩ := hrd
  by_cases h0 : ys.length = 0
  · have hy : ys = [] := List.length_eq_zero_iff.1 h0
    subst hy
    exact ⟨v, w, run_append_zero t ty e i ht hi 1 v n xs hown a cap, by simpa using hown, World.grownBy.refl _ _, .inl rfl⟩
  · rcases hr with hr | ⟨b, off, rfl, hb, hcell⟩
    · exact absurd hr h0
    · obtain ⟨v', w', h2, h3, h4, _, h5⟩ := run_append_own_at (P := P) w base t ty e i z 1 bytes ht hi hz hsize hby hzs (by omega) v n xs hown ⟨b, off, none⟩ ys.length cap ys (by omega)
        (fun j u hu => by rw [show (⟨b, off, none⟩ : Addr).add j = ⟨b, off + j, none⟩ by unfold Addr.add; split <;> simp_all]; exact hcell j u hu) h1 (by unfold maxLen; omega)
        (by have : (n + ys.length) * bytes ≤ 1000000 * 32 := Nat.mul_le_mul hlen hb24; omega) hbase
      exact ⟨v', w', h2, h3, h4, h5⟩
theorem exec_append_rd {w : World} {o : Oper} {a : Act} {base : Nat} (s x : Operand) (t e : TypeId) (i : TypeInfo) (z : Value) (bytes : Nat) (ho : o.op = .call { callee := .builtin .append, args := #[s, x], argTypes := #[t, t] })
    (ht : Try.prog.underlying t = some (.slice e)) (hi : Try.prog.info? e = some i) (hz : i.zero = some z) (hsize : i.size = 1) (hby : i.bytes = bytes) (hzs : z.cells.size = 1) (hb24 : bytes ≤ 32)
    (v : Value) (n : Nat) (xs : List Value) (hs : a.eval s = v) (hown : w.ownsRow base e 1 v n xs) (vx : Value) (ys : List Value) (hx : a.eval x = vx) (hrd : Rd w vx ys) (h1 : ∀ u ∈ ys, u.oneCell' = true)
    (hlen : n + ys.length ≤ 1000000) (hbase : base ≤ w.heap.size) :
    ∃ v' w', (execOp a.eval o).run Try.prog w = .ok (.value v') w' ∧ AppOut base e w v (n + ys.length) (xs ++ ys) v' w' := by
  obtain ⟨v', w', hr, h2⟩ := run_append_rd (P := Try.prog) t o.type e i z bytes ht hi hz hsize hby hzs hb24 v n xs hown vx ys hrd h1 hlen hbase
  refine ⟨v', w', ?_, h2⟩
  unfold execOp
  simp only [ho, resolve, invoke, builtin, Sem.run_bind, Sem.run_pure, Result.andThen_ok, List.map_toArray, List.map_cons, List.map_nil, hs, hx, hr]
theorem ints_one (ys : List Int) : ∀ u ∈ ints ys, u.oneCell' = true := by
  intro u hu
  obtain ⟨x, _, rfl⟩ := List.mem_map.1 hu
  rfl
/-- ints -/
theorem exec_appI {w : World} {o : Oper} {a : Act} {base : Nat} (s x : Operand) (ho : o.op = .call { callee := .builtin .append, args := #[s, x], argTypes := #[22, 22] })
    (v : Value) (xs : List Int) (hs : a.eval s = v) (hown : w.ownsRow base 3 1 v xs.length (ints xs)) (vx : Value) (ys : List Int) (hx : a.eval x = vx) (hrd : RdI w vx ys) (hlen : xs.length + ys.length ≤ 1000000) (hbase : base ≤ w.heap.size) :
    ∃ v' w', (execOp a.eval o).run Try.prog w = .ok (.value v') w' ∧ AppOut base 3 w v (xs ++ ys).length (ints (xs ++ ys)) v' w' := by
  obtain ⟨i0, hi0, hz0, hz1, hz2⟩ := info_parts Try.info3
  obtain ⟨v', w', h, h2⟩ := exec_append_rd (w := w) (o := o) (a := a) (base := base) s x 22 3 i0 _ 8 ho Try.underlying22 hi0 hz0 hz1 hz2 rfl (by omega) v xs.length (ints xs) hs hown vx (ints ys) hx hrd (ints_one ys) (by rw [ints_len]; omega) hbase
  rw [ints_len] at h2
  exact ⟨v', w', h, by rw [List.length_append, ints_app]; exact h2⟩
/-- rows -/
theorem exec_appR {w : World} {o : Oper} {a : Act} {base : Nat} (s x : Operand) (ho : o.op = .call { callee := .builtin .append, args := #[s, x], argTypes := #[23, 23] })
    (v : Value) (n : Nat) (us : List Value) (hs : a.eval s = v) (hown : w.ownsRow base 22 1 v n us) (vx : Value) (ys : List Value) (hx : a.eval x = vx) (hrd : Rd w vx ys) (h1 : ∀ u ∈ ys, u.oneCell' = true) (hlen : n + ys.length ≤ 1000000) (hbase : base ≤ w.heap.size) :
    ∃ v' w', (execOp a.eval o).run Try.prog w = .ok (.value v') w' ∧ AppOut base 22 w v (n + ys.length) (us ++ ys) v' w' := by
  obtain ⟨i0, hi0, hz0, hz1, hz2⟩ := info_parts Try.info22
  exact exec_append_rd (w := w) (o := o) (a := a) (base := base) s x 23 22 i0 _ 24 ho Try.underlying23 hi0 hz0 hz1 hz2 rfl (by omega) v n us hs hown vx ys hx hrd h1 hlen hbase
section
variable {ops : Array Oper} {rest : List Oper} {Q : Exit → Act → World → Prop} {w : World} {o : Oper} {a : Act} {base : Nat}
theorem wpList_run (hgd : o.guard = none) {v : Value} {w' : World} (h : (execOp a.eval o).run Try.prog w = .ok (.value v) w') (hk : wpList Try.prog ops Q rest (a.put o.dst v) w') : wpList Try.prog ops Q (o :: rest) a w := by
  refine wpList_plain hgd fun K hK => ?_
  unfold Oper.wp
  rw [h]
  exact hK _ _ hk
theorem wpList_appI (hgd : o.guard = none) (s x : Operand) (ho : o.op = .call { callee := .builtin .append, args := #[s, x], argTypes := #[22, 22] })
    (v : Value) (xs : List Int) (hs : a.eval s = v) (hown : w.ownsRow base 3 1 v xs.length (ints xs)) (vx : Value) (ys : List Int) (hx : a.eval x = vx) (hrd : RdI w vx ys) (hlen : xs.length + ys.length ≤ 1000000) (hbase : base ≤ w.heap.size)
    (hk : ∀ v' w', AppOut base 3 w v (xs ++ ys).length (ints (xs ++ ys)) v' w' → wpList Try.prog ops Q rest (a.put o.dst v') w') : wpList Try.prog ops Q (o :: rest) a w := by
  obtain ⟨v', w', h, h2⟩ := exec_appI (base := base) s x ho v xs hs hown vx ys hx hrd hlen hbase
  exact wpList_run hgd h (hk v' w' h2)
theorem wpList_appR (hgd : o.guard = none) (s x : Operand) (ho : o.op = .call { callee := .builtin .append, args := #[s, x], argTypes := #[23, 23] })
    (v : Value) (n : Nat) (us : List Value) (hs : a.eval s = v) (hown : w.ownsRow base 22 1 v n us) (vx : Value) (ys : List Value) (hx : a.eval x = vx) (hrd : Rd w vx ys) (h1 : ∀ u ∈ ys, u.oneCell' = true) (hlen : n + ys.length ≤ 1000000) (hbase : base ≤ w.heap.size)
    (hk : ∀ v' w', AppOut base 22 w v (n + ys.length) (us ++ ys) v' w' → wpList Try.prog ops Q rest (a.put o.dst v') w') : wpList Try.prog ops Q (o :: rest) a w := by
  obtain ⟨v', w', h, h2⟩ := exec_appR (base := base) s x ho v n us hs hown vx ys hx hrd h1 hlen hbase
  exact wpList_run hgd h (hk v' w' h2)
end
section
variable {md : Region.Mode} {ops : Array Oper} {Q : Exit → Act → World → Prop} {S : World → Prop} {fuel : Nat} {listed : Array Bool} {a : Act} {w : World} {o : Oper} {base : Nat}
theorem wpAnyHAppI (i : Nat) (d : Option Nat) (hr : Region.ready md ops listed = [i]) (hoi : ops[i]? = some o) (hd : o.dst = d) (hw : Region.wanted o (yielded ops a.tmps) = true) (s x : Operand) (ho : o.op = .call { callee := .builtin .append, args := #[s, x], argTypes := #[22, 22] })
    (v : Value) (xs : List Int) (hs : a.eval s = v) (hown : w.ownsRow base 3 1 v xs.length (ints xs)) (vx : Value) (ys : List Int) (hx : a.eval x = vx) (hrd : RdI w vx ys) (hlen : xs.length + ys.length ≤ 1000000) (hbase : base ≤ w.heap.size)
    (hk : ∀ v' w', AppOut base 3 w v (xs ++ ys).length (ints (xs ++ ys)) v' w' → S w' ∧ wpAnyH Try.prog md ops Q S fuel (listed.setIfInBounds i true) (a.put d v') w') : wpAnyH Try.prog md ops Q S (fuel + 1) listed a w := by
  obtain ⟨v', w', h, h2⟩ := exec_appI (base := base) s x ho v xs hs hown vx ys hx hrd hlen hbase
  exact wpAnyHOne i d hr hoi hd hw h (hk v' w' h2).1 (hk v' w' h2).2
theorem wpAnyHAppR (i : Nat) (d : Option Nat) (hr : Region.ready md ops listed = [i]) (hoi : ops[i]? = some o) (hd : o.dst = d) (hw : Region.wanted o (yielded ops a.tmps) = true) (s x : Operand) (ho : o.op = .call { callee := .builtin .append, args := #[s, x], argTypes := #[23, 23] })
    (v : Value) (n : Nat) (us : List Value) (hs : a.eval s = v) (hown : w.ownsRow base 22 1 v n us) (vx : Value) (ys : List Value) (hx : a.eval x = vx) (hrd : Rd w vx ys) (h1 : ∀ u ∈ ys, u.oneCell' = true) (hlen : n + ys.length ≤ 1000000) (hbase : base ≤ w.heap.size)
    (hk : ∀ v' w', AppOut base 22 w v (n + ys.length) (us ++ ys) v' w' → S w' ∧ wpAnyH Try.prog md ops Q S fuel (listed.setIfInBounds i true) (a.put d v') w') : wpAnyH Try.prog md ops Q S (fuel + 1) listed a w := by
  obtain ⟨v', w', h, h2⟩ := exec_appR (base := base) s x ho v n us hs hown vx ys hx hrd h1 hlen hbase
  exact wpAnyHOne i d hr hoi hd hw h (hk v' w' h2).1 (hk v' w' h2).2
end
section
variable {ops : Array Oper} {Q : Exit → Act → World → Prop} {K : Act → World → Prop} {a : Act} {w : World} {o : Oper} {base : Nat}
theorem wpOpAppI (i : Nat) (d : Option Nat) (hoi : ops[i]? = some o) (hd : o.dst = d) (hw : Region.wanted o (yielded ops a.tmps) = true) (s x : Operand) (ho : o.op = .call { callee := .builtin .append, args := #[s, x], argTypes := #[22, 22] })
    (v : Value) (xs : List Int) (hs : a.eval s = v) (hown : w.ownsRow base 3 1 v xs.length (ints xs)) (vx : Value) (ys : List Int) (hx : a.eval x = vx) (hrd : RdI w vx ys) (hlen : xs.length + ys.length ≤ 1000000) (hbase : base ≤ w.heap.size)
    (hk : ∀ v' w', AppOut base 3 w v (xs ++ ys).length (ints (xs ++ ys)) v' w' → K (a.put d v') w') : wpOp Try.prog ops Q i K a w := by
  obtain ⟨v', w', h, h2⟩ := exec_appI (base := base) s x ho v xs hs hown vx ys hx hrd hlen hbase
  exact wpOpRun' d hoi hd hw h (hk v' w' h2)
theorem wpOpAppR (i : Nat) (d : Option Nat) (hoi : ops[i]? = some o) (hd : o.dst = d) (hw : Region.wanted o (yielded ops a.tmps) = true) (s x : Operand) (ho : o.op = .call { callee := .builtin .append, args := #[s, x], argTypes := #[23, 23] })
    (v : Value) (n : Nat) (us : List Value) (hs : a.eval s = v) (hown : w.ownsRow base 22 1 v n us) (vx : Value) (ys : List Value) (hx : a.eval x = vx) (hrd : Rd w vx ys) (h1 : ∀ u ∈ ys, u.oneCell' = true) (hlen : n + ys.length ≤ 1000000) (hbase : base ≤ w.heap.size)
    (hk : ∀ v' w', AppOut base 22 w v (n + ys.length) (us ++ ys) v' w' → K (a.put d v') w') : wpOp Try.prog ops Q i K a w := by
  obtain ⟨v', w', h, h2⟩ := exec_appR (base := base) s x ho v n us hs hown vx ys hx hrd h1 hlen hbase
  exact wpOpRun' d hoi hd hw h (hk v' w' h2)
theorem wpOpSkip (i : Nat) {w' : World} (hoi : ops[i]? = some o) (hd : o.dst = none) (hw : Region.wanted o (yielded ops a.tmps) = true) (hr : (execOp a.eval o).run Try.prog w = .ok .skip w') (hk : K a w') : wpOp Try.prog ops Q i K a w := by
  refine wpOp_step hoi fun K' hK => ?_
  rw [if_pos hw]
  unfold Oper.wp
  rw [hr]
  show K' (a.put o.dst undef) w'
  rw [hd]
  exact hK _ _ hk
end
/-- a fresh block of one cell reads as a list of one -/
theorem Rd_fresh (W : World) (t : TypeId) (cs : Array Value) (n : Nat) (hn : cs.size = n) (hm : n ≤ 1000000) : Rd (W.alloc (.cells cs t)) (.slice (some ⟨W.heap.size, 0, none⟩) n n) cs.toList :=
  Rd_block (Boxs.new W t cs) hn (by omega)
end Go.Proofs.Ytmkkegigajmhkaa

namespace Go.Proofs.Ytmkkegigajmhkaa
open Go.RowKit Go.Maps

/-- 'append([]int{}, xs...)' as operations i and j of a region -/
structure ThA (l : Array Bool) (i j : Nat) (vi vj A : Value) (r ys : List Int) : Prop where
  ord : l.getD j true = true → l.getD i true = true
  s0 : l.getD i true = false → A = .slice none 0 0 ∧ r = []
  s1 : l.getD i true = true → l.getD j true = false → vi = A ∧ r = []
  s2 : l.getD j true = true → vj = A ∧ r = ys
theorem ThA.start {l : Array Bool} {i j : Nat} {vi vj A : Value} {r ys : List Int} (h : ThA l i j vi vj A r ys) (hi : l.getD i true = false) (hij : i ≠ j) (hil : i < l.size) (A' : Value) : ThA (l.setIfInBounds i true) i j A' vj A' [] ys := by
  have hj : l.getD j true = false := by
    cases hj : l.getD j true with
    | false => rfl
    | true => rw [h.ord hj] at hi; cases hi
  refine ⟨fun _ => getD_set_self hil, fun h1 => ?_, fun _ _ => ⟨rfl, rfl⟩, fun h1 => ?_⟩
  · rw [getD_set_self hil] at h1; cases h1
  · rw [getD_set_ne hij, hj] at h1; cases h1
theorem ThA.fin {l : Array Bool} {i j : Nat} {vi vj A : Value} {r ys : List Int} (h : ThA l i j vi vj A r ys) (hi : l.getD i true = true) (hij : i ≠ j) (hjl : j < l.size) (A' : Value) : ThA (l.setIfInBounds j true) i j vi A' A' ys ys := by
  refine ⟨fun _ => by rw [getD_set_ne hij.symm]; exact hi, fun h1 => ?_, fun _ h1 => ?_, fun _ => ⟨rfl, rfl⟩⟩
  · rw [getD_set_ne hij.symm, hi] at h1; cases h1
  · rw [getD_set_self hjl] at h1; cases h1
theorem ThA.skip {l : Array Bool} {i j k : Nat} {vi vj A : Value} {r ys : List Int} (h : ThA l i j vi vj A r ys) (hi : k ≠ i) (hj : k ≠ j) : ThA (l.setIfInBounds k true) i j vi vj A r ys :=
  ⟨by rw [getD_set_ne hi, getD_set_ne hj]; exact h.ord, by rw [getD_set_ne hi]; exact h.s0, by rw [getD_set_ne hi, getD_set_ne hj]; exact h.s1, by rw [getD_set_ne hj]; exact h.s2⟩
theorem ThA.new {l : Array Bool} {i j : Nat} (vi vj : Value) (ys : List Int) (hi : l.getD i true = false) (hj : l.getD j true = false) : ThA l i j vi vj (.slice none 0 0) [] ys :=
  ⟨fun h => (by rw [hj] at h; cases h), fun _ => ⟨rfl, rfl⟩, fun h => (by rw [hi] at h; cases h), fun h => (by rw [hj] at h; cases h)⟩
theorem getD_tf {l : Array Bool} {i : Nat} (hi : i < l.size) (h : l.getD i false = true) : l.getD i true = true := by
  simp only [Array.getD_eq_getD_getElem?] at h ⊢
  rw [Array.getElem?_eq_getElem hi] at h ⊢
  exact h
/-- an empty slice literal -/
theorem owns_void (W : World) (N : Nat) (hN : N ≤ W.heap.size) : (W.alloc (.cells #[] 3)).ownsRow N 3 1 (.slice (some ⟨W.heap.size, 0, none⟩) 0 0) 0 (ints []) :=
  owns_block (cs := #[]) (xs := []) (size := 1) (n := 0) (Boxs.new W 3 #[]) hN rfl rfl (by omega)
theorem grown_alloc (W : World) (o : Obj) (row : Option Nat) : W.grownBy (W.alloc o) row := ⟨rfl, rfl, rfl, by simp, fun i hi _ => Below.heap_alloc _ _ _ hi⟩
theorem OwnRs.void {N : Nat} {W : World} {us : List Value} {rows : List (List Int)} {k : Nat} (h : OwnRs N W us rows) (hu : us[k]? = some (.slice none 0 0)) (hN : N ≤ W.heap.size) :
    OwnRs N (W.alloc (.cells #[] 3)) (us.set k (.slice (some ⟨W.heap.size, 0, none⟩) 0 0)) (rows.set k []) :=
  h.set hu (owns_void W N hN) (grown_alloc W _ _) (.inr rfl) (Nat.le_refl _)
theorem OwnRs.app {N : Nat} {W W' : World} {us : List Value} {rows : List (List Int)} {k : Nat} {u v' : Value} {zs : List Int} (h : OwnRs N W us rows) (hu : us[k]? = some u) (ha : AppOut N 3 W u zs.length (ints zs) v' W') :
    OwnRs N W' (us.set k v') (rows.set k zs) := h.set hu ha.1 ha.2.1 ha.2.2 (Nat.le_refl _)
theorem AppOut.below {N : Nat} {e : TypeId} {W W' : World} {v v' : Value} {n m : Nat} {zs xs : List Value} {w : World} {B : Nat} (h : AppOut N e W v n zs v' W') (hb : Below B w W) (hown : W.ownsRow N e 1 v m xs) (hB : B ≤ N) (hW : B ≤ W.heap.size) : Below B w W' :=
  hb.grown h.2.1 hW (fun k hk => Nat.le_trans hB ((hown.lt k hk).1))
/-- a block of another type is none of the rows -/
theorem Boxs.not_own {W : World} {B : Nat} {t e : TypeId} {cs : Array Value} (h : Boxs W B t cs) {base s n : Nat} {v : Value} {xs : List Value} (hr : W.ownsRow base e s v n xs) (hte : t ≠ e) : v.ownBlock ≠ some B := by
  rcases hr.2 with ⟨rfl, _⟩ | ⟨g, cap, cur, rfl, _, hg, _⟩
  · simp [Value.ownBlock]
  · intro hb
    have : g = B := by simpa [Value.ownBlock] using hb
    subst this
    unfold Boxs at h
    rw [h] at hg
    cases hg
    exact hte rfl
theorem Boxs.grown {W W' : World} {B : Nat} {t : TypeId} {cs : Array Value} {row : Option Nat} (h : Boxs W B t cs) (hg : W.grownBy W' row) (hr : row ≠ some B) : Boxs W' B t cs := (hg.block B h.lt (Ne.symm hr)).trans h
theorem OwnRs.boxset {N : Nat} {W : World} {us : List Value} {rows : List (List Int)} {B o : Nat} {t : TypeId} {cs : Array Value} (h : OwnRs N W us rows) (hb : Boxs W B t cs) (ht : t ≠ 3) (x : Value) : OwnRs N (W.setCell ⟨B, o, none⟩ x) us rows :=
  ⟨h.len, fun k u r hu hr => ownsRow_setCell_other (a := ⟨B, o, none⟩) (h.inn k u r hu hr) (hb.not_own (h.inn k u r hu hr) ht) x, h.dis⟩
end Go.Proofs.Ytmkkegigajmhkaa

