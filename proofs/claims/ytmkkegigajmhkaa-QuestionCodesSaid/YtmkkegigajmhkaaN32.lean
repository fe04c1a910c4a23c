/- How great a tree is; a node of the reference that is being bent. What is done to a node of the reference that is being bent. -/
import Derived.Test.YtmkkegigajmhkaaN22
import Derived.Test.YtmkkegigajmhkaaN31
set_option linter.unusedVariables false
namespace Go.Proofs.Ytmkkegigajmhkaa
open Go.RowKit Go.Maps

mutual
/-- the numbers of a tree, and some more -/
def szT : Tr → Nat
  | .nil => 1
  | .node _ _ ans kids => 4 + ans.length + kids.length + szTs kids
def szTs : List Tr → Nat
  | [] => 0
  | t :: r => szT t + szTs r
end
mutual
/-- its longest list -/
def wdT : Tr → Nat
  | .nil => 0
  | .node _ _ ans kids => max (max ans.length kids.length) (wdTs kids)
def wdTs : List Tr → Nat
  | [] => 0
  | t :: r => max (wdT t) (wdTs r)
end
theorem szTs_app : ∀ l m : List Tr, szTs (l ++ m) = szTs l + szTs m
  | [], m => by simp [szTs]
  | t :: r, m => by simp [szTs, szTs_app r m]; omega
theorem wdTs_app : ∀ l m : List Tr, wdTs (l ++ m) = max (wdTs l) (wdTs m)
  | [], m => by simp [wdTs]
  | t :: r, m => by simp [wdTs, wdTs_app r m]
theorem depTs_app : ∀ l m : List Tr, depTs (l ++ m) = max (depTs l) (depTs m)
  | [], m => by simp [depTs]
  | t :: r, m => by simp [depTs, depTs_app r m]
theorem wdTs_mem : ∀ (l : List Tr) (t : Tr), t ∈ l → wdT t ≤ wdTs l
  | [], t, h => by cases h
  | x :: r, t, h => by
    rw [wdTs]
    rcases List.mem_cons.1 h with e | e
    · subst e; omega
    · have := wdTs_mem r t e; omega
mutual
theorem smK_wd : ∀ t : Tr, wdT t ≤ 100000 → smK t = true
  | .nil, _ => rfl
  | .node a c ans kids, h => by
    rw [wdT] at h
    rw [smK, decide_eq_true (by omega), smKs_wd kids (by omega)]; rfl
theorem smKs_wd : ∀ l : List Tr, wdTs l ≤ 100000 → smKs l = true
  | [], _ => rfl
  | t :: r, h => by
    rw [wdTs] at h
    rw [smKs, smK_wd t (by omega), smKs_wd r (by omega)]; rfl
end
mutual
theorem smT_wd : ∀ t : Tr, wdT t ≤ 100000 → smT t = true
  | .nil, _ => rfl
  | .node a c ans kids, h => by
    rw [wdT] at h
    rw [smT, decide_eq_true (by omega), smTs_wd kids (by omega)]; rfl
theorem smTs_wd : ∀ l : List Tr, wdTs l ≤ 100000 → smTs l = true
  | [], _ => rfl
  | t :: r, h => by
    rw [wdTs] at h
    rw [smTs, smT_wd t (by omega), smTs_wd r (by omega)]; rfl
end
mutual
theorem code_sz : ∀ t : Tr, (codeT t).length ≤ szT t
  | .nil => by simp [codeT]
  | .node a c ans kids => by
    rw [codeT, szT]
    split
    · simp; omega
    · have := codes_sz kids
      simp; omega
theorem codes_sz : ∀ l : List Tr, (codeTs l).length ≤ szTs l
  | [] => by simp [codeTs]
  | t :: r => by
    rw [codeTs, szTs, List.length_append]
    have := code_sz t; have := codes_sz r; omega
end
/-- what a list of trees is at most, behind a change -/
theorem szTs_set : ∀ (l : List Tr) (k : Nat) (t t' : Tr), l[k]? = some t → szTs (l.set k t') + szT t = szTs l + szT t'
  | [], k, t, t', h => by simp at h
  | x :: r, 0, t, t', h => by simp at h; subst h; simp [szTs]; omega
  | x :: r, k + 1, t, t', h => by
    have := szTs_set r k t t' (by simpa using h)
    simp only [List.set_cons_succ, szTs]; omega
theorem wdTs_set : ∀ (l : List Tr) (k : Nat) (t' : Tr), wdTs (l.set k t') ≤ max (wdTs l) (wdT t')
  | [], k, t' => by simp [wdTs]
  | x :: r, 0, t' => by simp only [List.set_cons_zero, wdTs]; omega
  | x :: r, k + 1, t' => by
    have := wdTs_set r k t'
    simp only [List.set_cons_succ, wdTs]; omega
theorem depTs_set : ∀ (l : List Tr) (k : Nat) (t' : Tr), depTs (l.set k t') ≤ max (depTs l) (depT t')
  | [], k, t' => by simp [depTs]
  | x :: r, 0, t' => by simp only [List.set_cons_zero, depTs]; omega
  | x :: r, k + 1, t' => by
    have := depTs_set r k t'
    simp only [List.set_cons_succ, depTs]; omega
theorem szTs_del : ∀ (l : List Tr) (k : Nat), szTs (l.eraseIdx k) ≤ szTs l
  | [], k => by simp [szTs]
  | x :: r, 0 => by simp only [List.eraseIdx_cons_zero, szTs]; omega
  | x :: r, k + 1 => by
    have := szTs_del r k
    simp only [List.eraseIdx_cons_succ, szTs]; omega
theorem wdTs_del : ∀ (l : List Tr) (k : Nat), wdTs (l.eraseIdx k) ≤ wdTs l
  | [], k => by simp [wdTs]
  | x :: r, 0 => by simp only [List.eraseIdx_cons_zero, wdTs]; omega
  | x :: r, k + 1 => by
    have := wdTs_del r k
    simp only [List.eraseIdx_cons_succ, wdTs]; omega
theorem depTs_del : ∀ (l : List Tr) (k : Nat), depTs (l.eraseIdx k) ≤ depTs l
  | [], k => by simp [depTs]
  | x :: r, 0 => by simp only [List.eraseIdx_cons_zero, depTs]; omega
  | x :: r, k + 1 => by
    have := depTs_del r k
    simp only [List.eraseIdx_cons_succ, depTs]; omega
theorem szT_mem : ∀ (l : List Tr) (t : Tr), t ∈ l → szT t ≤ szTs l
  | [], t, h => by cases h
  | x :: r, t, h => by
    rw [szTs]
    rcases List.mem_cons.1 h with e | e
    · subst e; omega
    · have := szT_mem r t e; omega
/-- a bent tree is not much greater -/
structure BentOk (t t' : Tr) : Prop where
  d : depT t' ≤ depT t + 1
  s : szT t' ≤ 3 * szT t + 20
  w : wdT t' ≤ wdT t + 3
  r : BentR t t'
def BentOut (F : Nat → Prop) (W0 w : World) (t : Tr) (e : Ending) (w' : World) : Prop := ∃ p t', e = .returned p ∧ TreeIn 105 (fun i => (F i ∧ i < W0.heap.size) ∨ w.heap.size ≤ i) w' p t' ∧ BentOk t t'
/-! ### the node -/
structure NB (G : Nat → Prop) (n0 : Nat) (W : World) (bx : Nat) (a c : Int) (va vk : Value) (ans : List Int) (us : List Value) (ts : List Tr) : Prop where
  hb : n0 ≤ bx
  gn : ∀ i, n0 ≤ i → G i
  sz : n0 ≤ W.heap.size
  box : Boxs W bx 105 #[.int .i64 a, .int .i64 c, va, vk]
  an : W.ownsRow n0 3 1 va ans.length (ints ans)
  row : W.ownsRow n0 48 1 vk us.length us
  trees : Trees 105 (fun i => G i ∧ i ≠ bx ∧ va.ownBlock ≠ some i ∧ vk.ownBlock ≠ some i) W us ts
theorem Trees.set {τ : TypeId} {F : Nat → Prop} {W : World} {us : List Value} {ts : List Tr} {u : Value} {t : Tr} (h : Trees τ F W us ts) (k : Nat) (hu : TreeIn τ F W u t) : Trees τ F W (us.set k u) (ts.set k t) := by
  refine ⟨by simp [h.1], fun j u' t' h1 h2 => ?_⟩
  by_cases e : k = j
  · subst e
    have hk := (List.getElem?_eq_some_iff.1 h1).1
    rw [List.length_set] at hk
    rw [List.getElem?_set_self hk] at h1
    rw [List.getElem?_set_self (by rw [← h.1]; exact hk)] at h2
    cases h1; cases h2; exact hu
  · rw [List.getElem?_set_ne e] at h1 h2
    exact h.2 j u' t' h1 h2
theorem Trees.del {τ : TypeId} {F : Nat → Prop} {W : World} {us : List Value} {ts : List Tr} (h : Trees τ F W us ts) (k : Nat) : Trees τ F W (us.eraseIdx k) (ts.eraseIdx k) := by
  refine ⟨by simp [List.length_eraseIdx, h.1], fun j u' t' h1 h2 => ?_⟩
  rw [List.getElem?_eraseIdx] at h1 h2
  split at h1
  · rw [if_pos (by assumption)] at h2; exact h.2 _ _ _ h1 h2
  · rw [if_neg (by assumption)] at h2; exact h.2 _ _ _ h1 h2
section
variable {G : Nat → Prop} {n0 : Nat} {W W' : World} {bx : Nat} {a c : Int} {va vk : Value} {ans : List Int} {us : List Value} {ts : List Tr}
theorem NB.under (h : NB G n0 W bx a c va vk ans us ts) (hb : Below W.heap.size W W') : NB G n0 W' bx a c va vk ans us ts :=
  ⟨h.hb, h.gn, Nat.le_trans h.sz hb.size, Boxs.below h.box hb, owns_below h.an hb, owns_below h.row hb, h.trees.block fun i hi _ => hb.block i hi⟩
theorem NB.done (h : NB G n0 W bx a c va vk ans us ts) : TreeIn 105 G W (.pointer (some ⟨bx, 0, none⟩)) (.node a c ans ts) :=
  .of (h.gn _ h.hb) h.box (RdIn.mono (RdIn_owns h.an) fun i _ hi => h.gn i hi) (RdIn.mono (RdIn_owns h.row) fun i _ hi => h.gn i hi) (h.trees.mono fun i _ hF => hF.1)
/-- a number of the node is set -/
theorem NB.setA (h : NB G n0 W bx a c va vk ans us ts) (x : Int) : NB G n0 (W.setCell ⟨bx, 0, none⟩ (.int .i64 x)) bx x c va vk ans us ts :=
  ⟨h.hb, h.gn, by simpa using h.sz, by simpa using h.box.put 0 (.int .i64 x), owns_boxset h.an h.box (by decide) _, owns_boxset h.row h.box (by decide) _, h.trees.block fun i _ hF => Below.heap_setCell _ _ _ _ hF.2.1⟩
theorem NB.setC (h : NB G n0 W bx a c va vk ans us ts) (x : Int) : NB G n0 (W.setCell ⟨bx, 1, none⟩ (.int .i64 x)) bx a x va vk ans us ts :=
  ⟨h.hb, h.gn, by simpa using h.sz, by simpa using h.box.put 1 (.int .i64 x), owns_boxset h.an h.box (by decide) _, owns_boxset h.row h.box (by decide) _, h.trees.block fun i _ hF => Below.heap_setCell _ _ _ _ hF.2.1⟩
end
end Go.Proofs.Ytmkkegigajmhkaa

namespace Go.Proofs.Ytmkkegigajmhkaa
open Go.RowKit Go.Maps

/-- the first of a row -/
theorem owns_take {W : World} {N : Nat} {e : TypeId} {a : Option Addr} {n c : Nat} {xs : List Value} (h : W.ownsRow N e 1 (.slice a n c) n xs) (k : Nat) (hk : k ≤ n) (ha : a ≠ none) : W.ownsRow N e 1 (.slice a k c) k (xs.take k) := by
  have hl := h.1
  rcases h.2 with ⟨h', _⟩ | ⟨g', cap', cur, h', hb, hg, hnc, hcm, hcs, ht⟩
  · simp only [Value.slice.injEq] at h'; exact absurd h'.1 ha
  · simp only [Value.slice.injEq, true_and] at h'
    obtain ⟨rfl, rfl⟩ := h'
    refine ⟨by rw [List.length_take, hl]; omega, .inr ⟨g', c, cur, rfl, hb, hg, by omega, hcm, hcs, ?_⟩⟩
    rw [← ht, List.take_take, Nat.min_eq_left (by omega), Nat.mul_one]
section
variable {G : Nat → Prop} {n0 : Nat} {W W' : World} {bx : Nat} {a c : Int} {va vk : Value} {ans : List Int} {us : List Value} {ts : List Tr}
theorem NB.sep (h : NB G n0 W bx a c va vk ans us ts) (g : Nat) (hg : va.ownBlock = some g) : vk.ownBlock ≠ some g := owns_type h.an h.row (by decide) hg
theorem NB.newA {v0 va' : Value} {m : Nat} {xs : List Value} {ans' : List Int} (h : NB G n0 W bx a c va vk ans us ts) (h0 : W.ownsRow n0 3 1 v0 m xs) (e0 : v0.ownBlock = va.ownBlock)
    (ha : AppOut n0 3 W v0 ans'.length (ints ans') va' W') : NB G n0 (W'.setCell ⟨bx, 2, none⟩ va') bx a c va' vk ans' us ts := by
  have hsz := ha.size
  have hbx' : Boxs W' bx 105 #[.int .i64 a, .int .i64 c, va, vk] := Boxs.app h.box h0 ha (by decide)
  have hT := h.trees.mono (G := fun i => (G i ∧ i ≠ bx ∧ va.ownBlock ≠ some i ∧ vk.ownBlock ≠ some i) ∧ va'.ownBlock ≠ some i) fun i hi hF => ⟨hF, fun he => by
    rcases ha.2.2 with h2 | h2
    · exact hF.2.2.1 (by rw [← e0, ← h2]; exact he)
    · rw [h2] at he; cases he; omega⟩
  refine ⟨h.hb, h.gn, by simpa using Nat.le_trans h.sz hsz, by simpa using hbx'.put 2 va', owns_boxset ha.1 hbx' (by decide) _, owns_boxset (owns_app h.row h0 ha (by decide)) hbx' (by decide) _, ?_⟩
  refine (hT.block (W' := W'.setCell ⟨bx, 2, none⟩ va') fun i hi hF => ?_).mono fun i _ hF => ⟨hF.1.1, hF.1.2.1, hF.2, hF.1.2.2.2⟩
  rw [Below.heap_setCell _ _ _ _ hF.1.2.1]
  exact ha.2.1.block i hi fun e => hF.1.2.2.1 (by rw [← e0]; exact e.symm)
theorem NB.newK {v0 vk' : Value} {m : Nat} {xs us' : List Value} {ts' : List Tr} (h : NB G n0 W bx a c va vk ans us ts) (h0 : W.ownsRow n0 48 1 v0 m xs) (e0 : v0.ownBlock = vk.ownBlock)
    (hT0 : Trees 105 (fun i => G i ∧ i ≠ bx ∧ va.ownBlock ≠ some i ∧ vk.ownBlock ≠ some i) W us' ts')
    (ha : AppOut n0 48 W v0 us'.length us' vk' W') : NB G n0 (W'.setCell ⟨bx, 3, none⟩ vk') bx a c va vk' ans us' ts' := by
  have hsz := ha.size
  have hbx' : Boxs W' bx 105 #[.int .i64 a, .int .i64 c, va, vk] := Boxs.app h.box h0 ha (by decide)
  have hT := hT0.mono (G := fun i => (G i ∧ i ≠ bx ∧ va.ownBlock ≠ some i ∧ vk.ownBlock ≠ some i) ∧ vk'.ownBlock ≠ some i) fun i hi hF => ⟨hF, fun he => by
    rcases ha.2.2 with h2 | h2
    · exact hF.2.2.2 (by rw [← e0, ← h2]; exact he)
    · rw [h2] at he; cases he; omega⟩
  refine ⟨h.hb, h.gn, by simpa using Nat.le_trans h.sz hsz, by simpa using hbx'.put 3 vk', owns_boxset (owns_app h.an h0 ha (by decide)) hbx' (by decide) _, owns_boxset ha.1 hbx' (by decide) _, ?_⟩
  refine (hT.block (W' := W'.setCell ⟨bx, 3, none⟩ vk') fun i hi hF => ?_).mono fun i _ hF => ⟨hF.1.1, hF.1.2.1, hF.1.2.2.1, hF.2⟩
  rw [Below.heap_setCell _ _ _ _ hF.1.2.1]
  exact ha.2.1.block i hi fun e => hF.1.2.2.2 (by rw [← e0]; exact e.symm)
theorem ints_set (l : List Int) (k : Nat) (x : Int) : (ints l).set k (.int .i64 x) = ints (l.set k x) := by simp [ints, List.map_set]
theorem NB.putA {g cap : Nat} (h : NB G n0 W bx a c (.slice (some ⟨g, 0, none⟩) ans.length cap) vk ans us ts) (j : Nat) (x : Int) :
    NB G n0 (W.setCell ⟨g, j, none⟩ (.int .i64 x)) bx a c (.slice (some ⟨g, 0, none⟩) ans.length cap) vk (ans.set j x) us ts := by
  have hg : bx ≠ g := fun e => h.box.not_own h.an (by decide) (by rw [e]; rfl)
  refine ⟨h.hb, h.gn, by simpa using h.sz, h.box.setOther hg _, ?_, ownsRow_setCell_other (a := ⟨g, j, none⟩) h.row (h.sep g rfl) _, h.trees.block fun i _ hF => Below.heap_setCell _ _ _ _ fun e => hF.2.2.1 (by rw [e]; rfl)⟩
  rw [List.length_set, ← ints_set]; exact (h.an.stored j _).1
theorem NB.putK {g cap : Nat} {u : Value} {t : Tr} (h : NB G n0 W bx a c va (.slice (some ⟨g, 0, none⟩) us.length cap) ans us ts) (j : Nat) (hu : TreeIn 105 (fun i => G i ∧ i ≠ bx ∧ va.ownBlock ≠ some i ∧ i ≠ g) W u t) :
    NB G n0 (W.setCell ⟨g, j, none⟩ u) bx a c va (.slice (some ⟨g, 0, none⟩) us.length cap) ans (us.set j u) (ts.set j t) := by
  have hg : bx ≠ g := fun e => h.box.not_own h.row (by decide) (by rw [e]; rfl)
  have hT := h.trees.set j (hu.mono fun i _ hF => ⟨hF.1, hF.2.1, hF.2.2.1, fun e => hF.2.2.2 (by cases e; rfl)⟩)
  refine ⟨h.hb, h.gn, by simpa using h.sz, h.box.setOther hg _, ownsRow_setCell_other (a := ⟨g, j, none⟩) h.an (fun e => h.sep g e rfl) _, ?_, hT.block fun i _ hF => Below.heap_setCell _ _ _ _ fun e => hF.2.2.2 (by rw [e]; rfl)⟩
  rw [List.length_set]; exact (h.row.stored j _).1
end
end Go.Proofs.Ytmkkegigajmhkaa

