/- A region that draws its order: a condition on the world that holds until the last operation. Short forms of the steps through a region that draws its order. Rows at the end of a list of rows; what an append leaves as it was. Copy of a table. A table that is being made: its variable, its rows, the result. -/
import Derived.Test.YtmkkegigajmhkaaN04
set_option linter.unusedVariables false
namespace Go.Proofs.Ytmkkegigajmhkaa
open Go.RowKit Go.Maps

section
variable {P : Program} {ops : Array Oper} {Q : Exit → Act → World → Prop} {md : Region.Mode} {S : World → Prop}
/-- all operations have come up -/
def allUp (ops : Array Oper) (l : Array Bool) : Prop := ∀ k, k < ops.size → l.getD k true = true
def wpAnyE (P : Program) (md : Region.Mode) (ops : Array Oper) (Q : Exit → Act → World → Prop) (S : World → Prop) : Nat → Array Bool → Act → World → Prop
  | 0, listed, a, w => Region.ready md ops listed = [] ∧ Q .normal a w
  | fuel + 1, listed, a, w =>
    (Region.ready md ops listed = [] → Q .normal a w) ∧
    ∀ i ∈ Region.ready md ops listed, wpOp P ops Q i (fun a' w' => (S w' ∨ allUp ops (listed.setIfInBounds i true)) ∧ wpAnyE P md ops Q S fuel (listed.setIfInBounds i true) a' w') a w
theorem wpAny_of_E : ∀ (fuel : Nat) (listed : Array Bool) (a : Act) (w : World), wpAnyE P md ops Q S fuel listed a w → wpAny P md ops Q fuel listed a w
  | 0, _, _, _, h => h
  | fuel + 1, _, _, _, h => ⟨h.1, fun i hi => wpOp_mono (fun a' w' h' => wpAny_of_E fuel _ a' w' h'.2) (h.2 i hi)⟩
theorem wp_region_E (S : World → Prop) {id : Nat} {a : Act} {w : World} (hm : P.follows .mixedOrders = true)
    (h : wpAnyE P .any ops Q S ops.size (Array.replicate ops.size false) a { w with drawn := w.drawn + 1 }) : (Code.region id ops true).wp P Q a w :=
  wp_region_any hm (wpAny_of_E _ _ _ _ h)
/-- somebody who has not come up waits for i -/
def awaited (md : Region.Mode) (ops : Array Oper) (l : Array Bool) (i : Nat) : Bool :=
  (List.range ops.size).any fun m => !l.getD m true && decide (m ≠ i) && match ops[m]? with | some o => o.after.any fun e => Region.binds md e && decide (e.on = i) | none => false
theorem awaited_spec {l : Array Bool} {i : Nat} (h : awaited md ops l i = true) : ∃ m om e, m < ops.size ∧ ops[m]? = some om ∧ e ∈ om.after ∧ Region.binds md e = true ∧ e.on = i ∧ l.getD m true = false ∧ m ≠ i := by
  unfold awaited at h
  obtain ⟨m, hm, h⟩ := List.any_eq_true.1 h
  simp only [Bool.and_eq_true, Bool.not_eq_true', decide_eq_true_eq] at h
  obtain ⟨⟨h1, h2⟩, h3⟩ := h
  split at h3
  · rename_i o ho
    rw [Array.any_eq_true'] at h3
    obtain ⟨e, he, h4⟩ := h3
    simp only [Bool.and_eq_true, decide_eq_true_eq] at h4
    exact ⟨m, o, e, List.mem_range.1 hm, ho, he, h4.1, h4.2, h1, h2⟩
  · cases h3
theorem wpAnyE_first {i : Nat} {oi : Oper} {v : Value} (hi : ops[i]? = some oi) (hsel : ∀ (j : Nat) (o : Oper) cs b, ops[j]? = some o → o.op ≠ .select cs b)
    (hQ : ∀ c a w, Q (.panic c) (a.put oi.dst v) w → Q (.panic c) a w) :
    ∀ (fuel : Nat) (listed : Array Bool) (a : Act) (w : World),
      (∀ j oj, ops[j]? = some oj → j ≠ i → listed.getD j true = false → (∀ e ∈ oj.after, Region.binds md e = true → e.on ≠ i) → oi.apart ops oj = true) →
      (∃ m om e, m < ops.size ∧ ops[m]? = some om ∧ e ∈ om.after ∧ Region.binds md e = true ∧ e.on = i ∧ listed.getD m true = false ∧ m ≠ i) →
      i ∈ Region.ready md ops listed → YieldsIf P ops S oi v a → S w →
      wpAnyE P md ops Q S fuel (listed.setIfInBounds i true) (a.put oi.dst v) w → wpAnyE P md ops Q S (fuel + 1) listed a w := by
  intro fuel
  induction fuel with
  | zero =>
    intro listed a w _ _ hr hy hS H
    refine ⟨fun h => (by rw [h] at hr; cases hr), fun j hj => ?_⟩
    by_cases hji : j = i
    · subst hji; exact hy.wpOp hi hS ⟨.inl hS, H⟩
    · have := ready_mono hj hji
      rw [H.1] at this
      cases this
  | succ fuel ih =>
    intro listed a w hfree hm hr hy hS H
    refine ⟨fun h => (by rw [h] at hr; cases hr), fun j hj => ?_⟩
    by_cases hji : j = i
    · subst hji; exact hy.wpOp hi hS ⟨.inl hS, H⟩
    · obtain ⟨m, om, e, hms, hom, hem, heb, hei, hml, hmi⟩ := hm
      have h1 := H.2 j (ready_mono hj hji)
      obtain ⟨hjun, oj, hoj, hall⟩ := mem_ready.1 hj
      have hnot : ∀ e ∈ oj.after, Region.binds md e = true → e.on ≠ i := fun e he hb heq => by
        have h1 := hall e he hb
        have h0 := (mem_ready.1 hr).1
        rw [heq] at h1
        rcases Nat.lt_or_ge i listed.size with h' | h'
        · simp [h'] at h0 h1; rw [h0] at h1; cases h1
        · simp [Array.getElem?_eq_none h'] at h1
      have hmj : m ≠ j := fun e0 => by
        subst e0
        rw [hom] at hoj; cases hoj
        exact hnot e hem heb hei
      have h2 := wpOp_putIf hoj (hfree j oj hoj hji hjun hnot) (fun cs b => hsel i oi cs b hi) (fun cs b => hsel j oj cs b hoj) hQ hy h1
      have hfree' : ∀ k ok, ops[k]? = some ok → k ≠ i → (listed.setIfInBounds j true).getD k true = false →
          (∀ e ∈ ok.after, Region.binds md e = true → e.on ≠ i) → oi.apart ops ok = true := fun k ok hk hki hun hno => by
        refine hfree k ok hk hki ?_ hno
        by_cases hjk : j = k
        · subst hjk; exact hjun
        · rw [getD_set_ne hjk] at hun; exact hun
      refine wpOp_mono (fun a' w' h3 => ?_) h2
      have hS' : S w' := by
        rcases h3.2.1 with h4 | h4
        · exact h4
        · have h5 := h4 m hms
          rw [getD_set_ne (Ne.symm hmj), getD_set_ne (Ne.symm hmi), hml] at h5
          cases h5
      refine ⟨.inl hS', ih (listed.setIfInBounds j true) a' w' hfree' ⟨m, om, e, hms, hom, hem, heb, hei, by rw [getD_set_ne (Ne.symm hmj)]; exact hml, hmi⟩ (ready_mono hr (Ne.symm hji)) h3.1 hS' ?_⟩
      rw [Array.setIfInBounds_comm _ _ hji]
      exact h3.2.2
theorem wpAnyETake {fuel : Nat} {listed : Array Bool} {a : Act} {w : World} (i : Nat) (d : Option Nat) {oi : Oper} (v : Value) (hi : ops[i]? = some oi) (hd : oi.dst = d)
    (hs : Region.noSelect ops = true) (hf : Region.free md ops listed i = true) (hm : awaited md ops listed i = true) (hr : (Region.ready md ops listed).contains i = true)
    (hQ : ∀ c a w, Q (.panic c) (a.put d v) w → Q (.panic c) a w) (hw : Region.wanted oi (yielded ops a.tmps) = true) (hy : ∀ w, S w → (execOp a.eval oi).run P w = .ok (.value v) w) (hS : S w)
    (h : wpAnyE P md ops Q S fuel (listed.setIfInBounds i true) (a.put d v) w) : wpAnyE P md ops Q S (fuel + 1) listed a w := by
  subst hd
  exact wpAnyE_first hi (Region.noSelect_spec hs) hQ fuel listed a w (Region.free_spec hi hf) (awaited_spec hm) (by simpa using hr) (.inl ⟨hw, hy⟩) hS h
theorem wpAnyEPass {fuel : Nat} {listed : Array Bool} {a : Act} {w : World} (i : Nat) (d : Option Nat) {oi : Oper} (hi : ops[i]? = some oi) (hd : oi.dst = d)
    (hs : Region.noSelect ops = true) (hf : Region.free md ops listed i = true) (hm : awaited md ops listed i = true) (hr : (Region.ready md ops listed).contains i = true)
    (hQ : ∀ c a w, Q (.panic c) (a.put d undef) w → Q (.panic c) a w) (hw : Region.wanted oi (yielded ops a.tmps) = false) (hS : S w)
    (h : wpAnyE P md ops Q S fuel (listed.setIfInBounds i true) (a.put d undef) w) : wpAnyE P md ops Q S (fuel + 1) listed a w := by
  subst hd
  exact wpAnyE_first hi (Region.noSelect_spec hs) hQ fuel listed a w (Region.free_spec hi hf) (awaited_spec hm) (by simpa using hr) (.inr ⟨hw, rfl⟩) hS h
/-- one operation alone may come up -/
theorem wpAnyEOne {fuel : Nat} {listed : Array Bool} {a : Act} {w : World} (i : Nat) (hr : Region.ready md ops listed = [i])
    (h : wpOp P ops Q i (fun a' w' => (S w' ∨ allUp ops (listed.setIfInBounds i true)) ∧ wpAnyE P md ops Q S fuel (listed.setIfInBounds i true) a' w') a w) : wpAnyE P md ops Q S (fuel + 1) listed a w :=
  ⟨fun h0 => (by rw [hr] at h0; cases h0), fun j hj => by rw [hr] at hj; rw [List.mem_singleton.1 hj]; exact h⟩
theorem wpAnyEBoth {fuel : Nat} {listed : Array Bool} {a : Act} {w : World} (i j : Nat) (hr : Region.ready md ops listed = [i, j])
    (h : wpOp P ops Q i (fun a' w' => (S w' ∨ allUp ops (listed.setIfInBounds i true)) ∧ wpAnyE P md ops Q S fuel (listed.setIfInBounds i true) a' w') a w)
    (h2 : wpOp P ops Q j (fun a' w' => (S w' ∨ allUp ops (listed.setIfInBounds j true)) ∧ wpAnyE P md ops Q S fuel (listed.setIfInBounds j true) a' w') a w) : wpAnyE P md ops Q S (fuel + 1) listed a w :=
  ⟨fun h0 => (by rw [hr] at h0; cases h0), fun k hk => by
    rw [hr] at hk
    rcases List.mem_cons.1 hk with rfl | hk
    · exact h
    · rw [List.mem_singleton.1 hk]; exact h2⟩
theorem wpAnyE_done {listed : Array Bool} {a : Act} {w : World} (hr : Region.ready md ops listed = []) (h : Q .normal a w) : ∀ fuel, wpAnyE P md ops Q S fuel listed a w
  | 0 => ⟨hr, h⟩
  | _ + 1 => ⟨fun _ => h, by rw [hr]; simp⟩
/-- from a held region -/
theorem wpAnyE_of_H : ∀ (fuel : Nat) (listed : Array Bool) (a : Act) (w : World), wpAnyH P md ops Q S fuel listed a w → wpAnyE P md ops Q S fuel listed a w
  | 0, _, _, _, h => h
  | fuel + 1, _, _, _, h => ⟨h.1, fun i hi => wpOp_mono (fun a' w' h' => ⟨.inl h'.1, wpAnyE_of_H fuel _ a' w' h'.2⟩) (h.2 i hi)⟩
def allUpB (ops : Array Oper) (l : Array Bool) : Bool := (List.range ops.size).all fun k => l.getD k true
theorem allUp_of {l : Array Bool} (h : allUpB ops l = true) : allUp ops l := fun k hk => List.all_eq_true.1 h k (List.mem_range.2 hk)
end
end Go.Proofs.Ytmkkegigajmhkaa

namespace Go.Proofs.Ytmkkegigajmhkaa
open Go.RowKit Go.Maps

section
variable {P : Program} {ops : Array Oper} {Q : Exit → Act → World → Prop} {md : Region.Mode} {S : World → Prop} {fuel : Nat} {listed : Array Bool} {a : Act} {w : World}
theorem pa : (∀ (a : Act) (d : Nat) (v : Value), a.put (some d) v = { a with tmps := a.tmps.setIfInBounds d v }) ∧ (∀ (a : Act) (v : Value), a.put none v = a) := ⟨fun _ _ _ => rfl, fun _ _ => rfl⟩
theorem pl {α : Type} : (∀ (l : List α) (i : Nat) (x : α), l.toArray.setIfInBounds i x = (l.set i x).toArray) ∧ (∀ (x y : α) (l : List α), (y :: l).set 0 x = x :: l) ∧ (∀ (x y : α) (l : List α) (i : Nat), (y :: l).set (i + 1) x = y :: l.set i x) :=
  ⟨fun _ _ _ => List.setIfInBounds_toArray .., fun _ _ _ => rfl, fun _ _ _ _ => rfl⟩
theorem tk (i : Nat) (d : Nat) {oi : Oper} (hi : ops[i]? = some oi) (hd : oi.dst = some d) (v : Value) (hy : ∀ w, S w → (execOp a.eval oi).run P w = .ok (.value v) w) (hS : S w)
    (h : wpAnyE P md ops Q S fuel (listed.setIfInBounds i true) (a.put (some d) v) w)
    (hs : Region.noSelect ops = true := by kernel_rfl) (hf : Region.free md ops listed i = true := by kernel_rfl) (hm : awaited md ops listed i = true := by kernel_rfl) (hr : (Region.ready md ops listed).contains i = true := by kernel_rfl)
    (hw : Region.wanted oi (yielded ops a.tmps) = true := by rfl) (hQ : ∀ c a w, Q (.panic c) (a.put (some d) v) w → Q (.panic c) a w := by exact fun _ _ _ h => h) : wpAnyE P md ops Q S (fuel + 1) listed a w :=
  wpAnyETake i (some d) v hi hd hs hf hm hr hQ hw hy hS h
theorem tg (i : Nat) (d : Nat) {oi : Oper} (hi : ops[i]? = some oi) (hd : oi.dst = some d) (v : Value) (hS : S w)
    (h : wpAnyE P md ops Q S fuel (listed.setIfInBounds i true) (a.put (some d) v) w)
    (hy : ∀ w, (execOp a.eval oi).run P w = .ok (.value v) w := by intro _; go_simp)
    (hs : Region.noSelect ops = true := by kernel_rfl) (hf : Region.free md ops listed i = true := by kernel_rfl) (hm : awaited md ops listed i = true := by kernel_rfl) (hr : (Region.ready md ops listed).contains i = true := by kernel_rfl)
    (hw : Region.wanted oi (yielded ops a.tmps) = true := by rfl) (hQ : ∀ c a w, Q (.panic c) (a.put (some d) v) w → Q (.panic c) a w := by exact fun _ _ _ h => h) : wpAnyE P md ops Q S (fuel + 1) listed a w :=
  wpAnyETake i (some d) v hi hd hs hf hm hr hQ hw (fun w _ => hy w) hS h
theorem tm (i : Nat) (d : Nat) {oi : Oper} (hi : ops[i]? = some oi) (hd : oi.dst = some d) (v : Value) (hS : S w)
    (h : wpAnyE P md ops Q S fuel (listed.setIfInBounds i true) (a.put (some d) v) w)
    (hy : ∀ w, (execOp a.eval oi).run P w = .ok (.value v) w := by intro _; rfl)
    (hs : Region.noSelect ops = true := by kernel_rfl) (hf : Region.free md ops listed i = true := by kernel_rfl) (hm : awaited md ops listed i = true := by kernel_rfl) (hr : (Region.ready md ops listed).contains i = true := by kernel_rfl)
    (hw : Region.wanted oi (yielded ops a.tmps) = true := by rfl) (hQ : ∀ c a w, Q (.panic c) (a.put (some d) v) w → Q (.panic c) a w := by exact fun _ _ _ h => h) : wpAnyE P md ops Q S (fuel + 1) listed a w :=
  wpAnyETake i (some d) v hi hd hs hf hm hr hQ hw (fun w _ => hy w) hS h
theorem ps (i : Nat) (d : Nat) {oi : Oper} (hi : ops[i]? = some oi) (hd : oi.dst = some d) (hS : S w)
    (h : wpAnyE P md ops Q S fuel (listed.setIfInBounds i true) (a.put (some d) undef) w)
    (hs : Region.noSelect ops = true := by kernel_rfl) (hf : Region.free md ops listed i = true := by kernel_rfl) (hm : awaited md ops listed i = true := by kernel_rfl) (hr : (Region.ready md ops listed).contains i = true := by kernel_rfl)
    (hw : Region.wanted oi (yielded ops a.tmps) = false := by rfl) (hQ : ∀ c a w, Q (.panic c) (a.put (some d) undef) w → Q (.panic c) a w := by exact fun _ _ _ h => h) : wpAnyE P md ops Q S (fuel + 1) listed a w :=
  wpAnyEPass i (some d) hi hd hs hf hm hr hQ hw hS h
end
end Go.Proofs.Ytmkkegigajmhkaa

namespace Go.Proofs.Ytmkkegigajmhkaa
open Go.RowKit Go.Maps

theorem set_last {α : Type} (l : List α) (x y : α) : (l ++ [x]).set l.length y = l ++ [y] := by
  rw [List.set_append_right _ _ (Nat.le_refl _)]; simp
theorem get_last {α : Type} (l : List α) (x : α) : (l ++ [x])[l.length]? = some x := by
  rw [List.getElem?_append_right (Nat.le_refl _)]; simp
theorem OwnRs.voidL {N : Nat} {W : World} {us : List Value} {rows : List (List Int)} (h : OwnRs N W us rows) (hN : N ≤ W.heap.size) :
    OwnRs N (W.alloc (.cells #[] 3)) (us ++ [.slice (some ⟨W.heap.size, 0, none⟩) 0 0]) (rows ++ [[]]) := by
  have h1 := (h.snoc (u := .slice none 0 0) (r := []) (World.ownsRow_nil _ _ _ _) (fun k u' b h1 h2 h3 => by cases h3)).void (k := us.length) (get_last _ _) hN
  rw [set_last, h.len, set_last] at h1
  exact h1
theorem OwnRs.appL {N : Nat} {W W' : World} {us : List Value} {rows : List (List Int)} {u v' : Value} {r zs : List Int} (h : OwnRs N W (us ++ [u]) (rows ++ [r])) (ha : AppOut N 3 W u zs.length (ints zs) v' W') :
    OwnRs N W' (us ++ [v']) (rows ++ [zs]) := by
  have hl : us.length = rows.length := by have := h.len; simp at this; exact this
  have h1 := h.app (k := us.length) (get_last _ _) ha
  rw [set_last, hl, set_last] at h1
  exact h1
theorem OwnRs.last {N : Nat} {W : World} {us : List Value} {rows : List (List Int)} {u : Value} {r : List Int} (h : OwnRs N W (us ++ [u]) (rows ++ [r])) : W.ownsRow N 3 1 u r.length (ints r) := by
  have hl : us.length = rows.length := by have := h.len; simp at this; exact this
  exact h.inn us.length u r (get_last _ _) (by rw [hl]; exact get_last _ _)
/-- an append to a row of another type -/
theorem owns_app {N : Nat} {W W' : World} {e e' : TypeId} {v u v' : Value} {n m k : Nat} {us xs zs : List Value} (h : W.ownsRow N e 1 v n us) (hu : W.ownsRow N e' 1 u k xs) (ha : AppOut N e' W u m zs v' W') (hne : e ≠ e') : W'.ownsRow N e 1 v n us :=
  owns_grown h ha.2.1 fun g hg e => owns_type h hu hne hg e
theorem OwnRs.appO {N : Nat} {W W' : World} {us : List Value} {rows : List (List Int)} {e : TypeId} {v v' : Value} {n m : Nat} {vs zs : List Value} (h : OwnRs N W us rows) (ho : W.ownsRow N e 1 v n vs) (ha : AppOut N e W v m zs v' W') (hne : 3 ≠ e) : OwnRs N W' us rows :=
  ⟨h.len, fun k u r hu hr => owns_app (h.inn k u r hu hr) ho ha hne, h.dis⟩
theorem Boxs.app {N : Nat} {W W' : World} {B : Nat} {t e : TypeId} {cs : Array Value} {v v' : Value} {n m : Nat} {vs zs : List Value} (h : Boxs W B t cs) (ho : W.ownsRow N e 1 v n vs) (ha : AppOut N e W v m zs v' W') (hne : t ≠ e) : Boxs W' B t cs :=
  h.grown ha.2.1 (h.not_own ho hne)
theorem Boxs.far {N : Nat} {W W' : World} {B : Nat} {t e : TypeId} {cs : Array Value} {v v' : Value} {n m : Nat} {vs zs : List Value} (h : Boxs W B t cs) (ho : W.ownsRow N e 1 v n vs) (ha : AppOut N e W v m zs v' W') (hB : B < N) : Boxs W' B t cs :=
  h.grown ha.2.1 (fun e => by have := (ho.lt B e).1; omega)
theorem owns_boxset {N : Nat} {W : World} {e : TypeId} {v : Value} {n : Nat} {vs : List Value} {B o : Nat} {t : TypeId} {cs : Array Value} (h : W.ownsRow N e 1 v n vs) (hb : Boxs W B t cs) (ht : t ≠ e) (x : Value) : (W.setCell ⟨B, o, none⟩ x).ownsRow N e 1 v n vs :=
  ownsRow_setCell_other (a := ⟨B, o, none⟩) h (hb.not_own h ht) x

theorem Boxs.of_below {W W' : World} {B N : Nat} {t : TypeId} {cs : Array Value} (h : Boxs W B t cs) (hb : Below N W W') (hN : B < N) : Boxs W' B t cs := (hb.block B hN).trans h
theorem AppOut.form {N : Nat} {e : TypeId} {W W' : World} {v v' : Value} {n : Nat} {zs : List Value} (h : AppOut N e W v n zs v' W') : ∃ a c, v' = .slice a n c := owns_form h.1
theorem AppOut.size {N : Nat} {e : TypeId} {W W' : World} {v v' : Value} {n : Nat} {zs : List Value} (h : AppOut N e W v n zs v' W') : W.heap.size ≤ W'.heap.size := h.2.1.size
theorem owns_one {W : World} {N : Nat} {e : TypeId} {v : Value} {n : Nat} {xs : List Value} (h : W.ownsRow N e 1 v n xs) : v.oneCell' = true := by
  obtain ⟨a, c, rfl⟩ := owns_form h; rfl
end Go.Proofs.Ytmkkegigajmhkaa

namespace Go.Proofs.Ytmkkegigajmhkaa
open Go.RowKit Go.Maps


def CopyOut (base : Nat) (T : Tb) (e : Ending) (w' : World) : Prop := ∃ ua uc uk us, e = .returned (.agg #[ua, uc, uk]) ∧ OwnT base w' ua uc uk us T
set_option maxRecDepth 100000 in
set_option maxHeartbeats 8000000 in
theorem copy_any (va vc vk : Value) (T : Tb) (w : World) (h : TbR w va vc vk T) (hl : T.rows.length ≤ 1000 ∧ T.costs.length ≤ 1000 ∧ T.cls.length ≤ 1000 ∧ ∀ r, r ∈ T.rows → r.length ≤ 1000) :
    Calls Try.prog 36 #[.agg #[va, vc, vk]] w fun e w' => CopyOut w.heap.size T e w' ∧ Below w.heap.size w w' := by
  obtain ⟨aa, ca, rfl⟩ := h.rows.form
  obtain ⟨ac, cc, rfl⟩ := h.costs.form
  obtain ⟨ak, ck, rfl⟩ := h.cls.form
  have HBT := Lib.hid ((BoxT.new h 25).below (alloc_below _ (.cells #[.slice none 0 0, .slice none 0 0, .slice none 0 0] 25)))
  have HBX := Lib.hid ((alloc_below w (.cells #[.slice aa T.rows.length ca, .slice ac T.costs.length cc, .slice ak T.cls.length ck] 25)).alloc (by rw [World.size_alloc]; omega) (.cells #[.slice none 0 0, .slice none 0 0, .slice none 0 0] 25))
  have HT2 := Lib.hid (show Boxs ((w.alloc (.cells #[.slice aa T.rows.length ca, .slice ac T.costs.length cc, .slice ak T.cls.length ck] 25)).alloc (.cells #[.slice none 0 0, .slice none 0 0, .slice none 0 0] 25)) (w.heap.size + 1) 25 #[.slice none 0 0, .slice none 0 0, .slice none 0 0] from by have := Boxs.new (w.alloc (.cells #[.slice aa T.rows.length ca, .slice ac T.costs.length cc, .slice ak T.cls.length ck] 25)) 25 #[.slice none 0 0, .slice none 0 0, .slice none 0 0]; rwa [World.size_alloc] at this)
  clear h
  go_enter Try.func36, Try.ntmps36
  go_wp2_with fail
  obtain ⟨B2, hB2⟩ : ∃ B, w.heap.size + 1 = B := ⟨_, rfl⟩
  obtain ⟨B, hB⟩ : ∃ B, w.heap.size = B := ⟨_, rfl⟩
  have hwB2 : w.heap.size ≤ B2 := by omega
  rw [hB2] at HT2 ⊢
  rw [hB] at HBT ⊢
  generalize (w.alloc (.cells #[.slice aa T.rows.length ca, .slice ac T.costs.length cc, .slice ak T.cls.length ck] 25)).alloc (.cells #[.slice none 0 0, .slice none 0 0, .slice none 0 0] 25) = w1 at *
  obtain ⟨N, hN⟩ : ∃ N, w1.heap.size = N := ⟨_, rfl⟩
  have hwN : w.heap.size ≤ N := by rw [← hN]; exact HBX.out.size
  have hB2N : B2 < N := by rw [← hN]; exact HT2.out.lt
  have c1 := HBT.out.c1
  have c2 := HBT.out.c2
  refine wp_region_held (S := fun W => W.cell? ⟨B, 1, none⟩ = some (.slice ac T.costs.length cc) ∧ W.cell? ⟨B, 2, none⟩ = some (.slice ak T.cls.length ck)) (by kernel_rfl) ?_
  have hdr : (w1).drew = { w1 with drawn := (w1).drawn + 1 } := rfl
  rw [← hdr]
  clear hdr
  have G1 := Lib.hid (show (fun W => W.cell? ⟨B, 1, none⟩ = some (.slice ac T.costs.length cc) ∧ W.cell? ⟨B, 2, none⟩ = some (.slice ak T.cls.length ck)) (w1.drewN 1) from ⟨c1, c2⟩)
  clear c1 c2
  refine wpAnyHTake 1 (some 6) (.pointer (some ⟨B, 1, none⟩)) rfl rfl (by kernel_rfl) (by kernel_rfl) (by kernel_rfl) (fun _ _ _ h => h) (by rfl) (fun _ _ => by go_simp) (G1.out) ?_
  simp only [Act.put, List.setIfInBounds_toArray, List.set_cons_zero, List.set_cons_succ]
  refine wpAnyHTake 2 (some 7) (.slice ac T.costs.length cc) rfl rfl (by kernel_rfl) (by kernel_rfl) (by kernel_rfl) (fun _ _ _ h => h) (by rfl) (fun W hW => by obtain ⟨c1, c2⟩ := hW; go_simp) (G1.out) ?_
  simp only [Act.put, List.setIfInBounds_toArray, List.set_cons_zero, List.set_cons_succ]
  refine wpAnyHTake 5 (some 10) (.pointer (some ⟨B, 2, none⟩)) rfl rfl (by kernel_rfl) (by kernel_rfl) (by kernel_rfl) (fun _ _ _ h => h) (by rfl) (fun _ _ => by go_simp) (G1.out) ?_
  simp only [Act.put, List.setIfInBounds_toArray, List.set_cons_zero, List.set_cons_succ]
  refine wpAnyHTake 6 (some 11) (.slice ak T.cls.length ck) rfl rfl (by kernel_rfl) (by kernel_rfl) (by kernel_rfl) (fun _ _ _ h => h) (by rfl) (fun W hW => by obtain ⟨c1, c2⟩ := hW; go_simp) (G1.out) ?_
  simp only [Act.put, List.setIfInBounds_toArray, List.set_cons_zero, List.set_cons_succ]
  have HBK := Lib.hid (fun (W : World) (hw : Below N w1 W) => HBT.out.below (w' := W) (by rw [hN]; exact hw))
  have HSZ := Lib.hid (fun (W : World) (hw : Below N w1 W) => (show N ≤ W.heap.size by have := hw.size; omega))
  refine wpAnyH_inv (fun l a W => l.size = 11 ∧ l.getD 1 true = true ∧ l.getD 2 true = true ∧ l.getD 5 true = true ∧ l.getD 6 true = true ∧ Below N w1 W ∧
      ∃ v3 v5 v8 v9 v12 v13 A D rA rD b, a = { tmps := #[.agg #[.slice aa T.rows.length ca, .slice ac T.costs.length cc, .slice ak T.cls.length ck], .pointer (some ⟨B, 0, none⟩), .pointer (some ⟨B2, 0, none⟩), v3, undef, v5, .pointer (some ⟨B, 1, none⟩), .slice ac T.costs.length cc, v8, v9, .pointer (some ⟨B, 2, none⟩), .slice ak T.cls.length ck, v12, v13, undef, undef, undef, undef, undef, undef, undef, undef, undef, undef, undef, undef, undef, undef, undef, undef, undef, undef, undef, undef], defers := [] } ∧
        OwnRs N W [A, D] [rA, rD] ∧ ThA l 0 3 v5 v8 A rA T.costs ∧ ThA l 4 7 v9 v12 D rD T.cls ∧
        (l.getD 8 true = true → v13 = .agg #[.slice none 0 0, v8, v12] ∧ l.getD 3 true = true ∧ l.getD 7 true = true) ∧
        (l.getD 9 true = true → v3 = .pointer (some ⟨b, 0, none⟩) ∧ N ≤ b ∧ Boxs W b 25 (if l.getD 10 true = true then #[.slice none 0 0, v8, v12] else #[.slice none 0 0, .slice none 0 0, .slice none 0 0])) ∧
        (l.getD 10 true = true → l.getD 8 true = true ∧ l.getD 9 true = true)) ?_ ?_ ?_ ?_ _ _ _ _ ?_ ?_
  · kernel_rfl
  · exact fun l a W hI => ⟨hI.1, (HBK.out W hI.2.2.2.2.2.1).c1, (HBK.out W hI.2.2.2.2.2.1).c2⟩
  · intro l a W i o hI ho hun hdep
    obtain ⟨hl9, h1, h2, h5, h6, hbl, v3, v5, v8, v9, v12, v13, A, D, rA, rD, b, rfl, hrs, hA, hD, hC8, hC9, hC10⟩ := hI
    have hs := HSZ.out W hbl
    match i, ho with
    | 0, ho =>
      cases ho
      obtain ⟨rfl, rfl⟩ := hA.s0 hun
      refine wpOpRun' (v := .slice (some ⟨W.heap.size, 0, none⟩) 0 0) (w' := W.alloc (.cells #[] 3)) (some 5) rfl rfl rfl (by go_simp <;> rfl) ?_
      simp only [Act.put, List.setIfInBounds_toArray, List.set_cons_zero, List.set_cons_succ]
      refine ⟨by rw [Array.size_setIfInBounds]; exact hl9, by rw [getD_set_ne (show (0 : Nat) ≠ 1 by decide)]; exact h1, by rw [getD_set_ne (show (0 : Nat) ≠ 2 by decide)]; exact h2, by rw [getD_set_ne (show (0 : Nat) ≠ 5 by decide)]; exact h5, by rw [getD_set_ne (show (0 : Nat) ≠ 6 by decide)]; exact h6, hbl.alloc hs _, v3, _, v8, v9, v12, v13, _, D, [], rD, b, rfl, hrs.void (k := 0) rfl hs, hA.start hun (by decide) (by omega) _, hD.skip (by decide) (by decide), by rw [getD_set_ne (show (0 : Nat) ≠ 8 by decide), getD_set_ne (show (0 : Nat) ≠ 3 by decide), getD_set_ne (show (0 : Nat) ≠ 7 by decide)]; exact hC8, by rw [getD_set_ne (show (0 : Nat) ≠ 9 by decide), getD_set_ne (show (0 : Nat) ≠ 10 by decide)]; exact fun h => ⟨(hC9 h).1, (hC9 h).2.1, (hC9 h).2.2.below (alloc_below W _)⟩, by rw [getD_set_ne (show (0 : Nat) ≠ 10 by decide), getD_set_ne (show (0 : Nat) ≠ 8 by decide), getD_set_ne (show (0 : Nat) ≠ 9 by decide)]; exact hC10⟩
    | 1, ho => rw [h1] at hun; cases hun
    | 2, ho => rw [h2] at hun; cases hun
    | 3, ho =>
      cases ho
      have hd := getD_tf (l := l) (i := 0) (by omega) (hdep { on := 0, ground := .data } (by simp) rfl)
      obtain ⟨h9, rfl⟩ := hA.s1 hd hun
      subst h9
      have hT := (HBK.out W hbl).tb.costs
      refine wpOpAppI (base := N) 3 (some 8) rfl rfl rfl (.tmp 5) (.tmp 7) rfl v5 [] rfl (hrs.inn 0 _ _ rfl rfl) (.slice ac T.costs.length cc) T.costs rfl hT (by simp; omega) hs fun v' w' happ => ?_
      have hok := (hrs.inn 0 _ _ rfl rfl)
      simp only [Act.put, List.setIfInBounds_toArray, List.set_cons_zero, List.set_cons_succ]
      refine ⟨by rw [Array.size_setIfInBounds]; exact hl9, by rw [getD_set_ne (show (3 : Nat) ≠ 1 by decide)]; exact h1, by rw [getD_set_ne (show (3 : Nat) ≠ 2 by decide)]; exact h2, by rw [getD_set_ne (show (3 : Nat) ≠ 5 by decide)]; exact h5, by rw [getD_set_ne (show (3 : Nat) ≠ 6 by decide)]; exact h6, happ.below hbl hok (Nat.le_refl _) hs, v3, v5, v', v9, v12, v13, v', D, T.costs, rD, b, rfl, hrs.app (k := 0) rfl happ, hA.fin hd (by decide) (by omega) _, hD.skip (by decide) (by decide), ?_, ?_, by rw [getD_set_ne (show (3 : Nat) ≠ 10 by decide), getD_set_ne (show (3 : Nat) ≠ 8 by decide), getD_set_ne (show (3 : Nat) ≠ 9 by decide)]; exact hC10⟩
      · intro h
        rw [getD_set_ne (show (3 : Nat) ≠ 8 by decide)] at h
        have h9 := (hC8 h).2.1
        rw [hun] at h9; cases h9
      · rw [getD_set_ne (show (3 : Nat) ≠ 9 by decide), getD_set_ne (show (3 : Nat) ≠ 10 by decide)]
        intro h
        have h10 : l.getD 10 true = false := by
          cases h10 : l.getD 10 true with
          | false => rfl
          | true => (have h9 := (hC8 (hC10 h10).1).2.1; rw [hun] at h9; cases h9)
        have hb := (hC9 h).2.2
        rw [h10] at hb ⊢
        exact ⟨(hC9 h).1, (hC9 h).2.1, hb.grown happ.2.1 (hb.not_own hok (by decide))⟩
    | 4, ho =>
      cases ho
      obtain ⟨rfl, rfl⟩ := hD.s0 hun
      refine wpOpRun' (v := .slice (some ⟨W.heap.size, 0, none⟩) 0 0) (w' := W.alloc (.cells #[] 3)) (some 9) rfl rfl rfl (by go_simp <;> rfl) ?_
      simp only [Act.put, List.setIfInBounds_toArray, List.set_cons_zero, List.set_cons_succ]
      refine ⟨by rw [Array.size_setIfInBounds]; exact hl9, by rw [getD_set_ne (show (4 : Nat) ≠ 1 by decide)]; exact h1, by rw [getD_set_ne (show (4 : Nat) ≠ 2 by decide)]; exact h2, by rw [getD_set_ne (show (4 : Nat) ≠ 5 by decide)]; exact h5, by rw [getD_set_ne (show (4 : Nat) ≠ 6 by decide)]; exact h6, hbl.alloc hs _, v3, v5, v8, _, v12, v13, A, _, rA, [], b, rfl, hrs.void (k := 1) rfl hs, hA.skip (by decide) (by decide), hD.start hun (by decide) (by omega) _, by rw [getD_set_ne (show (4 : Nat) ≠ 8 by decide), getD_set_ne (show (4 : Nat) ≠ 3 by decide), getD_set_ne (show (4 : Nat) ≠ 7 by decide)]; exact hC8, by rw [getD_set_ne (show (4 : Nat) ≠ 9 by decide), getD_set_ne (show (4 : Nat) ≠ 10 by decide)]; exact fun h => ⟨(hC9 h).1, (hC9 h).2.1, (hC9 h).2.2.below (alloc_below W _)⟩, by rw [getD_set_ne (show (4 : Nat) ≠ 10 by decide), getD_set_ne (show (4 : Nat) ≠ 8 by decide), getD_set_ne (show (4 : Nat) ≠ 9 by decide)]; exact hC10⟩
    | 5, ho => rw [h5] at hun; cases hun
    | 6, ho => rw [h6] at hun; cases hun
    | 7, ho =>
      cases ho
      have hd := getD_tf (l := l) (i := 4) (by omega) (hdep { on := 4, ground := .data } (by simp) rfl)
      obtain ⟨h9, rfl⟩ := hD.s1 hd hun
      subst h9
      have hT := (HBK.out W hbl).tb.cls
      refine wpOpAppI (base := N) 7 (some 12) rfl rfl rfl (.tmp 9) (.tmp 11) rfl v9 [] rfl (hrs.inn 1 _ _ rfl rfl) (.slice ak T.cls.length ck) T.cls rfl hT (by simp; omega) hs fun v' w' happ => ?_
      have hok := (hrs.inn 1 _ _ rfl rfl)
      simp only [Act.put, List.setIfInBounds_toArray, List.set_cons_zero, List.set_cons_succ]
      refine ⟨by rw [Array.size_setIfInBounds]; exact hl9, by rw [getD_set_ne (show (7 : Nat) ≠ 1 by decide)]; exact h1, by rw [getD_set_ne (show (7 : Nat) ≠ 2 by decide)]; exact h2, by rw [getD_set_ne (show (7 : Nat) ≠ 5 by decide)]; exact h5, by rw [getD_set_ne (show (7 : Nat) ≠ 6 by decide)]; exact h6, happ.below hbl hok (Nat.le_refl _) hs, v3, v5, v8, v9, v', v13, A, v', rA, T.cls, b, rfl, hrs.app (k := 1) rfl happ, hA.skip (by decide) (by decide), hD.fin hd (by decide) (by omega) _, ?_, ?_, by rw [getD_set_ne (show (7 : Nat) ≠ 10 by decide), getD_set_ne (show (7 : Nat) ≠ 8 by decide), getD_set_ne (show (7 : Nat) ≠ 9 by decide)]; exact hC10⟩
      · intro h
        rw [getD_set_ne (show (7 : Nat) ≠ 8 by decide)] at h
        have h9 := (hC8 h).2.2
        rw [hun] at h9; cases h9
      · rw [getD_set_ne (show (7 : Nat) ≠ 9 by decide), getD_set_ne (show (7 : Nat) ≠ 10 by decide)]
        intro h
        have h10 : l.getD 10 true = false := by
          cases h10 : l.getD 10 true with
          | false => rfl
          | true => (have h9 := (hC8 (hC10 h10).1).2.2; rw [hun] at h9; cases h9)
        have hb := (hC9 h).2.2
        rw [h10] at hb ⊢
        exact ⟨(hC9 h).1, (hC9 h).2.1, hb.grown happ.2.1 (hb.not_own hok (by decide))⟩
    | 8, ho =>
      cases ho
      have hd3 := getD_tf (l := l) (i := 3) (by omega) (hdep { on := 3, ground := .data } (by simp) rfl)
      have hd7 := getD_tf (l := l) (i := 7) (by omega) (hdep { on := 7, ground := .data } (by simp) rfl)
      obtain ⟨rfl, rfl⟩ := hA.s2 hd3
      obtain ⟨rfl, rfl⟩ := hD.s2 hd7
      obtain ⟨a8, k8, rfl⟩ := owns_form (hrs.inn 0 _ _ rfl rfl)
      obtain ⟨a12, k12, rfl⟩ := owns_form (hrs.inn 1 _ _ rfl rfl)
      refine wpOpRun' (v := .agg #[.slice none 0 0, .slice a8 T.costs.length k8, .slice a12 T.cls.length k12]) (w' := W) (some 13) rfl rfl rfl (by go_simp <;> rfl) ?_
      simp only [Act.put, List.setIfInBounds_toArray, List.set_cons_zero, List.set_cons_succ]
      refine ⟨by rw [Array.size_setIfInBounds]; exact hl9, by rw [getD_set_ne (show (8 : Nat) ≠ 1 by decide)]; exact h1, by rw [getD_set_ne (show (8 : Nat) ≠ 2 by decide)]; exact h2, by rw [getD_set_ne (show (8 : Nat) ≠ 5 by decide)]; exact h5, by rw [getD_set_ne (show (8 : Nat) ≠ 6 by decide)]; exact h6, hbl, v3, v5, _, v9, _, _, _, _, _, _, b, rfl, hrs, hA.skip (by decide) (by decide), hD.skip (by decide) (by decide), fun _ => ⟨rfl, by rw [getD_set_ne (show (8 : Nat) ≠ 3 by decide)]; exact hd3, by rw [getD_set_ne (show (8 : Nat) ≠ 7 by decide)]; exact hd7⟩, by rw [getD_set_ne (show (8 : Nat) ≠ 9 by decide), getD_set_ne (show (8 : Nat) ≠ 10 by decide)]; exact fun h => ⟨(hC9 h).1, (hC9 h).2.1, (hC9 h).2.2⟩, by rw [getD_set_ne (show (8 : Nat) ≠ 10 by decide), getD_set_ne (show (8 : Nat) ≠ 9 by decide)]; exact fun h => ⟨getD_set_self (by omega), (hC10 h).2⟩⟩
    | 9, ho =>
      cases ho
      refine wpOpRun' (v := .pointer (some ⟨W.heap.size, 0, none⟩)) (w' := W.alloc (.cells #[.slice none 0 0, .slice none 0 0, .slice none 0 0] 25)) (some 3) rfl rfl rfl (by go_simp <;> rfl) ?_
      have h10 : l.getD 10 true = false := by cases h10 : l.getD 10 true with | false => rfl | true => (have h9 := (hC10 h10).2; rw [hun] at h9; cases h9)
      simp only [Act.put, List.setIfInBounds_toArray, List.set_cons_zero, List.set_cons_succ]
      refine ⟨by rw [Array.size_setIfInBounds]; exact hl9, by rw [getD_set_ne (show (9 : Nat) ≠ 1 by decide)]; exact h1, by rw [getD_set_ne (show (9 : Nat) ≠ 2 by decide)]; exact h2, by rw [getD_set_ne (show (9 : Nat) ≠ 5 by decide)]; exact h5, by rw [getD_set_ne (show (9 : Nat) ≠ 6 by decide)]; exact h6, hbl.alloc hs _, _, v5, v8, v9, v12, v13, A, D, rA, rD, W.heap.size, rfl, hrs.below (alloc_below W _), hA.skip (by decide) (by decide), hD.skip (by decide) (by decide), by rw [getD_set_ne (show (9 : Nat) ≠ 8 by decide), getD_set_ne (show (9 : Nat) ≠ 3 by decide), getD_set_ne (show (9 : Nat) ≠ 7 by decide)]; exact hC8, fun _ => ⟨rfl, hs, by rw [getD_set_ne (show (9 : Nat) ≠ 10 by decide), h10]; exact Boxs.new W 25 _⟩, by rw [getD_set_ne (show (9 : Nat) ≠ 10 by decide), h10]; exact fun h => by cases h⟩
    | 10, ho =>
      cases ho
      have hd8 := getD_tf (l := l) (i := 8) (by omega) (hdep { on := 8, ground := .data } (by simp) rfl)
      have hd9 := getD_tf (l := l) (i := 9) (by omega) (hdep { on := 9, ground := .data } (by simp) rfl)
      obtain ⟨rfl, hd3, hd7⟩ := hC8 hd8
      obtain ⟨rfl, hNb, hb⟩ := hC9 hd9
      rw [hun] at hb
      obtain ⟨rfl, rfl⟩ := hA.s2 hd3
      obtain ⟨rfl, rfl⟩ := hD.s2 hd7
      obtain ⟨a8, k8, rfl⟩ := owns_form (hrs.inn 0 _ _ rfl rfl)
      obtain ⟨a12, k12, rfl⟩ := owns_form (hrs.inn 1 _ _ rfl rfl)
      have z0 := hb.cell 0
      have z1 := hb.cell 1
      have z2 := hb.cell 2
      have y0 := hb.frozen 0
      have y1 := hb.frozen 1
      have y2 := hb.frozen 2
      simp at z0 z1 z2
      have hbx := ((hb.put 0 (.slice none 0 0)).put 1 (.slice a8 T.costs.length k8)).put 2 (.slice a12 T.cls.length k12)
      have hblt := hb.lt
      refine wpOpSkip (w' := ((W.setCell ⟨b, 0, none⟩ (.slice none 0 0)).setCell ⟨b, 1, none⟩ (.slice a8 T.costs.length k8)).setCell ⟨b, 2, none⟩ (.slice a12 T.cls.length k12)) 10 rfl rfl rfl (by go_simp <;> rfl) ?_
      refine ⟨by rw [Array.size_setIfInBounds]; exact hl9, by rw [getD_set_ne (show (10 : Nat) ≠ 1 by decide)]; exact h1, by rw [getD_set_ne (show (10 : Nat) ≠ 2 by decide)]; exact h2, by rw [getD_set_ne (show (10 : Nat) ≠ 5 by decide)]; exact h5, by rw [getD_set_ne (show (10 : Nat) ≠ 6 by decide)]; exact h6, ((hbl.setCell (p := ⟨b, 0, none⟩) hNb _).setCell (p := ⟨b, 1, none⟩) hNb _).setCell (p := ⟨b, 2, none⟩) hNb _, _, v5, _, v9, _, _, _, _, _, _, b, rfl, ((hrs.boxset hb (by decide) _).boxset (hb.put 0 _) (by decide) _).boxset ((hb.put 0 _).put 1 _) (by decide) _, hA.skip (by decide) (by decide), hD.skip (by decide) (by decide), by rw [getD_set_ne (show (10 : Nat) ≠ 8 by decide), getD_set_ne (show (10 : Nat) ≠ 3 by decide), getD_set_ne (show (10 : Nat) ≠ 7 by decide)]; exact fun _ => ⟨rfl, hd3, hd7⟩, fun _ => ⟨rfl, hNb, by rw [getD_set_self (show 10 < l.size by omega)]; exact hbx⟩, fun _ => ⟨by rw [getD_set_ne (show (10 : Nat) ≠ 8 by decide)]; exact hd8, by rw [getD_set_ne (show (10 : Nat) ≠ 9 by decide)]; exact hd9⟩⟩
    | n + 11, ho => cases ho
  · intro l a W hI hall
    obtain ⟨hl9, h1, h2, h5, h6, hbl, v3, v5, v8, v9, v12, v13, A, D, rA, rD, b, rfl, hrs, hA, hD, hC8, hC9, hC10⟩ := hI
    obtain ⟨rfl, _, _⟩ := hC8 (hall 8 (by decide))
    obtain ⟨rfl, hNb, hb⟩ := hC9 (hall 9 (by decide))
    rw [hall 10 (by decide)] at hb
    obtain ⟨rfl, rfl⟩ := hA.s2 (hall 3 (by decide))
    obtain ⟨rfl, rfl⟩ := hD.s2 (hall 7 (by decide))
    clear hA hD hC8 hC9 hC10 hall h1 h2 h5 h6 hl9 G1
    refine ‹∀ (a : Act) (w : World), Code.wp Try.prog _ _ a w → (_ : Act → World → Prop) a w› _ _ ?_
    obtain ⟨a8, k8, rfl⟩ := owns_form (hrs.inn 0 _ _ rfl rfl)
    obtain ⟨a12, k12, rfl⟩ := owns_form (hrs.inn 1 _ _ rfl rfl)
    have HRS := Lib.hid hrs; have HB := Lib.hid hb; have HBL := Lib.hid hbl
    have c0 := (HBK.out W hbl).c0
    clear hrs hb hbl
    go_wp2_with fail
    clear c0
    go_loopw [4] (fun i wr => ∃ (k : Nat) (us : List Value) (v0 : Value), k ≤ T.rows.length ∧ i = .int .i64 k ∧ Boxs wr b 25 #[v0, .slice a8 T.costs.length k8, .slice a12 T.cls.length k12] ∧ wr.ownsRow N 22 1 v0 k us ∧
      OwnRs N wr (.slice a8 T.costs.length k8 :: .slice a12 T.cls.length k12 :: us) (T.costs :: T.cls :: T.rows.take k) ∧ Below N w1 wr) (fun i _ => T.rows.length - (intOf i).toNat)
    case atStart => exact ⟨0, [], .slice none 0 0, Nat.zero_le _, rfl, HB.out, World.ownsRow_nil _ _ _ _, HRS.out, HBL.out⟩
    case round =>
      clear HB HBL HRS
      obtain ⟨k, us, v0, hk, rfl, hb, hown, hrs, hbl⟩ := hrel
      have hk0 : (0 : Int) ≤ (k : Int) := Int.natCast_nonneg _
      have hbt := HBK.out _ hbl
      have c0 := hbt.c0
      have hs := HSZ.out wr hbl
      have HB := Lib.hid hb; have HO := Lib.hid hown; have HRS := Lib.hid hrs; have HBL := Lib.hid hbl
      by_cases hlt : k < T.rows.length
      · have hk1 : (k : Int) < (T.rows.length : Int) := by omega
        obtain ⟨row, hrow⟩ := elem_at hlt
        obtain ⟨br, or, u, rfl, hltr0, li0, hu⟩ := rows_at HBT.out.tb.rows hrow
        obtain ⟨au, cu, rfl⟩ := hu.form
        have hbrN : br < N := by rw [← hN]; exact hltr0
        have LI := Lib.hid (fun (W : World) (hw : Below N w1 W) => (hw.cell (p := ⟨br, or + k, none⟩) hbrN).trans li0)
        have HU := Lib.hid (fun (W : World) (hw : Below N w1 W) => hu.below (w' := W) (by rw [hN]; exact hw))
        have li := LI.out _ hbl
        obtain ⟨av, cv, rfl⟩ := owns_form hown
        have hrl : row.length ≤ 1000 := hl.2.2.2 row (List.mem_of_getElem? hrow)
        have cb := hb.cell 0
        simp at cb
        have HROW := Lib.hid hrow
        clear li0 hltr0 hb hown hrs hbl hu hrow hbt
        go_wp2_with fail
        refine wp_region_E (fun W => W.cell? ⟨B, 0, none⟩ = some (.slice (some ⟨br, or, none⟩) T.rows.length ca) ∧ W.cell? ⟨br, or + k, none⟩ = some (.slice au row.length cu) ∧ W.cell? ⟨b, 0, none⟩ = some (.slice av k cv)) (by kernel_rfl) ?_
        have hdr : (wr).drew = { wr with drawn := (wr).drawn + 1 } := rfl
        rw [← hdr]
        clear hdr
        have hbl1 := Below.dn HBL.out 1
        change wpAnyE _ _ _ _ _ _ _ _ (wr.drewN 1)
        refine tg 0 21 rfl rfl (.pointer (some ⟨b, 0, none⟩)) ⟨c0, li, cb⟩ ?_
        try simp only [pa, pl]
        refine tk 1 22 rfl rfl (.slice av k cv) (fun W hW => by obtain ⟨c0, li, cb⟩ := hW; go_simp) ⟨c0, li, cb⟩ ?_
        try simp only [pa, pl]
        refine tg 3 24 rfl rfl (.pointer (some ⟨B, 0, none⟩)) ⟨c0, li, cb⟩ ?_
        try simp only [pa, pl]
        refine tk 4 25 rfl rfl (.slice (some ⟨br, or, none⟩) T.rows.length ca) (fun W hW => by obtain ⟨c0, li, cb⟩ := hW; go_simp) ⟨c0, li, cb⟩ ?_
        try simp only [pa, pl]
        refine tm 5 26 rfl rfl (.int .i64 (k : Int)) ⟨c0, li, cb⟩ ?_
        try simp only [pa, pl]
        refine tg 6 27 rfl rfl (.pointer (some ⟨br, or + k, none⟩)) ⟨c0, li, cb⟩ ?_
        try simp only [pa, pl]
        refine tk 7 28 rfl rfl (.slice au row.length cu) (fun W hW => by obtain ⟨c0, li, cb⟩ := hW; go_simp) ⟨c0, li, cb⟩ ?_
        try simp only [pa, pl]
        have hs1 : N ≤ (wr.drewN 1).heap.size := hs
        have hrs1 := (HRS.out.below (Below.dn (Below.refl _ _) 1)).voidL hs1
        have ho1 := owns_below (owns_below HO.out (Below.dn (Below.refl _ _) 1)) (alloc_below (wr.drewN 1) (.cells #[] 3))
        have hb1 := Boxs.below (HB.out.dn 1) (alloc_below (wr.drewN 1) (.cells #[] 3))
        have hbl1 := hbl1.alloc hs1 (.cells #[] 3)
        have hu1 := HU.out _ hbl1
        refine wpAnyEOne 2 (by kernel_rfl) ?_
        refine wpOpRun' (v := .slice (some ⟨(wr.drewN 1).heap.size, 0, none⟩) 0 0) (w' := (wr.drewN 1).alloc (.cells #[] 3)) (some 23) rfl rfl rfl (by go_simp <;> rfl) ?_
        refine ⟨.inl (⟨(HBK.out _ hbl1).c0, LI.out _ hbl1, by have := hb1.cell 0; simpa using this⟩), ?_⟩
        try simp only [pa, pl]
        refine wpAnyEOne 8 (by kernel_rfl) ?_
        refine wpOpAppI (base := N) 8 (some 29) rfl rfl rfl (.tmp 23) (.tmp 28) rfl (.slice (some ⟨(wr.drewN 1).heap.size, 0, none⟩) 0 0) [] rfl hrs1.last (.slice au row.length cu) row rfl hu1 (by simp; omega) (by simp; omega) fun v29 w2 happ => ?_
        have hrs2 := hrs1.appL (zs := row) happ
        have ho2 := owns_app ho1 hrs1.last happ (by decide)
        have hb2 := Boxs.app hb1 hrs1.last happ (by decide)
        have hbl2 := happ.below hbl1 hrs1.last (Nat.le_refl _) (by simp; omega)
        obtain ⟨a29, k29, rfl⟩ := happ.form
        have hs2 : N ≤ w2.heap.size := HSZ.out _ hbl2
        have hrs3 := hrs2.below (alloc_below w2 (.cells #[.slice a29 row.length k29] 22))
        have ho3 := owns_below ho2 (alloc_below w2 (.cells #[.slice a29 row.length k29] 22))
        have hb3 := Boxs.below hb2 (alloc_below w2 (.cells #[.slice a29 row.length k29] 22))
        have hbl3 := hbl2.alloc hs2 (.cells #[.slice a29 row.length k29] 22)
        refine ⟨.inl (⟨(HBK.out _ hbl2).c0, LI.out _ hbl2, by have := hb2.cell 0; simpa using this⟩), ?_⟩
        try simp only [pa, pl]
        refine wpAnyEOne 9 (by kernel_rfl) ?_
        refine wpOpRun' (v := .slice (some ⟨w2.heap.size, 0, none⟩) 1 1) (w' := w2.alloc (.cells #[.slice a29 row.length k29] 22)) (some 30) rfl rfl rfl (by go_simp <;> rfl) ?_
        refine ⟨.inl (⟨(HBK.out _ hbl3).c0, LI.out _ hbl3, by have := hb3.cell 0; simpa using this⟩), ?_⟩
        try simp only [pa, pl]
        refine wpAnyEOne 10 (by kernel_rfl) ?_
        refine wpOpAppR (base := N) 10 (some 31) rfl rfl rfl (.tmp 22) (.tmp 30) rfl (.slice av k cv) k us rfl ho3 (.slice (some ⟨w2.heap.size, 0, none⟩) 1 1) [.slice a29 row.length k29] rfl (Rd_fresh w2 22 #[.slice a29 row.length k29] 1 rfl (by omega)) (by simp [Value.oneCell']) (by simp; omega) (by simp; omega) fun v31 w4 happ2 => ?_
        have hrs4 := hrs3.appO ho3 happ2 (by decide)
        have hb4 := Boxs.app hb3 ho3 happ2 (by decide)
        have hbl4 := happ2.below hbl3 ho3 (Nat.le_refl _) (by simp; omega)
        have ho4 : w4.ownsRow N 22 1 v31 (k + 1) (us ++ [.slice a29 row.length k29]) := happ2.1
        obtain ⟨a31, k31, rfl⟩ := happ2.form
        have z0 := hb4.cell 0
        have y0 := hb4.frozen 0
        simp at z0
        have hb12 := hb4.put 0 (.slice a31 (k + 1) k31)
        have hbl12 := hbl4.setCell (p := ⟨b, 0, none⟩) hNb (.slice a31 (k + 1) k31)
        have hrs12 := hrs4.boxset hb4 (by decide) (o := 0) (.slice a31 (k + 1) k31)
        have ho12 := owns_boxset ho4 hb4 (by decide) (o := 0) (.slice a31 (k + 1) k31)
        simp only [List.setIfInBounds_toArray, List.set_cons_zero] at hb12
        refine ⟨.inl (⟨(HBK.out _ hbl4).c0, LI.out _ hbl4, by have := hb4.cell 0; simpa using this⟩), ?_⟩
        try simp only [pa, pl]
        refine tg 11 32 rfl rfl (.pointer (some ⟨b, 0, none⟩)) ⟨(HBK.out _ hbl4).c0, LI.out _ hbl4, by have := hb4.cell 0; simpa using this⟩ ?_
        try simp only [pa, pl]
        refine wpAnyEOne 12 (by kernel_rfl) ?_
        refine wpOpSkip (w' := w4.setCell ⟨b, 0, none⟩ (.slice a31 (k + 1) k31)) 12 rfl rfl rfl (by go_simp <;> rfl) ?_
        refine ⟨.inr (allUp_of (by kernel_rfl)), ?_⟩
        try simp only [pa, pl]
        refine wpAnyE_done (by kernel_rfl) ?_ _
        have hlen2 : us.length = k := by have := HO.out.1; omega
        have HFIN := Lib.hid (show OwnRs N _ (.slice a8 T.costs.length k8 :: .slice a12 T.cls.length k12 :: (us ++ [.slice a29 row.length k29])) (T.costs :: T.cls :: T.rows.take (k + 1)) from by rw [take_succ_at HROW.out]; exact hrs12)
        have HB12 := Lib.hid hb12; have HO12 := Lib.hid ho12; have HBL12 := Lib.hid hbl12
        clear hb12 ho12 hbl12 hrs12
        go_wp2_with fail
        go_roundw
        case rel => exact ⟨k + 1, _, _, by omega, by go_num, HB12.out, HO12.out, HFIN.out, HBL12.out⟩
        case measure => simp [intOf]; omega
      · obtain rfl : k = T.rows.length := by omega
        have hk1 : ¬ (T.rows.length : Int) < (T.rows.length : Int) := by omega
        obtain ⟨av, cv, rfl⟩ := owns_form hown
        rw [List.take_length] at hrs
        have HF := Lib.hid hrs
        clear hown hrs hbt
        have z0 := HB.out.cell 0
        have z1 := HB.out.cell 1
        have z2 := HB.out.cell 2
        simp at z0 z1 z2
        have HT2 := Lib.hid (HT2.out.of_below hbl hB2N)
        clear hb hbl
        have x0 := HT2.out.cell 0
        have x1 := HT2.out.cell 1
        have x2 := HT2.out.cell 2
        have y0 := HT2.out.frozen 0
        have y1 := HT2.out.frozen 1
        have y2 := HT2.out.frozen 2
        simp at x0 x1 x2
        have HB2lt := HT2.out.lt
        go_wp2_with fail
        have hbx := ((HT2.out.put 0 (.slice av T.rows.length cv)).put 1 (.slice a8 T.costs.length k8)).put 2 (.slice a12 T.cls.length k12)
        have e0 := hbx.cell 0
        have e1 := hbx.cell 1
        have e2 := hbx.cell 2
        simp at e0 e1 e2
        have hO' := owns_boxset (owns_boxset (owns_boxset HO.out HT2.out (by decide) (o := 0) (.slice av T.rows.length cv)) (HT2.out.put 0 _) (by decide) (o := 1) (.slice a8 T.costs.length k8)) ((HT2.out.put 0 _).put 1 _) (by decide) (o := 2) (.slice a12 T.cls.length k12)
        have hR' := ((HF.out.boxset HT2.out (by decide) (o := 0) (.slice av T.rows.length cv)).boxset (HT2.out.put 0 _) (by decide) (o := 1) (.slice a8 T.costs.length k8)).boxset ((HT2.out.put 0 _).put 1 _) (by decide) (o := 2) (.slice a12 T.cls.length k12)
        subst hB
        refine bodyPost_ret (v := .agg #[.slice av T.rows.length cv, .slice a8 T.costs.length k8, .slice a12 T.cls.length k12]) ?_ rfl ⟨⟨_, _, _, us, rfl, OwnT.le ⟨hO', hR'⟩ (by omega)⟩, (((HBX.out.trans (HBL.out.mono hwN)).setCell (p := ⟨B2, 0, none⟩) hwB2 _).setCell (p := ⟨B2, 1, none⟩) hwB2 _).setCell (p := ⟨B2, 2, none⟩) hwB2 _⟩
        simp only [results, Try.results36]
        simp [go_sem, e0, e1, e2]
  · exact of_decide_eq_true (by kernel_rfl)
  · exact ⟨rfl, rfl, rfl, rfl, rfl, Below.dn ((Below.refl _ _)) 1, _, _, _, _, _, _, _, _, [], [], 0, rfl, OwnRs.nils _ _ 2, ThA.new _ _ _ rfl rfl, ThA.new _ _ _ rfl rfl, fun h => (by cases h), fun h => (by cases h), fun h => (by cases h)⟩
end Go.Proofs.Ytmkkegigajmhkaa

namespace Go.Proofs.Ytmkkegigajmhkaa
open Go.RowKit Go.Maps

theorem Boxs.setOther {W : World} {B B' o : Nat} {t : TypeId} {cs : Array Value} (h : Boxs W B t cs) (hne : B ≠ B') (x : Value) : Boxs (W.setCell ⟨B', o, none⟩ x) B t cs := (Below.heap_setCell _ _ _ _ hne).trans h
structure MT (n0 : Nat) (w W : World) (b B2 : Nat) (cs rs : Array Value) (va : Value) (n : Nat) (us vs : List Value) (rows : List (List Int)) : Prop where
  hb : n0 ≤ b
  hB2 : n0 ≤ B2
  ne : b ≠ B2
  sz : n0 ≤ W.heap.size
  bel : Below n0 w W
  box : Boxs W b 25 cs
  res : Boxs W B2 25 rs
  out : W.ownsRow n0 22 1 va n us
  rs : OwnRs n0 W vs rows
section
variable {n0 : Nat} {w W W' : World} {b B2 n : Nat} {cs rs : Array Value} {va : Value} {us vs : List Value} {rows : List (List Int)}
theorem MT.below (h : MT n0 w W b B2 cs rs va n us vs rows) (hb : Below W.heap.size W W') : MT n0 w W' b B2 cs rs va n us vs rows :=
  ⟨h.hb, h.hB2, h.ne, Nat.le_trans h.sz hb.size, h.bel.trans (hb.mono h.sz), Boxs.below h.box hb, Boxs.below h.res hb, owns_below h.out hb, h.rs.below hb⟩
theorem MT.dn (h : MT n0 w W b B2 cs rs va n us vs rows) : MT n0 w (W.drewN 1) b B2 cs rs va n us vs rows := h.below (Below.dn (Below.refl _ _) 1)
theorem MT.alloc (h : MT n0 w W b B2 cs rs va n us vs rows) (o : Obj) : MT n0 w (W.alloc o) b B2 cs rs va n us vs rows := h.below (alloc_below W o)
theorem MT.appI (h : MT n0 w W b B2 cs rs va n us vs rows) (k : Nat) {u v' : Value} {zs : List Int} (hu : vs[k]? = some u) (ha : AppOut n0 3 W u zs.length (ints zs) v' W') : MT n0 w W' b B2 cs rs va n us (vs.set k v') (rows.set k zs) := by
  have hkl := (List.getElem?_eq_some_iff.1 hu).1
  obtain ⟨r, hr⟩ := elem_at (show k < rows.length by rw [← h.rs.len]; exact hkl)
  have hown := h.rs.inn k u r hu hr
  exact ⟨h.hb, h.hB2, h.ne, Nat.le_trans h.sz ha.size, ha.below h.bel hown (Nat.le_refl _) h.sz, Boxs.app h.box hown ha (by decide), Boxs.app h.res hown ha (by decide), owns_app h.out hown ha (by decide), h.rs.app hu ha⟩
/-- a new row of ints -/
theorem OwnRs.newL {N : Nat} {W : World} {us : List Value} {rows : List (List Int)} (h : OwnRs N W us rows) (hN : N ≤ W.heap.size) (xs : List Int) (hx : xs.length ≤ 1000000) :
    OwnRs N (W.alloc (.cells (ints xs).toArray 3)) (us ++ [.slice (some ⟨W.heap.size, 0, none⟩) xs.length xs.length]) (rows ++ [xs]) := by
  refine (h.below (alloc_below W _)).snoc ?_ fun k u' b h1 h2 h3 => ?_
  · exact owns_block (size := 1) (n := xs.length) (Boxs.new W 3 _) hN rfl (by rw [ints_len]; omega) hx
  · have h4 : W.heap.size = b := by simpa [Value.ownBlock] using h3
    obtain ⟨r1, hr1⟩ := elem_at (show k < rows.length by have := (List.getElem?_eq_some_iff.1 h1).1; rw [h.len] at this; exact this)
    have := ((h.inn k u' r1 h1 hr1).lt b h2).2
    omega
theorem MT.newL (h : MT n0 w W b B2 cs rs va n us vs rows) (xs : List Int) (hx : xs.length ≤ 1000000) : MT n0 w (W.alloc (.cells (ints xs).toArray 3)) b B2 cs rs va n us (vs ++ [.slice (some ⟨W.heap.size, 0, none⟩) xs.length xs.length]) (rows ++ [xs]) :=
  let h' := h.alloc (.cells (ints xs).toArray 3)
  ⟨h.hb, h.hB2, h.ne, h'.sz, h'.bel, h'.box, h'.res, h'.out, h.rs.newL h.sz xs hx⟩
theorem MT.appL {u v' : Value} {r zs : List Int} (h : MT n0 w W b B2 cs rs va n us (vs ++ [u]) (rows ++ [r])) (ha : AppOut n0 3 W u zs.length (ints zs) v' W') : MT n0 w W' b B2 cs rs va n us (vs ++ [v']) (rows ++ [zs]) :=
  ⟨h.hb, h.hB2, h.ne, Nat.le_trans h.sz ha.size, ha.below h.bel h.rs.last (Nat.le_refl _) h.sz, Boxs.app h.box h.rs.last ha (by decide), Boxs.app h.res h.rs.last ha (by decide), owns_app h.out h.rs.last ha (by decide), h.rs.appL ha⟩
theorem MT.nilL (h : MT n0 w W b B2 cs rs va n us vs rows) : MT n0 w W b B2 cs rs va n us (vs ++ [.slice none 0 0]) (rows ++ [[]]) :=
  ⟨h.hb, h.hB2, h.ne, h.sz, h.bel, h.box, h.res, h.out, h.rs.snoc (World.ownsRow_nil _ _ _ _) (fun k u' b h1 h2 h3 => by cases h3)⟩
theorem MT.appR {va' : Value} {m : Nat} {us' : List Value} (h : MT n0 w W b B2 cs rs va n us vs rows) (ha : AppOut n0 22 W va m us' va' W') : MT n0 w W' b B2 cs rs va' m us' vs rows :=
  ⟨h.hb, h.hB2, h.ne, Nat.le_trans h.sz ha.size, ha.below h.bel h.out (Nat.le_refl _) h.sz, Boxs.app h.box h.out ha (by decide), Boxs.app h.res h.out ha (by decide), ha.1, h.rs.appO h.out ha (by decide)⟩
/-- a field of the table's variable is set -/
theorem MT.put (h : MT n0 w W b B2 cs rs va n us vs rows) (j : Nat) (x : Value) : MT n0 w (W.setCell ⟨b, j, none⟩ x) b B2 (cs.setIfInBounds j x) rs va n us vs rows :=
  ⟨h.hb, h.hB2, h.ne, by simpa using h.sz, h.bel.setCell (p := ⟨b, j, none⟩) h.hb x, h.box.put j x, h.res.setOther (Ne.symm h.ne) x, owns_boxset h.out h.box (by decide) x, h.rs.boxset h.box (by decide) x⟩
theorem MT.puti (h : MT n0 w W b B2 cs rs va n us vs rows) {g m c k j : Nat} {r : List Int} (hu : vs[k]? = some (.slice (some ⟨g, 0, none⟩) m c)) (hr : rows[k]? = some r) (x : Int) :
    MT n0 w (W.setCell ⟨g, j, none⟩ (.int .i64 x)) b B2 cs rs va n us vs (rows.set k (r.set j x)) := by
  have hown := h.rs.inn k _ r hu hr
  have h1 : b ≠ g := fun e => h.box.not_own hown (by decide) (by rw [e]; rfl)
  have h2 : B2 ≠ g := fun e => h.res.not_own hown (by decide) (by rw [e]; rfl)
  exact ⟨h.hb, h.hB2, h.ne, by simpa using h.sz, h.bel.setCell (p := ⟨g, j, none⟩) ((hown.lt g rfl).1) _, h.box.setOther h1 _, h.res.setOther h2 _, ownsRow_setCell_other (a := ⟨g, j, none⟩) h.out (fun e => owns_type h.out hown (by decide) e rfl) _, h.rs.put hu hr x⟩
/-- an element of the rows is set -/
theorem MT.putu {g c j : Nat} (h : MT n0 w W b B2 cs rs (.slice (some ⟨g, 0, none⟩) n c) n us vs rows) (x : Value) :
    MT n0 w (W.setCell ⟨g, j, none⟩ x) b B2 cs rs (.slice (some ⟨g, 0, none⟩) n c) n (us.set j x) vs rows := by
  have h1 : b ≠ g := fun e => h.box.not_own h.out (by decide) (by rw [e]; rfl)
  have h2 : B2 ≠ g := fun e => h.res.not_own h.out (by decide) (by rw [e]; rfl)
  exact ⟨h.hb, h.hB2, h.ne, by simpa using h.sz, h.bel.setCell (p := ⟨g, j, none⟩) ((h.out.lt g rfl).1) _, h.box.setOther h1 _, h.res.setOther h2 _, (h.out.stored j x).1, h.rs.len,
    fun k u r hu hr => ownsRow_setCell_other (a := ⟨g, j, none⟩) (h.rs.inn k u r hu hr) (fun e => owns_type (h.rs.inn k u r hu hr) h.out (by decide) e rfl) _, h.rs.dis⟩
theorem MT.cell (h : MT n0 w W b B2 cs rs va n us vs rows) (j : Nat) : W.cell? ⟨b, j, none⟩ = cs[j]? := h.box.cell j
theorem MT.row (h : MT n0 w W b B2 cs rs va n us vs rows) {k : Nat} {u : Value} {r : List Int} (hu : vs[k]? = some u) (hr : rows[k]? = some r) : W.ownsRow n0 3 1 u r.length (ints r) := h.rs.inn k u r hu hr
theorem MT.of {va vc vk : Value} {us : List Value} {T : Tb} (ho : OwnT n0 W va vc vk us T) (hw : n0 ≤ w.heap.size) (hbel : Below n0 w W) {b B2 : Nat} {cs rs : Array Value} (hb : n0 ≤ b) (hB2 : n0 ≤ B2) (hne : b ≠ B2) (box : Boxs W b 25 cs) (res : Boxs W B2 25 rs) :
    MT n0 w W b B2 cs rs va T.rows.length us (vc :: vk :: us) (T.costs :: T.cls :: T.rows) := ⟨hb, hB2, hne, Nat.le_trans hw hbel.size, hbel, box, res, ho.out, ho.rs⟩
theorem MT.ownT {va vc vk : Value} {us : List Value} {T : Tb} (h : MT n0 w W b B2 cs rs va T.rows.length us (vc :: vk :: us) (T.costs :: T.cls :: T.rows)) : OwnT n0 W va vc vk us T := ⟨h.out, h.rs⟩
/-- the result is set -/
theorem MT.putres (h : MT n0 w W b B2 cs rs va n us vs rows) (j : Nat) (x : Value) : MT n0 w (W.setCell ⟨B2, j, none⟩ x) b B2 cs (rs.setIfInBounds j x) va n us vs rows :=
  ⟨h.hb, h.hB2, h.ne, by simpa using h.sz, h.bel.setCell (p := ⟨B2, j, none⟩) h.hB2 x, h.box.setOther h.ne x, h.res.put j x, owns_boxset h.out h.res (by decide) x, h.rs.boxset h.res (by decide) x⟩
end
end Go.Proofs.Ytmkkegigajmhkaa

