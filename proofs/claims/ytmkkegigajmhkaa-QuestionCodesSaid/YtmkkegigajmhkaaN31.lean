/- How a code falls into tokens; what one changed number does to it (plain law). A tree bent twice: one changed number in its code makes no deep tree (plain law). -/
import Derived.Test.YtmkkegigajmhkaaN28
set_option linter.unusedVariables false
namespace Go.Proofs.Ytmkkegigajmhkaa
open Go.RowKit Go.Maps

/-- a list that falls into tokens, k of them inner nodes -/
inductive Toks : Nat → List Int → Prop
  | nil : Toks 0 []
  | leaf {k : Nat} {c : Int} {r : List Int} : 0 ≤ c → Toks k r → Toks k (-1 :: c :: r)
  | inner {k : Nat} {a : Int} {xs r : List Int} : 0 ≤ a → xs ≠ [] → incB xs = true → Toks k r → Toks (k + 1) (a :: (xs.length : Int) :: (xs ++ r))
theorem Toks.app {ka kb : Nat} {A B : List Int} (h : Toks ka A) (hb : Toks kb B) : Toks (ka + kb) (A ++ B) := by
  induction h with
  | nil => simpa using hb
  | leaf hc _ ih => exact .leaf hc ih
  | @inner k a xs r ha hn hi _ ih =>
    have := Toks.inner ha hn hi ih
    rw [← List.append_assoc] at this
    rw [show k + 1 + kb = k + kb + 1 by omega]
    exact this
/-- what stands behind a list of tokens -/
theorem Toks.rest {ka : Nat} {A : List Int} (h : Toks ka A) : ∀ {k : Nat} {R : List Int}, Toks k (A ++ R) → ∃ k2, k = ka + k2 ∧ Toks k2 R := by
  induction h with
  | nil => intro k R h; exact ⟨k, by omega, by simpa using h⟩
  | @leaf k0 c r hc h0 ih =>
    intro k R h
    have h' : Toks k (-1 :: c :: (r ++ R)) := h
    generalize hL : (-1 :: c :: (r ++ R) : List Int) = L at h'
    cases h' with
    | nil => cases hL
    | leaf hc' h2 => cases hL; exact ih h2
    | inner ha hn hi h2 =>
      rw [List.cons.injEq] at hL
      omega
  | @inner k0 a xs r ha hn hi h0 ih =>
    intro k R h
    have h' : Toks k (a :: (xs.length : Int) :: ((xs ++ r) ++ R)) := h
    generalize hL : (a :: (xs.length : Int) :: ((xs ++ r) ++ R) : List Int) = L at h'
    cases h' with
    | nil => cases hL
    | leaf hc' h2 =>
      rw [List.cons.injEq] at hL
      omega
    | @inner k1 a1 ys1 r1 ha1 hn1 hi1 h2 =>
      rw [List.cons.injEq, List.cons.injEq, List.append_assoc] at hL
      obtain ⟨_, h3, h4⟩ := hL
      obtain ⟨rfl, h5⟩ := List.append_inj h4 (by omega)
      obtain ⟨k2, h6, h7⟩ := ih (by rw [h5]; exact h2)
      exact ⟨k2, by omega, h7⟩
theorem Toks.uniq {k k' : Nat} {l : List Int} (h : Toks k l) (h' : Toks k' l) : k = k' := by
  obtain ⟨k2, e, h2⟩ := h.rest (R := []) (by simpa using h')
  cases h2; omega
theorem Toks.len {k : Nat} {l : List Int} (h : Toks k l) : 3 * k ≤ l.length := by
  induction h with
  | nil => simp
  | leaf _ _ ih => simp; omega
  | @inner k a xs r _ hn _ _ ih =>
    have := List.length_pos_iff.2 hn
    simp; omega
theorem incB_tail {x : Int} {l : List Int} (h : incB (x :: l) = true) : incB l = true := by
  cases l with
  | nil => rfl
  | cons y r => rw [incB, Bool.and_eq_true] at h; exact h.2
theorem incB_back : ∀ (l m : List Int), incB (l ++ m) = true → incB m = true
  | [], m, h => h
  | x :: l, m, h => incB_back l m (incB_tail h)
/-- behind a pair of leaves the tokens are the old ones -/
theorem Toks.stop {k : Nat} {l : List Int} (h : Toks k l) : ∀ {D R : List Int} {c c' : Int}, l = D ++ -1 :: c :: -1 :: c' :: R → 0 ≤ c → ∃ k1 k2, k = k1 + k2 ∧ Toks k2 (-1 :: c' :: R) ∧ 3 * k1 ≤ D.length + 2 := by
  induction h with
  | nil => intro D R c c' e _; cases D <;> cases e
  | @leaf k c0 r h0 h1 ih =>
    intro D R c c' e hc
    match D, e with
    | [], e =>
      rw [List.nil_append, List.cons.injEq, List.cons.injEq] at e
      obtain ⟨_, _, e⟩ := e
      exact ⟨0, k, by omega, by rw [← e]; exact h1, by simp⟩
    | [d], e =>
      rw [List.cons_append, List.nil_append, List.cons.injEq, List.cons.injEq] at e
      omega
    | d1 :: d2 :: D, e =>
      rw [List.cons_append, List.cons_append, List.cons.injEq, List.cons.injEq] at e
      obtain ⟨k1, k2, h2, h3, h4⟩ := ih e.2.2 hc
      exact ⟨k1, k2, h2, h3, by simp; omega⟩
  | @inner k a xs r ha hn hi h1 ih =>
    intro D R c c' e hc
    have hal := List.length_pos_iff.2 hn
    match D, e with
    | [], e =>
      rw [List.nil_append, List.cons.injEq] at e
      omega
    | [d], e =>
      rw [List.cons_append, List.nil_append, List.cons.injEq, List.cons.injEq] at e
      omega
    | d1 :: d2 :: D, e =>
      rw [List.cons_append, List.cons_append, List.cons.injEq, List.cons.injEq] at e
      obtain ⟨_, _, e⟩ := e
      rcases List.append_eq_append_iff.1 e with ⟨E, e1, e2⟩ | ⟨E, e1, e2⟩
      · obtain ⟨k1, k2, h2, h3, h4⟩ := ih e2 hc
        refine ⟨k1 + 1, k2, by omega, h3, ?_⟩
        rw [e1]; simp; omega
      · match E, e1, e2 with
        | [], e1, e2 =>
          obtain ⟨k1, k2, h2, h3, h4⟩ := ih (D := []) (by simpa using e2.symm) hc
          refine ⟨k1 + 1, k2, by omega, h3, ?_⟩
          simp at h4 ⊢; omega
        | [x], e1, e2 =>
          rw [List.cons_append, List.nil_append, List.cons.injEq] at e2
          rw [← e2.2] at h1
          generalize hL : (c :: -1 :: c' :: R : List Int) = L at h1
          cases h1 with
          | nil => cases hL
          | leaf hc' h2 => rw [List.cons.injEq] at hL; omega
          | inner ha1 hn1 hi1 h2 => rw [List.cons.injEq, List.cons.injEq] at hL; omega
        | [x, y], e1, e2 =>
          rw [List.cons_append, List.cons_append, List.nil_append, List.cons.injEq, List.cons.injEq] at e2
          rw [← e2.2.2] at h1
          exact ⟨1, k, by omega, h1, by simp⟩
        | x :: y :: z :: E, e1, e2 =>
          exfalso
          rw [List.cons_append, List.cons_append, List.cons_append, List.cons.injEq, List.cons.injEq, List.cons.injEq] at e2
          obtain ⟨rfl, rfl, rfl, _⟩ := e2
          rw [e1] at hi
          have := incB_back _ _ hi
          rw [incB, incB, Bool.and_eq_true, Bool.and_eq_true, decide_eq_true_eq, decide_eq_true_eq] at this
          omega
/-- a segment: it ends in a pair of leaves -/
structure Seg (k : Nat) (S : List Int) : Prop where
  tk : Toks k S
  len : S.length ≤ 48
  pair : ∃ D c c', 0 ≤ c ∧ S = D ++ [-1, c, -1, c']
inductive Segs (κ : Nat) : Nat → List Int → Prop
  | base {k : Nat} {B : List Int} : Toks k B → B.length ≤ 45 → κ ≤ k → Segs κ k B
  | cons {k K : Nat} {S l : List Int} : Seg k S → κ ≤ k → Segs κ K l → Segs κ (k + K) (S ++ l)
theorem Segs.toks {κ K : Nat} {l : List Int} (h : Segs κ K l) : Toks K l := by
  induction h with
  | base h _ _ => exact h
  | cons h _ _ ih => exact h.tk.app ih
/-- one number changed: how many inner nodes -/
theorem Segs.change {κ K : Nat} {l : List Int} (h : Segs κ K l) : ∀ {p : Nat} {v : Int} {k' : Nat}, p < l.length → Toks k' (l.set p v) → k' + 2 * κ ≤ K + 31 ∨ k' ≤ K + 16 := by
  induction h with
  | base h hl _ =>
    intro p v k' hp ht
    have := ht.len
    rw [List.length_set] at this
    omega
  | @cons k K S l h hk hs ih =>
    intro p v k' hp ht
    by_cases hps : p < S.length
    · rw [List.set_append_left _ _ hps] at ht
      have hl := h.len
      have hsl : (S.set p v).length = S.length := List.length_set ..
      cases hs with
      | base h2 hl2 hk2 =>
        have := ht.len
        rw [List.length_append, hsl] at this
        omega
      | @cons k2 K2 S2 l2 h2 hk2 hs2 =>
        obtain ⟨D, c, c', hc, rfl⟩ := h2.pair
        have hl2 := h2.len
        obtain ⟨k1, k3, e1, h3, h4⟩ := ht.stop (D := S.set p v ++ D) (R := l2) (c := c) (c' := c') (by simp) hc
        rw [List.length_append, hsl] at h4
        rw [List.length_append] at hl2
        simp only [List.length_cons, List.length_nil] at hl2
        generalize hL : (-1 :: c' :: l2 : List Int) = L at h3
        cases h3 with
        | nil => cases hL
        | leaf _ h5 =>
          cases hL
          have := h5.uniq hs2.toks
          omega
        | inner ha _ _ _ => rw [List.cons.injEq] at hL; omega
    · rw [List.set_append_right _ _ (by omega)] at ht
      obtain ⟨k2, e, h2⟩ := h.tk.rest ht
      rw [List.length_append] at hp
      have := ih (p := p - S.length) (by omega) h2
      omega
mutual
/-- the inner nodes -/
def innT : Tr → Nat
  | .nil => 0
  | .node a _ _ kids => if a < 0 then 0 else 1 + innTs kids
def innTs : List Tr → Nat
  | [] => 0
  | t :: r => innT t + innTs r
end
mutual
theorem toks_code : ∀ t : Tr, isT t = true → Toks (innT t) (codeT t)
  | .nil, h => by cases h
  | .node a c ans kids, h => by
    rw [isT] at h
    by_cases ha : a = -1
    · subst ha
      simp at h
      rw [codeT, innT, if_pos (by omega), if_pos (by omega)]
      exact .leaf h.1.1.1 .nil
    · rw [if_neg ha] at h
      simp only [Bool.and_eq_true, decide_eq_true_eq] at h
      obtain ⟨⟨⟨⟨⟨⟨h0, _⟩, _⟩, hn⟩, _⟩, hi⟩, hk⟩ := h
      rw [codeT, innT, if_neg (by omega), if_neg (by omega), Nat.add_comm]
      exact .inner h0 (fun e => hn (by rw [e]; rfl)) hi (toks_codes kids hk)
theorem toks_codes : ∀ l : List Tr, isTs l = true → Toks (innTs l) (codeTs l)
  | [], _ => .nil
  | t :: r, h => by
    rw [isTs, Bool.and_eq_true] at h
    rw [innTs, codeTs]
    exact (toks_code t h.1).app (toks_codes r h.2)
end
mutual
theorem dep_inn : ∀ t : Tr, isT t = true → depT t ≤ innT t + 1
  | .nil, h => by cases h
  | .node a c ans kids, h => by
    rw [isT] at h
    by_cases ha : a = -1
    · subst ha
      simp at h
      rw [h.2]; simp [depT, depTs]
    · rw [if_neg ha] at h
      simp only [Bool.and_eq_true, decide_eq_true_eq] at h
      have := deps_inn kids h.2
      rw [depT, innT, if_neg (by omega)]; omega
theorem deps_inn : ∀ l : List Tr, isTs l = true → depTs l ≤ innTs l + 1
  | [], _ => by simp [depTs]
  | t :: r, h => by
    rw [isTs, Bool.and_eq_true] at h
    have := dep_inn t h.1; have := deps_inn r h.2
    rw [depTs, innTs]; omega
end
/-- by the length alone -/
theorem dep_len {t : Tr} (h : isT t = true) : 3 * depT t ≤ (codeT t).length + 3 := by
  have := dep_inn t h; have := (toks_code t h).len; omega
end Go.Proofs.Ytmkkegigajmhkaa

namespace Go.Proofs.Ytmkkegigajmhkaa
open Go.RowKit Go.Maps

mutual
/-- the numbers of a tree -/
def wtT : Tr → Nat
  | .nil => 0
  | .node _ _ ans kids => 2 + ans.length + wtTs kids
def wtTs : List Tr → Nat
  | [] => 0
  | t :: r => wtT t + wtTs r
end
mutual
/-- every inner node has two kids or more -/
def brT : Tr → Prop
  | .nil => True
  | .node a _ _ kids => (a < 0 ∨ 2 ≤ kids.length) ∧ brTs kids
def brTs : List Tr → Prop
  | [] => True
  | t :: r => brT t ∧ brTs r
end
mutual
theorem code_wt : ∀ t : Tr, (codeT t).length ≤ wtT t
  | .nil => by simp [codeT, wtT]
  | .node a c ans kids => by
    have := codes_wt kids
    rw [codeT, wtT]
    split <;> simp <;> omega
theorem codes_wt : ∀ l : List Tr, (codeTs l).length ≤ wtTs l
  | [] => by simp [codeTs, wtTs]
  | t :: r => by
    have := code_wt t; have := codes_wt r
    rw [codeTs, wtTs, List.length_append]; omega
end
mutual
theorem code_len : ∀ t : Tr, isT t = true → (codeT t).length = wtT t
  | .nil, h => by cases h
  | .node a c ans kids, h => by
    rw [isT] at h
    by_cases ha : a = -1
    · subst ha
      simp at h
      rw [h.2, h.1.2]; simp [codeT, wtT, wtTs]
    · rw [if_neg ha] at h
      simp only [Bool.and_eq_true, decide_eq_true_eq] at h
      have := codes_len kids h.2
      rw [codeT, wtT, if_neg (by omega)]
      simp; omega
theorem codes_len : ∀ l : List Tr, isTs l = true → (codeTs l).length = wtTs l
  | [], _ => by simp [codeTs, wtTs]
  | t :: r, h => by
    rw [isTs, Bool.and_eq_true] at h
    rw [codeTs, wtTs, List.length_append, code_len t h.1, codes_len r h.2]
end
theorem wtTs_app : ∀ l m : List Tr, wtTs (l ++ m) = wtTs l + wtTs m
  | [], m => by simp [wtTs]
  | t :: r, m => by simp [wtTs, wtTs_app r m]; omega
theorem wtTs_set : ∀ (l : List Tr) (k : Nat) (t t' : Tr), l[k]? = some t → wtTs (l.set k t') + wtT t = wtTs l + wtT t'
  | [], k, t, t', h => by simp at h
  | x :: r, 0, t, t', h => by simp at h; subst h; simp only [List.set_cons_zero, wtTs]; omega
  | x :: r, k + 1, t, t', h => by
    have := wtTs_set r k t t' (by simpa using h)
    simp only [List.set_cons_succ, wtTs]; omega
theorem wtTs_del : ∀ (l : List Tr) (k : Nat), wtTs (l.eraseIdx k) ≤ wtTs l
  | [], k => by simp
  | x :: r, 0 => by simp only [List.eraseIdx_cons_zero, wtTs]; omega
  | x :: r, k + 1 => by
    have := wtTs_del r k
    simp only [List.eraseIdx_cons_succ, wtTs]; omega
theorem wtT_mem : ∀ (l : List Tr) (t : Tr), t ∈ l → wtT t ≤ wtTs l
  | [], t, h => by cases h
  | x :: r, t, h => by
    rw [wtTs]
    rcases List.mem_cons.1 h with e | e
    · subst e; omega
    · have := wtT_mem r t e; omega
theorem innTs_app : ∀ l m : List Tr, innTs (l ++ m) = innTs l + innTs m
  | [], m => by simp [innTs]
  | t :: r, m => by simp [innTs, innTs_app r m]; omega
theorem isTs_app : ∀ l m : List Tr, isTs (l ++ m) = (isTs l && isTs m)
  | [], m => by simp [isTs]
  | t :: r, m => by simp [isTs, isTs_app r m, Bool.and_assoc]
theorem brTs_mem : ∀ (l : List Tr) (t : Tr), t ∈ l → brTs l → brT t
  | [], t, h, _ => by cases h
  | x :: r, t, h, hb => by
    rw [brTs] at hb
    rcases List.mem_cons.1 h with e | e
    · subst e; exact hb.1
    · exact brTs_mem r t e hb.2
/-- what bending does to a tree -/
inductive BentR : Tr → Tr → Prop
  | nil (a : Int) : BentR .nil (.node a 0 [] [])
  | kid {a c : Int} {ans : List Int} {kids : List Tr} {k : Nat} {x y : Tr} : kids[k]? = some x → BentR x y → BentR (.node a c ans kids) (.node a c ans (kids.set k y))
  | small {a c a' c' : Int} {ans ans' : List Int} {kids kids' : List Tr} : ans'.length + wtTs kids' ≤ ans.length + wtTs kids + 5 → BentR (.node a c ans kids) (.node a' c' ans' kids')
  | tri (t : Tr) (b : Int) : BentR t (.node b 0 [0, 1, 2] [t, t, t])
/-- one node becomes three -/
inductive Tri3 (w : Tr) (b : Int) : Tr → Tr → Prop
  | here : Tri3 w b w (.node b 0 [0, 1, 2] [w, w, w])
  | kid {a c : Int} {ans : List Int} {kids : List Tr} {k : Nat} {x y : Tr} : kids[k]? = some x → Tri3 w b x y → Tri3 w b (.node a c ans kids) (.node a c ans (kids.set k y))
theorem BentR.two {t t' : Tr} (h : BentR t t') : wtT t' ≤ wtT t + 5 ∨ ∃ w b, Tri3 w b t t' := by
  induction h with
  | nil a => left; simp [wtT, wtTs]
  | @kid a c ans kids k x y hk _ ih =>
    rcases ih with ih | ⟨w, b, ih⟩
    · left
      have := wtTs_set kids k x y hk
      rw [wtT, wtT]; omega
    · exact .inr ⟨w, b, .kid hk ih⟩
  | small h => left; rw [wtT, wtT]; omega
  | tri t b => exact .inr ⟨t, b, .here⟩
theorem Tri3.wt {w : Tr} {b : Int} {t t' : Tr} (h : Tri3 w b t t') : wtT t' = wtT t + 5 + 2 * wtT w ∧ wtT w ≤ wtT t := by
  induction h with
  | here => simp [wtT, wtTs]; omega
  | @kid a c ans kids k x y hk _ ih =>
    have := wtTs_set kids k x y hk
    have := wtT_mem kids x (List.mem_of_getElem? hk)
    rw [wtT, wtT]; omega
theorem Tri3.br {w : Tr} {b : Int} {t t' : Tr} (h : Tri3 w b t t') : brT t → brT w := by
  induction h with
  | here => exact id
  | @kid a c ans kids k x y hk _ ih =>
    intro hb
    rw [brT] at hb
    exact ih (brTs_mem kids x (List.mem_of_getElem? hk) hb.2)
theorem Tri3.occ {w1 : Tr} {b1 : Int} {x t1 : Tr} (h : Tri3 w1 b1 x t1) : ∀ {w2 : Tr} {b2 : Int} {t2 : Tr}, Tri3 w2 b2 t1 t2 → (∃ w0, Tri3 w1 b1 w0 w2) ∨ wtT w2 ≤ wtT x := by
  induction h with
  | here =>
    intro w2 b2 t2 h2
    generalize hT : Tr.node b1 0 [0, 1, 2] [w1, w1, w1] = T at h2
    cases h2 with
    | here => subst hT; exact .inl ⟨w1, .here⟩
    | @kid a c ans kids k x y hk h3 =>
      cases hT
      have hm := List.mem_of_getElem? hk
      simp at hm
      subst hm
      exact .inr h3.wt.2
  | @kid a c ans kids k x y hk h1 ih =>
    intro w2 b2 t2 h2
    generalize hT : Tr.node a c ans (kids.set k y) = T at h2
    cases h2 with
    | here => subst hT; exact .inl ⟨_, .kid hk h1⟩
    | @kid a' c' ans' kids' k2 x2 y2 hk2 h3 =>
      cases hT
      have hkl := (List.getElem?_eq_some_iff.1 hk).1
      have hwx := wtT_mem kids x (List.mem_of_getElem? hk)
      by_cases e : k = k2
      · subst e
        rw [List.getElem?_set_self hkl] at hk2
        cases hk2
        rcases ih h3 with h4 | h4
        · exact .inl h4
        · right; rw [wtT]; omega
      · rw [List.getElem?_set_ne e] at hk2
        have := h3.wt.2
        have := wtT_mem kids x2 (List.mem_of_getElem? hk2)
        right; rw [wtT]; omega
theorem split_at {kids : List Tr} {k : Nat} {x : Tr} (h : kids[k]? = some x) (y : Tr) : kids = kids.take k ++ x :: kids.drop (k + 1) ∧ kids.set k y = kids.take k ++ y :: kids.drop (k + 1) := by
  have hl := (List.getElem?_eq_some_iff.1 h)
  refine ⟨?_, List.set_eq_take_append_cons_drop .. |>.trans (if_pos hl.1)⟩
  have := List.set_eq_take_append_cons_drop (l := kids) (i := k) (a := x)
  rw [if_pos hl.1] at this
  rw [← this]
  refine List.ext_getElem? fun i => ?_
  by_cases e : k = i
  · subst e; rw [List.getElem?_set_self hl.1, h]
  · rw [List.getElem?_set_ne e]
theorem Tri3.shape {w : Tr} {b : Int} {t t' : Tr} (h : Tri3 w b t t') : isT t' = true → isT t = true ∧ isT w = true ∧ 0 ≤ b ∧ ∃ U V ku kv, Toks ku U ∧ Toks kv V ∧ codeT t = U ++ (codeT w ++ V) ∧ codeT t' = U ++ (b :: 3 :: 0 :: 1 :: 2 :: (codeT w ++ (codeT w ++ codeT w))) ++ V ∧ innT t = ku + innT w + kv ∧ innT t' = innT t + 1 + 2 * innT w := by
  induction h with
  | here =>
    intro hv
    rw [isT] at hv
    by_cases hb : b = -1
    · subst hb; simp at hv
    · rw [if_neg hb] at hv
      simp only [Bool.and_eq_true, decide_eq_true_eq, isTs] at hv
      obtain ⟨⟨⟨⟨⟨⟨h0, _⟩, _⟩, _⟩, _⟩, _⟩, hw, _⟩ := hv
      refine ⟨hw, hw, h0, [], [], 0, 0, .nil, .nil, by simp, ?_, by omega, ?_⟩
      · rw [codeT, if_neg (by omega)]; simp [codeTs]
      · rw [innT, if_neg (by omega)]; simp [innTs]; omega
  | @kid a c ans kids k x y hk h1 ih =>
    intro hv
    obtain ⟨e1, e2⟩ := split_at hk y
    have hkl := (List.getElem?_eq_some_iff.1 hk).1
    rw [isT] at hv
    by_cases ha : a = -1
    · subst ha
      simp at hv
      have := hv.2
      rw [this] at hkl; simp at hkl
    · rw [if_neg ha] at hv
      simp only [Bool.and_eq_true, decide_eq_true_eq, List.length_set] at hv
      obtain ⟨⟨⟨⟨⟨⟨h0, h64⟩, hc⟩, hn⟩, hl⟩, hi⟩, hks⟩ := hv
      rw [e2, isTs_app, isTs, Bool.and_eq_true, Bool.and_eq_true] at hks
      obtain ⟨hk1, hy, hk2⟩ := hks
      obtain ⟨hx, hw, hb, U, V, ku, kv, hU, hV, c1, c2, i1, i2⟩ := ih hy
      have hT1 := toks_codes _ hk1
      have hT2 := toks_codes _ hk2
      have hne : ans ≠ [] := fun e => hn (by rw [e]; rfl)
      refine ⟨?_, hw, hb, a :: (ans.length : Int) :: (ans ++ (codeTs (kids.take k) ++ U)), V ++ codeTs (kids.drop (k + 1)), innTs (kids.take k) + ku + 1, kv + innTs (kids.drop (k + 1)), .inner h0 hne hi (hT1.app hU), hV.app hT2, ?_, ?_, ?_, ?_⟩
      · rw [isT, if_neg ha, e1, isTs_app, isTs]
        simp only [Bool.and_eq_true, decide_eq_true_eq]
        rw [← e1]
        exact ⟨⟨⟨⟨⟨⟨h0, h64⟩, hc⟩, hn⟩, hl⟩, hi⟩, hk1, hx, hk2⟩
      · rw [codeT, if_neg (by omega)]
        conv => lhs; rw [e1]
        rw [codeTs_app, codeTs, c1]; simp
      · rw [codeT, if_neg (by omega), e2, codeTs_app, codeTs, c2]; simp
      · rw [innT, if_neg (by omega)]
        conv => lhs; rw [e1]
        rw [innTs_app, innTs, i1]; omega
      · rw [innT, if_neg (by omega), innT, if_neg (by omega), e2]
        conv => rhs; rw [e1]
        rw [innTs_app, innTs, innTs_app, innTs, i2]; omega
theorem leaf_of {t : Tr} (h : isT t = true) (hi : innT t = 0) : ∃ c, 0 ≤ c ∧ codeT t = [-1, c] := by
  cases t with
  | nil => cases h
  | node a c ans kids =>
    rw [isT] at h
    by_cases ha : a = -1
    · subst ha
      simp at h
      exact ⟨c, h.1.1.1, by rw [codeT, if_pos (by omega)]⟩
    · rw [if_neg ha] at h
      simp only [Bool.and_eq_true, decide_eq_true_eq] at h
      rw [innT, if_neg (by omega)] at hi; omega
mutual
theorem leaf_end : ∀ t : Tr, isT t = true → ∃ D c, 0 ≤ c ∧ codeT t = D ++ [-1, c]
  | .nil, h => by cases h
  | .node a c ans kids, h => by
    rw [isT] at h
    by_cases ha : a = -1
    · subst ha
      simp at h
      exact ⟨[], c, h.1.1.1, by rw [codeT, if_pos (by omega)]; rfl⟩
    · rw [if_neg ha] at h
      simp only [Bool.and_eq_true, decide_eq_true_eq] at h
      obtain ⟨⟨⟨⟨⟨⟨h0, _⟩, _⟩, hn⟩, hl⟩, _⟩, hk⟩ := h
      obtain ⟨D, c', hc, e⟩ := leaf_ends kids hk (fun e => hn (by rw [← hl, e]; rfl))
      exact ⟨a :: (ans.length : Int) :: (ans ++ D), c', hc, by rw [codeT, if_neg (by omega), e]; simp⟩
theorem leaf_ends : ∀ l : List Tr, isTs l = true → l ≠ [] → ∃ D c, 0 ≤ c ∧ codeTs l = D ++ [-1, c]
  | [], _, h => absurd rfl h
  | [t], h, _ => by
    rw [isTs, Bool.and_eq_true] at h
    obtain ⟨D, c, hc, e⟩ := leaf_end t h.1
    exact ⟨D, c, hc, by rw [codeTs, codeTs, e]; simp⟩
  | t :: u :: r, h, _ => by
    rw [isTs, Bool.and_eq_true] at h
    obtain ⟨D, c, hc, e⟩ := leaf_ends (u :: r) h.2 (by simp)
    exact ⟨codeT t ++ D, c, hc, by rw [codeTs, e]; simp⟩
end
mutual
theorem pair_end : ∀ t : Tr, isT t = true → brT t → 1 ≤ innT t → ∃ D c c', 0 ≤ c ∧ codeT t = D ++ [-1, c, -1, c']
  | .nil, h, _, _ => by cases h
  | .node a c ans kids, h, hb, hi => by
    rw [isT] at h
    by_cases ha : a = -1
    · subst ha
      rw [innT, if_pos (by omega)] at hi; omega
    · rw [if_neg ha] at h
      simp only [Bool.and_eq_true, decide_eq_true_eq] at h
      obtain ⟨⟨⟨⟨⟨⟨h0, _⟩, _⟩, hn⟩, hl⟩, _⟩, hk⟩ := h
      rw [brT] at hb
      obtain ⟨D, c1, c', hc, e⟩ := pair_ends kids hk hb.2 (by rcases hb.1 with h9 | h9 <;> omega)
      exact ⟨a :: (ans.length : Int) :: (ans ++ D), c1, c', hc, by rw [codeT, if_neg (by omega), e]; simp⟩
theorem pair_ends : ∀ l : List Tr, isTs l = true → brTs l → 2 ≤ l.length → ∃ D c c', 0 ≤ c ∧ codeTs l = D ++ [-1, c, -1, c']
  | [], _, _, h => by simp at h
  | [t], _, _, h => by simp at h
  | [t, u], h, hb, _ => by
    rw [isTs, Bool.and_eq_true, isTs, Bool.and_eq_true] at h
    rw [brTs, brTs] at hb
    by_cases hi : innT u = 0
    · obtain ⟨c', _, e2⟩ := leaf_of h.2.1 hi
      obtain ⟨D, c, hc, e⟩ := leaf_end t h.1
      exact ⟨D, c, c', hc, by rw [codeTs, codeTs, codeTs, e, e2]; simp⟩
    · obtain ⟨D, c, c', hc, e⟩ := pair_end u h.2.1 hb.2.1 (by omega)
      exact ⟨codeT t ++ D, c, c', hc, by rw [codeTs, codeTs, codeTs, e]; simp⟩
  | t :: u :: x :: r, h, hb, _ => by
    rw [isTs, Bool.and_eq_true] at h
    rw [brTs] at hb
    obtain ⟨D, c, c', hc, e⟩ := pair_ends (u :: x :: r) h.2 hb.2 (by simp)
    exact ⟨codeT t ++ D, c, c', hc, by rw [codeTs, e]; simp⟩
end
theorem toks_head {b : Int} {k : Nat} {l : List Int} (hb : 0 ≤ b) (h : Toks k l) : Toks (k + 1) (b :: 3 :: 0 :: 1 :: 2 :: l) :=
  Toks.inner (a := b) (xs := [0, 1, 2]) hb (by simp) (by decide) h
/-- a table's own tree: small, every inner node with two kids or more -/
structure Good (x : Tr) : Prop where
  wt : wtT x ≤ 38
  inn : innT x ≤ 6
  br : brT x
theorem bent_depth {x t1 t2 : Tr} (hx : Good x) (h1 : BentR x t1) (h2 : BentR t1 t2) (hv : isT t2 = true) {p : Nat} {v : Int} {t' : Tr} (hv' : isT t' = true) (hc : codeT t' = (codeT t2).set p v) : depT t' ≤ 80 := by
  have hlen : (codeT t').length = (codeT t2).length := by rw [hc, List.length_set]
  have hw2 := code_len t2 hv
  by_cases h239 : wtT t2 ≤ 239
  · have := dep_len hv'; omega
  have hx38 := hx.wt; have hx6 := hx.inn
  rcases h2.two with e2 | ⟨w2, b2, e2⟩
  · rcases h1.two with e1 | ⟨w1, b1, e1⟩
    · omega
    · have := e1.wt; omega
  rcases h1.two with e1 | ⟨w1, b1, e1⟩
  · have := e2.wt; omega
  have n1 := e1.wt; have n2 := e2.wt
  rcases (e1.occ e2).symm with e0 | ⟨w0, e0⟩
  · omega
  obtain ⟨v1, vw2, hb2, U, V, ku, kv, hU, hV, c1, c2, i1, i2⟩ := e2.shape hv
  obtain ⟨_, vw1, hb1, U2, V2, ku2, kv2, hU2, hV2, c3, c4, i3, i4⟩ := e0.shape vw2
  obtain ⟨_, _, _, _, _, _, _, _, _, _, _, _, i6⟩ := e1.shape v1
  have n0 := e0.wt
  have l1 := code_len t1 v1; have l2 := code_len w2 vw2; have l3 := code_len w1 vw1
  have l4 := congrArg List.length c1; have l5 := congrArg List.length c4
  simp only [List.length_append, List.length_cons] at l4 l5
  have hin : 1 ≤ innT w1 := by
    rcases Nat.eq_zero_or_pos (innT w1) with h9 | h9
    · obtain ⟨c, _, ec⟩ := leaf_of vw1 h9
      rw [ec] at l3; simp at l3; omega
    · exact h9
  obtain ⟨D, c, c', hc0, ep⟩ := pair_end w1 vw1 (e1.br hx.br) hin
  have hW := toks_code w1 vw1
  obtain ⟨W, hWe⟩ : ∃ W, codeT w1 = W := ⟨_, rfl⟩
  rw [hWe] at ep hW l3 l5 c4
  have sW : Seg (innT w1) W := ⟨hW, by omega, D, c, c', hc0, ep⟩
  have s1 : Seg (ku + (ku2 + innT w1 + 1 + 0) + 1) (U ++ (b2 :: 3 :: 0 :: 1 :: 2 :: (U2 ++ (b1 :: 3 :: 0 :: 1 :: 2 :: W)))) := by
    refine ⟨?_, by simp; omega, U ++ (b2 :: 3 :: 0 :: 1 :: 2 :: (U2 ++ (b1 :: 3 :: 0 :: 1 :: 2 :: D))), c, c', hc0, by rw [ep]; simp⟩
    have := hU.app (toks_head hb2 (hU2.app (toks_head hb1 hW)))
    rw [show ku + (ku2 + innT w1 + 1 + 0) + 1 = ku + (ku2 + (innT w1 + 1) + 1) by omega]
    exact this
  have s4 : Seg (kv2 + (ku2 + (innT w1 + 1))) (V2 ++ (U2 ++ (b1 :: 3 :: 0 :: 1 :: 2 :: W))) :=
    ⟨hV2.app (hU2.app (toks_head hb1 hW)), by simp; omega, V2 ++ (U2 ++ (b1 :: 3 :: 0 :: 1 :: 2 :: D)), c, c', hc0, by rw [ep]; simp⟩
  have sB : Segs (innT w1) (innT w1 + (kv2 + kv)) (W ++ (V2 ++ V)) := .base (hW.app (hV2.app hV)) (by simp; omega) (by omega)
  have hS := Segs.cons s1 (by omega) (.cons sW (by omega) (.cons sW (by omega) (.cons s4 (by omega) (.cons sW (by omega) (.cons sW (by omega) (.cons s4 (by omega) (.cons sW (by omega) sB)))))))
  have hcode : codeT t2 = (U ++ (b2 :: 3 :: 0 :: 1 :: 2 :: (U2 ++ (b1 :: 3 :: 0 :: 1 :: 2 :: W)))) ++ (W ++ (W ++ ((V2 ++ (U2 ++ (b1 :: 3 :: 0 :: 1 :: 2 :: W))) ++ (W ++ (W ++ ((V2 ++ (U2 ++ (b1 :: 3 :: 0 :: 1 :: 2 :: W))) ++ (W ++ (W ++ (V2 ++ V))))))))) := by
    rw [c2, c4]; simp
  rw [hcode] at hc
  have hk := toks_code t' hv'
  have hd := dep_inn t' hv'
  rw [hc] at hk
  by_cases hp : p < (codeT t2).length
  · rw [hcode] at hp
    have := hS.change hp hk
    omega
  · rw [hcode] at hp
    rw [List.set_eq_of_length_le (by omega)] at hk
    have := hk.uniq hS.toks
    omega
end Go.Proofs.Ytmkkegigajmhkaa

