/- How a tree is read out of a list of numbers (plain law). -/
import Derived.Test.YtmkkegigajmhkaaN14
set_option linter.unusedVariables false
namespace Go.Proofs.Ytmkkegigajmhkaa
open Go.RowKit Go.Maps

def readKF (rd : List Int → Option (Tr × List Int)) : Nat → List Int → Option (List Tr × List Int)
  | 0, l => some ([], l)
  | n + 1, l => match rd l with
    | none => none
    | some (t, r) => match readKF rd n r with
      | none => none
      | some (ks, r') => some (t :: ks, r')
/-- the tree with whose code a list begins, and what is behind it -/
def readF : Nat → List Int → Option (Tr × List Int)
  | 0, _ => none
  | f + 1, a :: n :: r => if a = -1 then some (.node (-1) n [] [], r)
      else if n < 0 ∨ (r.length : Int) < n then none
      else match readKF (readF f) n.toNat (r.drop n.toNat) with
        | none => none
        | some (ks, r') => some (.node a 0 (r.take n.toNat) ks, r')
  | _ + 1, _ => none
theorem readF_short {l : List Int} (h : l.length < 2) (f : Nat) : readF f l = none := by
  cases f with
  | zero => rfl
  | succ f => match l, h with
    | [], _ => rfl
    | [_], _ => rfl
theorem readF_leaf (f : Nat) (n : Int) (r : List Int) : readF (f + 1) (-1 :: n :: r) = some (.node (-1) n [] [], r) := by simp [readF]
theorem readF_bad {a n : Int} {r : List Int} (ha : a ≠ -1) (hn : n < 0 ∨ (r.length : Int) < n) (f : Nat) : readF (f + 1) (a :: n :: r) = none := by simp [readF, ha, hn]
theorem readF_node {a : Int} {n : Nat} {r : List Int} (ha : a ≠ -1) (hn : n ≤ r.length) (f : Nat) : readF (f + 1) (a :: (n : Int) :: r) = match readKF (readF f) n (r.drop n) with
        | none => none
        | some (ks, r') => some (.node a 0 (r.take n) ks, r') := by
  rw [readF, if_neg ha, if_neg (by omega), Int.toNat_natCast]
/-- what the kids' reading comes to behind the first of them -/
def putK (ks : List Tr) : Option (List Tr × List Int) → Option (List Tr × List Int)
  | none => none
  | some (l, r) => some (ks ++ l, r)
theorem readKF_step {rd : List Int → Option (Tr × List Int)} {n : Nat} {l r : List Int} {t : Tr} (ks : List Tr) (h : rd l = some (t, r)) : putK ks (readKF rd (n + 1) l) = putK (ks ++ [t]) (readKF rd n r) := by
  rw [readKF, h]
  dsimp only
  cases hk : readKF rd n r with
  | none => rfl
  | some p => obtain ⟨l', r'⟩ := p; simp [putK]
theorem readKF_fail {rd : List Int → Option (Tr × List Int)} {n : Nat} {l : List Int} (h : rd l = none) : readKF rd (n + 1) l = none := by rw [readKF, h]
theorem readKF_len {rd : List Int → Option (Tr × List Int)} (hr : ∀ l t r, rd l = some (t, r) → r.length ≤ l.length ∧ r = l.drop (l.length - r.length)) : ∀ (n : Nat) (l : List Int) (ks : List Tr) (r : List Int), readKF rd n l = some (ks, r) → r.length ≤ l.length ∧ r = l.drop (l.length - r.length) ∧ ks.length = n
  | 0, l, ks, r, h => by
    simp only [readKF, Option.some.injEq, Prod.mk.injEq] at h
    obtain ⟨rfl, rfl⟩ := h
    simp
  | n + 1, l, ks, r, h => by
    rw [readKF] at h
    split at h
    · cases h
    · rename_i t r1 h1
      split at h
      · cases h
      · rename_i ks2 r2 h2
        simp only [Option.some.injEq, Prod.mk.injEq] at h
        obtain ⟨rfl, rfl⟩ := h
        obtain ⟨g1, g2⟩ := hr _ _ _ h1
        obtain ⟨g3, g4, g5⟩ := readKF_len hr n _ _ _ h2
        refine ⟨by omega, ?_, by simp [g5]⟩
        rw [g4, g2, List.drop_drop, List.length_drop, List.length_drop]
        congr 1; omega
theorem readF_len : ∀ (f : Nat) (l : List Int) (t : Tr) (r : List Int), readF f l = some (t, r) → r.length + 2 ≤ l.length ∧ r = l.drop (l.length - r.length)
  | 0, l, t, r, h => by cases h
  | f + 1, l, t, r, h => by
    match l, h with
    | a :: n :: l', h =>
      by_cases ha : a = -1
      · subst ha
        rw [readF_leaf] at h
        simp only [Option.some.injEq, Prod.mk.injEq] at h
        obtain ⟨rfl, rfl⟩ := h
        simp only [List.length_cons]
        refine ⟨by omega, ?_⟩
        rw [show l'.length + 1 + 1 - l'.length = 2 by omega]; rfl
      · by_cases hn : n < 0 ∨ (l'.length : Int) < n
        · rw [readF_bad ha hn] at h; cases h
        · obtain ⟨m, rfl⟩ : ∃ m : Nat, n = m := ⟨n.toNat, by omega⟩
          rw [readF_node ha (by omega)] at h
          split at h
          · cases h
          · rename_i ks r' hk
            simp only [Option.some.injEq, Prod.mk.injEq] at h
            obtain ⟨rfl, rfl⟩ := h
            obtain ⟨g1, g2, _⟩ := readKF_len (fun l t r h => by have := readF_len f l t r h; exact ⟨by omega, this.2⟩) _ _ _ _ hk
            rw [List.length_drop] at g1 g2
            simp only [List.length_cons]
            refine ⟨by omega, ?_⟩
            rw [show l'.length + 1 + 1 - r'.length = (l'.length - r'.length) + 1 + 1 by omega, List.drop_succ_cons, List.drop_succ_cons]
            conv => lhs; rw [g2, List.drop_drop]
            congr 1; omega
theorem readF_not {f : Nat} {l : List Int} {t : Tr} {r : List Int} (h : readF f l = some (t, r)) : ∃ a c ans kids, t = .node a c ans kids := by
  cases f with
  | zero => cases h
  | succ f =>
    match l, h with
    | a :: n :: l', h =>
      by_cases ha : a = -1
      · subst ha; rw [readF_leaf] at h; cases h; exact ⟨_, _, _, _, rfl⟩
      · by_cases hn : n < 0 ∨ (l'.length : Int) < n
        · rw [readF_bad ha hn] at h; cases h
        · obtain ⟨m, rfl⟩ : ∃ m : Nat, n = m := ⟨n.toNat, by omega⟩
          rw [readF_node ha (by omega)] at h
          split at h
          · cases h
          · cases h; exact ⟨_, _, _, _, rfl⟩
/-! ### the code of what was read is what it was read from -/
theorem readKF_code {rd : List Int → Option (Tr × List Int)} (hr : ∀ l t r, rd l = some (t, r) → isT t = true → l = codeT t ++ r) : ∀ (n : Nat) (l : List Int) (ks : List Tr) (r : List Int), readKF rd n l = some (ks, r) → isTs ks = true → l = codeTs ks ++ r
  | 0, l, ks, r, h, _ => by
    simp only [readKF, Option.some.injEq, Prod.mk.injEq] at h
    obtain ⟨rfl, rfl⟩ := h
    simp [codeTs]
  | n + 1, l, ks, r, h, hi => by
    rw [readKF] at h
    split at h
    · cases h
    · rename_i t r1 h1
      split at h
      · cases h
      · rename_i ks2 r2 h2
        simp only [Option.some.injEq, Prod.mk.injEq] at h
        obtain ⟨rfl, rfl⟩ := h
        rw [isTs, Bool.and_eq_true] at hi
        rw [hr _ _ _ h1 hi.1, readKF_code hr n _ _ _ h2 hi.2, codeTs, List.append_assoc]
theorem readF_code : ∀ (f : Nat) (l : List Int) (t : Tr) (r : List Int), readF f l = some (t, r) → isT t = true → l = codeT t ++ r
  | 0, l, t, r, h, _ => by cases h
  | f + 1, l, t, r, h, hi => by
    match l, h with
    | a :: n :: l', h =>
      by_cases ha : a = -1
      · subst ha
        rw [readF_leaf] at h
        simp only [Option.some.injEq, Prod.mk.injEq] at h
        obtain ⟨rfl, rfl⟩ := h
        rw [codeT_leaf (by omega)]; rfl
      · by_cases hn : n < 0 ∨ (l'.length : Int) < n
        · rw [readF_bad ha hn] at h; cases h
        · obtain ⟨m, rfl⟩ : ∃ m : Nat, n = m := ⟨n.toNat, by omega⟩
          rw [readF_node ha (by omega)] at h
          split at h
          · cases h
          · rename_i ks r' hk
            simp only [Option.some.injEq, Prod.mk.injEq] at h
            obtain ⟨rfl, rfl⟩ := h
            have ha0 : 0 ≤ a := by
              by_cases h0 : 0 ≤ a
              · exact h0
              · rw [isT, if_neg ha, decide_eq_false h0] at hi; simp at hi
            obtain ⟨_, _, _, _, hts⟩ := isT_parts hi ha0
            have hlen : (l'.take m).length = m := by rw [List.length_take]; omega
            rw [codeT_node ha0, hlen]
            have := readKF_code (readF_code f) _ _ _ _ hk hts
            simp only [List.cons_append, List.append_assoc, ← this, List.take_append_drop]
mutual
/-- and what is read from a code is the tree -/
theorem code_read : ∀ (t : Tr) (f : Nat) (r : List Int), isT t = true → depT t ≤ f → readF f (codeT t ++ r) = some (t, r)
  | .nil, f, r, h, _ => by cases h
  | .node a c ans kids, f, r, h, hd => by
    obtain ⟨g, rfl⟩ : ∃ g, f = g + 1 := ⟨f - 1, by rw [depT] at hd; omega⟩
    by_cases ha : 0 ≤ a
    · obtain ⟨_, _, hkl, _, hts⟩ := isT_parts h ha
      have hc : c = 0 := by
        have h' := h
        rw [isT_node (by omega)] at h'
        simp only [Bool.and_eq_true, decide_eq_true_eq] at h'
        exact h'.1.1.1.1.2
      rw [codeT_node ha, List.cons_append, List.cons_append, readF_node (by omega) (by simp), List.append_assoc, List.drop_left, List.take_left, ← hkl, codes_read kids g r hts (by rw [depT] at hd; omega), hc]
    · have h' := h
      rw [isT] at h'
      split at h'
      · rename_i e
        subst e
        simp only [Bool.and_eq_true, decide_eq_true_eq] at h'
        have e1 : ans = [] := List.length_eq_zero_iff.1 (by omega)
        have e2 : kids = [] := List.length_eq_zero_iff.1 (by omega)
        subst e1 e2
        rw [codeT_leaf (by omega)]
        exact readF_leaf _ _ _
      · rw [decide_eq_false ha] at h'; simp at h'
theorem codes_read : ∀ (l : List Tr) (f : Nat) (r : List Int), isTs l = true → depTs l ≤ f → readKF (readF f) l.length (codeTs l ++ r) = some (l, r)
  | [], f, r, _, _ => by simp [readKF, codeTs]
  | t :: s, f, r, h, hd => by
    rw [isTs, Bool.and_eq_true] at h
    rw [depTs] at hd
    rw [List.length_cons, readKF, codeTs, List.append_assoc, code_read t f _ h.1 (by omega)]
    dsimp only
    rw [codes_read s f r h.2 (by omega)]
end
end Go.Proofs.Ytmkkegigajmhkaa

