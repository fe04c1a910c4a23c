/- What QuestionCodes decodes: no deep trees (plain law). -/
import Derived.Test.YtmkkegigajmhkaaN34
import Derived.Test.YtmkkegigajmhkaaN36
set_option linter.unusedVariables false
namespace Go.Proofs.Ytmkkegigajmhkaa
open Go.RowKit Go.Maps

mutual
theorem wd_wt : ∀ t : Tr, isT t = true → wdT t ≤ wtT t
  | .nil, h => by cases h
  | .node a c ans kids, h => by
    rw [isT] at h
    by_cases ha : a = -1
    · subst ha
      simp at h
      rw [h.2, h.1.2]; simp [wdT, wdTs, wtT, wtTs]
    · rw [if_neg ha] at h
      simp only [Bool.and_eq_true, decide_eq_true_eq] at h
      have := wds_wt kids h.2
      rw [wdT, wtT]; omega
theorem wds_wt : ∀ l : List Tr, isTs l = true → wdTs l ≤ wtTs l
  | [], _ => by simp [wdTs]
  | t :: r, h => by
    rw [isTs, Bool.and_eq_true] at h
    have := wd_wt t h.1; have := wds_wt r h.2
    rw [wdTs, wtTs]; omega
end
theorem decO_code {L : List Int} {t : Tr} (h : decO L = some t) : isT t = true ∧ codeT t = L := by
  unfold decO at h
  split at h
  · rename_i t' hr
    split at h
    · rename_i hc
      cases h
      have := readF_code _ _ _ _ hr hc
      rw [List.append_nil] at this
      exact ⟨hc, this.symm⟩
    · cases h
  · cases h
/-- what a list gives when it is read as a code -/
structure DecL (L : List Int) : Prop where
  len : L.length ≤ 5000
  dep : depT (decT L) ≤ 80
  sm : smK (decT L) = true
  enc : decE L = 0 → encT (decT L) = L
theorem DecL.of {L : List Int} (hl : L.length ≤ 5000) (hd : ∀ t, isT t = true → codeT t = L → depT t ≤ 80) : DecL L := by
  by_cases h4 : 4096 < L.length
  · obtain ⟨e1, e2⟩ := decT_long h4
    exact ⟨hl, by rw [e1]; simp [depT], by rw [e1]; rfl, fun e => by rw [e2] at e; cases e⟩
  · cases hO : decO L with
    | none =>
      obtain ⟨e1, e2⟩ := dec_none h4 hO
      exact ⟨hl, by rw [e1]; simp [depT], by rw [e1]; rfl, fun e => by rw [e2] at e; cases e⟩
    | some t =>
      obtain ⟨e1, e2⟩ := dec_some h4 hO
      obtain ⟨h1, h2⟩ := decO_code hO
      have h3 := code_len t h1
      refine ⟨hl, by rw [e1]; exact hd t h1 h2, by rw [e1]; exact smK_wd t (by have := wd_wt t h1; rw [h2] at h3; omega), fun _ => ?_⟩
      rw [e1]; unfold encT; rw [if_pos h1, h2]
theorem DecL.nil : DecL [] := .of (by simp) fun t h e => by
  have := dep_len h
  rw [e] at this; simp at this; omega
theorem DecL.short {L : List Int} (h : L.length ≤ 239) : DecL L := .of (by omega) fun t ht e => by
  have := dep_len ht
  rw [e] at this; omega
theorem DecL.code {t : Tr} (hd : DpOk t) (h9 : depT t ≤ 9) : DecL (encT t) := by
  unfold encT
  by_cases h : isT t = true
  · rw [if_pos h]
    refine .of (by have := hd.1; omega) fun t' h1 e => ?_
    have := hd.2 (codeT t).length 0 t' h h1 (by rw [e, List.set_eq_of_length_le (Nat.le_refl _)])
    exact this
  · rw [if_neg h]; exact .nil
theorem DecL.bent {t : Tr} (hd : DpOk t) (p : Nat) (v : Int) : DecL ((encT t).set p v) := by
  unfold encT
  by_cases h : isT t = true
  · rw [if_pos h]
    exact .of (by rw [List.length_set]; have := hd.1; omega) fun t' h1 e => hd.2 p v t' h h1 e
  · rw [if_neg h]; exact .nil
theorem DecL.more {t : Tr} (hd : DpOk t) (x : Int) : DecL (encT t ++ [x]) := by
  unfold encT
  by_cases h : isT t = true
  · rw [if_pos h]
    refine .of (by have := hd.1; simp; omega) fun t' h1 e => ?_
    have h2 := toks_code t' h1
    rw [e] at h2
    obtain ⟨k2, _, h3⟩ := (toks_code t h).rest h2
    cases h3
  · rw [if_neg h]; exact .short (by simp)
theorem DecL.half {t : Tr} (hd : DpOk t) (n : Nat) (hn : n ≤ 200) : DecL ((encT t).take n) := .short (by rw [List.length_take]; omega)
theorem DecL.zero (n : Nat) (hn : n ≤ 5000) : DecL (List.replicate n 0) := .of (by simpa using hn) fun t h e => by
  cases t with
  | nil => cases h
  | node a c ans kids =>
    rw [isT] at h
    by_cases ha : a = -1
    · subst ha
      rw [codeT, if_pos (by omega)] at e
      have h9 : (-1 : Int) ∈ List.replicate n (0 : Int) := by rw [← e]; simp
      have := List.eq_of_mem_replicate h9
      omega
    · rw [if_neg ha] at h
      simp only [Bool.and_eq_true, decide_eq_true_eq] at h
      obtain ⟨⟨⟨⟨⟨⟨h0, _⟩, _⟩, hn⟩, _⟩, _⟩, _⟩ := h
      rw [codeT, if_neg (by omega)] at e
      have h9 : (ans.length : Int) ∈ List.replicate n (0 : Int) := by rw [← e]; simp
      have := List.eq_of_mem_replicate h9
      omega
/-- the code itself is read back -/
theorem dec_code {t : Tr} (h : isT t = true) (hd : DpOk t) : decT (encT t) = t ∧ decE (encT t) = 0 := by
  unfold encT
  rw [if_pos h]
  have h4 : ¬ 4096 < (codeT t).length := by have := hd.1; omega
  refine dec_some h4 (decO_ok ?_ h)
  have := code_read t (codeT t).length [] h (by
    have := dep_len h; have := toks_code t h
    cases t with
    | nil => cases h
    | node a c ans kids =>
      have h1 : 2 ≤ (codeT (.node a c ans kids)).length := by rw [codeT]; split <;> simp
      omega)
  rwa [List.append_nil] at this
end Go.Proofs.Ytmkkegigajmhkaa

