/- The law of cancels (plain): no more sheets than leaves, in rising order; the sheets of two lists together are those of both. -/
import Derived.Test.YthldekpbjfhmcaaYa
namespace Go.Proofs.Ythldekpbjfhmcaa
open Go.RowKit

theorem filter_or_len {α : Type} (p q : α → Bool) (l : List α) : (l.filter fun x => p x || q x).length ≤ (l.filter p).length + (l.filter q).length := by
  induction l with
  | nil => simp
  | cons a l ih =>
    simp only [List.filter_cons]
    cases p a <;> cases q a <;> simp <;> omega

theorem hitC_cons (k c : Int) (cs : List Int) (j : Nat) : hitC k (c :: cs) j = (hitC k [c] j || hitC k cs j) := by
  unfold hitC
  rw [Bool.eq_iff_iff]
  simp only [List.mem_cons, Bool.or_eq_true, decide_eq_true_eq, List.not_mem_nil, or_false]
  constructor
  · rintro ((h | h) | (h | h))
    · exact .inl (.inl h)
    · exact .inr (.inl h)
    · exact .inl (.inr h)
    · exact .inr (.inr h)
  · rintro ((h | h) | (h | h))
    · exact .inl (.inl h)
    · exact .inr (.inl h)
    · exact .inl (.inr h)
    · exact .inr (.inr h)

theorem hitC_app (k : Int) (xs ys : List Int) (j : Nat) : hitC k (xs ++ ys) j = (hitC k xs j || hitC k ys j) := by
  unfold hitC
  rw [Bool.eq_iff_iff]
  simp only [List.mem_append, Bool.or_eq_true, decide_eq_true_eq]
  constructor
  · rintro ((h | h) | (h | h))
    · exact .inl (.inl h)
    · exact .inr (.inl h)
    · exact .inl (.inr h)
    · exact .inr (.inr h)
  · rintro ((h | h) | (h | h))
    · exact .inl (.inl h)
    · exact .inr (.inl h)
    · exact .inl (.inr h)
    · exact .inr (.inr h)

theorem hits_len (k : Int) (hk : 2 ≤ k) (hk2 : k % 2 = 0) (N : Nat) (cs : List Int) (h : ∀ c, c ∈ cs → 1 ≤ c) : ((List.range N).filter (hitC k cs)).length ≤ cs.length := by
  induction cs with
  | nil =>
    have : (List.range N).filter (hitC k []) = [] := List.filter_eq_nil_iff.2 (fun j _ => by rw [hitC_nil]; simp)
    rw [this]; simp
  | cons c cs ih =>
    have e : hitC k (c :: cs) = fun j => hitC k [c] j || hitC k cs j := funext fun j => hitC_cons k c cs j
    rw [e]
    have h1 := filter_or_len (hitC k [c]) (hitC k cs) (List.range N)
    obtain ⟨j0, _, hA, _⟩ := hit_one k c hk hk2 (h c (by simp))
    have h2 : ((List.range N).filter (hitC k [c])).length ≤ 1 := by rw [filter_one _ j0 N hA]; split <;> simp
    have h3 := ih (fun c' hc' => h c' (by simp [hc']))
    simp only [List.length_cons]
    omega

theorem sheetsL_len (p k : Int) (cs : List Int) : (sheetsL p k cs).1.length ≤ cs.length := by
  unfold sheetsL
  by_cases h0 : errOf p k = 0
  · rw [if_pos h0]
    obtain ⟨hp1, hp2, hk1, hk2, hk3⟩ := errOf_zero h0
    by_cases hb : cs.all (hasB p k) = true
    · rw [if_pos hb]
      unfold selL
      rw [List.length_map]
      exact hits_len k hk1 hk3 _ cs (fun c hc => (hasB_true (List.all_eq_true.1 hb c hc)).1)
    · rw [if_neg hb]; simp
  · rw [if_neg h0]; simp

theorem sheetsL_zero {p k : Int} {cs : List Int} (h : (sheetsL p k cs).2 = 0) : errOf p k = 0 ∧ cs.all (hasB p k) = true ∧ (sheetsL p k cs).1 = selL p k cs := by
  unfold sheetsL at h ⊢
  by_cases h0 : errOf p k = 0
  · rw [if_pos h0] at h ⊢
    by_cases hb : cs.all (hasB p k) = true
    · rw [if_pos hb]; exact ⟨h0, hb, rfl⟩
    · rw [if_neg hb] at h; simp at h
  · rw [if_neg h0] at h; exact absurd h h0

theorem sheetsL_two (p k : Int) (xs ys : List Int) : (sheetsL p k (xs ++ ys)).2 = 0 ↔ (sheetsL p k xs).2 = 0 ∧ (sheetsL p k ys).2 = 0 := by
  unfold sheetsL
  by_cases h0 : errOf p k = 0
  · rw [if_pos h0, if_pos h0, if_pos h0, List.all_append]
    cases xs.all (hasB p k) <;> cases ys.all (hasB p k) <;> simp
  · rw [if_neg h0, if_neg h0, if_neg h0]; simp [h0]

theorem mem_selL (p k : Int) (cs : List Int) (x : Int) : x ∈ selL p k cs ↔ ∃ j : Nat, j < (cnt p k).toNat * (k / 2).toNat ∧ hitC k cs j = true ∧ (j : Int) = x := by
  unfold selL
  simp only [List.mem_map, List.mem_filter, List.mem_range, and_assoc]

theorem sel_two (p k : Int) (xs ys : List Int) (x : Int) : x ∈ selL p k (xs ++ ys) ↔ x ∈ selL p k xs ∨ x ∈ selL p k ys := by
  simp only [mem_selL, hitC_app, Bool.or_eq_true]
  constructor
  · rintro ⟨j, h1, h2 | h2, h3⟩
    · exact .inl ⟨j, h1, h2, h3⟩
    · exact .inr ⟨j, h1, h2, h3⟩
  · rintro (⟨j, h1, h2, h3⟩ | ⟨j, h1, h2, h3⟩)
    · exact ⟨j, h1, .inl h2, h3⟩
    · exact ⟨j, h1, .inr h2, h3⟩

theorem sel_up (p k : Int) (cs : List Int) (i : Nat) (x y : Int) (hx : (selL p k cs)[i]? = some x) (hy : (selL p k cs)[i + 1]? = some y) : x < y := by
  have hp : (selL p k cs).Pairwise (· < ·) := by
    unfold selL
    rw [List.pairwise_map]
    refine (List.Pairwise.filter _ List.pairwise_lt_range).imp ?_
    intro a b h; omega
  obtain ⟨h1, e1⟩ := List.getElem?_eq_some_iff.1 hx
  obtain ⟨h2, e2⟩ := List.getElem?_eq_some_iff.1 hy
  have := List.pairwise_iff_getElem.1 hp i (i + 1) h1 h2 (by omega)
  rw [e1, e2] at this; exact this

/-- the law at three lists -/
theorem cancels_law (p k : Int) (xs ys : List Int) (h1 : (sheetsL p k (xs ++ ys)).2 = 0) :
    (∀ x, x ∈ (sheetsL p k (xs ++ ys)).1 → x ∈ (sheetsL p k xs).1 ∨ x ∈ (sheetsL p k ys).1) ∧ (∀ x, x ∈ (sheetsL p k xs).1 ++ (sheetsL p k ys).1 → x ∈ (sheetsL p k (xs ++ ys)).1) ∧
    (∀ i x y, (sheetsL p k (xs ++ ys)).1[i]? = some x → (sheetsL p k (xs ++ ys)).1[i + 1]? = some y → x < y) := by
  obtain ⟨h2, h3⟩ := (sheetsL_two p k xs ys).1 h1
  rw [(sheetsL_zero h1).2.2, (sheetsL_zero h2).2.2, (sheetsL_zero h3).2.2]
  refine ⟨fun x hx => (sel_two p k xs ys x).1 hx, fun x hx => (sel_two p k xs ys x).2 (List.mem_append.1 hx), fun i x y => sel_up p k _ i x y⟩
end Go.Proofs.Ythldekpbjfhmcaa
