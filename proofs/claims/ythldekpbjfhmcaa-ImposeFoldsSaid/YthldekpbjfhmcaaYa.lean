/- The law of conjugate leaves: both leaves of a sheet are conjugate to each other, select the same one sheet, and their sum is odd. -/
import Derived.Test.YthldekpbjfhmcaaWt
import Derived.Test.YthldekpbjfhmcaaWl
namespace Go.Proofs.Ythldekpbjfhmcaa
open Go.RowKit

theorem div_mod_iff (k q s t : Int) (hs : 0 ≤ s) (hs' : s < k) : q * k + s = t ↔ q = t / k ∧ s = t % k := by
  constructor
  · rintro rfl
    have e1 : (q * k + s) / k = q := by rw [Int.add_comm, Int.add_mul_ediv_right _ _ (by omega), Int.ediv_eq_zero_of_lt hs hs']; omega
    have e2 : (q * k + s) % k = s := by rw [Int.add_comm, Int.add_mul_emod_self_right, Int.emod_eq_of_lt hs hs']
    exact ⟨e1.symm, e2.symm⟩
  · rintro ⟨rfl, rfl⟩
    have := Int.mul_ediv_add_emod t k
    rw [Int.mul_comm]; exact this

theorem lfA_iff (k l : Int) (j : Nat) (hk : 2 ≤ k) : lfA k j = l ↔ (j : Int) / (k / 2) = (l - 1) / k ∧ (j : Int) % (k / 2) = (l - 1) % k := by
  have r0 := Int.emod_nonneg (j : Int) (show k / 2 ≠ 0 by omega)
  have r1 := Int.emod_lt_of_pos (j : Int) (show 0 < k / 2 by omega)
  rw [(lf_int k j hk).1, ← div_mod_iff k _ _ (l - 1) r0 (by omega)]
  omega

theorem lfB_iff (k l : Int) (j : Nat) (hk : 2 ≤ k) : lfB k j = l ↔ (j : Int) / (k / 2) = (l - 1) / k ∧ k - 1 - (j : Int) % (k / 2) = (l - 1) % k := by
  have r0 := Int.emod_nonneg (j : Int) (show k / 2 ≠ 0 by omega)
  have r1 := Int.emod_lt_of_pos (j : Int) (show 0 < k / 2 by omega)
  rw [(lf_int k j hk).2, ← div_mod_iff k _ _ (l - 1) (by omega) (by omega)]
  omega

theorem filter_one (p : Nat → Bool) (j0 N : Nat) (h : ∀ j, p j = true ↔ j = j0) : (List.range N).filter p = if j0 < N then [j0] else [] := by
  induction N with
  | zero => simp
  | succ N ih =>
    rw [List.range_succ, List.filter_append, ih]
    by_cases hN : N = j0
    · subst hN
      have := (h N).2 rfl
      simp [this]
    · have : p N = false := by
        rw [Bool.eq_false_iff]; intro hc; exact hN ((h N).1 hc)
      by_cases hl : j0 < N
      · have : j0 < N + 1 := by omega
        simp [*]
      · have : ¬ j0 < N + 1 := by omega
        simp [*]

theorem conj_facts (k l : Int) (hk : 2 ≤ k) : (conj k l - 1) / k = (l - 1) / k ∧ (conj k l - 1) % k = k - 1 - (l - 1) % k ∧ conj k (conj k l) = l := by
  have r0 := Int.emod_nonneg (l - 1) (show k ≠ 0 by omega)
  have r1 := Int.emod_lt_of_pos (l - 1) (show 0 < k by omega)
  have h1 := Int.mul_ediv_add_emod (l - 1) k
  rw [Int.mul_comm] at h1
  have e : conj k l - 1 = (l - 1) / k * k + (k - 1 - (l - 1) % k) := by unfold conj; omega
  have h2 := (div_mod_iff k ((l - 1) / k) (k - 1 - (l - 1) % k) (conj k l - 1) (by omega) (by omega)).1 e.symm
  refine ⟨h2.1.symm, h2.2.symm, ?_⟩
  have e3 : conj k (conj k l) = 2 * ((conj k l - 1) / k * k) + k + 1 - conj k l := rfl
  rw [e3, ← h2.1]; unfold conj; omega

theorem hit_one (k l : Int) (hk : 2 ≤ k) (hk2 : k % 2 = 0) (hl : 1 ≤ l) :
    ∃ j0 : Nat, (j0 : Int) = (l - 1) / k * (k / 2) + (if (l - 1) % k < k / 2 then (l - 1) % k else k - 1 - (l - 1) % k) ∧ (∀ j, hitC k [l] j = true ↔ j = j0) ∧ (∀ j, hitC k [conj k l, l] j = true ↔ j = j0) := by
  have r0 := Int.emod_nonneg (l - 1) (show k ≠ 0 by omega)
  have r1 := Int.emod_lt_of_pos (l - 1) (show 0 < k by omega)
  have q0 : 0 ≤ (l - 1) / k := Int.ediv_nonneg (by omega) (by omega)
  have q1 : 0 ≤ (l - 1) / k * (k / 2) := Int.mul_nonneg q0 (by omega)
  obtain ⟨c1, c2, _⟩ := conj_facts k l hk
  have hm : ∃ m : Int, m = (if (l - 1) % k < k / 2 then (l - 1) % k else k - 1 - (l - 1) % k) ∧ 0 ≤ m ∧ m < k / 2 ∧ (∀ s : Int, 0 ≤ s → s < k / 2 → ((s = (l - 1) % k ∨ k - 1 - s = (l - 1) % k) ↔ s = m)) := by
    by_cases h : (l - 1) % k < k / 2
    · rw [if_pos h]; exact ⟨_, rfl, by omega, by omega, fun s hs hs' => by omega⟩
    · rw [if_neg h]; exact ⟨_, rfl, by omega, by omega, fun s hs hs' => by omega⟩
  obtain ⟨m, hm, m0, m1, mh⟩ := hm
  rw [← hm]
  have hj : ∀ j : Nat, ((j : Int) / (k / 2) = (l - 1) / k ∧ (j : Int) % (k / 2) = m) ↔ j = ((l - 1) / k * (k / 2) + m).toNat := by
    intro j
    have := div_mod_iff (k / 2) ((l - 1) / k) m (j : Int) m0 m1
    constructor
    · rintro ⟨h1, h2⟩
      have := this.2 ⟨h1.symm, h2.symm⟩
      omega
    · intro h
      have := this.1 (by omega)
      exact ⟨this.1.symm, this.2.symm⟩
  have hA : ∀ j, hitC k [l] j = true ↔ j = ((l - 1) / k * (k / 2) + m).toNat := by
    intro j
    have s0 := Int.emod_nonneg (j : Int) (show k / 2 ≠ 0 by omega)
    have s1 := Int.emod_lt_of_pos (j : Int) (show 0 < k / 2 by omega)
    have h1 := mh _ s0 s1
    rw [← hj j]
    unfold hitC
    simp only [List.mem_singleton, Bool.or_eq_true, decide_eq_true_eq, lfA_iff k l j hk, lfB_iff k l j hk]
    rw [← h1]
    constructor
    · rintro (⟨a, b⟩ | ⟨a, b⟩)
      · exact ⟨a, .inl b⟩
      · exact ⟨a, .inr b⟩
    · rintro ⟨a, b | b⟩
      · exact .inl ⟨a, b⟩
      · exact .inr ⟨a, b⟩
  refine ⟨((l - 1) / k * (k / 2) + m).toNat, Int.toNat_of_nonneg (by omega), hA, fun j => ?_⟩
  rw [← hA j]
  unfold hitC
  simp only [List.mem_cons, List.not_mem_nil, or_false, Bool.or_eq_true, decide_eq_true_eq, lfA_iff k l j hk, lfB_iff k l j hk, lfA_iff k (conj k l) j hk, lfB_iff k (conj k l) j hk, c1, c2]
  constructor
  · rintro ((⟨a, b⟩ | h) | (⟨a, b⟩ | h))
    · right; exact ⟨a, by omega⟩
    · left; exact h
    · left; exact ⟨a, by omega⟩
    · right; exact h
  · rintro (h | h)
    · exact .inl (.inr h)
    · exact .inr (.inr h)

theorem conj_law (p k x : Int) (h : leafErr p k x = 0) : ∃ a j, conjR p k x = a ∧ conjR p k a = x ∧ leafErr p k a = 0 ∧ sheetsL p k [x] = ([j], 0) ∧ sheetsL p k [a, x] = ([j], 0) ∧ 1 ≤ a ∧ a ≤ 520 ∧ 1 ≤ x ∧ x ≤ 520 ∧ (a + x) % 2 = 1 := by
  have h0 : errOf p k = 0 := by
    by_cases h0 : errOf p k = 0
    · exact h0
    · rw [(errOf_ne5 p k x h0).1] at h; exact h
  obtain ⟨hp1, hp2, hk1, hk2, hk3⟩ := errOf_zero h0
  have hb : hasB p k x = true := by
    by_cases hb : hasB p k x = true
    · exact hb
    · unfold leafErr at h; rw [if_pos h0, if_neg hb] at h; omega
  obtain ⟨l1, l2⟩ := hasB_true hb
  obtain ⟨c1, c2⟩ := cntk_bd p k hp1 hp2 hk1 hk2
  obtain ⟨n1, n2, _, _⟩ := cnt_bd p k hp1 hp2 hk1 hk2
  obtain ⟨e1, e2, e3⟩ := conj_facts k x hk1
  have r0 := Int.emod_nonneg (x - 1) (show k ≠ 0 by omega)
  have r1 := Int.emod_lt_of_pos (x - 1) (show 0 < k by omega)
  have hx := Int.mul_ediv_add_emod (x - 1) k
  rw [Int.mul_comm] at hx
  have q0 : 0 ≤ (x - 1) / k := Int.ediv_nonneg (by omega) (by omega)
  have q1 : 0 ≤ (x - 1) / k * k := Int.mul_nonneg q0 (by omega)
  have q2 : (x - 1) / k < cnt p k := Int.ediv_lt_of_lt_mul (by omega) (by omega)
  have q3 : ((x - 1) / k + 1) * k ≤ cnt p k * k := Int.mul_le_mul_of_nonneg_right (by omega) (by omega)
  rw [Int.add_mul, Int.one_mul] at q3
  have q4 : ((x - 1) / k + 1) * (k / 2) ≤ cnt p k * (k / 2) := Int.mul_le_mul_of_nonneg_right (by omega) (by omega)
  rw [Int.add_mul, Int.one_mul] at q4
  have ha : conj k x = (x - 1) / k * k + k - (x - 1) % k := by unfold conj; omega
  have hba : hasB p k (conj k x) = true := by
    unfold hasB; simp only [Bool.and_eq_true, decide_eq_true_eq]; omega
  have hR : conjR p k x = conj k x := by unfold conjR; rw [if_pos h]
  have hea : leafErr p k (conj k x) = 0 := by unfold leafErr; rw [if_pos h0, if_pos hba]
  have hRa : conjR p k (conj k x) = x := by unfold conjR; rw [if_pos hea, e3]
  obtain ⟨j0, hj0, hA, hB⟩ := hit_one k x hk1 hk3 l1
  have hN : j0 < (cnt p k).toNat * (k / 2).toNat := by
    have e : (((cnt p k).toNat * (k / 2).toNat : Nat) : Int) = cnt p k * (k / 2) := by rw [Int.natCast_mul, Int.toNat_of_nonneg n1, Int.toNat_of_nonneg (by omega)]
    have : (j0 : Int) < cnt p k * (k / 2) := by
      rw [hj0]; split <;> omega
    omega
  refine ⟨conj k x, j0, hR, hRa, hea, ?_, ?_, by omega, by omega, by omega, by omega, ?_⟩
  · unfold sheetsL selL
    rw [if_pos h0, filter_one _ j0 _ hA, if_pos hN]
    simp [hb]
  · unfold sheetsL selL
    rw [if_pos h0, filter_one _ j0 _ hB, if_pos hN]
    simp [hb, hba]
  · have : conj k x + x = 2 * ((x - 1) / k * k) + k + 1 := by unfold conj; omega
    omega

end Go.Proofs.Ythldekpbjfhmcaa
