/- The law of the sides: the pages of a sheet lie beside each other, its leaves are conjugate, and each page of a volume lies on one sheet, once. -/
import Derived.Test.YthldekpbjfhmcaaYa
import Derived.Test.YthldekpbjfhmcaaWv
import Derived.Test.YthldekpbjfhmcaaWk
namespace Go.Proofs.Ythldekpbjfhmcaa
open Go.RowKit

def mkN (p k : Int) (n : Nat) : Sh := mkS p k (n / (k / 2).toNat) (n % (k / 2).toNat)

theorem rowsS_flat (p k : Int) (hk : 2 ≤ k) (c : Nat) : rowsS p k c = (List.range (c * (k / 2).toNat)).map (mkN p k) := by
  have hh : 0 < (k / 2).toNat := by omega
  induction c with
  | zero => simp [rowsS]
  | succ c ih =>
    rw [rowsS_succ, ih, Nat.succ_mul, List.range_add, List.map_append, List.map_map]
    congr 1
    unfold rowS
    apply List.map_congr_left
    intro i hi
    have hi := List.mem_range.1 hi
    show mkS p k c i = mkS p k ((c * (k / 2).toNat + i) / (k / 2).toNat) ((c * (k / 2).toNat + i) % (k / 2).toNat)
    rw [Nat.add_comm, Nat.add_mul_div_right _ _ hh, Nat.div_eq_of_lt hi, Nat.add_mul_mod_self_right, Nat.mod_eq_of_lt hi, Nat.zero_add]

theorem fold_flat (p k : Int) (h0 : errOf p k = 0) : fold p k = (List.range ((cnt p k).toNat * (k / 2).toNat)).map (mkN p k) := by
  obtain ⟨hp1, hp2, hk1, hk2, hk3⟩ := errOf_zero h0
  unfold fold; rw [if_pos h0, rowsS_flat p k hk1]

theorem mkN_eq (p k : Int) (n : Nat) : mkN p k n = ⟨(n / (k / 2).toNat : Nat), shw p (2 * lfB k n), shw p (2 * lfA k n - 1), shw p (2 * lfA k n), shw p (2 * lfB k n - 1)⟩ := rfl

/-- the pages of a sheet -/
def pg (s : Sh) : List Int := [s.f0, s.f1, s.b0, s.b1]
def pgs (xs : List Sh) : List Int := xs.flatMap pg

theorem shw_bd (p n : Int) (hp : 0 ≤ p) (hn : 0 ≤ n) : 0 ≤ shw p n ∧ shw p n ≤ p ∧ (shw p n = n ∨ shw p n = 0) := by
  unfold shw; split <;> omega

theorem shw_iff (p n v : Int) (h1 : 1 ≤ v) (h2 : v ≤ p) : shw p n = v ↔ n = v := by
  unfold shw; split <;> omega

theorem lf_bd (p k : Int) (h0 : errOf p k = 0) (n : Nat) (hn : n < (cnt p k).toNat * (k / 2).toNat) : 1 ≤ lfA k n ∧ lfA k n < lfB k n ∧ lfB k n ≤ cnt p k * k ∧ lfB k n = conj k (lfA k n) ∧ lfB k n ≤ 512 := by
  obtain ⟨hp1, hp2, hk1, hk2, hk3⟩ := errOf_zero h0
  obtain ⟨n1, n2, _, _⟩ := cnt_bd p k hp1 hp2 hk1 hk2
  have h512 := cntk_512 p k hp1 hp2 hk1 hk2 hk3
  obtain ⟨eA, eB⟩ := lf_int k n hk1
  have r0 := Int.emod_nonneg (n : Int) (show k / 2 ≠ 0 by omega)
  have r1 := Int.emod_lt_of_pos (n : Int) (show 0 < k / 2 by omega)
  have q0 : 0 ≤ (n : Int) / (k / 2) := Int.ediv_nonneg (by omega) (by omega)
  have q00 : 0 ≤ (n : Int) / (k / 2) * k := Int.mul_nonneg q0 (by omega)
  have hlt : (n : Int) < cnt p k * (k / 2) := by
    have e : (((cnt p k).toNat * (k / 2).toNat : Nat) : Int) = cnt p k * (k / 2) := by rw [Int.natCast_mul, Int.toNat_of_nonneg n1, Int.toNat_of_nonneg (by omega)]
    omega
  have q1 : (n : Int) / (k / 2) < cnt p k := Int.ediv_lt_of_lt_mul (by omega) hlt
  have q3 : ((n : Int) / (k / 2) + 1) * k ≤ cnt p k * k := Int.mul_le_mul_of_nonneg_right (by omega) (by omega)
  rw [Int.add_mul, Int.one_mul] at q3
  have hc := (div_mod_iff k ((n : Int) / (k / 2)) ((n : Int) % (k / 2)) (lfA k n - 1) r0 (by omega)).1 (by omega)
  refine ⟨by omega, by omega, by omega, ?_, by omega⟩
  unfold conj; rw [← hc.1]; omega

theorem nextB_pair (p n : Int) (hn : 1 ≤ n) : nextB (shw p n) (shw p (n - 1)) = true ∧ nextB (shw p (n - 1)) (shw p n) = true := by
  have h1 : shw p n = n ∨ shw p n = 0 := by unfold shw; split <;> omega
  have h2 : shw p (n - 1) = n - 1 ∨ shw p (n - 1) = 0 := by unfold shw; split <;> omega
  unfold nextB
  rcases h1 with h1 | h1 <;> rcases h2 with h2 | h2 <;> rw [h1, h2] <;> simp <;> omega

/-- all that the law says of one sheet -/
structure SheetLaw (p k : Int) (s : Sh) : Prop where
  bf0 : 0 ≤ s.f0 ∧ s.f0 ≤ p
  bf1 : 0 ≤ s.f1 ∧ s.f1 ≤ p
  bb0 : 0 ≤ s.b0 ∧ s.b0 ≤ p
  bb1 : 0 ≤ s.b1 ∧ s.b1 ≤ p
  n1 : nextB s.f0 s.b1 = true
  n2 : nextB s.f1 s.b0 = true
  sum : 0 < s.f0 → 0 < s.f1 → 0 < s.b0 → 0 < s.b1 → s.f0 + s.f1 = s.b0 + s.b1
  leaf : 0 < s.f1 → 0 < s.b1 → leafErr p k (leafOf s.f1) = 0 ∧ conjR p k (leafOf s.f1) = leafOf s.b1

theorem sheet_law (p k : Int) (h0 : errOf p k = 0) (n : Nat) (s : Sh) (hs : (fold p k)[n]? = some s) : SheetLaw p k s := by
  obtain ⟨hp1, hp2, hk1, hk2, hk3⟩ := errOf_zero h0
  rw [fold_flat p k h0] at hs
  have hn : n < (cnt p k).toNat * (k / 2).toNat := by
    have := (List.getElem?_eq_some_iff.1 hs).1; simpa using this
  have he : s = mkN p k n := by
    rw [List.getElem?_map, List.getElem?_range hn] at hs
    exact (Option.some.inj hs).symm
  obtain ⟨a1, ab, b1, hc, b2⟩ := lf_bd p k h0 n hn
  subst he
  rw [mkN_eq]
  have w1 := shw_bd p (2 * lfB k n) hp1 (by omega)
  have w2 := shw_bd p (2 * lfA k n - 1) hp1 (by omega)
  have w3 := shw_bd p (2 * lfA k n) hp1 (by omega)
  have w4 := shw_bd p (2 * lfB k n - 1) hp1 (by omega)
  refine ⟨⟨w1.1, w1.2.1⟩, ⟨w2.1, w2.2.1⟩, ⟨w3.1, w3.2.1⟩, ⟨w4.1, w4.2.1⟩, (nextB_pair p _ (by omega)).1, (nextB_pair p _ (by omega)).2, ?_, ?_⟩
  · intro h1 h2 h3 h4
    simp only at *
    omega
  · intro h2 h4
    simp only at *
    have e2 : shw p (2 * lfA k n - 1) = 2 * lfA k n - 1 := by omega
    have e4 : shw p (2 * lfB k n - 1) = 2 * lfB k n - 1 := by omega
    have l2 : leafOf (2 * lfA k n - 1) = lfA k n := by unfold leafOf; rw [if_neg (by omega)]; omega
    have l4 : leafOf (2 * lfB k n - 1) = lfB k n := by unfold leafOf; rw [if_neg (by omega)]; omega
    rw [e2, e4, l2, l4]
    have hb : hasB p k (lfA k n) = true := by unfold hasB; simp only [Bool.and_eq_true, decide_eq_true_eq]; omega
    have hE : leafErr p k (lfA k n) = 0 := by unfold leafErr; rw [if_pos h0, if_pos hb]
    refine ⟨hE, ?_⟩
    unfold conjR; rw [if_pos hE, hc]

theorem pg_count (p k : Int) (h0 : errOf p k = 0) (n : Nat) (hn : n < (cnt p k).toNat * (k / 2).toNat) (v : Int) (v1 : 1 ≤ v) (v2 : v ≤ p) :
    (pg (mkN p k n)).count v = if hitC k [(v + 1) / 2] n = true then 1 else 0 := by
  obtain ⟨a1, ab, b1, _, _⟩ := lf_bd p k h0 n hn
  rw [mkN_eq]
  unfold pg hitC
  simp only [List.count_cons, List.count_nil, List.mem_singleton, beq_iff_eq, Bool.or_eq_true, decide_eq_true_eq, shw_iff p _ v v1 v2]
  generalize lfA k n = A at *
  generalize lfB k n = B at *
  by_cases c1 : A = (v + 1) / 2 <;> by_cases c2 : B = (v + 1) / 2 <;> by_cases c3 : v % 2 = 0
  all_goals
    have e1 : (2 * B - 1 = v) = (B = (v + 1) / 2 ∧ v % 2 = 1) := by apply propext; omega
    have e2 : (2 * A = v) = (A = (v + 1) / 2 ∧ v % 2 = 0) := by apply propext; omega
    have e3 : (2 * A - 1 = v) = (A = (v + 1) / 2 ∧ v % 2 = 1) := by apply propext; omega
    have e4 : (2 * B = v) = (B = (v + 1) / 2 ∧ v % 2 = 0) := by apply propext; omega
    simp only [e1, e2, e3, e4]
    have c4 : (v % 2 = 1) = ¬ (v % 2 = 0) := by apply propext; omega
    simp only [c4]
    simp only [c1, c2, c3]
    first | (exfalso; omega) | simp

theorem count_range (f : Nat → List Int) (q : Nat → Bool) (v : Int) (N : Nat) (h : ∀ n, n < N → (f n).count v = if q n = true then 1 else 0) : ((List.range N).flatMap f).count v = ((List.range N).filter q).length := by
  induction N with
  | zero => simp
  | succ N ih =>
    rw [List.range_succ, List.flatMap_append, List.count_append, ih (fun n hn => h n (by omega)), List.filter_append, List.length_append]
    have := h N (by omega)
    by_cases hq : q N = true <;> simp_all

theorem page_once (p k : Int) (h0 : errOf p k = 0) (v : Int) (v1 : 1 ≤ v) (v2 : v ≤ p) : (pgs (fold p k)).count v = 1 := by
  obtain ⟨hp1, hp2, hk1, hk2, hk3⟩ := errOf_zero h0
  obtain ⟨n1, n2, n3, n4⟩ := cnt_bd p k hp1 hp2 hk1 hk2
  rw [fold_flat p k h0]
  unfold pgs
  rw [List.flatMap_map, count_range (fun n => pg (mkN p k n)) (hitC k [(v + 1) / 2]) v _ (fun n hn => pg_count p k h0 n hn v v1 v2)]
  obtain ⟨j0, hj0, hA, _⟩ := hit_one k ((v + 1) / 2) hk1 hk3 (by omega)
  rw [filter_one _ j0 _ hA, if_pos]
  · rfl
  · have e2k : cnt p k * (2 * k) = 2 * (cnt p k * k) := by rw [Int.mul_left_comm]
    have hx := Int.mul_ediv_add_emod ((v + 1) / 2 - 1) k
    rw [Int.mul_comm] at hx
    have r0 := Int.emod_nonneg ((v + 1) / 2 - 1) (show k ≠ 0 by omega)
    have r1 := Int.emod_lt_of_pos ((v + 1) / 2 - 1) (show 0 < k by omega)
    have q2 : ((v + 1) / 2 - 1) / k < cnt p k := Int.ediv_lt_of_lt_mul (by omega) (by omega)
    have q4 : (((v + 1) / 2 - 1) / k + 1) * (k / 2) ≤ cnt p k * (k / 2) := Int.mul_le_mul_of_nonneg_right (by omega) (by omega)
    rw [Int.add_mul, Int.one_mul] at q4
    have e : (((cnt p k).toNat * (k / 2).toNat : Nat) : Int) = cnt p k * (k / 2) := by rw [Int.natCast_mul, Int.toNat_of_nonneg n1, Int.toNat_of_nonneg (by omega)]
    have : (j0 : Int) < cnt p k * (k / 2) := by
      rw [hj0]; split <;> omega
    omega

theorem fold_err (p k : Int) (h : errOf p k ≠ 0) : fold p k = [] := by unfold fold; rw [if_neg h]

end Go.Proofs.Ythldekpbjfhmcaa
