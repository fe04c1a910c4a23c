import Derived.Test.YthldekpbjfhmcaaWk
namespace Go.Proofs.Ythldekpbjfhmcaa
open Go.RowKit

def selStep (s : (Int → Bool) × List Int × Nat) (x : (Int × Int) × Sh) : (Int → Bool) × List Int × Nat :=
  if s.1 x.1.1 || s.1 x.1.2 then (fun y => !(y == x.1.2) && (!(y == x.1.1) && s.1 y), s.2.1 ++ [(s.2.2 : Int)], s.2.2 + 1) else (s.1, s.2.1, s.2.2 + 1)
def selW (S0 : Int → Bool) (pre : List ((Int × Int) × Sh)) : (Int → Bool) × List Int × Nat := pre.foldl selStep (S0, [], 0)
theorem selW_snoc (S0 : Int → Bool) (pre : List ((Int × Int) × Sh)) (x : (Int × Int) × Sh) : selW S0 (pre ++ [x]) = selStep (selW S0 pre) x := by simp [selW]

def hitS (S0 : Int → Bool) (L : List ((Int × Int) × Sh)) (j : Nat) : Bool := match L[j]? with | some x => S0 x.1.1 || S0 x.1.2 | none => false

theorem range_filter (f : Nat → Bool) (n : Nat) : (List.range (n + 1)).filter f = (List.range n).filter f ++ (if f n then [n] else []) := by
  rw [List.range_succ, List.filter_append]; congr 1
  by_cases h : f n <;> simp [h]

/-- what is selected from a list whose leaves are all different -/
theorem selW_eq (S0 : Int → Bool) (L : List ((Int × Int) × Sh)) (hd : ∀ (i j : Nat) (x y : (Int × Int) × Sh), i < j → L[i]? = some x → L[j]? = some y → x.1.1 ≠ y.1.1 ∧ x.1.1 ≠ y.1.2 ∧ x.1.2 ≠ y.1.1 ∧ x.1.2 ≠ y.1.2) :
    ∀ n, n ≤ L.length → (∀ y : Int, (∀ (i : Nat) (x : (Int × Int) × Sh), i < n → L[i]? = some x → y ≠ x.1.1 ∧ y ≠ x.1.2) → (selW S0 (L.take n)).1 y = S0 y) ∧ (selW S0 (L.take n)).2.1 = ((List.range n).filter (hitS S0 L)).map (fun j : Nat => (j : Int)) ∧ (selW S0 (L.take n)).2.2 = n := by
  intro n
  induction n with
  | zero => intro _; exact ⟨fun _ _ => by simp [selW], by simp [selW], by simp [selW]⟩
  | succ n ih =>
    intro hn
    obtain ⟨h1, h2, h3⟩ := ih (by omega)
    obtain ⟨x, hx⟩ := elem_at (l := L) (k := n) (by omega)
    have e : L.take (n + 1) = L.take n ++ [x] := by rw [List.take_add_one, hx]; rfl
    have ea : (selW S0 (L.take n)).1 x.1.1 = S0 x.1.1 := h1 _ fun i y hi hy => ⟨fun e' => (hd i n y x hi hy hx).1 e'.symm, fun e' => (hd i n y x hi hy hx).2.2.1 e'.symm⟩
    have eb : (selW S0 (L.take n)).1 x.1.2 = S0 x.1.2 := h1 _ fun i y hi hy => ⟨fun e' => (hd i n y x hi hy hx).2.1 e'.symm, fun e' => (hd i n y x hi hy hx).2.2.2 e'.symm⟩
    have hh : hitS S0 L n = (S0 x.1.1 || S0 x.1.2) := by unfold hitS; rw [hx]
    rw [e, selW_snoc]
    unfold selStep
    rw [ea, eb]
    by_cases hc : (S0 x.1.1 || S0 x.1.2) = true
    · rw [if_pos hc]
      refine ⟨fun y hy => ?_, ?_, by simp [h3]⟩
      · obtain ⟨y1, y2⟩ := hy n x (by omega) hx
        simp only [beq_eq_false_iff_ne.2 y1, beq_eq_false_iff_ne.2 y2, Bool.not_false, Bool.true_and]
        exact h1 y fun i z hi hz => hy i z (by omega) hz
      · rw [range_filter, hh, if_pos hc, List.map_append, ← h2, h3]; simp
    · rw [if_neg hc]
      refine ⟨fun y hy => h1 y fun i z hi hz => hy i z (by omega) hz, ?_, by simp [h3]⟩
      rw [range_filter, hh, if_neg hc, List.map_append, ← h2]; simp

theorem items_at (p k : Int) (j : Nat) (hh : 0 < (k / 2).toNat) (hj : j < (cnt p k).toNat * (k / 2).toNat) : (items p k)[j]? = some (it p k (j / (k / 2).toNat) (j % (k / 2).toNat)) := by
  have h1 : j / (k / 2).toNat < (cnt p k).toNat := (Nat.div_lt_iff_lt_mul hh).2 hj
  have h2 : j % (k / 2).toNat < (k / 2).toNat := Nat.mod_lt _ hh
  have e : j / (k / 2).toNat * (k / 2).toNat + j % (k / 2).toNat = j := Nat.div_add_mod' _ _
  have := flat_at (fun q => itRow p k q (k / 2).toNat) (k / 2).toNat (fun q => itRow_len p k q _) (List.range (cnt p k).toNat) (j / (k / 2).toNat) (j % (k / 2).toNat) (j / (k / 2).toNat) (by rw [List.getElem?_range h1]) h2
  rw [e] at this
  unfold items itRows
  rw [this]
  unfold itRow
  rw [List.getElem?_map, List.getElem?_range h2]; rfl

theorem itemsI_len (p k : Int) : (items p k).length = (cnt p k).toNat * (k / 2).toNat := by unfold items; rw [itRows_len]

/-- the leaves of a sheet -/
def lfA (k : Int) (j : Nat) : Int := ((j / (k / 2).toNat : Nat) : Int) * k + 1 + (j % (k / 2).toNat : Nat)
def lfB (k : Int) (j : Nat) : Int := ((j / (k / 2).toNat : Nat) : Int) * k + k - (j % (k / 2).toNat : Nat)
def hitC (k : Int) (cs : List Int) (j : Nat) : Bool := decide (lfA k j ∈ cs) || decide (lfB k j ∈ cs)
def selL (p k : Int) (cs : List Int) : List Int := ((List.range ((cnt p k).toNat * (k / 2).toNat)).filter (hitC k cs)).map fun j : Nat => (j : Int)

theorem it_leaves (p k : Int) (j : Nat) (hk : 2 ≤ k) : (it p k (j / (k / 2).toNat) (j % (k / 2).toNat)).1 = (lfA k j, lfB k j) := by
  have h2 : j % (k / 2).toNat < (k / 2).toNat := Nat.mod_lt _ (by omega)
  show (itA _ _ _, conj _ _) = _
  rw [conj_it k _ _ hk (by omega)]
  unfold itA lfA lfB
  congr 1; omega

theorem leaf_diff (k : Int) (i j : Nat) (hk : 2 ≤ k) (h : i < j) : lfA k i ≠ lfA k j ∧ lfA k i ≠ lfB k j ∧ lfB k i ≠ lfA k j ∧ lfB k i ≠ lfB k j := by
  have hh : 0 < (k / 2).toNat := by omega
  have i2 : i % (k / 2).toNat < (k / 2).toNat := Nat.mod_lt _ hh
  have j2 : j % (k / 2).toNat < (k / 2).toNat := Nat.mod_lt _ hh
  have ei : i / (k / 2).toNat * (k / 2).toNat + i % (k / 2).toNat = i := Nat.div_add_mod' _ _
  have ej : j / (k / 2).toNat * (k / 2).toNat + j % (k / 2).toNat = j := Nat.div_add_mod' _ _
  have hq : i / (k / 2).toNat ≤ j / (k / 2).toNat := Nat.div_le_div_right (by omega)
  unfold lfA lfB
  generalize i / (k / 2).toNat = qi at *
  generalize j / (k / 2).toNat = qj at *
  generalize i % (k / 2).toNat = ri at *
  generalize j % (k / 2).toNat = rj at *
  rcases Nat.lt_or_eq_of_le hq with hlt | rfl
  · have : ((qi : Int) + 1) * k ≤ (qj : Int) * k := Int.mul_le_mul_of_nonneg_right (by omega) (by omega)
    rw [Int.add_mul, Int.one_mul] at this
    omega
  · have : ri < rj := by omega
    omega

theorem sel_items (p k : Int) (cs : List Int) (hk : 2 ≤ k) : (selW (fun y => decide (y ∈ cs)) (items p k)).2.1 = selL p k cs := by
  have hh : 0 < (k / 2).toNat := by omega
  have h := (selW_eq (fun y => decide (y ∈ cs)) (items p k) (fun i j x y hij hx hy => by
    have hjl := (List.getElem?_eq_some_iff.1 hy).1
    rw [itemsI_len] at hjl
    rw [items_at p k i hh (by omega)] at hx
    rw [items_at p k j hh hjl] at hy
    have ex := it_leaves p k i hk
    have ey := it_leaves p k j hk
    rw [Option.some.inj hx] at ex
    rw [Option.some.inj hy] at ey
    rw [ex, ey]
    exact leaf_diff k i j hk hij) _ (Nat.le_refl _)).2.1
  rw [List.take_length] at h
  rw [h, itemsI_len]
  unfold selL
  congr 1
  refine List.filter_congr fun j hj => ?_
  have hjl := List.mem_range.1 hj
  unfold hitS hitC
  rw [items_at p k j hh hjl]
  simp only [it_leaves p k j hk]
end Go.Proofs.Ythldekpbjfhmcaa
