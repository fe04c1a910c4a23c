/- Weak schemes (plain law). -/
import Derived.Test.YtidojiegkdchpaaBf
namespace Go.Proofs.Ytidojiegkdchpaa
open Go.RowKit Go.Maps

theorem com_free {b m d : Int} (hc : comF b m = false) (h : (b * d) % m = 0) : m ∣ d := by
  have hg : Nat.gcd b.natAbs m.natAbs = 1 := by unfold comF at hc; simpa using hc
  have h1 : m ∣ b * d := Int.dvd_of_emod_eq_zero h
  have h2 : m.natAbs ∣ b.natAbs * d.natAbs := by rw [← Int.natAbs_mul]; exact Int.natAbs_dvd_natAbs.2 h1
  have h3 : m.natAbs ∣ d.natAbs := (Nat.Coprime.dvd_of_dvd_mul_left (Nat.Coprime.symm hg) h2)
  exact Int.natAbs_dvd_natAbs.1 h3
theorem small_dvd {m d : Int} (hm : m ∣ d) (h1 : -m < d) (h2 : d < m) : d = 0 := by
  obtain ⟨q, rfl⟩ := hm
  have h3 : 0 < m := by omega
  have : q = 0 := by
    rcases Int.lt_trichotomy q 0 with h | h | h
    · have := Int.mul_le_mul_of_nonneg_left (show q ≤ -1 by omega) (show 0 ≤ m by omega); omega
    · exact h
    · have := Int.mul_le_mul_of_nonneg_left (show 1 ≤ q by omega) (show 0 ≤ m by omega); omega
  rw [this]; simp
theorem hit_com {b m : Int} (hm : 2 ≤ m) : (hitF m b).isSome = comF b m := by
  cases hc : comF b m
  · have : hitF m b = none := hit_none fun d h1 h2 h3 => by
      have := small_dvd (com_free hc h3) (by omega) h2
      omega
    rw [this]; rfl
  · cases hh : hitF m b with
    | some d => rfl
    | none =>
      exfalso
      have hg : Nat.gcd b.natAbs m.natAbs ≠ 1 := by unfold comF at hc; simpa using hc
      have hg0 : 0 < Nat.gcd b.natAbs m.natAbs := Nat.gcd_pos_of_pos_right _ (by omega)
      obtain ⟨e, he⟩ := Nat.gcd_dvd_right b.natAbs m.natAbs
      obtain ⟨f, hf⟩ := Nat.gcd_dvd_left b.natAbs m.natAbs
      generalize Nat.gcd b.natAbs m.natAbs = g at *
      have hmm : m = (g : Int) * e := by
        have : (m.natAbs : Int) = m := by omega
        rw [← this, he]; push_cast; rfl
      have he1 : 1 ≤ e := by
        rcases Nat.eq_zero_or_pos e with h | h
        · rw [h] at hmm; simp at hmm; omega
        · exact h
      have hem : (e : Int) < m := by
        have := Int.mul_le_mul_of_nonneg_right (show (2 : Int) ≤ g by omega) (show (0 : Int) ≤ e by omega)
        omega
      have hb : (b * (e : Int)) % m = 0 := by
        apply Int.emod_eq_zero_of_dvd
        have hbd : (g : Int) ∣ b := by
          have : ((g : Int)).natAbs ∣ b.natAbs := by rw [Int.natAbs_natCast]; exact ⟨f, hf⟩
          exact Int.natAbs_dvd_natAbs.1 this
        rw [hmm]
        exact Int.mul_dvd_mul hbd (Int.dvd_refl _)
      unfold hitF at hh
      rw [List.find?_eq_none] at hh
      have := hh e (List.mem_range.2 (by omega))
      simp [hb] at this
      omega
def anyC (m : Int) (l : List Slip) : Bool := l.any fun x => comF x.2.2 m
theorem weak_any_com {ws : List Int} {m : Int} (hm : 2 ≤ m) : (weakR ws m).isSome = anyC m (spL ws) := by
  unfold weakR anyC
  rw [Bool.eq_iff_iff, List.findSome?_isSome_iff, List.any_eq_true]
  constructor
  · rintro ⟨x, hx, h⟩
    exact ⟨x, hx, by rw [← hit_com hm]; simpa using h⟩
  · rintro ⟨x, hx, h⟩
    exact ⟨x, hx, by rw [← hit_com hm] at h; simpa using h⟩
/-- a slip that Weak returns -/
theorem weak_slip {ws : List Int} {m : Int} {a : Nat} {o : Int} {d : Nat} (h : weakR ws m = some (a, o, d)) : 1 ≤ d ∧ (d : Int) < m ∧ ∃ x, ws[a]? = some x ∧ ((o = -1 ∧ (x * d) % m = 0) ∨ ∃ y, o = (a : Int) + 1 ∧ ws[a + 1]? = some y ∧ ((x - y) * d) % m = 0) := by
  unfold weakR at h
  obtain ⟨x, hx, h2⟩ := List.exists_of_findSome?_eq_some h
  cases hh : hitF m x.2.2 with
  | none => rw [hh] at h2; cases h2
  | some q =>
    rw [hh] at h2
    simp only [Option.map_some, Option.some.injEq, Prod.mk.injEq] at h2
    obtain ⟨e1, e2, e3⟩ := h2
    have hq := hh
    unfold hitF at hq
    have hp := List.find?_some hq
    have hr := List.mem_range.1 (List.mem_of_find?_eq_some hq)
    simp only [Bool.and_eq_true, decide_eq_true_eq] at hp
    subst e3
    refine ⟨hp.1, by omega, ?_⟩
    unfold spL spN at hx
    obtain ⟨k, hk, hxk⟩ := List.mem_flatMap.1 hx
    rcases List.mem_append.1 hxk with e | e
    · unfold spA at e
      split at e
      · rename_i y hy
        rw [List.mem_singleton.1 e] at e1 e2 hp
        simp only at e1 e2 hp
        subst e1
        exact ⟨y, hy, .inl ⟨e2.symm, hp.2⟩⟩
      · cases e
    · unfold spB at e
      split at e
      · rename_i y z hy hz
        rw [List.mem_singleton.1 e] at e1 e2 hp
        simp only at e1 e2 hp
        subst e1
        exact ⟨y, hy, .inr ⟨z, e2.symm, hz, hp.2⟩⟩
      · cases e
theorem none_com {ws : List Int} {m : Int} (hm : 2 ≤ m) (h : weakR ws m = none) {k : Nat} {x : Int} (hx : ws[k]? = some x) : comF x m = false ∧ ∀ y, ws[k + 1]? = some y → comF (x - y) m = false := by
  have ha := weak_any_com (ws := ws) hm
  rw [h] at ha
  have hn := List.any_eq_false.1 ha.symm
  have hk : k < ws.length := (List.getElem?_eq_some_iff.1 hx).1
  refine ⟨?_, fun y hy => ?_⟩
  · have := hn (k, -1, x) (List.mem_flatMap.2 ⟨k, List.mem_range.2 hk, List.mem_append.2 (.inl (by rw [spA_at hx]; simp))⟩)
    simpa using this
  · have := hn (k, (k : Int) + 1, x - y) (List.mem_flatMap.2 ⟨k, List.mem_range.2 hk, List.mem_append.2 (.inr (by rw [spB_at hx hy]; simp))⟩)
    simpa using this
theorem mod_eq {a b m : Int} : a % m = b % m ↔ (a - b) % m = 0 := by
  rw [Int.emod_eq_emod_iff_emod_sub_eq_zero]
/-- the two lists that the law makes of a slip have the same sum -/
theorem slip_one {ws vs : List Int} {k : Nat} {x : Int} {d m : Int} (hl : vs.length = ws.length) (hx : ws[k]? = some x) (h : (x * d) % m = 0) : dotF ws (vs.set k 0) % m = dotF ws (vs.set k d) % m := by
  have hk : k < ws.length := (List.getElem?_eq_some_iff.1 hx).1
  obtain ⟨v, hv⟩ := elem_at (l := vs) (k := k) (by omega)
  rw [dot_set hx hv, dot_set hx hv, mod_eq]
  have e : dotF ws vs + x * (0 - v) - (dotF ws vs + x * (d - v)) = -(x * d) := by rw [Int.mul_sub, Int.mul_sub]; omega
  rw [e]
  exact Int.emod_eq_zero_of_dvd (Int.dvd_neg.2 (Int.dvd_of_emod_eq_zero h))
theorem set_id {vs : List Int} {k : Nat} {v : Int} (hv : vs[k]? = some v) : vs.set k v = vs := by
  obtain ⟨hk, rfl⟩ := List.getElem?_eq_some_iff.1 hv
  exact List.set_getElem_self hk
theorem set_back {vs : List Int} {k : Nat} {c v : Int} (hv : vs[k]? = some v) (h : vs = vs.set k c) : c = v := by
  have : (vs.set k c)[k]? = some v := by rw [← h]; exact hv
  rw [List.getElem?_set_self (List.getElem?_eq_some_iff.1 hv).1] at this
  exact Option.some.inj this
theorem dot_set2 {ws vs : List Int} {k : Nat} {x y v u : Int} (hx : ws[k]? = some x) (hy : ws[k + 1]? = some y) (hv : vs[k]? = some v) (hu : vs[k + 1]? = some u) (s t : Int) : dotF ws ((vs.set k s).set (k + 1) t) = dotF ws vs + x * (s - v) + y * (t - u) := by
  have hu' : (vs.set k s)[k + 1]? = some u := by rw [List.getElem?_set_ne (by omega)]; exact hu
  rw [dot_set hy hu', dot_set hx hv]
theorem slip_two {ws vs : List Int} {k : Nat} {x y d m : Int} (hl : vs.length = ws.length) (hx : ws[k]? = some x) (hy : ws[k + 1]? = some y) (h : ((x - y) * d) % m = 0) : dotF ws ((vs.set k 0).set (k + 1) d) % m = dotF ws ((vs.set k d).set (k + 1) 0) % m := by
  have hk : k + 1 < ws.length := (List.getElem?_eq_some_iff.1 hy).1
  obtain ⟨v, hv⟩ := elem_at (l := vs) (k := k) (by omega)
  obtain ⟨u, hu⟩ := elem_at (l := vs) (k := k + 1) (by omega)
  rw [dot_set2 hx hy hv hu, dot_set2 hx hy hv hu, mod_eq]
  have e : dotF ws vs + x * (0 - v) + y * (d - u) - (dotF ws vs + x * (d - v) + y * (0 - u)) = -((x - y) * d) := by
    rw [Int.mul_sub, Int.mul_sub, Int.mul_sub, Int.mul_sub, Int.sub_mul]; omega
  rw [e]
  exact Int.emod_eq_zero_of_dvd (Int.dvd_neg.2 (Int.dvd_of_emod_eq_zero h))
theorem exch_same {ws vs : List Int} {k : Nat} {x y v u m : Int} (hx : ws[k]? = some x) (hy : ws[k + 1]? = some y) (hv : vs[k]? = some v) (hu : vs[k + 1]? = some u) (hc : comF (x - y) m = false) (v0 : 0 ≤ v) (v1 : v < m) (u0 : 0 ≤ u) (u1 : u < m) : (dotF ws vs % m == dotF ws ((vs.set k u).set (k + 1) v) % m) = decide (vs = (vs.set k u).set (k + 1) v) := by
  rw [Bool.eq_iff_iff, beq_iff_eq, decide_eq_true_eq]
  constructor
  · intro h
    rw [dot_set2 hx hy hv hu, eq_comm, mod_eq] at h
    have e : dotF ws vs + x * (u - v) + y * (v - u) - dotF ws vs = (x - y) * (u - v) := by rw [Int.mul_sub, Int.mul_sub, Int.sub_mul, Int.mul_sub, Int.mul_sub]; omega
    rw [e] at h
    have := small_dvd (com_free hc h) (by omega) (by omega)
    have e2 : u = v := by omega
    subst e2
    rw [set_id hv, set_id hu]
  · intro h; rw [← h]
theorem sub_same {ws vs : List Int} {k : Nat} {x v c m : Int} (hx : ws[k]? = some x) (hv : vs[k]? = some v) (hc : comF x m = false) (v0 : 0 ≤ v) (v1 : v < m) (c0 : 0 ≤ c) (c1 : c < m) : (dotF ws vs % m == dotF ws (vs.set k c) % m) = decide (vs = vs.set k c) := by
  rw [Bool.eq_iff_iff, beq_iff_eq, decide_eq_true_eq]
  constructor
  · intro h
    rw [dot_set hx hv, eq_comm, mod_eq] at h
    have e : dotF ws vs + x * (c - v) - dotF ws vs = x * (c - v) := by omega
    rw [e] at h
    have := small_dvd (com_free hc h) (by omega) (by omega)
    have e2 : c = v := by omega
    rw [e2, set_id hv]
  · intro h; rw [← h]
end Go.Proofs.Ytidojiegkdchpaa
