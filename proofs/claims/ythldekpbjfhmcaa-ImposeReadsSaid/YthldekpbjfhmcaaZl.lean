/- Read of the sheets of a volume (plain): the pages in order, and then empty ones. -/
import Derived.Test.YthldekpbjfhmcaaWk
import Derived.Test.YthldekpbjfhmcaaWm
namespace Go.Proofs.Ythldekpbjfhmcaa
open Go.RowKit

def pgL (p n0 : Int) (l : Nat) : List Int := (List.range l).map fun j : Nat => shw p (n0 + j + 1)
theorem pgL_add (p n0 : Int) (a b : Nat) : pgL p n0 (a + b) = pgL p n0 a ++ pgL p (n0 + a) b := by
  unfold pgL
  rw [List.range_add, List.map_append, List.map_map]
  congr 1
  refine List.map_congr_left fun j _ => ?_
  simp only [Function.comp]
  congr 1
  omega
theorem pgL_two (p n0 : Int) : pgL p n0 2 = [shw p (n0 + 1), shw p (n0 + 2)] := by
  simp only [pgL, List.range, List.range.loop, List.map]
  rw [show n0 + ((0 : Nat) : Int) + 1 = n0 + 1 by omega, show n0 + ((1 : Nat) : Int) + 1 = n0 + 2 by omega]

theorem fwd_row (p k : Int) (q i : Nat) : fwd (rowS p k q i) = pgL p (2 * ((q : Int) * k)) (2 * i) := by
  induction i with
  | zero => rfl
  | succ i ih =>
    rw [rowS_succ, show 2 * (i + 1) = 2 * i + 2 by omega, pgL_add, ← ih, pgL_two]
    unfold fwd
    rw [List.flatMap_append]
    congr 1
    simp only [mkS, List.flatMap_cons, List.flatMap_nil, List.append_nil]
    generalize (q : Int) * k = c
    simp only [List.cons.injEq, and_true]
    exact ⟨by congr 1; omega, by congr 1; omega⟩

theorem bwd_row (p k : Int) (q i : Nat) : bwd (rowS p k q i) = pgL p (2 * ((q : Int) * k + k - i)) (2 * i) := by
  induction i with
  | zero => rfl
  | succ i ih =>
    rw [rowS_succ, show 2 * (i + 1) = 2 + 2 * i by omega, pgL_add, pgL_two]
    unfold bwd at ih ⊢
    rw [List.reverse_append, List.flatMap_append, ih]
    congr 1
    · simp only [mkS, List.reverse_cons, List.reverse_nil, List.nil_append, List.flatMap_cons, List.flatMap_nil, List.append_nil]
      generalize (q : Int) * k = c
      simp only [List.cons.injEq, and_true]
      exact ⟨by congr 1; omega, by congr 1; omega⟩
    · generalize (q : Int) * k = c
      congr 1; omega

def rowsF (p k : Int) (h q m : Nat) : List Sh := (List.range m).flatMap fun i => rowS p k (q + i) h
theorem rowsF_succ (p k : Int) (h q m : Nat) : rowsF p k h q (m + 1) = rowS p k q h ++ rowsF p k h (q + 1) m := by
  unfold rowsF
  rw [show m + 1 = 1 + m by omega, List.range_add, List.flatMap_append, List.flatMap_map]
  congr 1
  · simp [List.range, List.range.loop]
  · congr 1; funext i; congr 1; omega

theorem row_q (p k : Int) (q h : Nat) : ∀ s, s ∈ rowS p k q h → s.q = q := by
  intro s hs
  unfold rowS at hs
  obtain ⟨i, _, rfl⟩ := List.mem_map.1 hs
  rfl

theorem row_head (p k : Int) (q h : Nat) (hh : 1 ≤ h) : ∃ x, (rowS p k q h)[0]? = some x ∧ x.q = (q : Int) := by
  have hl : 0 < (rowS p k q h).length := by rw [rowS_len]; omega
  exact ⟨(rowS p k q h)[0], List.getElem?_eq_getElem hl, row_q p k q h _ (List.getElem_mem hl)⟩

theorem read_rows (p k : Int) (h : Nat) (hh : 1 ≤ h) (hk : k = 2 * (h : Int)) (m : Nat) : ∀ (q f : Nat) (acc : List Int), (rowsF p k h q m).length ≤ f →
    readF f q (rowsF p k h q m) acc = (acc ++ pgL p (2 * ((q : Int) * k)) (m * (4 * h)), 0) := by
  induction m with
  | zero => intro q f acc _; rw [show rowsF p k h q 0 = [] from rfl, readF_nil]; simp [pgL]
  | succ m ih =>
    intro q f acc hf
    obtain ⟨x, hx, hxq⟩ := row_head p k q h hh
    have hl : (rowS p k q h).length = h := rowS_len p k q h
    have hx0 : (rowsF p k h q (m + 1))[0]? = some x := by
      rw [rowsF_succ, List.getElem?_append_left (by omega)]; exact hx
    have htk : (rowsF p k h q (m + 1)).take h = rowS p k q h := by rw [rowsF_succ, List.take_left' hl]
    have hdr : (rowsF p k h q (m + 1)).drop h = rowsF p k h (q + 1) m := by rw [rowsF_succ, List.drop_left' hl]
    have hrun : runLen (rowsF p k h q (m + 1)) = h := by
      refine runLen_eq _ x h hx0 hh (by rw [rowsF_succ, List.length_append, hl]; omega) (fun s hs => ?_) (fun y hy => ?_)
      · rw [htk] at hs; rw [row_q p k q h s hs, hxq]
      · rw [rowsF_succ, List.getElem?_append_right (by omega), hl, Nat.sub_self] at hy
        cases m with
        | zero => simp [rowsF] at hy
        | succ m =>
          obtain ⟨z, hz, hzq⟩ := row_head p k (q + 1) h hh
          rw [rowsF_succ, List.getElem?_append_left (by rw [rowS_len]; omega), hz] at hy
          rw [← Option.some.inj hy, hzq, hxq]
          omega
    obtain ⟨g, hg, e⟩ := readF_step (q := (q : Int)) (acc := acc) hx0 hf hrun hxq
    rw [e, hdr, htk]
    rw [hdr] at hg
    have := ih (q + 1) g (acc ++ fwd (rowS p k q h) ++ bwd (rowS p k q h)) hg
    rw [show ((q + 1 : Nat) : Int) = (q : Int) + 1 by omega] at this
    rw [this, fwd_row, bwd_row]
    refine congrArg (fun l => (l, (0 : Int))) ?_
    have e2 : ((q : Int) + 1) * k = (q : Int) * k + k := by rw [Int.add_mul, Int.one_mul]
    have e3 : 2 * ((q : Int) * k + k - h) = 2 * ((q : Int) * k) + ((2 * h : Nat) : Int) := by
      generalize (q : Int) * k = c
      omega
    have e4 : 2 * (((q : Int) + 1) * k) = 2 * ((q : Int) * k) + ((2 * h : Nat) : Int) + ((2 * h : Nat) : Int) := by
      rw [e2]
      generalize (q : Int) * k = c
      omega
    rw [e3, e4, show (m + 1) * (4 * h) = 2 * h + (2 * h + m * (4 * h)) by rw [Nat.succ_mul]; omega, pgL_add, pgL_add]
    simp only [List.append_assoc]

theorem cnt_read (p k : Int) (h0 : errOf p k = 0) : p ≤ cnt p k * (2 * k) ∧ cnt p k * (2 * k) < p + 2 * k ∧ 0 ≤ cnt p k ∧ cnt p k * (2 * k) ≤ 1100 ∧ (cnt p k * (2 * k)) % (2 * k) = 0 := by
  obtain ⟨hp1, hp2, hk1, hk2, hk3⟩ := errOf_zero h0
  have h : k = 2 ∨ k = 4 ∨ k = 6 ∨ k = 8 ∨ k = 10 ∨ k = 12 ∨ k = 14 ∨ k = 16 := by omega
  refine ⟨?_, ?_, ?_, ?_, Int.mul_emod_left _ _⟩
  all_goals
    unfold cnt
    rcases h with rfl | rfl | rfl | rfl | rfl | rfl | rfl | rfl <;> omega

theorem read_law (p k : Int) (h0 : errOf p k = 0) : ∃ r, readL (fold p k) = (r, 0) ∧ p ≤ (r.length : Int) ∧ (r.length : Int) < p + 2 * k ∧ (r.length : Int) % (2 * k) = 0 ∧ r.length ≤ 1100 ∧
    ∀ (i : Nat) x, r[i]? = some x → ((i : Int) < p → x = (i : Int) + 1) ∧ (p ≤ (i : Int) → x = 0) := by
  obtain ⟨hp1, hp2, hk1, hk2, hk3⟩ := errOf_zero h0
  obtain ⟨d1, d2, d3⟩ := halves k hk1 hk2
  obtain ⟨c1, c2, c3, c4, c5⟩ := cnt_read p k h0
  have hF : fold p k = rowsF p k (k / 2).toNat 0 (cnt p k).toNat := by
    unfold fold rowsS rowsF
    rw [if_pos h0]
    congr 1; funext i; congr 1; omega
  have hk : k = 2 * (((k / 2).toNat : Nat) : Int) := by omega
  have hr := read_rows p k (k / 2).toNat (by omega) hk (cnt p k).toNat 0 (fold p k).length [] (by rw [hF]; exact Nat.le_refl _)
  rw [← hF] at hr
  have hlen : (((cnt p k).toNat * (4 * (k / 2).toNat) : Nat) : Int) = cnt p k * (2 * k) := by
    rw [Int.natCast_mul, Int.toNat_of_nonneg c3]
    congr 1
    omega
  refine ⟨pgL p (2 * (((0 : Nat) : Int) * k)) ((cnt p k).toNat * (4 * (k / 2).toNat)), ?_, ?_⟩
  · unfold readL; rw [show ((0 : Int)) = ((0 : Nat) : Int) from rfl, hr]; rfl
  · have hL : (pgL p (2 * (((0 : Nat) : Int) * k)) ((cnt p k).toNat * (4 * (k / 2).toNat))).length = (cnt p k).toNat * (4 * (k / 2).toNat) := by simp [pgL]
    rw [hL, hlen]
    refine ⟨c1, c2, c5, by omega, fun i x hx => ?_⟩
    unfold pgL at hx
    rw [List.getElem?_map] at hx
    obtain ⟨j, hj, rfl⟩ := Option.map_eq_some_iff.1 hx
    have hji : j = i := by
      have := (List.getElem?_eq_some_iff.1 hj)
      obtain ⟨h1, h2⟩ := this
      simp at h2; omega
    subst hji
    have e : 2 * (((0 : Nat) : Int) * k) + (j : Int) + 1 = (j : Int) + 1 := by simp
    rw [e]
    unfold shw
    exact ⟨fun h => by rw [if_neg (by omega)], fun h => by rw [if_pos (by omega)]⟩
end Go.Proofs.Ythldekpbjfhmcaa
