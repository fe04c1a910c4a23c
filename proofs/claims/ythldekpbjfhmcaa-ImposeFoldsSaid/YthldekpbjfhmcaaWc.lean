import Derived.Test.YthldekpbjfhmcaaWb
import Derived.Deep.RegionHeld3
import Derived.IntWalk
namespace Go.Proofs.Ythldekpbjfhmcaa
open Go.RowKit

theorem cnt_bd (p k : Int) (hp : 0 ≤ p) (hp' : p ≤ 999) (hk : 2 ≤ k) (hk' : k ≤ 16) : 0 ≤ cnt p k ∧ cnt p k ≤ 250 ∧ (cnt p k) * (2 * k) < p + 2 * k ∧ p ≤ (cnt p k) * (2 * k) := by
  unfold cnt
  have h1 : (p + 2 * k - 1) = (2 * k) * ((p + 2 * k - 1) / (2 * k)) + (p + 2 * k - 1) % (2 * k) := (Int.mul_ediv_add_emod _ _).symm
  have h2 := Int.emod_nonneg (p + 2 * k - 1) (show 2 * k ≠ 0 by omega)
  have h3 := Int.emod_lt_of_pos (p + 2 * k - 1) (show 0 < 2 * k by omega)
  have h4 : 0 ≤ (p + 2 * k - 1) / (2 * k) := Int.ediv_nonneg (by omega) (by omega)
  have h5 : (2 * k) * ((p + 2 * k - 1) / (2 * k)) = ((p + 2 * k - 1) / (2 * k)) * (2 * k) := Int.mul_comm _ _
  refine ⟨h4, ?_, by omega, by omega⟩
  have : (p + 2 * k - 1) / (2 * k) * 4 ≤ (p + 2 * k - 1) / (2 * k) * (2 * k) := Int.mul_le_mul_of_nonneg_left (by omega) h4
  rcases Int.lt_or_le ((p + 2 * k - 1) / (2 * k)) 251 with h | h
  · omega
  · exfalso
    have h6 : 251 * (2 * k) ≤ (p + 2 * k - 1) / (2 * k) * (2 * k) := Int.mul_le_mul_of_nonneg_right h (by omega)
    omega

theorem cntk_bd (p k : Int) (hp : 0 ≤ p) (hp' : p ≤ 999) (hk : 2 ≤ k) (hk' : k ≤ 16) : 0 ≤ cnt p k * k ∧ cnt p k * k ≤ 515 := by
  obtain ⟨h1, h2, h3, h4⟩ := cnt_bd p k hp hp' hk hk'
  refine ⟨Int.mul_nonneg h1 (by omega), ?_⟩
  have : cnt p k * (2 * k) = 2 * (cnt p k * k) := by rw [Int.mul_left_comm]
  omega

theorem Below.dn {B : Nat} {a w : World} (h : Below B a w) (n : Nat) : Below B a (w.drewN n) := ⟨h.os, h.tape, h.output, h.size, h.block⟩

theorem cell_al {w : World} {a : Addr} {v : Value} (o : Obj) (h : w.cell? a = some v) : (w.alloc o).cell? a = some v := by
  rw [World.cell?_alloc_lt _ _ _ (World.block_lt_of_cell? w a h)]; exact h
theorem cell_dr {w : World} {a : Addr} {v : Value} (h : w.cell? a = some v) : w.drew.cell? a = some v := h
theorem cell_dn {w : World} {a : Addr} {v : Value} (n : Nat) (h : w.cell? a = some v) : (w.drewN n).cell? a = some v := h
theorem cell_sc {w : World} {p a : Addr} {u v : Value} (hne : p.block ≠ a.block) (h : w.cell? a = some v) : (w.setCell p u).cell? a = some v := by
  rw [World.cell?_setCell_far w p a u hne]; exact h
theorem cell_bl {w w' : World} {a : Addr} {v : Value} (hb : Below w.heap.size w w') (h : w.cell? a = some v) : w'.cell? a = some v :=
  (hb.cell (World.block_lt_of_cell? w a h)).trans h


theorem bcell {W w1 : World} (hb : Below W.heap.size W w1) : (∀ b o, b < W.heap.size → w1.cell? ⟨b, o, none⟩ = W.cell? ⟨b, o, none⟩) ∧ (∀ b o, b < W.heap.size → w1.frozen? ⟨b, o, none⟩ = W.frozen? ⟨b, o, none⟩) :=
  ⟨fun b o h => hb.cell (p := ⟨b, o, none⟩) h, fun b o h => hb.frozen (p := ⟨b, o, none⟩) h⟩

def hasB (p k l : Int) : Bool := decide (1 ≤ l) && decide (l ≤ cnt p k * k)

set_option maxHeartbeats 400000 in
theorem vhas_any (p k l : Int) (w : World) (hp : 0 ≤ p) (hp' : p ≤ 999) (hk : 2 ≤ k) (hk' : k ≤ 16) :
    Calls Try.prog 40 #[.agg #[.int .i64 p, .int .i64 k], .int .i64 l] w fun e w' => e = .returned (.bool (hasB p k l)) ∧ Below w.heap.size w w' := by
  obtain ⟨c1, c2⟩ := cntk_bd p k hp hp' hk hk'
  by_cases h : 1 ≤ l
  · have h1 : hasB p k l = decide (l ≤ cnt p k * k) := by unfold hasB; simp [h]
    have H1 := Lib.hid h1; clear h1
    go_enter Try.func40, Try.ntmps40
    go_wp2
    go_region_held3 (fun w' => w'.cell? ⟨w.heap.size, 0, none⟩ = some (.int .i64 p) ∧ w'.cell? ⟨w.heap.size, 1, none⟩ = some (.int .i64 k)) (go_keep)
      (first | (go_at_call 44; refine (quires_any p k _ hp hp' hk hk').mono ?_; rintro e w' ⟨rfl, hb⟩; obtain ⟨hbc, hbf⟩ := bcell hb))
    all_goals go_wp2
    all_goals
      go_ret
      exact ⟨ret_bool (by rw [H1.out, IntWalk.i64_in _ (by omega)]), Below.trans (by go_grown) (hb.mono (by simp))⟩
  · have h1 : hasB p k l = false := by unfold hasB; simp [h]
    have H1 := Lib.hid h1; clear h1
    have hd : decide (1 ≤ l) = false := by simpa using h
    go_enter Try.func40, Try.ntmps40
    go_wp2
    go_quiet (fail)
    go_wp2
    go_ret
    exact ⟨ret_bool (by rw [H1.out]), Below.dn (by go_grown) _⟩

def conj (k l : Int) : Int := 2 * ((l - 1) / k * k) + k + 1 - l

theorem conj_bd (k l : Int) (hk : 2 ≤ k) (hk' : k ≤ 16) (hl : 1 ≤ l) (hl' : l ≤ 520) : 0 ≤ (l - 1) / k ∧ (l - 1) / k ≤ 520 ∧ 0 ≤ (l - 1) / k * k ∧ (l - 1) / k * k ≤ l - 1 ∧ l - 1 < (l - 1) / k * k + k := by
  have h1 : (l - 1) = k * ((l - 1) / k) + (l - 1) % k := (Int.mul_ediv_add_emod _ _).symm
  have h2 := Int.emod_nonneg (l - 1) (show k ≠ 0 by omega)
  have h3 := Int.emod_lt_of_pos (l - 1) (show 0 < k by omega)
  have h4 : 0 ≤ (l - 1) / k := Int.ediv_nonneg (by omega) (by omega)
  have h5 : k * ((l - 1) / k) = ((l - 1) / k) * k := Int.mul_comm _ _
  have h6 : 0 ≤ (l - 1) / k * k := Int.mul_nonneg h4 (by omega)
  have h7 : (l - 1) / k * 2 ≤ (l - 1) / k * k := Int.mul_le_mul_of_nonneg_left hk h4
  omega

set_option maxHeartbeats 400000 in
theorem conjugate_any (p k l : Int) (w : World) (hk : 2 ≤ k) (hk' : k ≤ 16) (hl : 1 ≤ l) (hl' : l ≤ 520) :
    Calls Try.prog 41 #[.agg #[.int .i64 p, .int .i64 k], .int .i64 l] w fun e w' => e = .returned (.int .i64 (conj k l)) ∧ Below w.heap.size w w' := by
  obtain ⟨c1, c2, c3, c4, c5⟩ := conj_bd k l hk hk' hl hl'
  unfold conj
  go_enter Try.func41, Try.ntmps41
  go_wp2
  go_quiet (fail)
  go_wp2
  go_ret
  exact ⟨ret_int rfl, Below.dn (by go_grown) _⟩

theorem cnt_step (p k n : Int) (hp : 0 ≤ p) (hp' : p ≤ 999) (hk : 2 ≤ k) (hk' : k ≤ 16) (hn : 0 ≤ n) (hn' : n ≤ cnt p k) : (n * k * 2 < p ↔ n < cnt p k) ∧ 0 ≤ n * k ∧ n * k ≤ 515 := by
  obtain ⟨h1, h2, h3, h4⟩ := cnt_bd p k hp hp' hk hk'
  obtain ⟨c1, c2⟩ := cntk_bd p k hp hp' hk hk'
  have e1 : cnt p k * (2 * k) = 2 * (cnt p k * k) := by rw [Int.mul_left_comm]
  have e2 : n * k * 2 = 2 * (n * k) := Int.mul_comm _ _
  have e3 : n * k ≤ cnt p k * k := Int.mul_le_mul_of_nonneg_right hn' (by omega)
  refine ⟨⟨fun h => ?_, fun h => ?_⟩, Int.mul_nonneg hn (by omega), by omega⟩
  · rcases Int.lt_or_le n (cnt p k) with h' | h'
    · exact h'
    · have : n = cnt p k := by omega
      subst this; omega
  · have : (n + 1) * k ≤ cnt p k * k := Int.mul_le_mul_of_nonneg_right h (by omega)
    have e4 : (n + 1) * k = n * k + k := by rw [Int.add_mul, Int.one_mul]
    omega

set_option maxHeartbeats 400000 in
theorem count_any (p k : Int) (w : World) (hp : 0 ≤ p) (hp' : p ≤ 999) (hk : 2 ≤ k) (hk' : k ≤ 16) :
    Calls Try.prog 26 #[.int .i64 p, .int .i64 k] w fun e w' => e = .returned (.int .i64 (cnt p k)) ∧ w = w' := by
  obtain ⟨h1, h2, h3, h4⟩ := cnt_bd p k hp hp' hk hk'
  clear h3 h4
  go_enter Try.func26, Try.ntmps26
  go_wp2
  go_loop [5] (fun n => ∃ k' : Int, 0 ≤ k' ∧ k' ≤ cnt p k ∧ n = .int .i64 k') (fun n => (cnt p k - intOf n).toNat)
  case atStart => exact ⟨0, by omega, by omega, rfl⟩
  case round =>
    obtain ⟨n, hn1, hn2, rfl⟩ := hrel
    obtain ⟨s1, s2, s3⟩ := cnt_step p k n hp hp' hk hk' hn1 hn2
    by_cases hlt : n < cnt p k
    · have hd := s1.2 hlt
      clear s1
      go_wp2
      go_round
      case rel => exact ⟨n + 1, by omega, by omega, rfl⟩
      case measure => simp [intOf]; omega
    · have hd : ¬ n * k * 2 < p := fun h => hlt (s1.1 h)
      have he : n = cnt p k := by omega
      clear s1
      have HE := Lib.hid he; clear he
      go_wp2
      go_ret
      exact ⟨ret_int HE.out, rfl⟩

set_option maxHeartbeats 400000 in
theorem rhas_any (p k l : Int) (w : World) (hp : 0 ≤ p) (hp' : p ≤ 999) (hk : 2 ≤ k) (hk' : k ≤ 16) :
    Calls Try.prog 43 #[.int .i64 p, .int .i64 k, .int .i64 l] w fun e w' => e = .returned (.bool (hasB p k l)) ∧ w = w' := by
  obtain ⟨c1, c2⟩ := cntk_bd p k hp hp' hk hk'
  by_cases h : 1 ≤ l
  · have h1 : hasB p k l = decide (l ≤ cnt p k * k) := by unfold hasB; simp [h]
    have H1 := Lib.hid h1; clear h1
    have hd : decide (0 < l) = true := by simp; omega
    go_enter Try.func43, Try.ntmps43
    go_wp2_with (go_at_call 26; refine (count_any p k _ hp hp' hk hk').mono ?_; rintro e w' ⟨rfl, rfl⟩)
    go_ret
    exact ⟨ret_bool (by rw [H1.out]), rfl⟩
  · have h1 : hasB p k l = false := by unfold hasB; simp [h]
    have H1 := Lib.hid h1; clear h1
    have hd : decide (0 < l) = false := by simp; omega
    go_enter Try.func43, Try.ntmps43
    go_wp2
    go_ret
    exact ⟨ret_bool (by rw [H1.out]), rfl⟩
end Go.Proofs.Ythldekpbjfhmcaa
