/- The set of some worlds, as a number (both). -/
import Derived.Test.YtmkkegigajmhkaaN07
import Derived.Laws.Bits64b
set_option linter.unusedVariables false
namespace Go.Proofs.Ytmkkegigajmhkaa
open Go.RowKit Go.Maps

def setW (ws : List Nat) : Nat := ws.foldl (fun s i => s ||| 2 ^ i) 0
theorem setW_succ {ws : List Nat} {j i : Nat} (h : ws[j]? = some i) : setW (ws.take (j + 1)) = setW (ws.take j) ||| 2 ^ i := by
  unfold setW; rw [take_succ_at h, List.foldl_append]; rfl
theorem setW_lt {n : Nat} : ∀ (ws : List Nat), (∀ i, i ∈ ws → i < n) → setW ws < 2 ^ n := by
  intro ws h
  have key : ∀ (ws : List Nat) (s : Nat), s < 2 ^ n → (∀ i, i ∈ ws → i < n) → ws.foldl (fun s i => s ||| 2 ^ i) s < 2 ^ n := by
    intro ws
    induction ws with
    | nil => intro s hs _; exact hs
    | cons a r ih =>
      intro s hs h
      rw [List.foldl_cons]
      refine ih _ (Nat.or_lt_two_pow hs (Nat.pow_lt_pow_right (by omega) (h a (by simp)))) fun i hi => h i (by simp [hi])
  exact key ws 0 (Nat.two_pow_pos n) h
theorem bits_or_i64_nat (a b : Nat) (ha : a < 2 ^ 62) (hb : b < 2 ^ 62) : bits .or .i64 (a : Int) (b : Int) = ((a ||| b : Nat) : Int) := by
  have hx : a ||| b < 2 ^ 62 := Nat.or_lt_two_pow ha hb
  have h1 : (BitVec.ofInt 64 (a : Int)).toNat = a := by
    rw [BitVec.ofInt_natCast, BitVec.toNat_ofNat]; exact Nat.mod_eq_of_lt (by omega)
  have h2 : (BitVec.ofInt 64 (b : Int)).toNat = b := by
    rw [BitVec.ofInt_natCast, BitVec.toNat_ofNat]; exact Nat.mod_eq_of_lt (by omega)
  show IntKind.i64.wrap ((BitVec.ofInt 64 (a : Int) ||| BitVec.ofInt 64 (b : Int)).toNat : Int) = _
  rw [BitVec.toNat_or, h1, h2]
  exact IntWalk.i64_in _ (by omega)
theorem pow20 {i : Nat} (h : i < 20) : 2 ^ i < 2 ^ 20 := Nat.pow_lt_pow_right (by omega) h
theorem or_u64 {s i : Nat} (hs : s < 2 ^ 20) (hi : i < 20) : bits .or .u64 (s : Int) (IntKind.u64.wrap (2 ^ i)) = ((s ||| 2 ^ i : Nat) : Int) := by
  have hp := pow20 hi
  have e : ((2 : Int) ^ i) = ((2 ^ i : Nat) : Int) := by simp
  rw [e]
  generalize 2 ^ i = p at hp ⊢
  rw [IntKind.wrap_u64, Int.emod_eq_of_lt (by omega) (by omega)]
  exact bits_or_u64_nat _ _ (by omega) (by omega)
theorem or_i64 {s i : Nat} (hs : s < 2 ^ 20) (hi : i < 20) : bits .or .i64 (s : Int) (IntKind.i64.wrap (2 ^ i)) = ((s ||| 2 ^ i : Nat) : Int) := by
  have hp := pow20 hi
  have e : ((2 : Int) ^ i) = ((2 ^ i : Nat) : Int) := by simp
  rw [e]
  generalize 2 ^ i = p at hp ⊢
  rw [IntWalk.i64_in _ (by omega)]
  exact bits_or_i64_nat _ _ (by omega) (by omega)
set_option maxRecDepth 100000 in
set_option maxHeartbeats 4000000 in
theorem set_any (v : Value) (ws : List Nat) (w : World) (hr : RdI w v (nI ws)) (hok : ∀ i, i ∈ ws → i < 20) (hlen : ws.length ≤ 1000) :
    Calls Try.prog 55 #[v] w fun e w' => e = .returned (.int .u64 (setW ws : Nat)) ∧ Below w.heap.size w w' := by
  obtain ⟨aw, cw, rfl⟩ := hr.form
  have HR := Lib.hid hr
  clear hr
  go_enter Try.func55, Try.ntmps55
  go_wp2_with fail
  go_loopw [3, 8] (fun v jv wr => ∃ j : Nat, j ≤ ws.length ∧ jv = .int .i64 j ∧ v = .int .u64 (setW (ws.take j) : Nat) ∧ wr = w) (fun _ jv _ => ws.length - (intOf jv).toNat)
  case atStart => exact ⟨0, Nat.zero_le _, rfl, rfl, rfl⟩
  case round =>
    obtain ⟨j, hj, rfl, rfl, rfl⟩ := hrel
    have hj0 : (0 : Int) ≤ (j : Int) := Int.natCast_nonneg _
    by_cases hlt : j < ws.length
    · have hj1 : (j : Int) < ((nI ws).length : Int) := by have := nI_len ws; omega
      obtain ⟨i, hi⟩ := elem_at hlt
      obtain ⟨bw, ow, rfl, _, q1⟩ := nI_elem HR.out hi
      have hi20 := hok i (List.mem_of_getElem? hi)
      have hss := setW_succ hi
      have hsl : setW (ws.take j) < 2 ^ 20 := setW_lt _ (fun i hi => hok i (List.mem_of_mem_take hi))
      obtain ⟨s, hs⟩ : ∃ s, setW (ws.take j) = s := ⟨_, rfl⟩
      rw [hs] at hss hsl ⊢
      have HSS := Lib.hid hss
      have hi0 : (0 : Int) ≤ (i : Int) := Int.natCast_nonneg _
      have hi64 : (i : Int) < 64 := by omega
      clear hss hs hi
      go_wp2_with fail
      go_roundw
      case rel => exact ⟨j + 1, by omega, by go_num, by rw [or_u64 hsl hi20, HSS.out], trivial⟩
      case measure => simp [intOf]; omega
    · have hj1 : ¬ (j : Int) < ((nI ws).length : Int) := by have := nI_len ws; omega
      rw [List.take_of_length_le (by omega)]
      go_wp2_with fail
      go_ret
      exact ⟨rfl, Below.refl _ _⟩
end Go.Proofs.Ytmkkegigajmhkaa

