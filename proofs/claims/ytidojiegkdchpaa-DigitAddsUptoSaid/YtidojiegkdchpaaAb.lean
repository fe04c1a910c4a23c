/- At, SameInts, SameTexts, Short, Alphabet, Value (both). -/
import Derived.Test.YtidojiegkdchpaaAa
import Derived.Laws.RangeString
import Derived.Laws.RangeAny
namespace Go.Proofs.Ytidojiegkdchpaa
open Go.RowKit Go.Maps

def atF (l : List Int) (i m : Int) : Int := if i < 0 then 0 else match l[i.toNat]? with | some x => around x m | none => 0

set_option maxHeartbeats 400000 in
theorem at_any (v : Value) (l : List Int) (i m : Int) (w : World) (h : RdI w v l) (hl : ∀ x, x ∈ l → -9223372036854775808 ≤ x ∧ x ≤ 9223372036854775807) (hi : 0 ≤ i) (hi' : i ≤ 1000000000) (hm : 0 < m) (hm' : m ≤ 1000000000) :
    Calls Try.prog 10 #[v, .int .i64 i, .int .i64 m] w fun e w' => e = .returned (.int .i64 (atF l i m)) ∧ Below w.heap.size w w' := by
  obtain ⟨a, c, rfl, l1, f1⟩ := h.open
  clear h
  have F1 := Lib.hid f1; clear f1
  obtain ⟨k, rfl⟩ : ∃ k : Nat, i = k := ⟨i.toNat, by omega⟩
  by_cases hk : k < l.length
  · obtain ⟨x, hx⟩ := elem_at hk
    obtain ⟨b, o, rfl, _, g⟩ := F1.out k x hx
    have hr : atF l k m = around x m := by unfold atF; rw [if_neg (by omega)]; simp [hx]
    have hxb := hl x (List.mem_of_getElem? hx)
    have AR := around_any x m w hxb.1 hxb.2 hm hm'
    have HR := Lib.hid hr; clear hr hx
    have hlt : (k : Int) < (l.length : Int) := by omega
    go_enter Try.func10, Try.ntmps10
    go_wp2_with fail
    refine AR.mono ?_
    rintro e w1 ⟨rfl, rfl⟩
    go_wp2_with fail
    go_ret
    exact ⟨ret_int (by rw [HR.out]), Below.refl _ _⟩
  · have hr : atF l k m = 0 := by unfold atF; rw [if_neg (by omega)]; simp [show l[k]? = none from List.getElem?_eq_none (by omega)]
    have HR := Lib.hid hr; clear hr
    have hlt : ¬ (k : Int) < (l.length : Int) := by omega
    go_enter Try.func10, Try.ntmps10
    go_wp2_with fail
    go_ret
    exact ⟨ret_int (by rw [HR.out]), Below.refl _ _⟩

/-! ### the alphabet -/
def alphaB : ByteArray := ⟨#[48, 49, 50, 51, 52, 53, 54, 55, 56, 57, 65, 66, 67, 68, 69, 70, 71, 72, 74, 75, 76, 77, 78, 80, 81, 82, 83, 84, 85, 86, 88]⟩
def alphaL : List UInt8 := [48, 49, 50, 51, 52, 53, 54, 55, 56, 57, 65, 66, 67, 68, 69, 70, 71, 72, 74, 75, 76, 77, 78, 80, 81, 82, 83, 84, 85, 86, 88]
theorem alphaB_size : alphaB.size = 31 := rfl
def valF (c : UInt8) : Int := if alphaL.idxOf c < 31 then (alphaL.idxOf c : Int) else -1
theorem alphaB_at (k : Nat) (h : k < alphaB.size) : alphaL[k]? = some (alphaB[k]'h) := by
  rw [List.getElem?_eq_getElem (show k < alphaL.length from h)]
  rfl
theorem valF_bd (c : UInt8) : -1 ≤ valF c ∧ valF c < 31 := by unfold valF; split <;> omega
theorem valF_hit {c : UInt8} {k : Nat} (hk : k < 31) (h : ∀ j, j < k → alphaL[j]? ≠ some c) (hc : alphaL[k]? = some c) : valF c = k := by
  have : alphaL.idxOf c = k := by
    have h31 : alphaL.length = 31 := rfl
    have hmem : c ∈ alphaL := List.mem_of_getElem? hc
    have hlt := List.idxOf_lt_length_iff.2 hmem
    have hg : alphaL[alphaL.idxOf c]? = some c := by rw [List.getElem?_eq_getElem hlt]; simp
    rcases Nat.lt_trichotomy (alphaL.idxOf c) k with h1 | h1 | h1
    · exact absurd hg (h _ h1)
    · exact h1
    · have hnd : alphaL.Nodup := by decide
      have := (List.getElem?_inj hlt hnd).1 (hg.trans hc.symm)
      omega
  unfold valF
  rw [this, if_pos hk]
theorem valF_miss {c : UInt8} (h : ∀ j, j < 31 → alphaL[j]? ≠ some c) : valF c = -1 := by
  unfold valF
  rw [if_neg]
  intro hlt
  have hg : alphaL[alphaL.idxOf c]? = some c := by rw [List.getElem?_eq_getElem (show alphaL.idxOf c < alphaL.length from hlt)]; simp
  exact h _ hlt hg

theorem alphabet_any (w : World) : Calls Try.prog 36 #[] w fun e w' => e = .returned (.string alphaB) ∧ w = w' := by
  go_enter Try.func36, Try.ntmps36
  go_wp2
  go_ret
  exact ⟨rfl, rfl⟩

theorem u8_eq {a b : UInt8} (h : a.toNat = b.toNat) : a = b := UInt8.toNat_inj.1 h
set_option maxHeartbeats 1000000 in
theorem rvalue_any (c : UInt8) (w : World) : Calls Try.prog 15 #[.int .u8 c.toNat] w fun e w' => e = .returned (.int .i64 (valF c)) ∧ Below w.heap.size w w' := by
  have AL := alphabet_any w
  go_enter Try.func15, Try.ntmps15
  go_wp2_with fail
  refine AL.mono ?_
  rintro e w1 ⟨rfl, rfl⟩
  generalize hA : alphaB = A at *
  have hA31 : A.size = 31 := by rw [← hA]; rfl
  have hAt : ∀ k (h : k < A.size), alphaL[k]? = some (A[k]'h) := by subst hA; exact alphaB_at
  have HA := Lib.hid hAt
  clear hA hAt
  go_wp2_with fail
  go_loopw [4] (fun i wr => ∃ k : Nat, k ≤ 31 ∧ i = .int .i64 k ∧ (∀ j, j < k → alphaL[j]? ≠ some c) ∧ wr = w) (fun i _ => 31 - (intOf i).toNat)
  case atStart => exact ⟨0, Nat.zero_le _, rfl, by omega, rfl⟩
  case round =>
    obtain ⟨k, hk, rfl, hno, rfl⟩ := hrel
    have HN := Lib.hid hno; clear hno
    by_cases hlt : k < 31
    · have hka : k < A.size := by omega
      have hlt' : (k : Int) < (A.size : Int) := by omega
      by_cases hc : A[k]'hka = c
      · have hr := valF_hit hlt HN.out (by rw [HA.out k hka, hc])
        have hb : (((A[k]'hka).toNat : Int) == (c.toNat : Int)) = true := by rw [hc]; simp
        have HR := Lib.hid hr; clear hr
        go_wp2_with fail
        go_ret
        exact ⟨ret_int HR.out.symm, Below.refl _ _⟩
      · have hb : (((A[k]'hka).toNat : Int) == (c.toNat : Int)) = false := by
          refine beq_eq_false_iff_ne.2 fun e => hc (u8_eq ?_)
          omega
        have hne : alphaL[k]? ≠ some c := by rw [HA.out k hka]; exact fun e => hc (Option.some.inj e)
        have HNE := Lib.hid hne; clear hne
        go_wp2_with fail
        go_roundw
        case rel => exact ⟨k + 1, by omega, by go_num, fun j hj => by rcases Nat.lt_or_ge j k with h | h; exact HN.out j h; rw [show j = k by omega]; exact HNE.out, trivial⟩
        case measure => simp [intOf]; omega
    · obtain rfl : k = 31 := by omega
      have hr := valF_miss HN.out
      have HR := Lib.hid hr; clear hr
      go_wp2_with fail
      go_ret
      exact ⟨ret_int HR.out.symm, Below.refl _ _⟩
end Go.Proofs.Ytidojiegkdchpaa
