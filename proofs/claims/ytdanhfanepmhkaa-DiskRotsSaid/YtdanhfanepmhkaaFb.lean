/- The law's steps: Text, do, Do. -/
import Derived.Test.YtdanhfanepmhkaaEh
namespace Go.Proofs.Ytdanhfanepmhkaa
open Go.RowKit Go.Maps Go.Sort

def textN : Nat → ByteArray → ByteArray
  | 0, s => s
  | f + 1, s => if 0 < s.size ∧ s.size < 64 then textN f (s ++ s.extract (s.size - 1) s.size) else s
def textF (s : ByteArray) : ByteArray := textN 64 s

set_option maxRecDepth 100000 in
set_option maxHeartbeats 1000000 in
theorem text_any (k i b : Int) (s : ByteArray) (pv : Value) (hp : ∃ a n c, pv = .slice a n c) (w : World) :
    Calls Try.prog 24 #[.agg #[.int .i64 k, .int .i64 i, .int .i64 b, .string s, pv]] w fun e w' => e = .returned (.string (textF s)) ∧ Below w.heap.size w w' := by
  obtain ⟨pa, pn, pc, rfl⟩ := hp
  go_enter Try.func24, Try.ntmps24
  go_wp2_with fail
  go_loopw [3] (fun v wr => ∃ (f : Nat) (cur : ByteArray), v = .string cur ∧ textN f cur = textF s ∧ 64 ≤ f + cur.size ∧ wr = w.alloc (.cells #[.int .i64 k, .int .i64 i, .int .i64 b, .string s, .slice pa pn pc] 33)) (fun v _ => match v with | .string c => 64 - c.size | _ => 0)
  case atStart => exact ⟨64, s, rfl, rfl, by omega, rfl⟩
  case round =>
    obtain ⟨f, cur, rfl, ht, hf, rfl⟩ := hrel
    by_cases h1 : 0 < cur.size
    · by_cases h2 : cur.size < 64
      · obtain ⟨f, rfl⟩ : ∃ f', f = f' + 1 := ⟨f - 1, by omega⟩
        have ht2 : textN f (cur ++ cur.extract (cur.size - 1) cur.size) = textF s := by
          rw [← ht]; exact (if_pos ⟨h1, h2⟩).symm
        have hz : (cur ++ cur.extract (cur.size - 1) cur.size).size = cur.size + 1 := by
          rw [ByteArray.size_append, ByteArray.size_extract]; omega
        have HT := Lib.hid ht2; have HZ := Lib.hid hz
        have g1 : (0 : Int) < (cur.size : Int) := by omega
        have g2 : (cur.size : Int) < 64 := by omega
        have g3 : (0 : Int) ≤ (cur.size : Int) - 1 := by omega
        have g4 : (cur.size : Int) - 1 ≤ (cur.size : Int) := by omega
        have g5 : ((cur.size : Int) - 1).toNat = cur.size - 1 := by omega
        have g6 : (cur.extract (cur.size - 1) cur.size).size = 1 := by rw [ByteArray.size_extract]; omega
        clear ht ht2 hz
        go_wp2_with fail
        go_roundw
        case rel => exact ⟨f, _, rfl, HT.out, by rw [HZ.out]; omega, by first | rfl | trivial⟩
        case measure =>
          have := HZ.out
          simp only
          omega
      · have hr : cur = textF s := by
          rw [← ht]
          cases f with
          | zero => rfl
          | succ f => exact (if_neg (by omega)).symm
        have HR := Lib.hid hr
        have g1 : (0 : Int) < (cur.size : Int) := by omega
        have g2 : ¬ (cur.size : Int) < 64 := by omega
        clear hr ht
        go_wp2_with fail
        go_ret
        exact ⟨by rw [HR.out]; rfl, (Below.refl _ _).alloc (Nat.le_refl _) _⟩
    · have hr : cur = textF s := by
        rw [← ht]
        cases f with
        | zero => rfl
        | succ f => exact (if_neg (by omega)).symm
      have HR := Lib.hid hr
      have g1 : ¬ (0 : Int) < (cur.size : Int) := by omega
      clear hr ht
      go_wp2_with fail
      go_ret
      exact ⟨by rw [HR.out]; rfl, (Below.refl _ _).alloc (Nat.le_refl _) _⟩
end Go.Proofs.Ytdanhfanepmhkaa
