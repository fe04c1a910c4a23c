/- Strings changed in one place or with two neighbours exchanged; the near ones (plain law); Changed, Exchanged. -/
import Derived.Test.YtidojiegkdchpaaAm
namespace Go.Proofs.Ytidojiegkdchpaa
open Go.RowKit Go.Maps

def chF (s : ByteArray) (k c : Nat) : ByteArray := s.extract 0 k ++ bs [charF c] ++ s.extract (k + 1) s.size
def exF (s : ByteArray) (k : Nat) : ByteArray := s.extract 0 k ++ s.extract (k + 1) (k + 2) ++ s.extract k (k + 1) ++ s.extract (k + 2) s.size
theorem chF_size {s : ByteArray} {k c : Nat} (hk : k < s.size) : (chF s k c).size = s.size := by
  unfold chF
  rw [ByteArray.size_append, ByteArray.size_append, ByteArray.size_extract, ByteArray.size_extract, bs_size]
  simp; omega
theorem exF_size {s : ByteArray} {k : Nat} (hk : k + 1 < s.size) : (exF s k).size = s.size := by
  unfold exF
  rw [ByteArray.size_append, ByteArray.size_append, ByteArray.size_append, ByteArray.size_extract, ByteArray.size_extract, ByteArray.size_extract, ByteArray.size_extract]
  omega

set_option maxRecDepth 100000 in
set_option maxHeartbeats 2000000 in
theorem changed_any (s : ByteArray) (k c : Nat) (hs : s.size ≤ 1099511627776) (hk : k < s.size) (hc : c < 31) (w : World) :
    Calls Try.prog 29 #[.string s, .int .i64 k, .int .i64 c] w fun e w' => e = .returned (.string (chF s k c)) ∧ Below w.heap.size w w' := by
  have AL := alphabet_any w
  have hx := alpha_ext c hc
  have hA31 : alphaB.size = 31 := rfl
  have hz : (alphaB.extract c (c + 1)).size = 1 := by rw [hx]; rfl
  have hr : chF s k c = s.extract 0 k ++ bs [charF c] ++ s.extract (k + 1) s.size := rfl
  have HR := Lib.hid hr; have HX := Lib.hid hx
  clear hr hx
  have z1 : (s.extract 0 k).size = k := by rw [ByteArray.size_extract]; omega
  have z2 : (s.extract (k + 1) s.size).size = s.size - (k + 1) := by rw [ByteArray.size_extract]; omega
  have z3 : (s.extract 0 k ++ alphaB.extract c (c + 1)).size = k + 1 := by rw [ByteArray.size_append, z1, hz]
  have g1 : (0 : Int) ≤ (k : Int) := by omega
  have g2 : (k : Int) ≤ (s.size : Int) := by omega
  have g3 : (0 : Int) ≤ (c : Int) := by omega
  have g4 : (c : Int) ≤ (c : Int) + 1 := by omega
  have g5 : (c : Int) + 1 ≤ 31 := by omega
  have g6 : ((c : Int) + 1).toNat = c + 1 := by omega
  have g7 : (0 : Int) ≤ (k : Int) + 1 := by omega
  have g8 : (k : Int) + 1 ≤ (s.size : Int) := by omega
  have g9 : ((k : Int) + 1).toNat = k + 1 := by omega
  go_enter Try.func29, Try.ntmps29
  go_wp2_with fail
  refine AL.mono ?_
  rintro e w1 ⟨rfl, rfl⟩
  clear AL
  generalize alphaB = A at *
  go_wp2_with fail
  go_quiet (fail)
  go_wp2_with fail
  go_ret
  exact ⟨ret_str (by rw [HR.out, HX.out]), by repeat (first | exact Below.refl _ _ | refine Below.dn ?_ _)⟩

set_option maxRecDepth 100000 in
set_option maxHeartbeats 2000000 in
theorem exchanged_any (s : ByteArray) (k : Nat) (hs : s.size ≤ 1099511627776) (hk : k + 1 < s.size) (w : World) :
    Calls Try.prog 30 #[.string s, .int .i64 k] w fun e w' => e = .returned (.string (exF s k)) ∧ Below w.heap.size w w' := by
  have hr : exF s k = s.extract 0 k ++ s.extract (k + 1) (k + 2) ++ s.extract k (k + 1) ++ s.extract (k + 2) s.size := rfl
  have HR := Lib.hid hr
  clear hr
  have z1 : (s.extract 0 k).size = k := by rw [ByteArray.size_extract]; omega
  have z2 : (s.extract (k + 1) (k + 2)).size = 1 := by rw [ByteArray.size_extract]; omega
  have z3 : (s.extract k (k + 1)).size = 1 := by rw [ByteArray.size_extract]; omega
  have z4 : (s.extract (k + 2) s.size).size = s.size - (k + 2) := by rw [ByteArray.size_extract]; omega
  have z5 : (s.extract 0 k ++ s.extract (k + 1) (k + 2)).size = k + 1 := by rw [ByteArray.size_append, z1, z2]
  have z6 : (s.extract 0 k ++ s.extract (k + 1) (k + 2) ++ s.extract k (k + 1)).size = k + 2 := by rw [ByteArray.size_append, z5, z3]
  have g1 : (0 : Int) ≤ (k : Int) := by omega
  have g2 : (k : Int) ≤ (s.size : Int) := by omega
  have g4 : (k : Int) ≤ (k : Int) + 1 := by omega
  have g5 : (k : Int) + 1 ≤ (s.size : Int) := by omega
  have g6 : ((k : Int) + 1).toNat = k + 1 := by omega
  have g7 : (0 : Int) ≤ (k : Int) + 1 := by omega
  have g8 : (k : Int) + 1 ≤ (k : Int) + 2 := by omega
  have g9 : ((k : Int) + 2).toNat = k + 2 := by omega
  have g10 : (k : Int) + 2 ≤ (s.size : Int) := by omega
  have g11 : (0 : Int) ≤ (k : Int) + 2 := by omega
  go_enter Try.func30, Try.ntmps30
  go_wp2_with fail
  go_quiet (fail)
  go_wp2_with fail
  go_ret
  exact ⟨ret_str (by rw [HR.out]), by repeat (first | exact Below.refl _ _ | refine Below.dn ?_ _)⟩
end Go.Proofs.Ytidojiegkdchpaa
