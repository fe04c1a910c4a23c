/- SameInts, SameTexts, Short, Text, the program's Value. -/
import Derived.Test.YtidojiegkdchpaaAb
namespace Go.Proofs.Ytidojiegkdchpaa
open Go.RowKit Go.Maps

set_option maxHeartbeats 400000 in
theorem sameInts_any (v1 v2 : Value) (xs ys : List Int) (w : World) (h1 : RdI w v1 xs) (h2 : RdI w v2 ys) :
    Calls Try.prog 22 #[v1, v2] w fun e w' => e = .returned (.bool (decide (xs = ys))) ∧ Below w.heap.size w w' := by
  obtain ⟨a1, c1, rfl, l1, f1⟩ := h1.open
  obtain ⟨a2, c2, rfl, l2, f2⟩ := h2.open
  clear h1 h2
  by_cases hl : xs.length = ys.length
  · have hl' : (((xs.length : Nat) : Int) != ((ys.length : Nat) : Int)) = false := by rw [hl]; simp
    have HL := Lib.hid hl; clear hl
    have F1 := Lib.hid f1; have F2 := Lib.hid f2; clear f1 f2
    go_enter Try.func22, Try.ntmps22
    go_wp2
    go_loopw [5] (fun i wr => ∃ k : Nat, k ≤ xs.length ∧ i = .int .i64 k ∧ xs.take k = ys.take k ∧ ∃ nq, wr = w.drewN nq) (fun i _ => xs.length - (intOf i).toNat)
    case atStart => exact ⟨0, Nat.zero_le _, rfl, by simp, 0, rfl⟩
    case round =>
      obtain ⟨k, hk, rfl, he, nq, rfl⟩ := hrel
      have HE := Lib.hid he; clear he
      by_cases hlt : k < xs.length
      · obtain ⟨x, hx⟩ := elem_at hlt
        obtain ⟨y, hy⟩ := elem_at (show k < ys.length by rw [← HL.out]; exact hlt)
        obtain ⟨b1, o1, rfl, _, g1⟩ := F1.out k x hx
        obtain ⟨b2, o2, rfl, _, g2⟩ := F2.out k y hy
        have hlt2 : k < ys.length := by rw [← HL.out]; exact hlt
        have HX := Lib.hid hx; have HY := Lib.hid hy; clear hx hy
        by_cases hxy : x = y
        · subst hxy
          have hxy' : (x != x) = false := by simp
          go_wp2
          go_quiet (fail)
          go_wp2
          go_roundw
          case rel => exact ⟨k + 1, by omega, by go_num, take_same HE.out HX.out HY.out, _, rfl⟩
          case measure => simp [intOf]; omega
        · have hxy' : (x != y) = true := by simpa using hxy
          have hr : decide (xs = ys) = false := decide_eq_false (ne_at HX.out HY.out hxy)
          have HR := Lib.hid hr; clear hr
          go_wp2
          go_quiet (fail)
          go_wp2
          go_ret
          exact ⟨ret_bool (by rw [HR.out]), by repeat (first | exact Below.refl _ _ | refine Below.dn ?_ _)⟩
      · have hr : decide (xs = ys) = true := decide_eq_true (take_all HE.out (by omega) (by rw [← HL.out]; omega))
        have HR := Lib.hid hr; clear hr
        go_wp2
        go_ret
        exact ⟨ret_bool (by rw [HR.out]), by repeat (first | exact Below.refl _ _ | refine Below.dn ?_ _)⟩
  · have hl' : (((xs.length : Nat) : Int) != ((ys.length : Nat) : Int)) = true := by simp; omega
    have hr : decide (xs = ys) = false := decide_eq_false (fun e => hl (by rw [e]))
    have HR := Lib.hid hr; clear hr
    clear hl f1 f2
    go_enter Try.func22, Try.ntmps22
    go_wp2
    go_ret
    exact ⟨ret_bool (by rw [HR.out]), Below.refl _ _⟩

set_option maxHeartbeats 400000 in
theorem sameTexts_any (v1 v2 : Value) (xs ys : List ByteArray) (w : World) (h1 : RdS w v1 xs) (h2 : RdS w v2 ys) :
    Calls Try.prog 32 #[v1, v2] w fun e w' => e = .returned (.bool (decide (xs = ys))) ∧ Below w.heap.size w w' := by
  obtain ⟨a1, c1, rfl, l1, f1⟩ := h1.open
  obtain ⟨a2, c2, rfl, l2, f2⟩ := h2.open
  clear h1 h2
  by_cases hl : xs.length = ys.length
  · have hl' : (((xs.length : Nat) : Int) != ((ys.length : Nat) : Int)) = false := by rw [hl]; simp
    have HL := Lib.hid hl; clear hl
    have F1 := Lib.hid f1; have F2 := Lib.hid f2; clear f1 f2
    go_enter Try.func32, Try.ntmps32
    go_wp2
    go_loopw [5] (fun i wr => ∃ k : Nat, k ≤ xs.length ∧ i = .int .i64 k ∧ xs.take k = ys.take k ∧ ∃ nq, wr = w.drewN nq) (fun i _ => xs.length - (intOf i).toNat)
    case atStart => exact ⟨0, Nat.zero_le _, rfl, by simp, 0, rfl⟩
    case round =>
      obtain ⟨k, hk, rfl, he, nq, rfl⟩ := hrel
      have HE := Lib.hid he; clear he
      by_cases hlt : k < xs.length
      · obtain ⟨x, hx⟩ := elem_at hlt
        obtain ⟨y, hy⟩ := elem_at (show k < ys.length by rw [← HL.out]; exact hlt)
        obtain ⟨b1, o1, rfl, _, g1⟩ := F1.out k x hx
        obtain ⟨b2, o2, rfl, _, g2⟩ := F2.out k y hy
        have hlt2 : k < ys.length := by rw [← HL.out]; exact hlt
        have HX := Lib.hid hx; have HY := Lib.hid hy; clear hx hy
        by_cases hxy : x = y
        · subst hxy
          have hxy' : (x.toList == x.toList) = true := by simp
          go_wp2
          go_quiet (fail)
          go_wp2
          go_roundw
          case rel => exact ⟨k + 1, by omega, by go_num, take_same HE.out HX.out HY.out, _, rfl⟩
          case measure => simp [intOf]; omega
        · have hxy' := bytes_ne hxy
          have hr : decide (xs = ys) = false := decide_eq_false (ne_at HX.out HY.out hxy)
          have HR := Lib.hid hr; clear hr
          go_wp2
          go_quiet (fail)
          go_wp2
          go_ret
          exact ⟨ret_bool (by rw [HR.out]), by repeat (first | exact Below.refl _ _ | refine Below.dn ?_ _)⟩
      · have hr : decide (xs = ys) = true := decide_eq_true (take_all HE.out (by omega) (by rw [← HL.out]; omega))
        have HR := Lib.hid hr; clear hr
        go_wp2
        go_ret
        exact ⟨ret_bool (by rw [HR.out]), by repeat (first | exact Below.refl _ _ | refine Below.dn ?_ _)⟩
  · have hl' : (((xs.length : Nat) : Int) != ((ys.length : Nat) : Int)) = true := by simp; omega
    have hr : decide (xs = ys) = false := decide_eq_false (fun e => hl (by rw [e]))
    have HR := Lib.hid hr; clear hr
    clear hl f1 f2
    go_enter Try.func32, Try.ntmps32
    go_wp2
    go_ret
    exact ⟨ret_bool (by rw [HR.out]), Below.refl _ _⟩


def shortF (s : ByteArray) (m : Nat) : ByteArray := if m < s.size then s.extract 0 m else s
set_option maxHeartbeats 400000 in
theorem short_any (s : ByteArray) (m : Nat) (hm : m ≤ 1000) (w : World) : Calls Try.prog 31 #[.string s, .int .i64 m] w fun e w' => e = .returned (.string (shortF s m)) ∧ w = w' := by
  by_cases h : m < s.size
  · have hr : shortF s m = s.extract 0 m := if_pos h
    have HR := Lib.hid hr; clear hr
    have h1 : (m : Int) < (s.size : Int) := by omega
    have h2 : (0 : Int) ≤ (m : Int) := by omega
    have h3 : (m : Int) ≤ (s.size : Int) := by omega
    go_enter Try.func31, Try.ntmps31
    go_wp2_with fail
    go_ret
    exact ⟨ret_str (by rw [HR.out]), rfl⟩
  · have hr : shortF s m = s := if_neg h
    have HR := Lib.hid hr; clear hr
    have h1 : ¬ (m : Int) < (s.size : Int) := by omega
    go_enter Try.func31, Try.ntmps31
    go_wp2_with fail
    go_ret
    exact ⟨ret_str (by rw [HR.out]), rfl⟩

set_option maxHeartbeats 1000000 in
theorem value_any (c : UInt8) (w : World) : Calls Try.prog 14 #[.int .u8 c.toNat] w fun e w' => e = .returned (.int .i64 (valF c)) ∧ Below w.heap.size w w' := by
  go_enter Try.func14, Try.ntmps14
  go_wp2_with fail
  rw [show (ByteArray.mk #[48, 49, 50, 51, 52, 53, 54, 55, 56, 57, 65, 66, 67, 68, 69, 70, 71, 72, 74, 75, 76, 77, 78, 80, 81, 82, 83, 84, 85, 86, 88]) = alphaB from rfl]
  generalize hA : alphaB = A at *
  have hA31 : A.size = 31 := by rw [← hA]; rfl
  have hAt : ∀ k (h : k < A.size), alphaL[k]? = some (A[k]'h) ∧ (A[k]'h).toNat < 128 := by
    subst hA
    intro k h
    refine ⟨alphaB_at k h, ?_⟩
    have hk : k < 31 := h
    have : ∀ j : Fin 31, (alphaL[j.val]'(j.isLt)).toNat < 128 := by decide
    exact this ⟨k, hk⟩
  have HA := Lib.hid hAt
  clear hA hAt
  go_loopw [] (fun wr => ∃ k : Nat, k ≤ 31 ∧ (∀ j, j < k → alphaL[j]? ≠ some c) ∧ wr = w.iter A k) (fun wr => 31 - wr.iterPos w.heap.size)
  case atStart => exact ⟨0, Nat.zero_le _, by omega, rfl⟩
  case round =>
    obtain ⟨k, hk, hno, rfl⟩ := hrel
    have HN := Lib.hid hno; clear hno
    by_cases hlt : k < 31
    · have hka : k < A.size := by omega
      obtain ⟨ha1, ha2⟩ := HA.out k hka
      have hnx : ∀ ty, (Instr.next (.pointer (some ⟨w.heap.size, 0, none⟩)) true ty).run Try.prog (w.iter A k) = _ := fun ty => run_next_ascii w A k ty hka ha2
      by_cases hc : A[k]'hka = c
      · have hr := valF_hit hlt HN.out (by rw [ha1, hc])
        have hb : (((A[k]'hka).toNat : Int) == (c.toNat : Int)) = true := by rw [hc]; simp
        have HR := Lib.hid hr; clear hr ha1
        go_wp2_with fail
        go_ret
        exact ⟨ret_int HR.out.symm, (Below.refl _ _).alloc (Nat.le_refl _) _⟩
      · have hb : (((A[k]'hka).toNat : Int) == (c.toNat : Int)) = false := by
          refine beq_eq_false_iff_ne.2 fun e => hc (u8_eq ?_)
          omega
        have hne : alphaL[k]? ≠ some c := by rw [ha1]; exact fun e => hc (Option.some.inj e)
        have HNE := Lib.hid hne; clear hne ha1
        go_wp2_with fail
        go_roundw
        case rel => exact ⟨k + 1, by omega, fun j hj => by rcases Nat.lt_or_ge j k with h | h; exact HN.out j h; rw [show j = k by omega]; exact HNE.out, by first | rfl | trivial⟩
        case measure => simp; omega
    · obtain rfl : k = 31 := by omega
      have hr := valF_miss HN.out
      have HR := Lib.hid hr; clear hr
      have hnx : ∀ ty, (Instr.next (.pointer (some ⟨w.heap.size, 0, none⟩)) true ty).run Try.prog (w.iter A 31) = _ := fun ty => run_next_end w A 31 ty (by omega)
      go_wp2_with fail
      go_ret
      exact ⟨ret_int HR.out.symm, (Below.refl _ _).alloc (Nat.le_refl _) _⟩
end Go.Proofs.Ytidojiegkdchpaa
