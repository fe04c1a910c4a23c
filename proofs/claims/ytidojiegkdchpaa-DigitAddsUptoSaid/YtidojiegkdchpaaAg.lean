/- Weights, Scheme, Text. -/
import Derived.Test.YtidojiegkdchpaaAf
namespace Go.Proofs.Ytidojiegkdchpaa
open Go.RowKit Go.Maps

theorem madeI (n : Nat) : (madeCells (Value.int .i64 0).cells (n * 1)).toList = List.replicate n (.int .i64 0) := by
  apply List.ext_getElem?
  intro i
  rcases Nat.lt_or_ge i n with h | h
  · rw [List.getElem?_replicate, if_pos h]
    unfold madeCells
    simp [Value.cells, h, Nat.mod_one]
  · rw [List.getElem?_eq_none (by simp [madeCells]; omega), List.getElem?_eq_none (by simp; omega)]
theorem owns_full {w' : World} {g n : Nat} {e : TypeId} {xs : List Value} (hown : w'.ownsRow g e 1 (.slice (some ⟨g, 0, none⟩) n n) n xs) : ∃ C, Boxs w' g e C ∧ C.toList = xs := by
  rcases hown.2 with ⟨h3, _⟩ | ⟨g', cap, cur, he, _, hg, hnc, _, hcs, ht⟩
  · cases h3
  · cases he
    refine ⟨cur, hg, ?_⟩
    rw [← ht, List.take_of_length_le (by rw [Array.length_toList]; omega)]

def powF : Nat → Int
  | 0 => 1
  | k + 1 => powF k * 3 % 31
theorem powF_bd (k : Nat) : 0 ≤ powF k ∧ powF k ≤ 30 := by
  cases k with
  | zero => decide
  | succ k => unfold powF; omega
def wtsF : Nat → List Int
  | 0 => []
  | n + 1 => powF n :: wtsF n
theorem wtsF_len (n : Nat) : (wtsF n).length = n := by induction n with | zero => rfl | succ n ih => simp [wtsF, ih]
theorem wtsF_mid (n : Nat) : mid 1024 (wtsF n) := by
  induction n with
  | zero => intro x hx; cases hx
  | succ n ih =>
    intro x hx
    rcases List.mem_cons.1 hx with rfl | h
    · have := powF_bd n; omega
    · exact ih x h
theorem set_last {j : Nat} (x z : Value) (r : List Value) : (List.replicate (j + 1) z ++ r).set j x = List.replicate j z ++ x :: r := by
  rw [List.replicate_succ', List.append_assoc, List.set_append_right _ _ (by simp)]
  simp

set_option maxRecDepth 100000 in
set_option maxHeartbeats 2000000 in
theorem weights_any (n : Nat) (hn : n ≤ 1000) (w : World) :
    Calls Try.prog 42 #[.int .i64 n] w fun e w' => ∃ v, e = .returned v ∧ RdI w' v (wtsF n) ∧ Below w.heap.size w w' := by
  obtain ⟨i0, hi0, hz0, hz1, hz2⟩ := info_parts Try.info3i
  have HI := Lib.hid hi0; have HZ0 := Lib.hid hz0; have HZ1 := Lib.hid hz1; have HZ2 := Lib.hid hz2
  clear hi0 hz0 hz1 hz2
  go_enter Try.func42, Try.ntmps42
  go_wp2_with (refine wpList_make_full _ rfl _ _ 22 rfl w.heap.size 3 i0 (.int .i64 0) 1 Try.underlying22 HI.out HZ0.out HZ1.out .i64 .i64 _ _ n rfl rfl rfl rfl (by rw [HZ2.out]; omega) (by unfold maxLen; omega) (Nat.le_refl _) ?_; intro w1 hown hgrow)
  have hg := owns_full hown
  rw [madeI] at hg
  have HB := Lib.hid ((Below.refl w.heap.size w).grown hgrow (Nat.le_refl _) (fun j e => by cases e))
  clear hown hgrow
  go_loopw [4, 5] (fun p i wr => ∃ j m : Nat, j + m = n ∧ i = .int .i64 ((j : Int) - 1) ∧ p = .int .i64 (powF m) ∧ (∃ C, Boxs wr w.heap.size 3 C ∧ C.toList = List.replicate j (.int .i64 0) ++ ints (wtsF m)) ∧ Keeps (fun b => b = w.heap.size) w1 wr) (fun _ i _ => (intOf i + 1).toNat)
  case atStart => exact ⟨n, 0, rfl, rfl, rfl, by simpa [ints, wtsF] using hg, Keeps.refl _ _⟩
  case round =>
    obtain ⟨j, m, hj, rfl, rfl, ⟨C, hC, hCl⟩, hk⟩ := hrel
    by_cases hlt : 0 < j
    · obtain ⟨j, rfl⟩ : ∃ j', j = j' + 1 := ⟨j - 1, by omega⟩
      rw [show (((j + 1 : Nat) : Int) - 1) = (j : Int) by omega]
      have hcs : C.size = n := by rw [← Array.length_toList, hCl, List.length_append, List.length_replicate, ints_len, wtsF_len]; omega
      have cc : wr.cell? ⟨w.heap.size, j, none⟩ = some C[j] := by rw [hC.cell, Array.getElem?_eq_getElem (by omega)]
      have cf := hC.frozen j
      have HK := Lib.hid hk; have HC := Lib.hid hC; have HCL := Lib.hid hCl
      have pb := powF_bd m
      have hp2 : powF (m + 1) = powF m * 3 % 31 := rfl
      have HP2 := Lib.hid hp2
      clear hk hC hCl hg hp2
      have hj0 : (0 : Int) ≤ (j : Int) := Int.natCast_nonneg _
      have hj1 : (j : Int) < (n : Int) := by omega
      have hw2 : wtsF (m + 1) = powF m :: wtsF m := rfl
      have HW2 := Lib.hid hw2
      clear hw2
      generalize powF m = q at *
      go_wp2_with fail
      go_roundw
      case rel =>
        refine ⟨j, m + 1, by omega, by go_num, by rw [HP2.out], ⟨_, HC.out.put j (.int .i64 q), ?_⟩, HK.out.setCell rfl _⟩
        rw [Array.toList_setIfInBounds, HCL.out, set_last, HW2.out]
        rfl
      case measure => simp [intOf]
    · obtain rfl : j = 0 := by omega
      obtain rfl : m = n := by omega
      have HK := Lib.hid hk; have HC := Lib.hid hC; have HCL := Lib.hid hCl
      clear hk hC hCl hg
      go_wp2_with fail
      go_ret
      refine ⟨_, rfl, ?_, (HB.out.trans (HK.out.below (by have := HC.out.lt; have := HB.out.size; omega) (fun i hi e => by omega)))⟩
      have hz : C.size = m := by rw [← Array.length_toList, HCL.out, List.length_append, List.length_replicate, ints_len, wtsF_len]; omega
      have := Rd_block HC.out hz (by omega)
      rw [HCL.out] at this
      show Rd wr _ (ints (wtsF m))
      simpa using this

/-! ### strings of characters of the alphabet -/
def bs (l : List UInt8) : ByteArray := ⟨l.toArray⟩
theorem bs_append (a b : List UInt8) : bs a ++ bs b = bs (a ++ b) := by
  apply ByteArray.ext
  simp [bs]
theorem bs_size (l : List UInt8) : (bs l).size = l.length := by show (l.toArray).size = _; simp
def charF (k : Int) : UInt8 := alphaL.getD k.toNat 0
theorem alpha_ext (k : Nat) (hk : k < 31) : alphaB.extract k (k + 1) = bs [charF k] := by
  have : ∀ j : Fin 31, (alphaB.extract j.val (j.val + 1)).data.toList = (bs [charF (j.val : Nat)]).data.toList := by decide
  exact ByteArray.ext (Array.toList_inj.1 (this ⟨k, hk⟩))
def textL (l : List Int) : List UInt8 := l.map fun x => charF (around x 31)
def textF (l : List Int) : ByteArray := bs (textL (l.take 12))
theorem textL_snoc (l : List Int) (x : Int) : textL (l ++ [x]) = textL l ++ [charF (around x 31)] := by unfold textL; rw [List.map_append]; rfl
def inI (xs : List Int) : Prop := ∀ x, x ∈ xs → -9223372036854775808 ≤ x ∧ x ≤ 9223372036854775807

set_option maxRecDepth 100000 in
set_option maxHeartbeats 2000000 in
theorem text_any (v : Value) (l : List Int) (w : World) (h : RdI w v l) (hi : inI l) :
    Calls Try.prog 23 #[v] w fun e w' => e = .returned (.string (textF l)) ∧ w = w' := by
  obtain ⟨a1, c1, rfl, l1, f1⟩ := h.open
  have AL := alphabet_any w
  have F1 := Lib.hid f1; clear f1 h
  have HI := Lib.hid hi; clear hi
  go_enter Try.func23, Try.ntmps23
  go_wp2_with fail
  refine AL.mono ?_
  rintro e w1 ⟨rfl, rfl⟩
  clear AL
  have hA31 : alphaB.size = 31 := rfl
  have HE := Lib.hid alpha_ext
  generalize alphaB = A at *
  go_wp2_with fail
  go_loopw [4, 5] (fun s i wr => ∃ k : Nat, k ≤ l.length ∧ k ≤ 12 ∧ i = .int .i64 k ∧ s = .string (bs (textL (l.take k))) ∧ wr = w) (fun _ i _ => 12 - (intOf i).toNat)
  case atStart => exact ⟨0, Nat.zero_le _, Nat.zero_le _, rfl, rfl, rfl⟩
  case round =>
    obtain ⟨k, hk1, hk2, rfl, rfl, rfl⟩ := hrel
    by_cases hlt : k < l.length
    · have q1 : (k : Int) < (l.length : Int) := by omega
      by_cases hlt2 : k < 12
      · have q2 : (k : Int) < 12 := by omega
        obtain ⟨x, hx⟩ := elem_at hlt
        obtain ⟨b, o, rfl, _, g⟩ := F1.out k x hx
        have hxb := HI.out x (List.mem_of_getElem? hx)
        have AR := around_any x 31 wr hxb.1 hxb.2 (by omega) (by omega)
        obtain ⟨r0, r1⟩ := around_bd x 31 (by omega)
        have hsn : textL (l.take (k + 1)) = textL (l.take k) ++ [charF (around x 31)] := by rw [take_succ_at hx, textL_snoc]
        have HS := Lib.hid hsn
        obtain ⟨j, hj⟩ : ∃ j : Nat, around x 31 = j := ⟨(around x 31).toNat, by omega⟩
        have hje := HE.out j (by omega)
        rw [hj] at AR HS r0 r1
        have hz : (A.extract j (j + 1)).size = 1 := by rw [hje]; rfl
        have g3 : (0 : Int) ≤ (j : Int) := by omega
        have g4 : (j : Int) ≤ (j : Int) + 1 := by omega
        have g5 : (j : Int) + 1 ≤ (A.size : Int) := by omega
        have g6 : ((j : Int) + 1).toNat = j + 1 := by omega
        have HJE := Lib.hid hje
        have hsz : (bs (textL (l.take k))).size ≤ 12 := by rw [bs_size]; unfold textL; simp; omega
        clear hsn hx hxb hj hje
        generalize hB : bs (textL (l.take k)) = B at *
        have HB := Lib.hid hB; clear hB
        go_wp2_with fail
        refine AR.mono ?_
        rintro e w2 ⟨rfl, rfl⟩
        clear AR
        go_wp2_with fail
        go_roundw
        case rel => exact ⟨k + 1, by omega, by omega, by go_num, by rw [HS.out, ← bs_append, HB.out, ← HJE.out], by first | rfl | trivial⟩
        case measure => simp [intOf]; omega
      · have q2 : ¬ (k : Int) < 12 := by omega
        have he : textF l = bs (textL (l.take k)) := by unfold textF; rw [show k = 12 by omega]
        have HEE := Lib.hid he
        clear he
        go_wp2_with fail
        all_goals first | (go_quiet (fail); go_wp2_with fail) | skip
        go_ret
        exact ⟨ret_str HEE.out.symm, rfl⟩
    · have q1 : ¬ (k : Int) < (l.length : Int) := by omega
      have he : textF l = bs (textL (l.take k)) := by unfold textF; rw [List.take_of_length_le (by omega), List.take_of_length_le (by omega)]
      have HEE := Lib.hid he
      clear he
      go_wp2_with fail
      all_goals first | (go_quiet (fail); go_wp2_with fail) | skip
      go_ret
      exact ⟨ret_str HEE.out.symm, rfl⟩

def tblM : List Int := [10, 11, 31, 2, 12, 97, 30, 1024]
def modF (n : Int) : Int := tblM.getD (around n 8).toNat 0
theorem modF_bd (n : Int) : 2 ≤ modF n ∧ modF n ≤ 1024 := by
  have h := around_bd n 8 (by omega)
  have : ∀ j : Fin 8, 2 ≤ tblM.getD j.val 0 ∧ tblM.getD j.val 0 ≤ 1024 := by decide
  exact this ⟨(around n 8).toNat, by omega⟩
def schF (l : List Int) (n : Int) : List Int := (l.take 8).map fun x => around x (modF n)
theorem schF_len (l : List Int) (n : Int) : (schF l n).length ≤ 8 := by unfold schF; rw [List.length_map, List.length_take]; omega
theorem schF_bd (l : List Int) (n : Int) : ∀ x, x ∈ schF l n → 0 ≤ x ∧ x < modF n := by
  intro x hx
  obtain ⟨y, _, rfl⟩ := List.mem_map.1 hx
  exact around_bd y _ (by have := modF_bd n; omega)

end Go.Proofs.Ytidojiegkdchpaa
