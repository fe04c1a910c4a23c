/- The law's own helpers: full, SameInts, SameTexts. -/
import Derived.Test.YtdanhfanepmhkaaDm
namespace Go.Proofs.Ytdanhfanepmhkaa
open Go.RowKit Go.Maps Go.Sort

theorem Rd.str {w : World} {G : Nat → Prop} {v : Value} {xs : List ByteArray} (h : Rd w G 1 v xs.length (strs xs)) : ∃ a cap, v = .slice a xs.length cap ∧ xs.length ≤ 9223372036854775807 ∧
    (∀ k x, xs[k]? = some x → ∃ b off, a = some ⟨b, off, none⟩ ∧ b < w.heap.size ∧ G b ∧ w.cell? ⟨b, off + k, none⟩ = some (.string x)) := by
  obtain ⟨h1, a, cap, h2, h3, h4, h5⟩ := h
  refine ⟨a, cap, h2, by omega, fun k x hk => ?_⟩
  rcases h5 with h5 | ⟨b, off, h5, h6, h7, h8⟩
  · have := (List.getElem?_eq_some_iff.1 hk).1; omega
  · exact ⟨b, off, h5, h6, h7, h8 k _ (by simp [strs, hk])⟩

theorem take_same {α : Type} {xs ys : List α} {k : Nat} {x : α} (h : xs.take k = ys.take k) (hx : xs[k]? = some x) (hy : ys[k]? = some x) : xs.take (k + 1) = ys.take (k + 1) := by
  rw [List.take_add_one, List.take_add_one, hx, hy, h]
theorem take_all {α : Type} {xs ys : List α} {k : Nat} (h : xs.take k = ys.take k) (hx : xs.length ≤ k) (hy : ys.length ≤ k) : xs = ys := by
  rw [List.take_of_length_le hx, List.take_of_length_le hy] at h; exact h
theorem ne_at {α : Type} {xs ys : List α} {k : Nat} {x y : α} (hx : xs[k]? = some x) (hy : ys[k]? = some y) (h : x ≠ y) : xs ≠ ys := by
  rintro rfl; rw [hx] at hy; exact h (Option.some.inj hy)
theorem bytes_ne {x y : ByteArray} (h : x ≠ y) : (x.toList == y.toList) = false := by
  refine beq_eq_false_iff_ne.2 fun e => h ?_
  rw [ByteArray.toList_eq, ByteArray.toList_eq] at e
  cases x; cases y
  exact congrArg ByteArray.mk (Array.toList_inj.1 e)

set_option maxHeartbeats 400000 in
theorem sameInts_any (v1 v2 : Value) (xs ys : List Int) (w : World) (G1 G2 : Nat → Prop) (h1 : Rd w G1 1 v1 xs.length (ints xs)) (h2 : Rd w G2 1 v2 ys.length (ints ys)) :
    Calls Try.prog 41 #[v1, v2] w fun e w' => e = .returned (.bool (decide (xs = ys))) ∧ Below w.heap.size w w' := by
  obtain ⟨a1, c1, rfl, l1, f1⟩ := h1.int
  obtain ⟨a2, c2, rfl, l2, f2⟩ := h2.int
  clear h1 h2
  by_cases hl : xs.length = ys.length
  · have hl' : (((xs.length : Nat) : Int) != ((ys.length : Nat) : Int)) = false := by rw [hl]; simp
    have HL := Lib.hid hl; clear hl
    have F1 := Lib.hid f1; have F2 := Lib.hid f2; clear f1 f2
    go_enter Try.func41, Try.ntmps41
    go_wp2
    go_loopw [5] (fun i wr => ∃ k : Nat, k ≤ xs.length ∧ i = .int .i64 k ∧ xs.take k = ys.take k ∧ ∃ nq, wr = w.drewN nq) (fun i _ => xs.length - (intOf i).toNat)
    case atStart => exact ⟨0, Nat.zero_le _, rfl, by simp, 0, rfl⟩
    case round =>
      obtain ⟨k, hk, rfl, he, nq, rfl⟩ := hrel
      have HE := Lib.hid he; clear he
      by_cases hlt : k < xs.length
      · obtain ⟨x, hx⟩ := elem_at hlt
        obtain ⟨y, hy⟩ := elem_at (show k < ys.length by rw [← HL.out]; exact hlt)
        obtain ⟨b1, o1, rfl, _, _, g1⟩ := F1.out k x hx
        obtain ⟨b2, o2, rfl, _, _, g2⟩ := F2.out k y hy
        have hlt2 : k < ys.length := by rw [← HL.out]; exact hlt
        have HX := Lib.hid hx; have HY := Lib.hid hy; clear hx hy
        by_cases hxy : x = y
        · subst hxy
          have hxy' : (x != x) = false := by simp
          go_wp2
          go_quiet (fail)
          go_wp2
          go_roundw
          case rel => exact ⟨k + 1, by omega, by go_num, take_same HE.out HX.out HY.out, _, rfl⟩
          case measure => simp [intOf]; omega
        · have hxy' : (x != y) = true := by simpa using hxy
          have hr : decide (xs = ys) = false := decide_eq_false (ne_at HX.out HY.out hxy)
          have HR := Lib.hid hr; clear hr
          go_wp2
          go_quiet (fail)
          go_wp2
          go_ret
          exact ⟨ret_bool (by rw [HR.out]), by repeat (first | exact Below.refl _ _ | refine Below.dn ?_ _)⟩
      · have hr : decide (xs = ys) = true := decide_eq_true (take_all HE.out (by omega) (by rw [← HL.out]; omega))
        have HR := Lib.hid hr; clear hr
        go_wp2
        go_ret
        exact ⟨ret_bool (by rw [HR.out]), by repeat (first | exact Below.refl _ _ | refine Below.dn ?_ _)⟩
  · have hl' : (((xs.length : Nat) : Int) != ((ys.length : Nat) : Int)) = true := by simp; omega
    have hr : decide (xs = ys) = false := decide_eq_false (fun e => hl (by rw [e]))
    have HR := Lib.hid hr; clear hr
    clear hl f1 f2
    go_enter Try.func41, Try.ntmps41
    go_wp2
    go_ret
    exact ⟨ret_bool (by rw [HR.out]), Below.refl _ _⟩

set_option maxHeartbeats 400000 in
theorem sameTexts_any (v1 v2 : Value) (xs ys : List ByteArray) (w : World) (G1 G2 : Nat → Prop) (h1 : Rd w G1 1 v1 xs.length (strs xs)) (h2 : Rd w G2 1 v2 ys.length (strs ys)) :
    Calls Try.prog 21 #[v1, v2] w fun e w' => e = .returned (.bool (decide (xs = ys))) ∧ Below w.heap.size w w' := by
  obtain ⟨a1, c1, rfl, l1, f1⟩ := h1.str
  obtain ⟨a2, c2, rfl, l2, f2⟩ := h2.str
  clear h1 h2
  by_cases hl : xs.length = ys.length
  · have hl' : (((xs.length : Nat) : Int) != ((ys.length : Nat) : Int)) = false := by rw [hl]; simp
    have HL := Lib.hid hl; clear hl
    have F1 := Lib.hid f1; have F2 := Lib.hid f2; clear f1 f2
    go_enter Try.func21, Try.ntmps21
    go_wp2
    go_loopw [5] (fun i wr => ∃ k : Nat, k ≤ xs.length ∧ i = .int .i64 k ∧ xs.take k = ys.take k ∧ ∃ nq, wr = w.drewN nq) (fun i _ => xs.length - (intOf i).toNat)
    case atStart => exact ⟨0, Nat.zero_le _, rfl, by simp, 0, rfl⟩
    case round =>
      obtain ⟨k, hk, rfl, he, nq, rfl⟩ := hrel
      have HE := Lib.hid he; clear he
      by_cases hlt : k < xs.length
      · obtain ⟨x, hx⟩ := elem_at hlt
        obtain ⟨y, hy⟩ := elem_at (show k < ys.length by rw [← HL.out]; exact hlt)
        obtain ⟨b1, o1, rfl, _, _, g1⟩ := F1.out k x hx
        obtain ⟨b2, o2, rfl, _, _, g2⟩ := F2.out k y hy
        have hlt2 : k < ys.length := by rw [← HL.out]; exact hlt
        have HX := Lib.hid hx; have HY := Lib.hid hy; clear hx hy
        by_cases hxy : x = y
        · subst hxy
          have hxy' : (x.toList == x.toList) = true := by simp
          go_wp2
          go_quiet (fail)
          go_wp2
          go_roundw
          case rel => exact ⟨k + 1, by omega, by go_num, take_same HE.out HX.out HY.out, _, rfl⟩
          case measure => simp [intOf]; omega
        · have hxy' := bytes_ne hxy
          have hr : decide (xs = ys) = false := decide_eq_false (ne_at HX.out HY.out hxy)
          have HR := Lib.hid hr; clear hr
          go_wp2
          go_quiet (fail)
          go_wp2
          go_ret
          exact ⟨ret_bool (by rw [HR.out]), by repeat (first | exact Below.refl _ _ | refine Below.dn ?_ _)⟩
      · have hr : decide (xs = ys) = true := decide_eq_true (take_all HE.out (by omega) (by rw [← HL.out]; omega))
        have HR := Lib.hid hr; clear hr
        go_wp2
        go_ret
        exact ⟨ret_bool (by rw [HR.out]), by repeat (first | exact Below.refl _ _ | refine Below.dn ?_ _)⟩
  · have hl' : (((xs.length : Nat) : Int) != ((ys.length : Nat) : Int)) = true := by simp; omega
    have hr : decide (xs = ys) = false := decide_eq_false (fun e => hl (by rw [e]))
    have HR := Lib.hid hr; clear hr
    clear hl f1 f2
    go_enter Try.func21, Try.ntmps21
    go_wp2
    go_ret
    exact ⟨ret_bool (by rw [HR.out]), Below.refl _ _⟩

theorem Try.info5i : (Try.prog.info? 5).map (fun i => (i.zero, i.size, i.bytes)) = some (some (.int .u8 0), 1, 1) := by kernel_rfl
theorem madeB (n : Nat) : (madeCells (Value.int .u8 0).cells (n * 1)).toList = List.replicate n (.int .u8 0) := by
  apply List.ext_getElem?
  intro i
  rcases Nat.lt_or_ge i n with h | h
  · rw [List.getElem?_replicate, if_pos h]
    unfold madeCells
    simp [Value.cells, h, Nat.mod_one]
  · rw [List.getElem?_eq_none (by simp [madeCells]; omega), List.getElem?_eq_none (by simp; omega)]

def fullS (c : UInt8) : ByteArray := ⟨Array.replicate 64 c⟩
theorem fullS_size (c : UInt8) : (fullS c).size = 64 := by show (Array.replicate 64 c).size = 64; simp
theorem fullS_bytes (c : UInt8) : bytesV (fullS c) = List.replicate 64 (.int .u8 c.toNat) := by
  unfold bytesV fullS
  rw [Array.toList_replicate, List.map_replicate]
theorem set_next' {α : Type} (z x : α) (j n : Nat) (hj : j < n) : (List.replicate j x ++ List.replicate (n - j) z).set j x = List.replicate (j + 1) x ++ List.replicate (n - (j + 1)) z := by
  rw [set_next _ _ _ j n hj (by simp), ← List.replicate_succ']

set_option maxRecDepth 100000 in
set_option maxHeartbeats 2000000 in
theorem full_any (c : UInt8) (w : World) :
    Calls Try.prog 18 #[.int .u8 c.toNat] w fun e w' => e = .returned (.string (fullS c)) ∧ Below w.heap.size w w' := by
  obtain ⟨i0, hi0, hz0, hz1, hz2⟩ := info_parts Try.info5i
  have HI := Lib.hid hi0; have HZ0 := Lib.hid hz0; have HZ1 := Lib.hid hz1; have HZ2 := Lib.hid hz2
  clear hi0 hz0 hz1 hz2
  go_enter Try.func18, Try.ntmps18
  go_wp2_with (refine wpList_make_full _ rfl _ _ 72 rfl w.heap.size 5 i0 (.int .u8 0) 1 Try.underlying72 HI.out HZ0.out HZ1.out .i64 .i64 _ _ 64 rfl rfl rfl rfl (by rw [HZ2.out]; omega) (by unfold maxLen; omega) (Nat.le_refl _) ?_; intro w1 hown hgrow)
  have hg : ∃ C, Boxs w1 w.heap.size 5 C ∧ C.toList = List.replicate 64 (.int .u8 0) := by
    rcases hown.2 with ⟨h3, _⟩ | ⟨g, cap, cur, he, _, hg, hnc, _, hcs, ht⟩
    · cases h3
    · cases he
      refine ⟨cur, hg, ?_⟩
      rw [madeB] at ht
      rw [← ht, List.take_of_length_le (by rw [Array.length_toList]; omega)]
  have HB := Lib.hid ((Below.refl w.heap.size w).grown hgrow (Nat.le_refl _) (fun j e => by cases e))
  clear hown hgrow
  go_loopw [4] (fun i wr => ∃ j : Nat, j ≤ 64 ∧ i = .int .i64 j ∧ (∃ C, Boxs wr w.heap.size 5 C ∧ C.toList = List.replicate j (.int .u8 c.toNat) ++ List.replicate (64 - j) (.int .u8 0)) ∧ Keeps (fun b => b = w.heap.size) w1 wr) (fun i _ => 64 - (intOf i).toNat)
  case atStart => exact ⟨0, Nat.zero_le _, rfl, by simpa using hg, Keeps.refl _ _⟩
  case round =>
    obtain ⟨j, hj, rfl, ⟨C, hC, hCl⟩, hk⟩ := hrel
    by_cases hlt : j < 64
    · have hcs : C.size = 64 := by rw [← Array.length_toList, hCl]; simp; omega
      have cc : wr.cell? ⟨w.heap.size, j, none⟩ = some C[j] := by rw [hC.cell, Array.getElem?_eq_getElem (by omega)]
      have cf := hC.frozen j
      have HK := Lib.hid hk; have HC := Lib.hid hC; have HCL := Lib.hid hCl
      clear hk hC hCl hg
      have hj0 : (0 : Int) ≤ (j : Int) := Int.natCast_nonneg _
      have hj1 : (j : Int) < 64 := by omega
      go_wp2_with fail
      go_roundw
      case rel =>
        refine ⟨j + 1, by omega, by go_num, ⟨_, HC.out.put j (.int .u8 c.toNat), ?_⟩, HK.out.setCell rfl _⟩
        rw [Array.toList_setIfInBounds, HCL.out, set_next' _ _ j _ hlt]
      case measure => simp [intOf]; omega
    · have he : j = 64 := by omega
      subst he
      have hbs : Lib.Bytes wr w.heap.size 0 (fullS c) := by
        intro i hi
        rw [hC.cell, Nat.zero_add, ← Array.getElem?_toList, hCl]
        rw [fullS_size] at hi
        rw [List.getElem?_append_left (by simpa using hi), List.getElem?_replicate, if_pos hi]
        simp [ByteArray.getElem_eq_getElem_data, fullS]
      have hcv := conv_blk (fullS_size c) hbs
      have HK := Lib.hid hk; have HL := Lib.hid hC.lt
      clear hk hC hCl hg hbs
      go_wp2_with fail
      go_ret
      exact ⟨rfl, (HB.out.trans (HK.out.below (by have := HL.out; have := HB.out.size; omega) (fun i hi e => by omega)))⟩
end Go.Proofs.Ytdanhfanepmhkaa
