/- The disk: New, Len, Up, Trip, Wear. -/
import Derived.Test.YtdanhfanepmhkaaDc
import Derived.Carry
namespace Go.Proofs.Ytdanhfanepmhkaa
open Go.RowKit Go.Maps

def newD (n : Nat) : Dk := ⟨List.replicate n zero64, fun _ => none, fun _ => false, false, -1⟩

theorem made64 (n : Nat) : (madeCells (blkV zero64).cells (n * 64)).toList = (List.replicate n zero64).flatMap bytesV := by
  have h1 : ∀ s, s ∈ List.replicate n zero64 → s.size = 64 := fun s hs => by rw [(List.mem_replicate.1 hs).2]; exact zero64_size
  have hl : ((List.replicate n zero64).flatMap bytesV).length = n * 64 := by
    induction n with
    | zero => rfl
    | succ n ih => rw [List.replicate_succ, List.flatMap_cons, List.length_append, ih (fun s hs => by rw [(List.mem_replicate.1 hs).2]; exact zero64_size), bytesV_len, zero64_size]; omega
  have hc : (blkV zero64).cells.size = 64 := by decide
  apply List.ext_getElem?
  intro i
  rcases Nat.lt_or_ge i (n * 64) with h | h
  · have e : i = i / 64 * 64 + i % 64 := by omega
    have hr : (List.replicate n zero64)[i / 64]? = some zero64 := by rw [List.getElem?_replicate, if_pos (by omega)]
    have hf := flat64 (List.replicate n zero64) h1 (i / 64) (i % 64) zero64 hr (by omega)
    rw [← e] at hf
    rw [hf]
    have hb : i % 64 < (bytesV zero64).length := by rw [bytesV_len, zero64_size]; omega
    have hcs : (blkV zero64).cells = (bytesV zero64).toArray := rfl
    rw [List.getElem?_eq_getElem hb]
    unfold madeCells
    rw [hc, hcs]
    simp [h, List.getElem?_eq_getElem hb]
  · rw [List.getElem?_eq_none (by simp [madeCells]; omega), List.getElem?_eq_none (by omega)]

theorem Try.info74i : (Try.prog.info? 74).map (fun i => (i.zero, i.size, i.bytes)) = some (some (blkV zero64), 64, 64) := by kernel_rfl

theorem ret_pi {p q : Value} {a b : Int} (h : p = q) (h' : a = b) : Ending.returned (.tuple #[p, .int .i64 a]) = .returned (.tuple #[q, .int .i64 b]) := by rw [h, h']

set_option maxRecDepth 100000 in
set_option maxHeartbeats 800000 in
theorem new_any (n : Nat) (w : World) (h1 : 1 ≤ n) (h2 : n ≤ 4096) :
    Calls Try.prog 14 #[.int .i64 n] w fun e w' => ∃ A : At, e = .returned (.tuple #[.pointer (some ⟨A.d, 0, none⟩), .int .i64 0]) ∧ DskAt w' A (newD n) ∧ (∀ b, A.F b → w.heap.size ≤ b) ∧ Below w.heap.size w w' := by
  obtain ⟨i0, hi0, hz0, hz1, hz2⟩ := info_parts Try.info74i
  have HI := Lib.hid hi0; have HZ0 := Lib.hid hz0; have HZ1 := Lib.hid hz1; have HZ2 := Lib.hid hz2
  clear hi0 hz0 hz1 hz2
  have hmm := @run_makeMap Try.prog
  go_enter Try.func14, Try.ntmps14
  go_wp2_with (refine wpList_make_full _ rfl _ _ 67 rfl w.heap.size 74 i0 (blkV zero64) 64 Try.underlying67 HI.out HZ0.out HZ1.out .i64 .i64 _ _ n rfl rfl rfl rfl (by rw [HZ2.out]; omega) (by unfold maxLen; omega) (Nat.le_refl _) ?_; intro w1 hown hgrow)
  go_ret2
  have hL : (newD n).S.length = n := by simp [newD]
  have hg : ∃ C, Boxs w1 w.heap.size 74 C ∧ C.toList = (List.replicate n zero64).flatMap bytesV := by
    rcases hown.2 with ⟨h3, _⟩ | ⟨g, cap, cur, he, _, hg, hnc, _, hcs, ht⟩
    · cases h3
    · cases he
      refine ⟨cur, hg, ?_⟩
      rw [made64] at ht
      rw [← ht, List.take_of_length_le (by rw [Array.length_toList]; omega)]
  obtain ⟨C, hC, hC2⟩ := hg
  have hgl := hC.lt
  have k3 : Keeps (fun _ => False) w1 (((w1.alloc (.map #[] 0)).alloc (.map #[] 0)).alloc (.cells #[.slice (some ⟨w.heap.size, 0, none⟩) n n, .map (some w1.heap.size), .map (some (w1.heap.size + 1)), .bool false, .int .i64 (-1)] 71)) := ((((Keeps.refl _ _).alloc _).alloc _).alloc _)
  have k2 : Keeps (fun _ => False) (w1.alloc (.map #[] 0)) (((w1.alloc (.map #[] 0)).alloc (.map #[] 0)).alloc (.cells #[.slice (some ⟨w.heap.size, 0, none⟩) n n, .map (some w1.heap.size), .map (some (w1.heap.size + 1)), .bool false, .int .i64 (-1)] 71)) := (((Keeps.refl _ _).alloc _).alloc _)
  have k1 : Keeps (fun _ => False) ((w1.alloc (.map #[] 0)).alloc (.map #[] 0)) (((w1.alloc (.map #[] 0)).alloc (.map #[] 0)).alloc (.cells #[.slice (some ⟨w.heap.size, 0, none⟩) n n, .map (some w1.heap.size), .map (some (w1.heap.size + 1)), .bool false, .int .i64 (-1)] 71)) := ((Keeps.refl _ _).alloc _)
  have m2 := MapIs.made (plainElem Try.prog 4) (w1.alloc (.map #[] 0)) n
  have hs2 : (w1.alloc (.map #[] 0)).heap.size = w1.heap.size + 1 := by simp
  have hs3 : ((w1.alloc (.map #[] 0)).alloc (.map #[] 0)).heap.size = w1.heap.size + 1 + 1 := by simp
  rw [hs2] at m2
  have hbx := Boxs.new ((w1.alloc (.map #[] 0)).alloc (.map #[] 0)) 71 #[.slice (some ⟨w.heap.size, 0, none⟩) n n, .map (some w1.heap.size), .map (some (w1.heap.size + 1)), .bool false, .int .i64 (-1)]
  rw [hs3] at hbx
  refine ⟨⟨w1.heap.size + 1 + 1, w.heap.size, w1.heap.size, w1.heap.size + 1, n⟩, rfl, ⟨?_, ?_, ?_, ?_, ?_, ?_, ?_, ?_, ?_, ?_⟩, ?_, ?_⟩
  · rw [hL]; exact hbx
  · exact ⟨C, hC.keeps k3 (fun h => h), ⟨[], by rw [List.append_nil]; exact hC2⟩, fun s hs => by rw [(List.mem_replicate.1 hs).2]; exact zero64_size⟩
  · rw [hL]; exact (MapIs.made Rb w1 n).keeps k2 (fun h => h)
  · rw [hL]; exact m2.keeps k1 (fun h => h)
  · show w1.heap.size ≠ w1.heap.size + 1; omega
  · rw [hL]; exact h2
  · rw [hL]; exact h1
  · intro k s h; cases h
  · show _ ≤ (-1 : Int); omega
  · show (-1 : Int) ≤ _; omega
  · intro b hb
    rcases hb with rfl | rfl | rfl | rfl
    · show _ ≤ w1.heap.size + 1 + 1; omega
    · exact Nat.le_refl _
    · show _ ≤ w1.heap.size; omega
    · show _ ≤ w1.heap.size + 1; omega
  · exact ((((Below.refl w.heap.size w).grown hgrow (Nat.le_refl _) (fun j e => by cases e)).alloc (by omega) _).alloc (by simp; omega) _).alloc (by simp; omega) _

theorem new_bad (n : Int) (w : World) (h : n < 1 ∨ 4096 < n) :
    Calls Try.prog 14 #[.int .i64 n] w fun e w' => e = .returned (.tuple #[.pointer none, .int .i64 1]) ∧ w = w' := by
  rcases h with h | h
  · go_enter Try.func14, Try.ntmps14
    go_wp2
    go_ret2
    exact ⟨rfl, rfl⟩
  · have h' : ¬ n < 1 := by omega
    go_enter Try.func14, Try.ntmps14
    go_wp2
    go_ret2
    exact ⟨rfl, rfl⟩

end Go.Proofs.Ytdanhfanepmhkaa
