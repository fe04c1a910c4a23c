/- The disk: Image. -/
import Derived.Test.YtdanhfanepmhkaaDk
namespace Go.Proofs.Ytdanhfanepmhkaa
open Go.RowKit Go.Maps Go.Sort

theorem Try.info9i : (Try.prog.info? 9).map (fun i => (i.zero, i.size, i.bytes)) = some (some (.string ⟨#[]⟩), 1, 16) := by kernel_rfl
theorem Try.info39i : (Try.prog.info? 39).map (fun i => (i.zero, i.size, i.bytes)) = some (some (.slice none 0 0), 1, 24) := by kernel_rfl

def strs (l : List ByteArray) : List Value := l.map .string
theorem madeStr (n : Nat) : (madeCells (Value.string ⟨#[]⟩).cells (n * 1)).toList = List.replicate n (.string ⟨#[]⟩) := by
  apply List.ext_getElem?
  intro i
  rcases Nat.lt_or_ge i n with h | h
  · rw [List.getElem?_replicate, if_pos h]
    unfold madeCells
    simp [Value.cells, h, Nat.mod_one]
  · rw [List.getElem?_eq_none (by simp [madeCells]; omega), List.getElem?_eq_none (by simp; omega)]

theorem Dk.byte_lt {w : World} {g : Nat} {S : List ByteArray} (h : Blk w g S) {k : Nat} {s : ByteArray} (hk : S[k]? = some s) : s.size = 64 := by
  obtain ⟨C, _, _, h3⟩ := h; exact h3 s (List.mem_of_getElem? hk)

theorem set_next {α : Type} (l : List α) (z x : α) (j n : Nat) (hj : j < n) (h : l.length = j) : (l ++ List.replicate (n - j) z).set j x = l ++ [x] ++ List.replicate (n - (j + 1)) z := by
  rw [List.set_append_right _ _ (by omega), show n - j = (n - (j + 1)) + 1 by omega, List.replicate_succ, h, Nat.sub_self, List.set_cons_zero]
  simp

theorem DskAt.ltF {w : World} {A : At} {D : Dk} (h : DskAt w A D) {b : Nat} (hb : A.F b) : b < w.heap.size := by
  rcases hb with rfl | rfl | rfl | rfl
  · exact h.ltd
  · exact h.blk.lt
  · exact h.pend.lt
  · exact h.worn.lt

set_option maxRecDepth 100000 in
set_option maxHeartbeats 2000000 in
theorem image_any (A : At) (D : Dk) (w : World) (h : DskAt w A D) :
    Calls Try.prog 15 #[.pointer (some ⟨A.d, 0, none⟩)] w fun e w' => ∃ v, e = .returned v ∧ Rd w' (fun b => w.heap.size ≤ b) 1 v D.S.length (strs D.S) ∧ Below w.heap.size w w' := by
  obtain ⟨i0, hi0, hz0, hz1, hz2⟩ := info_parts Try.info9i
  have HI := Lib.hid hi0; have HZ0 := Lib.hid hz0; have HZ1 := Lib.hid hz1; have HZ2 := Lib.hid hz2
  clear hi0 hz0 hz1 hz2
  have c0 := h.box.cell 0
  simp at c0
  have hlen := h.len
  have hpos := h.pos
  have H := Lib.hid h
  clear h
  go_enter Try.func15, Try.ntmps15
  go_wp2_with (refine wpList_make_full _ rfl _ _ 39 rfl w.heap.size 9 i0 (.string ⟨#[]⟩) 1 Try.underlying39 HI.out HZ0.out HZ1.out .i64 .i64 _ _ D.S.length rfl rfl rfl rfl (by rw [HZ2.out]; omega) (by unfold maxLen; omega) (Nat.le_refl _) ?_; intro w1 hown hgrow; have hk1 : Keeps (fun _ => False) w w1 := Keeps.of_grown hgrow (fun i e => by cases e); have c1 := (World.cell?_of_block (hk1.block _ H.out.ltd (fun h => h))).trans c0)
  have hg : ∃ C, Boxs w1 w.heap.size 9 C ∧ C.toList = List.replicate D.S.length (.string ⟨#[]⟩) := by
    rcases hown.2 with ⟨h3, _⟩ | ⟨g, cap, cur, he, _, hg, hnc, _, hcs, ht⟩
    · cases h3
    · cases he
      refine ⟨cur, hg, ?_⟩
      rw [madeStr] at ht
      rw [← ht, List.take_of_length_le (by rw [Array.length_toList]; omega)]
  have H1 := Lib.hid (H.out.keeps hk1 (fun _ _ h => h))
  have HB := Lib.hid ((Below.refl w.heap.size w).grown hgrow (Nat.le_refl _) (fun j e => by cases e))
  clear hown hgrow hk1 c0 c1
  go_loopw [4, 16] (fun _ i wr => ∃ j : Nat, j ≤ D.S.length ∧ i = .int .i64 j ∧ (∃ C, Boxs wr w.heap.size 9 C ∧ C.toList = strs (D.S.take j) ++ List.replicate (D.S.length - j) (.string ⟨#[]⟩)) ∧ Keeps (fun b => b = w.heap.size) w1 wr) (fun _ i _ => D.S.length - (intOf i).toNat)
  case atStart => exact ⟨0, Nat.zero_le _, rfl, by simpa [strs] using hg, Keeps.refl _ _⟩
  case round =>
    obtain ⟨j, hj, rfl, ⟨C, hC, hCl⟩, hk⟩ := hrel
    have hdk := H1.out.keeps hk (fun b hb e => by have := H.out.ltF hb; omega)
    by_cases hlt : j < D.S.length
    · obtain ⟨s, hs⟩ := elem_at hlt
      have hb := hdk.blk.bytes hs
      have hsz := Dk.byte_lt hdk.blk hs
      have hcv := conv_blk hsz hb
      have c0 := hdk.box.cell 0
      simp at c0
      have hcs : C.size = D.S.length := by rw [← Array.length_toList, hCl]; simp [strs]; omega
      have cc : wr.cell? ⟨w.heap.size, j, none⟩ = some C[j] := by rw [hC.cell, Array.getElem?_eq_getElem (by omega)]
      have cf := hC.frozen j
      have HS := Lib.hid hs; have HK := Lib.hid hk; have HC := Lib.hid hC; have HCL := Lib.hid hCl
      clear hs hb hsz hdk hk hC hCl hg
      have hj0 : (0 : Int) ≤ (j : Int) := Int.natCast_nonneg _
      have hj1 : (j : Int) < (D.S.length : Int) := by omega
      go_wp2_with fail
      go_roundw
      case rel =>
        refine ⟨j + 1, by omega, by go_num, ⟨_, HC.out.put j (.string s), ?_⟩, HK.out.setCell rfl _⟩
        rw [Array.toList_setIfInBounds, HCL.out, set_next _ _ _ j _ hlt (by unfold strs; rw [List.length_map, List.length_take]; omega), take_succ_at HS.out]
        unfold strs
        rw [List.map_append]; rfl
      case measure => simp [intOf]; omega
    · have he : j = D.S.length := by omega
      subst he
      have HK := Lib.hid hk; have HC := Lib.hid hC; have HCL := Lib.hid hCl
      clear hk hC hCl hg hdk
      go_wp2_with fail
      go_ret
      refine ⟨_, rfl, ⟨by simp [strs], some ⟨w.heap.size, 0, none⟩, D.S.length, rfl, Nat.le_refl _, by omega, .inr ⟨w.heap.size, 0, rfl, HC.out.lt, Nat.le_refl _, fun i u hu => ?_⟩⟩, ?_⟩
      · rw [HC.out.cell, Nat.zero_add, ← Array.getElem?_toList, HCL.out]
        simpa using hu
      · exact (HB.out.trans (HK.out.below (by have := HC.out.lt; have := HB.out.size; omega) (fun i hi e => by omega)))
end Go.Proofs.Ytdanhfanepmhkaa
