/- The disk: Read. -/
import Derived.Test.YtdanhfanepmhkaaDb
namespace Go.Proofs.Ytdanhfanepmhkaa
open Go.RowKit Go.Maps

def zero64 : ByteArray := ⟨Array.replicate 64 0⟩
theorem zero64_size : zero64.size = 64 := by decide
theorem Try.info74 : (Try.prog.info? 74).map (fun i => (i.zero, i.size)) = some (some (blkV zero64), 64) := by kernel_rfl
theorem size74 : (Try.prog.info? 74).map (·.size) = some 64 := (zero_of_info Try.info74).2
theorem zero74 (w : World) : (zeroValue 74).run Try.prog w = .ok (blkV zero64) w := (zero_of_info Try.info74).1 w

theorem conv_blk {w : World} {b o : Nat} {s : ByteArray} (hs : s.size = 64) (h : Lib.Bytes w b o s) : (convert 72 9 (.slice (some ⟨b, o, none⟩) 64 64)).run Try.prog w = .ok (.string s) w := by
  have := Lib.run_convert_whole (P := Try.prog) w 72 5 9 Try.underlying72 Try.underlying5 Try.underlying9 b o s h 64
  rw [hs] at this
  exact this

theorem box_bytes {V : World} {n : Nat} (hn : V.heap.size = n) (s : ByteArray) : Lib.Bytes (V.alloc (.cells (bytesV s).toArray 74)) n 0 s := by
  subst hn
  intro i hi
  rw [(Boxs.new V 74 (bytesV s).toArray).cell, Nat.zero_add]
  unfold bytesV
  simp only [List.getElem?_toArray]
  rw [List.getElem?_map, List.getElem?_eq_getElem (by simpa using hi)]
  simp [ByteArray.getElem_eq_getElem_data]

theorem bytes_al {w : World} {b o : Nat} {s : ByteArray} (h : Lib.Bytes w b o s) (ob : Obj) : Lib.Bytes (w.alloc ob) b o s := fun i hi => cell_al ob (h i hi)

theorem sz64 {s : ByteArray} (h : s.size = 64) : (bytesV s).toArray.size = 64 := by rw [List.size_toArray, bytesV_len, h]
theorem all_one (s : ByteArray) : (bytesV s).toArray.all (·.oneCell') = true := all_oneCell_toArray (bytesV_one s)

/-- what a sector reads as -/
def Dk.at (D : Dk) (k : Nat) : ByteArray := (D.P k).getD ((D.S[k]?).getD zero64)
def Dk.readS (D : Dk) (i : Int) : ByteArray := if D.chk i = 0 then D.at i.toNat else ⟨#[]⟩

theorem ret_si {s t : ByteArray} {a b : Int} (h : s = t) (h' : a = b) : Ending.returned (.tuple #[.string s, .int .i64 a]) = .returned (.tuple #[.string t, .int .i64 b]) := by rw [h, h']

theorem chk_zero {D : Dk} {i : Int} (h : D.chk i = 0) : D.off = false ∧ 0 ≤ i ∧ i < D.S.length := by
  unfold Dk.chk at h
  cases ho : D.off
  · rw [ho] at h
    simp at h
    exact ⟨rfl, by omega, by omega⟩
  · rw [ho] at h; simp at h

set_option maxRecDepth 100000 in
set_option maxHeartbeats 800000 in
theorem read_any (A : At) (D : Dk) (i : Int) (w : World) (h : DskAt w A D) :
    Calls Try.prog 16 #[.pointer (some ⟨A.d, 0, none⟩), .int .i64 i] w fun e w' => e = .returned (.tuple #[.string (D.readS i), .int .i64 (D.chk i)]) ∧ Below w.heap.size w w' := by
  by_cases hc : D.chk i = 0
  · obtain ⟨h1, h2, h3⟩ := chk_zero hc
    obtain ⟨k, rfl⟩ : ∃ k : Nat, i = k := ⟨i.toNat, by omega⟩
    have hk : k < D.S.length := by omega
    have hr : D.readS k = D.at k := by unfold Dk.readS; rw [if_pos hc]; rfl
    obtain ⟨s, hs⟩ : ∃ s, D.S[k]? = some s := ⟨_, List.getElem?_eq_getElem hk⟩
    obtain ⟨v, ps, hlk, hv⟩ := h.pend.lookOk (t := 68) Try.underlying68 (zero74 w) (Rb_mk zero64) hk (by have := h.len; omega)
    have c0 := h.box.cell 0
    have c1 := h.box.cell 1
    simp at c0 c1
    have hb := h.blk.bytes hs
    have hsz : s.size = 64 := by obtain ⟨C, _, _, h3⟩ := h.blk; exact h3 s (List.mem_of_getElem? hs)
    have hlen := h.len
    have CH := check_any A D k w h
    rw [hc] at CH
    cases hP : D.P k with
    | none =>
      have hv' : v = blkV zero64 := by
        unfold pendD at hv; rw [hP] at hv; exact Rb_inv hv
      have hd : (pendD D.P k).isSome = false := by unfold pendD; rw [hP]; rfl
      have hat : D.at k = s := by unfold Dk.at; rw [hP, hs]; rfl
      rw [hd, hv'] at hlk
      have HR := Lib.hid (hr.trans hat); have HC := Lib.hid hc; have HB := Lib.hid hb
      have hcv := conv_blk hsz (bytes_al hb (.cells (bytesV zero64).toArray 74))
      have c0' := cell_al (.cells (bytesV zero64).toArray 74) c0
      clear hr hat hc hb hs hv hv' hd hP h h1 h2 h3 c0
      go_enter Try.func16, Try.ntmps16
      go_wp2_with fail
      refine (CH).mono ?_
      rintro e w1 ⟨rfl, rfl⟩
      go_wp2_with (refine wpList_store_row rfl 74 (.tmp 7) (.tmp 22) rfl w.heap.size (bytesV zero64).toArray rfl rfl 74 _ (heap_alloc_last w _) (by rw [sz64 zero64_size]; exact size74) (by rw [sz64 zero64_size]; rfl) (all_one _) ?_; rw [World.setRow_alloc_new])
      go_ret2
      exact ⟨ret_si HR.out.symm HC.out.symm, (Below.refl _ _).alloc (Nat.le_refl _) _⟩
    | some u =>
      have hv' : v = blkV u := by
        unfold pendD at hv; rw [hP] at hv; exact Rb_inv hv
      have hd : (pendD D.P k).isSome = true := by unfold pendD; rw [hP]; rfl
      have hat : D.at k = u := by unfold Dk.at; rw [hP]; rfl
      rw [hd, hv'] at hlk
      have husz := h.psz k u hP
      have HR := Lib.hid (hr.trans hat); have HC := Lib.hid hc
      have hcv := conv_blk husz (box_bytes (V := w) rfl u)
      have HU := Lib.hid husz
      clear hr hat hc hb hs hv hv' hd hP h h1 h2 h3 husz
      go_enter Try.func16, Try.ntmps16
      go_wp2_with fail
      refine (CH).mono ?_
      rintro e w1 ⟨rfl, rfl⟩
      go_wp2_with (refine wpList_store_row rfl 74 (.tmp 7) (.tmp 22) rfl w.heap.size (bytesV u).toArray rfl rfl 74 _ (heap_alloc_last w _) (by rw [sz64 HU.out]; exact size74) (by rw [sz64 HU.out]; rfl) (all_one _) ?_; rw [World.setRow_alloc_new])
      go_ret2
      exact ⟨ret_si HR.out.symm HC.out.symm, (Below.refl _ _).alloc (Nat.le_refl _) _⟩
  · have hr : D.readS i = ⟨#[]⟩ := by unfold Dk.readS; rw [if_neg hc]
    have hb : (D.chk i != 0) = true := by simpa using hc
    have CH := check_any A D i w h
    have HR := Lib.hid hr
    clear hr hc h
    go_enter Try.func16, Try.ntmps16
    go_wp2_with fail
    refine (CH).mono ?_
    rintro e w1 ⟨rfl, rfl⟩
    go_wp2_with fail
    go_ret2
    exact ⟨ret_si HR.out.symm rfl, Below.refl _ _⟩
end Go.Proofs.Ytdanhfanepmhkaa
