/- Plain laws of a flipped bit. -/
import Derived.Test.YtdanhfanepmhkaaFk
namespace Go.Proofs.Ytdanhfanepmhkaa
open Go.RowKit Go.Maps Go.Sort

theorem xor_fin : ∀ (x : Fin 256) (r : Fin 8), bits BinOp.xor .i64 (x.val : Int) (bits BinOp.xor .u8 (x.val : Int) (2 ^ r.val % 256)) = 2 ^ r.val ∧ bits BinOp.xor .u8 (bits BinOp.xor .u8 (x.val : Int) (2 ^ r.val % 256)) (2 ^ r.val % 256) = x.val ∧ bits BinOp.xor .u8 (x.val : Int) (2 ^ r.val % 256) ≠ x.val := by decide +kernel
theorem xor_same : ∀ (x : Fin 256), bits BinOp.xor .i64 (x.val : Int) (x.val : Int) = 0 := by decide +kernel

theorem flip_xor (x : UInt8) (q : Nat) : bits BinOp.xor .i64 (x.toNat : Int) ((flipB x q).toNat : Int) = 2 ^ (q % 8) := by
  have := (xor_fin ⟨x.toNat, x.toNat_lt⟩ ⟨q % 8, Nat.mod_lt _ (by omega)⟩).1
  rw [← flipV_mk]
  exact this
theorem flip_ne (x : UInt8) (q : Nat) : flipB x q ≠ x := by
  have h := (xor_fin ⟨x.toNat, x.toNat_lt⟩ ⟨q % 8, Nat.mod_lt _ (by omega)⟩).2.2
  intro e
  apply h
  have h2 := flipV_mk x q
  rw [e] at h2
  exact h2
theorem flip_flipB (x : UInt8) (q : Nat) : flipB (flipB x q) q = x := by
  have h := (xor_fin ⟨x.toNat, x.toNat_lt⟩ ⟨q % 8, Nat.mod_lt _ (by omega)⟩).2.1
  have h1 := flipV_mk x q
  have h2 := flipV_mk (flipB x q) q
  have h3 : flipV (flipB x q) q = (x.toNat : Int) := by
    unfold flipV
    rw [← h1]
    exact h
  rw [h2] at h3
  exact UInt8.toNat_inj.1 (by omega)
theorem byte_xor (x : UInt8) : bits BinOp.xor .i64 (x.toNat : Int) (x.toNat : Int) = 0 := xor_same ⟨x.toNat, x.toNat_lt⟩

theorem flip_at (q : Nat) (s : ByteArray) (j : Nat) (hj : j < s.size) : (flip q s).data.toList[j]? = some (if q / 8 = j then flipB (s.data.toList.getD j 0) q else s.data.toList.getD j 0) := by
  have hl : j < s.data.toList.length := by simpa using hj
  unfold flip
  show (List.toArray _).toList[j]? = _
  rw [List.getElem?_set]
  by_cases e : q / 8 = j
  · rw [if_pos e, if_pos (by rw [e]; exact hl), if_pos e, e]
  · rw [if_neg e, if_neg e, List.getElem?_eq_getElem hl, List.getD_eq_getElem?_getD, List.getElem?_eq_getElem hl]; rfl
theorem byte_get {s : ByteArray} {j : Nat} (hj : j < s.size) : s[j] = s.data.toList.getD j 0 := by
  have hl : j < s.data.toList.length := by simpa using hj
  rw [List.getD_eq_getElem?_getD, List.getElem?_eq_getElem hl]
  simp [ByteArray.getElem_eq_getElem_data]
theorem flip_get {s : ByteArray} {q j : Nat} (hj : j < s.size) : (flip q s)[j]'(by rw [flip_size]; exact hj) = if q / 8 = j then flipB s[j] q else s[j] := by
  have h := flip_at q s j hj
  rw [byte_get hj, byte_get (s := flip q s) (by rw [flip_size]; exact hj), List.getD_eq_getElem?_getD, h]; rfl
theorem flip_flip (q : Nat) (s : ByteArray) : flip q (flip q s) = s := by
  have hs := flip_size q s
  apply ByteArray.ext_getElem
  · rw [flip_size, flip_size]
  · intro j h1 h2
    have h3 : j < (flip q s).size := by rw [hs]; exact h2
    rw [flip_get h3, flip_get h2]
    by_cases e : q / 8 = j
    · rw [if_pos e, if_pos e, flip_flipB]
    · rw [if_neg e, if_neg e]
theorem flip_neS (q : Nat) (s : ByteArray) (hq : q / 8 < s.size) : flip q s ≠ s := by
  intro e
  have h := flip_get (s := s) (q := q) hq
  rw [if_pos rfl] at h
  have h2 : (flip q s)[q / 8]'(by rw [flip_size]; exact hq) = s[q / 8] := by congr 1
  exact flip_ne _ _ (h.symm.trans h2)
end Go.Proofs.Ytdanhfanepmhkaa
