/- The disk: Rot. -/
import Derived.Test.YtdanhfanepmhkaaDj
import Derived.Laws.Closers25b
namespace Go.Proofs.Ytdanhfanepmhkaa
open Go.RowKit Go.Maps Go.Sort

def flipV (x : UInt8) (q : Nat) : Int := bits BinOp.xor .u8 (x.toNat : Int) (2 ^ (q % 8) % 256)
def flipB (x : UInt8) (q : Nat) : UInt8 := UInt8.ofNat (flipV x q).toNat
theorem flipV_mk (x : UInt8) (q : Nat) : flipV x q = ((flipB x q).toNat : Int) := by
  have h := bits_within BinOp.xor .u8 (x.toNat : Int) (2 ^ (q % 8) % 256)
  have h1 : (0 : Int) ≤ flipV x q := h.1
  have h2 : flipV x q ≤ 255 := h.2
  unfold flipB
  have : (flipV x q).toNat < 256 := by omega
  simp [Nat.mod_eq_of_lt this]
  omega
def flip (q : Nat) (s : ByteArray) : ByteArray := ⟨(s.data.toList.set (q / 8) (flipB (s.data.toList.getD (q / 8) 0) q)).toArray⟩
theorem flip_size (q : Nat) (s : ByteArray) : (flip q s).size = s.size := by
  unfold flip
  show (List.toArray _).size = s.data.size
  simp
theorem bytesV_flip (q : Nat) (s : ByteArray) : bytesV (flip q s) = (bytesV s).set (q / 8) (.int .u8 (flipV (s.data.toList.getD (q / 8) 0) q)) := by
  unfold bytesV flip
  rw [flipV_mk, List.map_set]

theorem flat_set (S : List ByteArray) (hS : ∀ s, s ∈ S → s.size = 64) (k j : Nat) (hj : j < 64) (s u : ByteArray) (v : Value) (hk : S[k]? = some s) (hu : bytesV u = (bytesV s).set j v) :
    (S.set k u).flatMap bytesV = (S.flatMap bytesV).set (k * 64 + j) v := by
  induction S generalizing k with
  | nil => simp at hk
  | cons a r ih =>
    have ha : (bytesV a).length = 64 := by rw [bytesV_len]; exact hS a (by simp)
    cases k with
    | zero =>
      simp at hk; subst hk
      simp only [List.set_cons_zero, List.flatMap_cons, Nat.zero_mul, Nat.zero_add, hu]
      rw [List.set_append_left _ _ (by omega)]
    | succ k =>
      simp at hk
      simp only [List.set_cons_succ, List.flatMap_cons]
      rw [ih (fun s hs => hS s (by simp [hs])) k hk, List.set_append_right _ _ (by omega), ha, show (k + 1) * 64 + j - 64 = k * 64 + j by omega]

theorem Blk.flip {w : World} {g : Nat} {S : List ByteArray} (h : Blk w g S) {k q : Nat} {s : ByteArray} (hk : S[k]? = some s) (hq : q / 8 < 64) :
    Blk (w.setCell ⟨g, k * 64 + q / 8, none⟩ (.int .u8 (flipV (s.data.toList.getD (q / 8) 0) q))) g (S.set k (Ytdanhfanepmhkaa.flip q s)) := by
  obtain ⟨C, h1, ⟨R, h2⟩, h3⟩ := h
  have hlf : k * 64 + q / 8 < (S.flatMap bytesV).length := by
    have hf := flat64 S h3 k (q / 8) s hk hq
    have hz := h3 s (List.mem_of_getElem? hk)
    rcases Nat.lt_or_ge (k * 64 + q / 8) (S.flatMap bytesV).length with h | h
    · exact h
    · rw [List.getElem?_eq_none h, List.getElem?_eq_getElem (by rw [bytesV_len]; omega)] at hf; cases hf
  refine ⟨_, h1.put _ _, ⟨R, ?_⟩, fun x hx => ?_⟩
  · rw [Array.toList_setIfInBounds, h2, flat_set S h3 k (q / 8) hq s _ _ hk (bytesV_flip q s), List.set_append_left _ _ hlf]
  · rcases List.mem_or_eq_of_mem_set hx with hx | rfl
    · exact h3 x hx
    · rw [flip_size]; exact h3 s (List.mem_of_getElem? hk)

def Dk.rotE (D : Dk) (i b : Int) : Int := if D.inB i = true ∧ 0 ≤ b ∧ b < 512 then 0 else 1
def Dk.rotD (D : Dk) (i b : Int) : Dk := if D.inB i = true ∧ 0 ≤ b ∧ b < 512 then { D with S := D.S.set i.toNat (flip b.toNat ((D.S[i.toNat]?).getD zero64)) } else D

set_option maxRecDepth 100000 in
set_option maxHeartbeats 2000000 in
theorem rot_any (A : At) (D : Dk) (i b : Int) (w : World) (h : DskAt w A D) :
    Calls Try.prog 19 #[.pointer (some ⟨A.d, 0, none⟩), .int .i64 i, .int .i64 b] w fun e w' => e = .returned (.int .i64 (D.rotE i b)) ∧ DskAt w' A (D.rotD i b) ∧ Keeps A.F w w' := by
  have c0 := h.box.cell 0
  simp at c0
  have hlen := h.len
  have H := Lib.hid h
  by_cases hin : D.inB i = true ∧ 0 ≤ b ∧ b < 512
  · have hr : D.rotE i b = 0 := by unfold Dk.rotE; rw [if_pos hin]
    have hr2 : D.rotD i b = { D with S := D.S.set i.toNat (flip b.toNat ((D.S[i.toNat]?).getD zero64)) } := by unfold Dk.rotD; rw [if_pos hin]
    obtain ⟨h1, h3, h4⟩ := hin
    obtain ⟨h1, h2⟩ := inB_iff.1 h1
    obtain ⟨k, rfl⟩ : ∃ k : Nat, i = k := ⟨i.toNat, by omega⟩
    obtain ⟨q, rfl⟩ : ∃ q : Nat, b = q := ⟨b.toNat, by omega⟩
    have hk : k < D.S.length := by omega
    obtain ⟨s, hs⟩ := elem_at hk
    have hsz : s.size = 64 := by obtain ⟨C, _, _, h3⟩ := h.blk; exact h3 s (List.mem_of_getElem? hs)
    have HR := Lib.hid hr; have HR2 := Lib.hid hr2; have HS := Lib.hid hs
    have hq8 : q / 8 < 64 := by omega
    have hc := h.blk.bytes hs (q / 8) (by omega)
    have hfr : w.frozen? ⟨A.g, k * 64 + q / 8, none⟩ = false := by
      obtain ⟨C, hC, _⟩ := h.blk
      exact hC.frozen _
    have hn1 : ¬ (k : Int) < 0 := by omega
    have hn2 : ¬ (D.S.length : Int) ≤ k := by omega
    have hn3 : ¬ (q : Int) < 0 := by omega
    have hn4 : ¬ (512 : Int) ≤ q := by omega
    clear h hr hr2 hs
    go_enter Try.func19, Try.ntmps19
    go_wp2_with fail
    go_region
    have hx : flipV (s.data.toList.getD (q / 8) 0) q = bits BinOp.xor .u8 (s[q / 8].toNat : Int) (2 ^ (q % 8) % 256) := by
      unfold flipV
      have : s.data.toList.getD (q / 8) 0 = s[q / 8] := by
        have hl : q / 8 < s.data.size := by have : s.size = s.data.size := rfl; omega
        simp only [List.getD, ByteArray.getElem_eq_getElem_data, Array.getElem?_toList]
        rw [Array.getElem?_eq_getElem hl]; rfl
      rw [this]
    rw [← hx]
    go_wp2_with fail
    go_ret
    refine ⟨ret_int HR.out.symm, ?_, ((Keeps.refl _ _).setCell (.inr (.inl rfl)) _).drew⟩
    rw [HR2.out]
    simp only [Int.toNat_natCast, HS.out, Option.getD_some]
    exact (H.out.setBlk (Blk.flip H.out.blk HS.out hq8) (Keeps.setCell (F := fun b => b = A.g) (p := ⟨A.g, k * 64 + q / 8, none⟩) (Keeps.refl _ _) rfl _) (by rw [List.length_set])).keeps (F := fun _ => False) (Keeps.refl _ _).drew (fun _ _ h => h)
  · have hr : D.rotE i b = 1 := by unfold Dk.rotE; rw [if_neg hin]
    have hr2 : D.rotD i b = D := by unfold Dk.rotD; rw [if_neg hin]
    have HR := Lib.hid hr; have HR2 := Lib.hid hr2
    have h1 : i < 0 ∨ (D.S.length : Int) ≤ i ∨ b < 0 ∨ 512 ≤ b := by
      rw [inB_iff] at hin; omega
    clear hr hr2 hin h
    by_cases g1 : i < 0
    · go_enter Try.func19, Try.ntmps19
      go_wp2_with fail
      go_ret
      exact ⟨ret_int HR.out.symm, by rw [HR2.out]; exact H.out, Keeps.refl _ _⟩
    · by_cases g2 : (D.S.length : Int) ≤ i
      · go_enter Try.func19, Try.ntmps19
        go_wp2_with fail
        go_ret
        exact ⟨ret_int HR.out.symm, by rw [HR2.out]; exact H.out, Keeps.refl _ _⟩
      · by_cases g3 : b < 0
        · go_enter Try.func19, Try.ntmps19
          go_wp2_with fail
          go_ret
          exact ⟨ret_int HR.out.symm, by rw [HR2.out]; exact H.out, Keeps.refl _ _⟩
        · have g4 : (512 : Int) ≤ b := by omega
          go_enter Try.func19, Try.ntmps19
          go_wp2_with fail
          go_ret
          exact ⟨ret_int HR.out.symm, by rw [HR2.out]; exact H.out, Keeps.refl _ _⟩
end Go.Proofs.Ytdanhfanepmhkaa
