/- Arguments that came in, read as lists and bytes; common divisors. -/
import Derived.Test.YtidojiegkdchpaaAx
import Derived.WalkKit
import Derived.ProofKit
import Derived.Deep.Slices
import Derived.SizedLaws
import Derived.OpenShut
namespace Go.Proofs.Ytidojiegkdchpaa
open Go.ChangeShapes Go.WideShapes Go.ChangeAt Go.RowKit

theorem addr_add (b off i : Nat) : (⟨b, off, none⟩ : Addr).add i = ⟨b, off + i, none⟩ := by
  unfold Addr.add
  split
  · next h => subst h; rfl
  · rfl
theorem spot_none {W : World} {a : Addr} {v : Value} (h : W.cell? a = some v) : a.spot = none := by
  unfold World.cell? at h
  split at h
  · split at h
    · cases h
    · rename_i hs; simpa using hs
  · cases h

section
variable {H : Type} {enc : TypeId × Value → H} {W : World}

theorem rd_ints0 {fuel : Nat} {v : Value} {x : DataW H × List MemPlace} (h : DataW.trod enc Try.prog W 0 (fun _ => true) true fuel 22 [v] = some x) :
    ∃ xs : List Int, RdI W v xs ∧ inI xs := by
  rcases open_ints Try.underlying22 Try.underlying3 (by kernel_rfl) h with ⟨hcs, _⟩ | ⟨x, l, c, zs, hcs, _, hl, hm, hz, _, hcell, hwz⟩
  · cases hcs
    exact ⟨[], RdI.none W, fun x hx => by cases hx⟩
  · cases hcs
    have hzl : zs.length = c := by simpa using hz
    have hc9 : c ≤ 9223372036854775807 := by unfold maxLen at hm; omega
    have htl : (zs.take l).length = l := by rw [List.length_take, hzl, Nat.min_eq_left hl]
    refine ⟨zs.take l, ⟨some x, c, by rw [ints_len, htl], by rw [ints_len, htl]; exact hl, hc9, ?_⟩, fun y hy => bounds_i64 (hwz y (List.mem_of_mem_take hy))⟩
    rcases Nat.eq_zero_or_pos l with h0 | hp
    · left; rw [ints_len, htl, h0]
    · right
      have h00 := hcell 0 (by omega)
      obtain ⟨xb, xo, xs⟩ := x
      have hsp : xs = none := by
        have := spot_none h00
        unfold Addr.add at this
        simpa using this
      subst hsp
      have hlt : xb < W.heap.size := by
        have := World.block_lt_of_cell? _ _ h00
        rw [addr_add] at this; exact this
      refine ⟨xb, xo, rfl, hlt, fun j u hu => ?_⟩
      unfold ints at hu
      rw [List.getElem?_map] at hu
      obtain ⟨y, hy, rfl⟩ := Option.map_eq_some_iff.1 hu
      rw [List.getElem?_take] at hy
      split at hy
      · obtain ⟨h1, h2⟩ := List.getElem?_eq_some_iff.1 hy
        have := hcell j h1
        rw [addr_add] at this
        rw [this, List.getD_eq_getElem?_getD, hy]; rfl
      · cases hy
set_option maxRecDepth 100000 in
theorem rd_list {base : Nat} {v : Value} {d : DataW H} {p : List MemPlace} (hv : Value.okWide Try.prog W .any base 22 v) (h : DataW.Trod enc Try.prog W 0 (fun _ => true) true 22 v d p) : ∃ xs : List Int, RdI W v xs ∧ inI xs := by
  obtain ⟨a, len, cap, rfl⟩ := okWide_slice Try.underlying22 hv
  obtain ⟨fuel, hf⟩ := h
  exact rd_ints0 hf
end
theorem rd_byte {a : Int} (h : (Lit.int .u8 a).wf = true) : ∃ c : UInt8, a = c.toNat := by
  simp [Lit.wf, IntKind.min, IntKind.max, IntKind.signed, IntKind.bits] at h
  refine ⟨UInt8.ofNat a.toNat, ?_⟩
  have : a.toNat < 256 := by omega
  simp [Nat.mod_eq_of_lt this]
  omega

/-! ### common divisors -/
def comF (a b : Int) : Bool := Nat.gcd a.natAbs b.natAbs != 1
set_option maxHeartbeats 1000000 in
theorem common_any (a b : Int) (ha : -2000 ≤ a) (ha' : a ≤ 2000) (hb : 0 ≤ b) (hb' : b ≤ 2000) (w : World) :
    Calls Try.prog 20 #[.int .i64 a, .int .i64 b] w fun e w' => e = .returned (.bool (comF a b)) ∧ w = w' := by
  have hcf : comF a b = (Nat.gcd a.natAbs b.natAbs != 1) := rfl
  have HCF := Lib.hid hcf
  clear hcf
  by_cases h : a < 0
  · obtain ⟨n, hn⟩ : ∃ n : Nat, a = -(n : Int) := ⟨a.natAbs, by omega⟩
    obtain ⟨k, hk⟩ : ∃ k : Nat, b = (k : Int) := ⟨b.toNat, by omega⟩
    have hna : a.natAbs = n := by omega
    have hkb : b.natAbs = k := by omega
    rw [hna, hkb] at HCF
    subst hn hk
    clear hna hkb
    go_enter Try.func20, Try.ntmps20
    go_wp2_with fail
    go_loopw [0, 1] (fun p q wr => ∃ x y : Nat, p = .int .i64 x ∧ q = .int .i64 y ∧ x ≤ 2000 ∧ y ≤ 2000 ∧ Nat.gcd x y = Nat.gcd n k ∧ wr = w) (fun p _ _ => (intOf p).toNat)
    case atStart => exact ⟨n, k, by simp, rfl, by omega, by omega, rfl, rfl⟩
    case round =>
      obtain ⟨x, y, rfl, rfl, hx, hy, hg, rfl⟩ := hrel
      have HG := Lib.hid hg
      clear hg
      by_cases h0 : x = 0
      · subst h0
        have hg := HG.out
        rw [Nat.gcd_zero_left] at hg
        have hr : comF (-(n : Int)) (k : Int) = ((y : Int) != 1) := by
          rw [HCF.out, ← hg]
          by_cases h1 : y = 1
          · simp [h1]
          · have : ((y : Int) != 1) = true := by rw [bne_iff_ne]; omega
            rw [this, bne_iff_ne]; exact h1
        have HR := Lib.hid hr
        clear hr hg
        go_wp2_with fail
        go_ret
        exact ⟨ret_bool HR.out.symm, rfl⟩
      · have e1 : ((x : Int) != 0) = true := by rw [bne_iff_ne]; omega
        have e2 : (y : Int).tmod (x : Int) = ((y % x : Nat) : Int) := by rw [Int.tmod_eq_emod_of_nonneg (by omega)]; simp
        have e4 : (x : Int) ≠ 0 := by omega
        have hlt : y % x < x := Nat.mod_lt _ (by omega)
        have hgg : Nat.gcd (y % x) x = Nat.gcd n k := by rw [← HG.out, Nat.gcd_rec x y]
        have HGG := Lib.hid hgg
        clear hgg
        generalize y % x = r at *
        go_wp2_with fail
        go_roundw
        case rel => exact ⟨r, x, rfl, rfl, by omega, hx, HGG.out, by first | rfl | trivial⟩
        case measure => simp [intOf]; omega
  · obtain ⟨n, hn⟩ : ∃ n : Nat, a = (n : Int) := ⟨a.toNat, by omega⟩
    obtain ⟨k, hk⟩ : ∃ k : Nat, b = (k : Int) := ⟨b.toNat, by omega⟩
    have hna : a.natAbs = n := by omega
    have hkb : b.natAbs = k := by omega
    rw [hna, hkb] at HCF
    subst hn hk
    clear hna hkb
    go_enter Try.func20, Try.ntmps20
    go_wp2_with fail
    go_loopw [0, 1] (fun p q wr => ∃ x y : Nat, p = .int .i64 x ∧ q = .int .i64 y ∧ x ≤ 2000 ∧ y ≤ 2000 ∧ Nat.gcd x y = Nat.gcd n k ∧ wr = w) (fun p _ _ => (intOf p).toNat)
    case atStart => exact ⟨n, k, rfl, rfl, by omega, by omega, rfl, rfl⟩
    case round =>
      obtain ⟨x, y, rfl, rfl, hx, hy, hg, rfl⟩ := hrel
      have HG := Lib.hid hg
      clear hg
      by_cases h0 : x = 0
      · subst h0
        have hg := HG.out
        rw [Nat.gcd_zero_left] at hg
        have hr : comF (n : Int) (k : Int) = ((y : Int) != 1) := by
          rw [HCF.out, ← hg]
          by_cases h1 : y = 1
          · simp [h1]
          · have : ((y : Int) != 1) = true := by rw [bne_iff_ne]; omega
            rw [this, bne_iff_ne]; exact h1
        have HR := Lib.hid hr
        clear hr hg
        go_wp2_with fail
        go_ret
        exact ⟨ret_bool HR.out.symm, rfl⟩
      · have e1 : ((x : Int) != 0) = true := by rw [bne_iff_ne]; omega
        have e2 : (y : Int).tmod (x : Int) = ((y % x : Nat) : Int) := by rw [Int.tmod_eq_emod_of_nonneg (by omega)]; simp
        have e4 : (x : Int) ≠ 0 := by omega
        have hlt : y % x < x := Nat.mod_lt _ (by omega)
        have hgg : Nat.gcd (y % x) x = Nat.gcd n k := by rw [← HG.out, Nat.gcd_rec x y]
        have HGG := Lib.hid hgg
        clear hgg
        generalize y % x = r at *
        go_wp2_with fail
        go_roundw
        case rel => exact ⟨r, x, rfl, rfl, by omega, hx, HGG.out, by first | rfl | trivial⟩
        case measure => simp [intOf]; omega
end Go.Proofs.Ytidojiegkdchpaa
