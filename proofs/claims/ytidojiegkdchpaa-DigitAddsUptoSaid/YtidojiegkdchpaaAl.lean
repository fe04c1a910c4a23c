/- slices.Sort and slices.Compact of strings: the shelf's contracts laid (plain text, printed by the shelf's own tool), read as lists. -/
import Derived.Test.YtidojiegkdchpaaAk
import Derived.Shelf.SortM.Plain
import Derived.Shelf.SortM.SortNone
import Derived.Shelf.SlicesE.Compact
import Derived.Ground.SlgmProg
import Derived.Ground.SlgnProg
import Derived.Sort.OwnSorted
namespace Go.Proofs.Ytidojiegkdchpaa
open Go.Shelf
def Try.sortL_ren : Go.Shelf.Ren := ⟨fun | 6 => 44 | 8 => 52 | 9 => 51 | 19 => 64 | 20 => 65 | 21 => 55 | 22 => 56 | 23 => 57 | 24 => 58 | 25 => 59 | 26 => 60 | 27 => 61 | 28 => 62 | 29 => 63 | 36 => 66 | 31 => 67 | 32 => 68 | 37 => 69 | 38 => 70 | 39 => 71 | 41 => 72 | n => n, fun | 27 => 49 | 29 => 9 | 3 => 3 | 32 => 82 | 26 => 49 | 0 => 0 | 44 => 94 | 46 => 96 | 4 => 4 | 36 => 86 | 35 => 85 | 41 => 91 | 5 => 5 | 9 => 9 | 53 => 97 | 57 => 101 | 63 => 104 | 64 => 105 | n => n, fun | n => n⟩
theorem Try.sortL : Go.Proofs.SlLaysM.n6 Try.prog Try.sortL_ren := {
  mixed := by kernel_rfl
  f6 := ⟨Try.f44.name, by decide, Try.func44.trans (congrArg some (by kernel_rfl))⟩
  f8 := Try.func52.trans (congrArg some (by kernel_rfl))
  f9 := ⟨Try.f51.name, by decide, Try.func51.trans (congrArg some (by kernel_rfl))⟩
  f19 := Try.func64.trans (congrArg some (by kernel_rfl))
  f20 := Try.func65.trans (congrArg some (by kernel_rfl))
  f21 := ⟨Try.f55.name, by decide, Try.func55.trans (congrArg some (by kernel_rfl))⟩
  f22 := ⟨Try.f56.name, by decide, Try.func56.trans (congrArg some (by kernel_rfl))⟩
  f23 := ⟨Try.f57.name, by decide, Try.func57.trans (congrArg some (by kernel_rfl))⟩
  f24 := ⟨Try.f58.name, by decide, Try.func58.trans (congrArg some (by kernel_rfl))⟩
  f25 := ⟨Try.f59.name, by decide, Try.func59.trans (congrArg some (by kernel_rfl))⟩
  f26 := ⟨Try.f60.name, by decide, Try.func60.trans (congrArg some (by kernel_rfl))⟩
  f27 := ⟨Try.f61.name, by decide, Try.func61.trans (congrArg some (by kernel_rfl))⟩
  f28 := ⟨Try.f62.name, by decide, Try.func62.trans (congrArg some (by kernel_rfl))⟩
  f29 := ⟨Try.f63.name, by decide, Try.func63.trans (congrArg some (by kernel_rfl))⟩
  f31 := Try.func67.trans (congrArg some (by kernel_rfl))
  f32 := Try.func68.trans (congrArg some (by kernel_rfl))
  f36 := ⟨Try.f66.name, by decide, Try.func66.trans (congrArg some (by kernel_rfl))⟩
  f37 := ⟨Try.f69.name, by decide, Try.func69.trans (congrArg some (by kernel_rfl))⟩
  f38 := ⟨Try.f70.name, by decide, Try.func70.trans (congrArg some (by kernel_rfl))⟩
  f39 := ⟨Try.f71.name, by decide, Try.func71.trans (congrArg some (by kernel_rfl))⟩
  f41 := ⟨Try.f72.name, by decide, Try.func72.trans (congrArg some (by kernel_rfl))⟩
  t0 := Try.underlying0
  a0 := Try.isAgg0
  z0 := Try.sizeOf0
  v0 := Try.zeroValue0
  t3 := Try.underlying3
  a3 := Try.isAgg3
  z3 := Try.sizeOf3
  v3 := Try.zeroValue3
  t4 := Try.underlying4
  a4 := Try.isAgg4
  z4 := Try.sizeOf4
  v4 := Try.zeroValue4
  t5 := Try.underlying5
  a5 := Try.isAgg5
  z5 := Try.sizeOf5
  v5 := Try.zeroValue5
  t9 := Try.underlying9
  a9 := Try.isAgg9
  z9 := Try.sizeOf9
  v9 := Try.zeroValue9
  t26 := Try.underlying49
  a26 := Try.isAgg49
  z26 := Try.sizeOf49
  v26 := Try.zeroValue49
  t27 := Try.underlying49
  a27 := Try.isAgg49
  z27 := Try.sizeOf49
  v27 := Try.zeroValue49
  t29 := Try.underlying9
  a29 := Try.isAgg9
  z29 := Try.sizeOf9
  v29 := Try.zeroValue9
  t32 := Try.underlying82
  a32 := Try.isAgg82
  z32 := Try.sizeOf82
  v32 := Try.zeroValue82
  t35 := Try.underlying85
  a35 := Try.isAgg85
  z35 := Try.sizeOf85
  v35 := Try.zeroValue85
  t36 := Try.underlying86
  a36 := Try.isAgg86
  z36 := Try.sizeOf86
  v36 := Try.zeroValue86
  t41 := Try.underlying91
  a41 := Try.isAgg91
  z41 := Try.sizeOf91
  v41 := Try.zeroValue91
  t44 := Try.underlying94
  a44 := Try.isAgg94
  z44 := Try.sizeOf94
  v44 := Try.zeroValue94
  t46 := Try.underlying96
  a46 := Try.isAgg96
  z46 := Try.sizeOf96
  v46 := Try.zeroValue96
  t53 := Try.underlying97
  a53 := Try.isAgg97
  z53 := Try.sizeOf97
  v53 := Try.zeroValue97
  t57 := Try.underlying101
  a57 := Try.isAgg101
  z57 := Try.sizeOf101
  v57 := Try.zeroValue101
  t63 := Try.underlying104
  a63 := Try.isAgg104
  z63 := Try.sizeOf104
  v63 := Try.zeroValue104
  t64 := Try.underlying105
  a64 := Try.isAgg105
  z64 := Try.sizeOf105
  v64 := Try.zeroValue105 }
def Try.compL_ren : Go.Shelf.Ren := ⟨fun | 43 => 45 | n => n, fun | 22 => 49 | 23 => 9 | 3 => 3 | 4 => 4 | 0 => 0 | n => n, fun | n => n⟩
theorem Try.compL : Go.Proofs.SlLaysE.n43 Try.prog Try.compL_ren := {
  mixed := by kernel_rfl
  f43 := ⟨Try.f45.name, by decide, Try.func45.trans (congrArg some (by kernel_rfl))⟩
  t0 := Try.underlying0
  a0 := Try.isAgg0
  z0 := Try.sizeOf0
  v0 := Try.zeroValue0
  t3 := Try.underlying3
  a3 := Try.isAgg3
  z3 := Try.sizeOf3
  v3 := Try.zeroValue3
  t4 := Try.underlying4
  a4 := Try.isAgg4
  z4 := Try.sizeOf4
  v4 := Try.zeroValue4
  t22 := Try.underlying49
  a22 := Try.isAgg49
  z22 := Try.sizeOf49
  v22 := Try.zeroValue49
  a23 := Try.isAgg9
  z23 := Try.sizeOf9 }

open Go.RowKit Go.Maps Go.Sort Go.Lib
def sortL (ss : List (List UInt8)) : List (List UInt8) := ss.mergeSort fun x y => decide (x ≤ y)
theorem sortL_len (ss : List (List UInt8)) : (sortL ss).length = ss.length := by unfold sortL; simp
def compL (ss : List (List UInt8)) : List (List UInt8) := compactUpTo ss.toArray ss.toArray.size

theorem sort_any (v : Value) (ss : List (List UInt8)) (base : Nat) (w : World) (h : w.ownsRow base 9 1 v ss.length (ss.map encStr)) (hl : ss.length < 4611686018427387904) :
    Calls Try.prog 44 #[v] w fun e w' => e = .returned (.tuple #[]) ∧ w'.ownsRow base 9 1 v ss.length ((sortL ss).map encStr) ∧ w.grownBy w' v.ownBlock := by
  rcases h.2 with ⟨rfl, h0⟩ | ⟨g, cap, cur, rfl, hbase, hb, h1, h2, h3, h4⟩
  · have c := AnyM.slices_Sort_string_none Try.sortL none 0 w
    change Calls Try.prog 44 _ _ _ at c
    rw [h0]
    refine c.mono ?_
    rintro e w' ⟨rfl, rfl⟩
    have : ss = [] := List.eq_nil_of_length_eq_zero h0
    subst this
    exact ⟨rfl, by rw [show sortL [] = [] by unfold sortL; simp]; exact World.ownsRow_nil _ _ _ _, ⟨rfl, rfl, rfl, Nat.le_refl _, fun _ _ _ => rfl⟩⟩
  · have c := AnyM.slices_Sort_string Try.sortL g 0 cap ss w (holds_of_block hb (by simpa using h4)) (Array.getElem?_eq_some_iff.1 hb).1 hl
    change Calls Try.prog 44 _ _ _ at c
    refine c.mono ?_
    rintro e w' ⟨rfl, n, os, rfl⟩
    exact ⟨rfl, ownsRow_sorted (sortL_len ss) hbase hb h1 h2 h3, grownBy_sorted _⟩

theorem enc_eq (x y : List UInt8) : ((ByteArray.mk x.toArray).toList == (ByteArray.mk y.toArray).toList) = decide (x = y) := by
  rw [ByteArray.toList_eq, ByteArray.toList_eq]
  by_cases h : x = y <;> simp [h]
theorem eqlS : EqlAt Try.prog 9 encStr (fun x y => decide (x = y)) := ⟨fun x y w => ((EqlAt.string Try.prog 9).1 ⟨x.toArray⟩ ⟨y.toArray⟩ w).trans (by dsimp only; rw [enc_eq]), fun op a b x y w => (EqlAt.string Try.prog 9).2 op a b ⟨x.toArray⟩ ⟨y.toArray⟩ w⟩
theorem neqS : NeqAt Try.prog 9 encStr (fun x y => decide (x = y)) := ⟨fun x y w => ((NeqAt.string Try.prog 9).1 ⟨x.toArray⟩ ⟨y.toArray⟩ w).trans (by dsimp only; rw [enc_eq]), fun op a b x y w => (NeqAt.string Try.prog 9).2 op a b ⟨x.toArray⟩ ⟨y.toArray⟩ w⟩
theorem compL_len (ss : List (List UInt8)) : (compL ss).length ≤ ss.length := by
  unfold compL compactUpTo
  rw [List.length_map]
  have := List.length_filter_le (keeps ss.toArray) (List.range ss.toArray.size)
  simpa using this

set_option maxHeartbeats 1000000 in
theorem compact_nil (w : World) : Calls Try.prog 45 #[.slice none 0 0] w fun e w' => e = .returned (.slice none 0 0) ∧ w = w' := by
  go_enter Try.func45, Try.ntmps45
  go_wp2
  go_ret
  exact ⟨rfl, rfl⟩

theorem compact_any (v : Value) (ss : List (List UInt8)) (base : Nat) (w : World) (h : w.ownsRow base 9 1 v ss.length (ss.map encStr)) (hl : ss.length ≤ 9223372036854775807) :
    Calls Try.prog 45 #[v] w fun e w' => ∃ v', e = .returned v' ∧ RdS w' v' ((compL ss).map bs) ∧ w.grownBy w' v.ownBlock := by
  rcases h.2 with ⟨rfl, h0⟩ | ⟨g, cap, cur, rfl, hbase, hb, h1, h2, h3, h4⟩
  · refine (compact_nil w).mono ?_
    rintro e w' ⟨rfl, rfl⟩
    have : ss = [] := List.eq_nil_of_length_eq_zero h0
    subst this
    exact ⟨_, rfl, RdS.none _, ⟨rfl, rfl, rfl, Nat.le_refl _, fun _ _ _ => rfl⟩⟩
  · have c := AnyE.slices_Compact Try.compL encStr (fun _ => rfl) eqlS neqS [] (fun w => Try.zeroValue9 w) g 0 cap ss.toArray w (holds_of_block hb (by simpa using h4)) (by simpa using hl) (by simpa using h1)
    change Calls Try.prog 45 _ _ _ at c
    simp only [List.size_toArray] at c
    refine c.mono ?_
    rintro e w' ⟨rfl, q, rfl⟩
    have hcl := compL_len ss
    have hsum : (compL ss ++ List.replicate (ss.length - (compL ss).length) []).length = ss.length := by
      rw [List.length_append, List.length_replicate]; omega
    have ho := ownsRow_sorted (n := q) (os := #[]) hsum hbase hb h1 h2 h3
    have hg := grownBy_sorted (w := w) (g := g) (n := q) (os := #[]) (compL ss ++ List.replicate (ss.length - (compL ss).length) []).toArray
    rw [grow_empty] at ho hg
    refine ⟨_, rfl, ?_, hg⟩
    have hlen : (strs ((compL ss).map bs)).length = (compL ss).length := by unfold strs; rw [List.length_map, List.length_map]
    refine ⟨some ⟨g, 0, none⟩, cap, by rw [hlen]; rfl, by rw [hlen]; omega, by unfold maxLen at h2; omega, .inr ⟨g, 0, rfl, ?_, fun j u hu => ?_⟩⟩
    · exact Nat.lt_of_lt_of_le (Array.getElem?_eq_some_iff.1 hb).1 hg.size
    · have hu' : ((compL ss).map encStr)[j]? = some u := by
        rw [← hu]; unfold strs; rw [List.map_map]; rfl
      have hx := World.ownsRow.cells ho (g := g) rfl j u (by rw [List.map_append, List.getElem?_append_left (by have := (List.getElem?_eq_some_iff.1 hu').1; exact this)]; exact hu')
      have hadd : (⟨g, 0, none⟩ : Addr).add j = ⟨g, j, none⟩ := by unfold Addr.add; split <;> simp_all
      rw [hadd] at hx
      rw [Nat.zero_add]
      exact hx
end Go.Proofs.Ytidojiegkdchpaa
