/- ImposeFolds: the walk of the law's function: it returns true for all numbers and sheets. -/
import Derived.Test.YthldekpbjfhmcaaZa
import Derived.Test.YthldekpbjfhmcaaZg
import Derived.Test.YthldekpbjfhmcaaZh
import Derived.Test.YthldekpbjfhmcaaYd
namespace Go.Proofs.Ythldekpbjfhmcaa
open Go.RowKit

theorem fold_len (p k : Int) : (fold p k).length ≤ 600 := by
  by_cases h0 : errOf p k = 0
  · obtain ⟨hp1, hp2, hk1, hk2, hk3⟩ := errOf_zero h0
    have := nh_bd p k (cnt p k).toNat 0 hp1 hp2 hk1 hk2 (by have := cnt_bd p k hp1 hp2 hk1 hk2; omega) (by omega)
    rw [List.length_append] at this; unfold fold; rw [if_pos h0]; omega
  · rw [fold_err p k h0]; simp

theorem check_fold (p k : Int) : checkR p k (fold p k) = errOf p k := by
  unfold checkR
  by_cases h0 : errOf p k = 0
  · rw [if_pos h0, if_pos rfl, h0]
  · rw [if_neg h0]

theorem rcheckR_any (p k : Int) (v : Value) (ys : List Sh) (w : World) (hp : -9223372036854775808 ≤ p) (hp' : p ≤ 9223372036854775807) (hk : -9223372036854775808 ≤ k) (hk' : k ≤ 9223372036854775807) (h1 : RdS w v ys) :
    Calls Try.prog 36 #[.int .i64 p, .int .i64 k, v] w fun e w' => e = .returned (.int .i64 (checkR p k ys)) ∧ Below w.heap.size w w' :=
  rcheck_any p k v ys w hp hp' hk hk' h1

def vols (p k pages leaves : Int) : List (Int × Int) := [(p, k), (pages, leaves), (p, leaves), (pages, k)]
theorem vols_at (p k pages leaves : Int) (hp : -9223372036854775808 ≤ p) (hp' : p ≤ 9223372036854775807) (hk : -9223372036854775808 ≤ k) (hk' : k ≤ 9223372036854775807) (hg : -9223372036854775808 ≤ pages) (hg' : pages ≤ 9223372036854775807) (hl : -9223372036854775808 ≤ leaves) (hl' : leaves ≤ 9223372036854775807) (i : Nat) (hi : i < 4) :
    ∃ x y, (vols p k pages leaves)[i]? = some (x, y) ∧ -9223372036854775808 ≤ x ∧ x ≤ 9223372036854775807 ∧ -9223372036854775808 ≤ y ∧ y ≤ 9223372036854775807 := by
  obtain rfl | rfl | rfl | rfl : i = 0 ∨ i = 1 ∨ i = 2 ∨ i = 3 := by omega
  all_goals exact ⟨_, _, rfl, by omega, by omega, by omega, by omega⟩

set_option maxRecDepth 100000 in
set_option maxHeartbeats 8000000 in
theorem folds_any (LV : Lives) (n m how bb pages leaves : Int) (v6 : Value) (raw : List Sh) (w : World) (hn : -9223372036854775808 ≤ n) (hn' : n ≤ 9223372036854775807) (hm : -9223372036854775808 ≤ m) (hm' : m ≤ 9223372036854775807)
    (hh : -9223372036854775808 ≤ how) (hh' : how ≤ 9223372036854775807) (hb : -9223372036854775808 ≤ bb) (hb' : bb ≤ 9223372036854775807) (hg : -9223372036854775808 ≤ pages) (hg' : pages ≤ 9223372036854775807) (hl : -9223372036854775808 ≤ leaves) (hl' : leaves ≤ 9223372036854775807)
    (R6 : RdS w v6 raw) (hraw : raw.length * 40 ≤ 140737488351232) :
    Calls Try.prog 8 #[.int .i64 n, .int .i64 m, .int .i64 how, .int .i64 bb, .int .i64 pages, .int .i64 leaves, v6] w fun e w' => e = .returned (.bool true) ∧ Below w.heap.size w w' := by
  go_enter Try.func8, Try.ntmps8
  go_wp2_with fail
  refine (volume_any n m _ hn hn' hm hm').mono ?_
  rintro e w1 ⟨⟨p, k, rfl, p1, p2, k1, k2⟩, BB⟩
  have R6 := Rd.below R6 BB
  have R0 : RdP (w1.alloc (.cells #[.int .i64 p, .int .i64 k, .int .i64 pages, .int .i64 leaves, .int .i64 p, .int .i64 leaves, .int .i64 pages, .int .i64 k] 43)) (.slice (some ⟨w1.heap.size, 0, none⟩) 4 4) (vols p k pages leaves) := Rd_block (cs := #[.int .i64 p, .int .i64 k, .int .i64 pages, .int .i64 leaves, .int .i64 p, .int .i64 leaves, .int .i64 pages, .int .i64 k]) (t := 43) (n := 4) (sz := 2) (heap_alloc_new w1 _) rfl (by omega)
  have B0 : Below w1.heap.size w1 (w1.alloc (.cells #[.int .i64 p, .int .i64 k, .int .i64 pages, .int .i64 leaves, .int .i64 p, .int .i64 leaves, .int .i64 pages, .int .i64 k] 43)) := (Below.refl w1.heap.size w1).alloc (Nat.le_refl _) _
  have R6 := Rd.below R6 B0
  have BB := BB.trans (B0.mono BB.size)
  clear B0
  have HR0 := Lib.hid R0; have HR6 := Lib.hid R6; have HBB := Lib.hid BB
  clear R0 R6 BB
  go_wp2_with fail
  generalize hW : (w1.alloc (.cells #[.int .i64 p, .int .i64 k, .int .i64 pages, .int .i64 leaves, .int .i64 p, .int .i64 leaves, .int .i64 pages, .int .i64 k] 43)) = W at HR0 HR6 HBB ⊢
  clear hW
  generalize w1.heap.size = bW at HR0 ⊢
  go_loopw [18] (fun i wr => ∃ t : Nat, t ≤ 4 ∧ i = .int .i64 t ∧ Below W.heap.size W wr) (fun i _ => 4 - (intOf i).toNat)
  case atStart => exact ⟨0, by omega, rfl, Below.refl _ _⟩
  case round =>
    obtain ⟨t, ht, rfl, hbl⟩ := hrel
    by_cases hlt : t < 4
    · obtain ⟨a, b, hx, a1, a2, b1, b2⟩ := vols_at p k pages leaves (by omega) (by omega) (by omega) (by omega) hg hg' hl hl' t hlt
      obtain ⟨_, _, hv, _, g⟩ := RdP.open (Rd.below HR0.out hbl)
      obtain ⟨bx, ox, hp, _, g0, g1⟩ := g t (a, b) hx
      cases hv
      cases hp
      have R6 := Rd.below HR6.out hbl
      have HB := Lib.hid hbl
      clear g hx hbl
      rw [Nat.zero_add] at g0 g1
      go_wp2_with fail
      clear g0 g1
      have hfl := fold_len a b
      have hcf := check_fold a b
      have HCF := Lib.hid hcf
      clear hcf
      refine (quiresL_any a b _ a1 a2 b1 b2).mono ?_
      rintro e x2 ⟨v21, rfl, o, c⟩
      have R21 : RdP x2 v21 (quires a b) := Rd_of_owns o
      have R6 := Rd.below R6 c
      have HB := Lib.hid (HB.out.trans (c.mono HB.out.size))
      clear o c
      go_wp2_with fail
      refine (rquires_any a b _ a1 a2 b1 b2).mono ?_
      rintro e x3 ⟨v23, rfl, o, c⟩
      have R23 : RdP x3 v23 (quires a b) := Rd_of_owns o
      have R21 := Rd.below R21 c
      have R6 := Rd.below R6 c
      have HB := Lib.hid (HB.out.trans (c.mono HB.out.size))
      clear o c
      go_wp2_with fail
      refine (fold_any a b _ a1 a2 b1 b2).mono ?_
      rintro e x4 ⟨v25, rfl, o, c⟩
      have R25 : RdS x4 v25 (fold a b) := Rd_of_owns o
      have R23 := Rd.below R23 c
      have R21 := Rd.below R21 c
      have R6 := Rd.below R6 c
      have HB := Lib.hid (HB.out.trans (c.mono HB.out.size))
      clear o c
      go_wp2_with fail
      refine (rfold_any a b _ a1 a2 b1 b2).mono ?_
      rintro e x5 ⟨v27, rfl, o, c⟩
      have R27 : RdS x5 v27 (fold a b) := Rd_of_owns o
      have R25 := Rd.below R25 c
      have R23 := Rd.below R23 c
      have R21 := Rd.below R21 c
      have R6 := Rd.below R6 c
      have HB := Lib.hid (HB.out.trans (c.mono HB.out.size))
      clear o c
      have hEE : (errOf a b != errOf a b) = false := by simp
      go_wp2_with fail
      refine (samePairs_any _ _ (quires a b) (quires a b) _ R21 R23).mono ?_
      rintro e x6 ⟨rfl, c⟩
      have R27 := Rd.below R27 c
      have R25 := Rd.below R25 c
      have R6 := Rd.below R6 c
      have HB := Lib.hid (HB.out.trans (c.mono HB.out.size))
      clear c R21 R23
      rw [decide_eq_true (rfl : quires a b = quires a b)]
      go_wp2_with fail
      refine (plain_any _ _ _ R25 (by omega)).mono ?_
      rintro e x7 ⟨v105, rfl, o, c⟩
      have R105 : RdS x7 v105 (fold a b) := Rd_of_owns o
      have R27 := Rd.below R27 c
      have R6 := Rd.below R6 c
      have HB := Lib.hid (HB.out.trans (c.mono HB.out.size))
      clear c o R25
      go_wp2_with fail
      refine (sameSheets_any _ _ (fold a b) (fold a b) _ R105 R27).mono ?_
      rintro e x8 ⟨rfl, c⟩
      have R27 := Rd.below R27 c
      have R6 := Rd.below R6 c
      have HB := Lib.hid (HB.out.trans (c.mono HB.out.size))
      clear c R105
      rw [decide_eq_true (rfl : fold a b = fold a b)]
      go_wp2_with fail
      refine (bent_any _ (fold a b) how bb _ hh hh' hb hb' R27 (by omega)).mono ?_
      rintro e x9 ⟨⟨v29, ys, rfl, R29, hyl⟩, c⟩
      have R27 := Rd.below R27 c
      have R6 := Rd.below R6 c
      have HB := Lib.hid (HB.out.trans (c.mono HB.out.size))
      clear c
      go_wp2_with fail
      refine (own_any _ _ _ R27 (by omega)).mono ?_
      rintro e x10 ⟨v117, rfl, o, c⟩
      have R117 : RdS x10 v117 (fold a b) := Rd_of_owns o
      have R29 := Rd.below R29 c
      have R6 := Rd.below R6 c
      have HB := Lib.hid (HB.out.trans (c.mono HB.out.size))
      clear c o R27
      go_wp2_with fail
      refine (check_any a b _ _ _ a1 a2 b1 b2 R117).mono ?_
      rintro e x11 ⟨rfl, c⟩
      have R29 := Rd.below R29 c
      have R6 := Rd.below R6 c
      have HB := Lib.hid (HB.out.trans (c.mono HB.out.size))
      clear c R117
      rw [HCF.out]
      go_wp2_with fail
      refine (own_any _ _ _ R29 (by omega)).mono ?_
      rintro e x12 ⟨v125, rfl, o, c⟩
      have R125 : RdS x12 v125 ys := Rd_of_owns o
      have R29 := Rd.below R29 c
      have R6 := Rd.below R6 c
      have HB := Lib.hid (HB.out.trans (c.mono HB.out.size))
      clear c o
      go_wp2_with fail
      refine (check_any a b _ _ _ a1 a2 b1 b2 R125).mono ?_
      rintro e x13 ⟨rfl, c⟩
      have R29 := Rd.below R29 c
      have R6 := Rd.below R6 c
      have HB := Lib.hid (HB.out.trans (c.mono HB.out.size))
      clear c R125
      have hYY : (checkR a b ys != checkR a b ys) = false := by simp
      go_wp2_with fail
      refine (rcheckR_any a b _ _ _ a1 a2 b1 b2 R29).mono ?_
      rintro e x14 ⟨rfl, c⟩
      have R6 := Rd.below R6 c
      have HB := Lib.hid (HB.out.trans (c.mono HB.out.size))
      clear c R29
      go_wp2_with fail
      refine (check_any a b _ _ _ a1 a2 b1 b2 R6).mono ?_
      rintro e x15 ⟨rfl, c⟩
      have R6 := Rd.below R6 c
      have HB := Lib.hid (HB.out.trans (c.mono HB.out.size))
      clear c
      have hRR : (checkR a b raw != checkR a b raw) = false := by simp
      go_wp2_with fail
      refine (plain_any _ _ _ R6 hraw).mono ?_
      rintro e x16 ⟨v141, rfl, o, c⟩
      have R141 : RdS x16 v141 raw := Rd_of_owns o
      have HB := Lib.hid (HB.out.trans (c.mono HB.out.size))
      clear c o R6
      go_wp2_with fail
      refine (rcheckR_any a b _ _ _ a1 a2 b1 b2 R141).mono ?_
      rintro e x17 ⟨rfl, c⟩
      have HB := Lib.hid (HB.out.trans (c.mono HB.out.size))
      clear c R141
      go_wp2_with fail
      go_roundw
      case rel => exact ⟨t + 1, by omega, by go_num, HB.out⟩
      case measure => simp [intOf]; omega
    · go_wp2_with fail
      refine (LV _).mono ?_
      rintro e w2 ⟨rfl, b3⟩
      have BB := HBB.out.trans (hbl.mono HBB.out.size)
      have BB := BB.trans (b3.mono BB.size)
      go_wp2_with fail
      go_ret
      exact ⟨rfl, BB⟩
end Go.Proofs.Ythldekpbjfhmcaa
