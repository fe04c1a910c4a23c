/- lives: the documented examples. -/
import Derived.Test.YtidojiegkdchpaaAw
namespace Go.Proofs.Ytidojiegkdchpaa
open Go.RowKit Go.Maps

theorem lv_sum : sumV [3, 2, 1] 10 [4, 5, 6] = 8 ∧ sumE [3, 2, 1] 10 [4, 5, 6] = 0 := by decide +kernel
theorem lv_w1 : weakV [3, 1] 10 = some (0, 1, 5) ∧ errF [3, 1] 10 = 0 := by decide +kernel
theorem lv_w2 : weakV [3, 2] 10 = some (1, -1, 5) ∧ errF [3, 2] 10 = 0 := by decide +kernel
theorem lv_w3 : weakV [3, 1] 31 = none ∧ errF [3, 1] 31 = 0 := by decide +kernel
theorem lv_add : addV ⟨#[65, 49]⟩ = ⟨#[65, 49, 48]⟩ ∧ addE ⟨#[65, 49]⟩ = 0 := by decide +kernel
theorem lv_chk : checkF ⟨#[65, 49, 48]⟩ = 0 := by decide +kernel
theorem lv_val : valF 88 = 30 ∧ valF 73 = -1 := by decide +kernel
def lvL : List ByteArray := [⟨#[49, 65, 80]⟩, ⟨#[49, 85, 48]⟩, ⟨#[55, 65, 48]⟩, ⟨#[65, 49, 48]⟩]
theorem lv_near : nearF ⟨#[49, 65, 48]⟩ = lvL := by decide +kernel
theorem rdI_new (W : World) (l : List Int) (hl : l.length ≤ 1000) : RdI (W.alloc (.cells (ints l).toArray 3)) (.slice (some ⟨W.heap.size, 0, none⟩) l.length l.length) l := by
  have := Rd_block (n := l.length) (Boxs.new W 3 (ints l).toArray) (by simp [ints]) (by omega)
  show Rd _ _ (ints l)
  simpa using this
theorem rdS_new (W : World) (l : List ByteArray) (hl : l.length ≤ 1000) : RdS (W.alloc (.cells (strs l).toArray 9)) (.slice (some ⟨W.heap.size, 0, none⟩) l.length l.length) l := by
  have := Rd_block (n := l.length) (Boxs.new W 9 (strs l).toArray) (by simp [strs]) (by omega)
  show Rd _ _ (strs l)
  simpa using this

set_option maxRecDepth 100000 in
set_option maxHeartbeats 4000000 in
theorem lives_any (w : World) : Calls Try.prog 16 #[] w fun e w' => e = .returned (.bool true) ∧ Below w.heap.size w w' := by
  have R1 := rdI_new w [3, 2, 1] (by decide)
  have R2 := rdI_new (w.alloc (.cells (ints [3, 2, 1]).toArray 3)) [4, 5, 6] (by decide)
  have B2 := ((Below.refl w.heap.size w).alloc (Nat.le_refl _) (.cells (ints [3, 2, 1]).toArray 3)).alloc (by simp) (.cells (ints [4, 5, 6]).toArray 3)
  have C1 := sum_any _ _ [3, 2, 1] [4, 5, 6] 10 _ (R1.below ((Below.refl _ _).alloc (Nat.le_refl _) (.cells (ints [4, 5, 6]).toArray 3))) R2
  rw [lv_sum.1, lv_sum.2] at C1
  simp [ints] at C1 B2
  have C2 := fun W => weak_any _ [3, 1] 10 _ (rdI_new W [3, 1] (by decide))
  have C3 := fun (V : World) (X : Obj) => weak_any _ [3, 2] 10 _ (rdI_new (V.alloc X) [3, 2] (by decide))
  have C4 := fun (V : World) (X : Obj) => weak_any _ [3, 1] 31 _ (rdI_new (V.alloc X) [3, 1] (by decide))
  rw [lv_w1.1, lv_w1.2] at C2
  rw [lv_w2.1, lv_w2.2] at C3
  rw [lv_w3.1, lv_w3.2] at C4
  simp only [ints, List.map_cons, List.map_nil, List.length_cons, List.length_nil, Nat.zero_add, Nat.reduceAdd, flV, Option.isSome, World.size_alloc] at C2 C3 C4
  have C5 := fun W => add_any ⟨#[65, 49]⟩ (by decide) W
  rw [lv_add.1, lv_add.2] at C5
  have C6 := fun W => check_any ⟨#[65, 49, 48]⟩ (by decide) W
  rw [lv_chk] at C6
  have C7 : ∀ W, Calls Try.prog 14 #[.int .u8 88] W (fun e w' => e = .returned (.int .i64 30) ∧ Below W.heap.size W w') := fun W => by have := value_any 88 W; rw [lv_val.1] at this; exact this
  have C8 : ∀ W, Calls Try.prog 14 #[.int .u8 73] W (fun e w' => e = .returned (.int .i64 (-1)) ∧ Below W.heap.size W w') := fun W => by have := value_any 73 W; rw [lv_val.2] at this; exact this
  have C9 := fun W => near_any ⟨#[49, 65, 48]⟩ (by decide) W
  rw [lv_near] at C9
  have HC1 := Lib.hid C1; have HC2 := Lib.hid C2; have HC3 := Lib.hid C3; have HC4 := Lib.hid C4; have HC5 := Lib.hid C5; have HC6 := Lib.hid C6; have HC7 := Lib.hid C7; have HC8 := Lib.hid C8; have HC9 := Lib.hid C9; have HB2 := Lib.hid B2
  clear C1 C2 C3 C4 C5 C6 C7 C8 C9 B2 R1 R2
  go_enter Try.func16, Try.ntmps16
  go_wp2_with fail
  refine HC1.out.mono ?_
  rintro e w1 ⟨rfl, hb1⟩
  have HB1 := Lib.hid (HB2.out.trans (hb1.mono (by omega)))
  clear hb1
  go_wp2_with fail
  refine (HC2.out _).mono ?_
  rintro e w2 ⟨rfl, hb2⟩
  have al := fun (W : World) (h : Below w.heap.size w W) (o : Obj) => h.alloc h.size o
  have tr := fun (W W' : World) (h : Below w.heap.size w W) (k : Below W.heap.size W W') => h.trans (k.mono h.size)
  have HAL := Lib.hid al; have HTR := Lib.hid tr
  clear al tr
  have HB2' := Lib.hid (HTR.out _ _ (HAL.out _ HB1.out _) (by rw [World.size_alloc]; exact hb2))
  clear hb2
  go_wp2_with fail
  refine (HC3.out _ _).mono ?_
  rintro e w3 ⟨rfl, hb3⟩
  have bF := (hb3.block w2.heap.size (by omega)).trans ((Boxs.new w2 35 #[.int .i64 0, .int .i64 1, .int .i64 0, .int .i64 5]).alloc (.cells #[.int .i64 3, .int .i64 2] 3))
  have HBF := Lib.hid (show Boxs w3 w2.heap.size 35 #[.int .i64 0, .int .i64 1, .int .i64 0, .int .i64 5] from bF)
  have HB3 := Lib.hid (HTR.out _ _ (HAL.out _ (HAL.out _ HB2'.out _) _) (by rw [World.size_alloc, World.size_alloc]; exact hb3))
  clear hb3 bF
  go_wp2_with fail
  refine (HC4.out _ _).mono ?_
  rintro e w4 ⟨rfl, hb4⟩
  have bG := (hb4.block w3.heap.size (by omega)).trans ((Boxs.new w3 35 #[.int .i64 1, .int .i64 (-1), .int .i64 0, .int .i64 5]).alloc (.cells #[.int .i64 3, .int .i64 1] 3))
  have HBG := Lib.hid (show Boxs w4 w3.heap.size 35 #[.int .i64 1, .int .i64 (-1), .int .i64 0, .int .i64 5] from bG)
  have HBF4 := Lib.hid (show Boxs w4 w2.heap.size 35 #[.int .i64 0, .int .i64 1, .int .i64 0, .int .i64 5] from (hb4.block w2.heap.size (by have := HBF.out.lt; omega)).trans ((HBF.out.alloc (.cells #[.int .i64 1, .int .i64 (-1), .int .i64 0, .int .i64 5] 35)).alloc (.cells #[.int .i64 3, .int .i64 1] 3)))
  have HB4 := Lib.hid (HTR.out _ _ (HAL.out _ (HAL.out _ HB3.out _) _) (by rw [World.size_alloc, World.size_alloc]; exact hb4))
  clear hb4 bG HBF
  go_wp2_with fail
  refine (HC5.out _).mono ?_
  rintro e w5 ⟨rfl, hb5⟩
  have bF : Boxs w5 w2.heap.size 35 #[.int .i64 0, .int .i64 1, .int .i64 0, .int .i64 5] := (hb5.block w2.heap.size (by have := HBF4.out.lt; first | omega | (simp; omega))).trans (HBF4.out.alloc (.cells #[.int .i64 0, .int .i64 0, .int .i64 0, .int .i64 0] 35))
  have bG : Boxs w5 w3.heap.size 35 #[.int .i64 1, .int .i64 (-1), .int .i64 0, .int .i64 5] := (hb5.block w3.heap.size (by have := HBG.out.lt; first | omega | (simp; omega))).trans (HBG.out.alloc (.cells #[.int .i64 0, .int .i64 0, .int .i64 0, .int .i64 0] 35))
  have HB5 := Lib.hid (HTR.out _ _ (HAL.out _ HB4.out _) hb5)
  have d0 := bF.cell 0
  have d1 := bF.cell 1
  have d2 := bF.cell 2
  have d3 := bF.cell 3
  have g0 := bG.cell 0
  have g1 := bG.cell 1
  have g2 := bG.cell 2
  have g3 := bG.cell 3
  simp at d0 d1 d2 d3 g0 g1 g2 g3
  clear hb5 bF bG HBF4 HBG
  have st := bytes_eq ⟨#[65, 49, 48]⟩
  go_wp2_with fail
  refine (HC6.out _).mono ?_
  rintro e w6 ⟨rfl, hb6⟩
  have HB6 := Lib.hid (HTR.out _ _ HB5.out hb6)
  clear hb6
  go_wp2_with fail
  refine (HC7.out _).mono ?_
  rintro e w7 ⟨rfl, hb7⟩
  have HB7 := Lib.hid (HTR.out _ _ HB6.out hb7)
  clear hb7
  go_wp2_with fail
  refine (HC8.out _).mono ?_
  rintro e w8 ⟨rfl, hb8⟩
  have HB8 := Lib.hid (HTR.out _ _ HB7.out hb8)
  clear hb8
  go_wp2_with fail
  refine (HC9.out _).mono ?_
  rintro e w9 ⟨u, rfl, hr9, hb9⟩
  have HB9 := Lib.hid (HTR.out _ _ HB8.out hb9)
  have CT := sameTexts_any u (.slice (some ⟨w9.heap.size, 0, none⟩) 4 4) lvL lvL (w9.alloc (.cells #[.string ⟨#[49, 65, 80]⟩, .string ⟨#[49, 85, 48]⟩, .string ⟨#[55, 65, 48]⟩, .string ⟨#[65, 49, 48]⟩] 9)) (RdS.below hr9 ((Below.refl _ _).alloc (Nat.le_refl _) _)) (rdS_new w9 lvL (by decide))
  have ht : decide (lvL = lvL) = true := decide_eq_true rfl
  rw [ht] at CT
  have HCT := Lib.hid CT
  clear hb9 hr9 CT ht
  go_wp2_with fail
  refine HCT.out.mono ?_
  rintro e w10 ⟨rfl, hb10⟩
  have HB10 := Lib.hid (HTR.out _ _ (HAL.out _ HB9.out _) hb10)
  clear hb10
  go_wp2_with fail
  go_ret
  exact ⟨rfl, HB10.out⟩
end Go.Proofs.Ytidojiegkdchpaa
