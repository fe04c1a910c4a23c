/- ImposeConjugates: the walk of the law's function: it returns true for all numbers. -/
import Derived.Test.YthldekpbjfhmcaaYa
import Derived.Test.YthldekpbjfhmcaaWv
import Derived.Test.YthldekpbjfhmcaaWx
namespace Go.Proofs.Ythldekpbjfhmcaa
open Go.RowKit

def cvs (l k : Int) : List Int := [l, around l 80, 0, 1, k, k + 1]
theorem cvs_at (l k : Int) (i : Nat) (hi : i < 6) : ∃ x, (cvs l k)[i]? = some x := by
  obtain rfl | rfl | rfl | rfl | rfl | rfl : i = 0 ∨ i = 1 ∨ i = 2 ∨ i = 3 ∨ i = 4 ∨ i = 5 := by omega
  all_goals exact ⟨_, rfl⟩

set_option maxRecDepth 100000 in
set_option maxHeartbeats 8000000 in
theorem conjs_any (LV : Lives) (n m l : Int) (w : World) (hn : -9223372036854775808 ≤ n) (hn' : n ≤ 9223372036854775807) (hm : -9223372036854775808 ≤ m) (hm' : m ≤ 9223372036854775807) (hl : -9223372036854775808 ≤ l) (hl' : l ≤ 9223372036854775807) :
    Calls Try.prog 5 #[.int .i64 n, .int .i64 m, .int .i64 l] w fun e w' => e = .returned (.bool true) ∧ Below w.heap.size w w' := by
  go_enter Try.func5, Try.ntmps5
  go_wp2_with fail
  refine (volume_any n m _ hn hn' hm hm').mono ?_
  rintro e w1 ⟨⟨p, k, rfl, p1, p2, k1, k2⟩, BB⟩
  go_wp2_with fail
  refine (around_any l 80 _ hl hl' (by omega) (by omega)).mono ?_
  rintro e w2 ⟨rfl, rfl⟩
  go_wp2_with fail
  have R0 : RdI (w1.alloc (.cells #[.int .i64 l, .int .i64 (around l 80), .int .i64 0, .int .i64 1, .int .i64 k, .int .i64 (k + 1)] 3)) (.slice (some ⟨w1.heap.size, 0, none⟩) 6 6) (cvs l k) := Rd_block (cs := #[.int .i64 l, .int .i64 (around l 80), .int .i64 0, .int .i64 1, .int .i64 k, .int .i64 (k + 1)]) (t := 3) (n := 6) (sz := 1) (heap_alloc_new w1 _) rfl (by omega)
  have BB := BB.trans (((Below.refl w1.heap.size w1).alloc (Nat.le_refl _) (.cells #[.int .i64 l, .int .i64 (around l 80), .int .i64 0, .int .i64 1, .int .i64 k, .int .i64 (k + 1)] 3)).mono BB.size)
  generalize (w1.alloc (.cells #[.int .i64 l, .int .i64 (around l 80), .int .i64 0, .int .i64 1, .int .i64 k, .int .i64 (k + 1)] 3)) = W at R0 BB ⊢
  generalize hB : w1.heap.size = B at R0 ⊢
  clear hB
  go_loopw [10] (fun i wr => ∃ j : Nat, j ≤ 6 ∧ i = .int .i64 j ∧ Below W.heap.size W wr) (fun i _ => 6 - (intOf i).toNat)
  case atStart => exact ⟨0, by omega, rfl, Below.refl _ _⟩
  case round =>
    obtain ⟨i, hi, rfl, hb⟩ := hrel
    by_cases hlt : i < 6
    · obtain ⟨x, hx⟩ := cvs_at l k i hlt
      obtain ⟨_, _, hv, _, g⟩ := RdI.open (Rd.below R0 hb)
      obtain ⟨b1, o1, hp, hl, g0⟩ := g i x hx
      cases hv
      cases hp
      rw [Nat.zero_add] at g0
      have HB := Lib.hid hb
      have HR := Lib.hid R0
      have HBB := Lib.hid BB
      clear g hx R0 hb BB
      by_cases he : leafErr p k x = 0
      · obtain ⟨a, j, ha, h1, h2, h3, h4, a1, a2, x1, x2, hs⟩ := conj_law p k x he
        have C23 := fun w => conjugateL_any p k x w (by omega) (by omega) (by omega) (by omega)
        have C24 := fun w => rconjugate_any p k x w (by omega) (by omega) (by omega) (by omega)
        have C23a := fun w => conjugateL_any p k a w (by omega) (by omega) (by omega) (by omega)
        rw [he, ha] at C23 C24
        rw [h1, h2] at C23a
        have C25 := fun v w => sheetsB_any p k v [x] w (by omega) (by omega) (by omega) (by omega)
        have C25a := fun v w => sheetsB_any p k v [a, x] w (by omega) (by omega) (by omega) (by omega)
        rw [h3] at C25
        rw [h4] at C25a
        have hq : (a != a) = false := by simp
        have hq2 : (x != x) = false := by simp
        have hs2 : ((a + x) % 2 == 0) = false := by rw [hs]; rfl
        clear he ha h1 h2 h3 h4 hs
        go_wp2_with fail
        refine (C23 _).mono ?_
        rintro e w3 ⟨rfl, b3⟩
        have g0 := cell_bl b3 g0
        have BW := HB.out.trans (b3.mono HB.out.size)
        clear b3
        go_wp2_with fail
        refine (C24 _).mono ?_
        rintro e w4 ⟨rfl, rfl⟩
        go_wp2_with fail
        refine (C23a _).mono ?_
        rintro e w4 ⟨rfl, b3⟩
        have g0 := cell_bl b3 g0
        have BW := BW.trans (b3.mono BW.size)
        clear b3
        go_wp2_with fail
        refine (C25 _ _ (Rd_block (cs := #[.int .i64 x]) (t := 3) (n := 1) (sz := 1) (heap_alloc_new w4 _) rfl (by omega))).mono ?_
        rintro e w5 ⟨v5, rfl, o5, b3⟩
        have b3 := ((Below.refl w4.heap.size w4).alloc (Nat.le_refl _) _).trans (b3.mono (by simp))
        have r5 : RdI w5 v5 [j] := RdI_of_own o5
        have g0 := cell_bl b3 g0
        have BW := BW.trans (b3.mono BW.size)
        clear b3 o5
        go_wp2_with fail
        refine (C25a _ _ (Rd_block (cs := #[.int .i64 a, .int .i64 x]) (t := 3) (n := 2) (sz := 1) (heap_alloc_new w5 _) rfl (by omega))).mono ?_
        rintro e w6 ⟨v6, rfl, o6, b3⟩
        have b3 := ((Below.refl w5.heap.size w5).alloc (Nat.le_refl _) _).trans (b3.mono (by simp))
        have r6 : RdI w6 v6 [j] := RdI_of_own o6
        have r5 : RdI w6 v5 [j] := Rd.below r5 b3
        have g0 := cell_bl b3 g0
        have BW := BW.trans (b3.mono BW.size)
        clear b3 o6
        obtain ⟨a5, c5, hv5, _⟩ := RdI.open r5
        subst hv5
        have hbw := Lib.hid BW
        clear BW
        go_wp2_with fail
        refine (sameInts_any _ _ [j] [j] _ r5 r6).mono ?_
        rintro e w7 ⟨rfl, b3⟩
        have g0 := cell_bl b3 g0
        have BW := hbw.out.trans (b3.mono hbw.out.size)
        clear b3 hbw r5 r6
        rw [decide_eq_true (rfl : [j] = [j])]
        have hbw := Lib.hid BW
        clear BW
        go_wp2_with fail
        go_roundw
        case rel => exact ⟨i + 1, by omega, by go_num, hbw.out⟩
        case measure => simp [intOf]; omega
      · have C23 := fun w => conjugateL_any p k x w (by omega) (by omega) (by omega) (by omega)
        have C24 := fun w => rconjugate_any p k x w (by omega) (by omega) (by omega) (by omega)
        have hq : (conjR p k x != conjR p k x) = false := by simp
        have hq2 : (leafErr p k x != leafErr p k x) = false := by simp
        have hq3 : (leafErr p k x != 0) = true := by simpa using he
        go_wp2_with fail
        refine (C23 _).mono ?_
        rintro e w3 ⟨rfl, b3⟩
        have g0 := cell_bl b3 g0
        have BW := HB.out.trans (b3.mono HB.out.size)
        have hbw := Lib.hid BW
        clear b3 BW
        go_wp2_with fail
        refine (C24 _).mono ?_
        rintro e w4 ⟨rfl, rfl⟩
        go_wp2_with fail
        go_roundw
        case rel => exact ⟨i + 1, by omega, by go_num, hbw.out⟩
        case measure => simp [intOf]; omega
    · go_wp2_with fail
      refine (LV _).mono ?_
      rintro e w3 ⟨rfl, b3⟩
      have BB := BB.trans (hb.mono BB.size)
      have BB := BB.trans (b3.mono BB.size)
      go_wp2_with fail
      go_ret
      exact ⟨rfl, BB⟩
end Go.Proofs.Ythldekpbjfhmcaa
