/- The law's helpers: start, same. -/
import Derived.Test.YtdanhfanepmhkaaFc
namespace Go.Proofs.Ytdanhfanepmhkaa
open Go.RowKit Go.Maps Go.Sort

set_option maxRecDepth 100000 in
set_option maxHeartbeats 2000000 in
theorem start_any (n : Nat) (w : World) (h1 : 1 ≤ n) (h2 : n ≤ 64) :
    Calls Try.prog 10 #[.int .i64 n] w fun e w' => ∃ (A : At) (B : RAt), e = .returned (.tuple #[.pointer (some ⟨A.d, 0, none⟩), .pointer (some ⟨B.d, 0, none⟩), .bool true]) ∧ DskAt w' A (newD n) ∧ RefAt w' B (newD n) ∧ (∀ b, A.F b → ¬ B.F b) ∧ (∀ b, A.F b → w.heap.size ≤ b) ∧ (∀ b, B.F b → w.heap.size ≤ b) ∧ Below w.heap.size w w' := by
  have g1 : ¬ (n : Int) < 1 := by omega
  have g2 : ¬ (64 : Int) < n := by omega
  go_enter Try.func10, Try.ntmps10
  go_wp2_with fail
  refine (new_any n w h1 (by omega)).mono ?_
  rintro e w1 ⟨A, rfl, hA, hFA, hbA⟩
  have HH := Lib.hid (And.intro hA (And.intro hFA hbA))
  clear hA hFA hbA
  go_wp2_with fail
  refine (rnew_any n w1 h1 (by omega)).mono ?_
  rintro e w2 ⟨B, rfl, hB, hFB, hbB⟩
  have HB := Lib.hid (And.intro hB (And.intro hFB hbB))
  clear hB hFB hbB
  go_wp2_with fail
  go_ret3
  obtain ⟨hA, hFA, hbA⟩ := HH.out
  obtain ⟨hB, hFB, hbB⟩ := HB.out
  refine ⟨A, B, rfl, hA.keeps (F := fun _ => False) (Keeps.of_below hbB) (fun _ _ h => h), hB, fun b ha hb => ?_, hFA, fun b hb => Nat.le_trans hbA.size (hFB b hb), hbA.trans (hbB.mono hbA.size)⟩
  have := hA.ltF ha
  have := hFB b hb
  omega

theorem start_bad (n : Int) (w : World) (h : n < 1 ∨ 64 < n) :
    Calls Try.prog 10 #[.int .i64 n] w fun e w' => e = .returned (.tuple #[.pointer none, .pointer none, .bool false]) ∧ w = w' := by
  rcases h with h | h
  · go_enter Try.func10, Try.ntmps10
    go_wp2
    go_ret3
    exact ⟨rfl, rfl⟩
  · have h' : ¬ n < 1 := by omega
    go_enter Try.func10, Try.ntmps10
    go_wp2
    go_ret3
    exact ⟨rfl, rfl⟩

set_option maxRecDepth 100000 in
set_option maxHeartbeats 4000000 in
theorem same_any (A : At) (B : RAt) (D : Dk) (w : World) (hA : DskAt w A D) (hB : RefAt w B D) :
    Calls Try.prog 13 #[.pointer (some ⟨A.d, 0, none⟩), .pointer (some ⟨B.d, 0, none⟩)] w fun e w' => e = .returned (.bool true) ∧ Below w.heap.size w w' := by
  have HW := Lib.hid (And.intro hA (And.intro hB (Below.refl w.heap.size w)))
  clear hA hB
  go_enter Try.func13, Try.ntmps13
  go_wp2_with fail
  refine (image_any A D w HW.out.1).mono ?_
  rintro e w1 ⟨v1, rfl, hr1, hb⟩
  have hk : Keeps (fun _ => False) w w1 := Keeps.of_below hb
  have HX := Lib.hid (And.intro (HW.out.1.keeps hk (fun _ _ h => h)) (And.intro (HW.out.2.1.keeps hk (fun _ _ h => h)) (HW.out.2.2.trans (hb.mono HW.out.2.2.size))))
  clear HW hk hb
  have HW := HX
  clear HX
  go_wp2_with fail
  refine (rimage_any B D w1 HW.out.2.1).mono ?_
  rintro e w2 ⟨v2, rfl, hr2, hb⟩
  have hk : Keeps (fun _ => False) w1 w2 := Keeps.of_below hb
  have HX := Lib.hid (And.intro (HW.out.1.keeps hk (fun _ _ h => h)) (And.intro (HW.out.2.1.keeps hk (fun _ _ h => h)) (HW.out.2.2.trans (hb.mono HW.out.2.2.size))))
  have hr1 := hr1.keeps hk (fun _ _ _ h => h)
  have hr2 := Rd_of_owns hr2
  clear HW hk hb
  have HW := HX
  clear HX
  go_wp2_with fail
  refine (sameTexts_any v1 v2 D.S D.S w2 _ _ hr1 hr2).mono ?_
  rintro e w3 ⟨rfl, hb⟩
  rw [show decide (D.S = D.S) = true from decide_eq_true rfl]
  have hk : Keeps (fun _ => False) w2 w3 := Keeps.of_below hb
  have HX := Lib.hid (And.intro (HW.out.1.keeps hk (fun _ _ h => h)) (And.intro (HW.out.2.1.keeps hk (fun _ _ h => h)) (HW.out.2.2.trans (hb.mono HW.out.2.2.size))))
  clear hr1 hr2
  clear HW hk hb
  have HW := HX
  clear HX
  go_wp2_with fail
  refine (pending_any A D w3 HW.out.1).mono ?_
  rintro e w4 ⟨v1, rfl, hr1, hb⟩
  have hr1 := Rd_of_owns hr1
  have hk : Keeps (fun _ => False) w3 w4 := Keeps.of_below hb
  have HX := Lib.hid (And.intro (HW.out.1.keeps hk (fun _ _ h => h)) (And.intro (HW.out.2.1.keeps hk (fun _ _ h => h)) (HW.out.2.2.trans (hb.mono HW.out.2.2.size))))
  clear HW hk hb
  have HW := HX
  clear HX
  go_wp2_with fail
  refine (rpending_any B D w4 HW.out.2.1).mono ?_
  rintro e w5 ⟨v2, rfl, hr2, hb⟩
  have hk : Keeps (fun _ => False) w4 w5 := Keeps.of_below hb
  have HX := Lib.hid (And.intro (HW.out.1.keeps hk (fun _ _ h => h)) (And.intro (HW.out.2.1.keeps hk (fun _ _ h => h)) (HW.out.2.2.trans (hb.mono HW.out.2.2.size))))
  have hr1 := hr1.keeps hk (fun _ _ _ h => h)
  have hr2 := Rd_of_owns hr2
  clear HW hk hb
  have HW := HX
  clear HX
  go_wp2_with fail
  refine (sameInts_any v1 v2 (keysOf D.S.length (pendD D.P)) (keysOf D.S.length (pendD D.P)) w5 _ _ (by simpa [ints] using hr1) hr2).mono ?_
  rintro e w6 ⟨rfl, hb⟩
  rw [show decide ((keysOf D.S.length (pendD D.P)) = (keysOf D.S.length (pendD D.P))) = true from decide_eq_true rfl]
  have hk : Keeps (fun _ => False) w5 w6 := Keeps.of_below hb
  have HX := Lib.hid (And.intro (HW.out.1.keeps hk (fun _ _ h => h)) (And.intro (HW.out.2.1.keeps hk (fun _ _ h => h)) (HW.out.2.2.trans (hb.mono HW.out.2.2.size))))
  clear hr1 hr2
  clear HW hk hb
  have HW := HX
  clear HX
  go_wp2_with fail
  refine (worn_any A D w6 HW.out.1).mono ?_
  rintro e w7 ⟨v1, rfl, hr1, hb⟩
  have hr1 := Rd_of_owns hr1
  have hk : Keeps (fun _ => False) w6 w7 := Keeps.of_below hb
  have HX := Lib.hid (And.intro (HW.out.1.keeps hk (fun _ _ h => h)) (And.intro (HW.out.2.1.keeps hk (fun _ _ h => h)) (HW.out.2.2.trans (hb.mono HW.out.2.2.size))))
  clear HW hk hb
  have HW := HX
  clear HX
  go_wp2_with fail
  refine (rworn_any B D w7 HW.out.2.1).mono ?_
  rintro e w8 ⟨v2, rfl, hr2, hb⟩
  have hk : Keeps (fun _ => False) w7 w8 := Keeps.of_below hb
  have HX := Lib.hid (And.intro (HW.out.1.keeps hk (fun _ _ h => h)) (And.intro (HW.out.2.1.keeps hk (fun _ _ h => h)) (HW.out.2.2.trans (hb.mono HW.out.2.2.size))))
  have hr1 := hr1.keeps hk (fun _ _ _ h => h)
  have hr2 := Rd_of_owns hr2
  clear HW hk hb
  have HW := HX
  clear HX
  go_wp2_with fail
  refine (sameInts_any v1 v2 (keysOf D.S.length (wornD D.W)) (keysOf D.S.length (wornD D.W)) w8 _ _ (by simpa [ints] using hr1) hr2).mono ?_
  rintro e w9 ⟨rfl, hb⟩
  rw [show decide ((keysOf D.S.length (wornD D.W)) = (keysOf D.S.length (wornD D.W))) = true from decide_eq_true rfl]
  have hk : Keeps (fun _ => False) w8 w9 := Keeps.of_below hb
  have HX := Lib.hid (And.intro (HW.out.1.keeps hk (fun _ _ h => h)) (And.intro (HW.out.2.1.keeps hk (fun _ _ h => h)) (HW.out.2.2.trans (hb.mono HW.out.2.2.size))))
  clear hr1 hr2
  clear HW hk hb
  have HW := HX
  clear HX
  go_wp2_with fail
  refine (len_any A D _ HW.out.1).mono ?_
  rintro e w10 ⟨rfl, rfl⟩
  go_wp2_with fail
  refine (rlen_any B D _ HW.out.2.1).mono ?_
  rintro e w11 ⟨rfl, rfl⟩
  go_wp2_with fail
  refine (up_any A D _ HW.out.1).mono ?_
  rintro e w12 ⟨rfl, rfl⟩
  go_wp2_with fail
  refine (rup_any B D _ HW.out.2.1).mono ?_
  rintro e w13 ⟨rfl, rfl⟩
  go_wp2_with fail
  go_ret
  exact ⟨by simp, HW.out.2.2⟩
end Go.Proofs.Ytdanhfanepmhkaa
