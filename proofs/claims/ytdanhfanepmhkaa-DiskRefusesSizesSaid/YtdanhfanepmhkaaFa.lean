/- The walk of RefusesSizes. -/
import Derived.Test.YtdanhfanepmhkaaDo
namespace Go.Proofs.Ytdanhfanepmhkaa
open Go.RowKit Go.Maps Go.Sort

def rD0 : Dk := newD 3
theorem rD0_off : rD0.off = false := rfl
theorem rD0_len : rD0.S.length = 3 := rfl
theorem rK0 : keysOf rD0.S.length (pendD rD0.P) = [] := by decide +kernel
theorem rK1 : keysOf rD0.S.length (wornD rD0.W) = [] := by decide +kernel
theorem rchk {i : Int} (h : i < 0 ∨ 2 < i) : rD0.chk i = 1 := by
  unfold Dk.chk
  rw [rD0_off, if_neg (by simp), if_pos (by rw [rD0_len]; omega)]
theorem rread {i : Int} (h : i < 0 ∨ 2 < i) : rD0.readS i = ⟨#[]⟩ := by unfold Dk.readS; rw [rchk h]; rfl
theorem rwrE {i : Int} {s : ByteArray} (h : i < 0 ∨ 2 < i) : rD0.writeE i s = 1 := by unfold Dk.writeE; rw [rchk h]; rfl
theorem rwrD {i : Int} {s : ByteArray} (h : i < 0 ∨ 2 < i) : rD0.writeD i s = rD0 := by unfold Dk.writeD; rw [rchk h]; rfl
theorem rinB {i : Int} (h : i < 0 ∨ 2 < i) : rD0.inB i = false := by
  have := mt (inB_iff (D := rD0) (i := i)).1 (fun h2 => by rw [rD0_len] at h2; omega)
  simpa using this
theorem rrotE {i : Int} (h : i < 0 ∨ 2 < i) : rD0.rotE i 0 = 1 := by unfold Dk.rotE; rw [rinB h]; rfl
theorem rrotD {i : Int} (h : i < 0 ∨ 2 < i) : rD0.rotD i 0 = rD0 := by unfold Dk.rotD; rw [rinB h]; rfl
theorem rwearE {i : Int} (h : i < 0 ∨ 2 < i) : rD0.argE i = 1 := by unfold Dk.argE; rw [rinB h]; rfl
theorem rwearD {i : Int} (h : i < 0 ∨ 2 < i) : rD0.wear i = rD0 := by unfold Dk.wear; rw [rinB h]; rfl
theorem rchk0 : rD0.chk 0 = 0 := by decide +kernel
theorem rwzE {s : ByteArray} (h : s.size ≠ 64) : rD0.writeE 0 s = 1 := by unfold Dk.writeE; rw [rchk0, if_neg (by simp), if_pos h]
theorem rwzD {s : ByteArray} (h : s.size ≠ 64) : rD0.writeD 0 s = rD0 := by unfold Dk.writeD; rw [rchk0, if_neg (by simp), if_pos h]

theorem ncase (n : Int) : (n < 1) ∨ (¬ n < 1 ∧ 4096 < n) ∨ (¬ n < 1 ∧ ¬ 4096 < n) := by omega
theorem icase (i : Int) : (i < 0 ∧ Hid (i < 0 ∨ 2 < i)) ∨ (¬ i < 0 ∧ 2 < i ∧ Hid (i < 0 ∨ 2 < i)) ∨ (¬ i < 0 ∧ ¬ 2 < i) := by
  by_cases h : i < 0
  · exact .inl ⟨h, Lib.hid (.inl h)⟩
  · by_cases g : 2 < i
    · exact .inr (.inl ⟨h, g, Lib.hid (.inr g)⟩)
    · exact .inr (.inr ⟨h, g⟩)

set_option maxRecDepth 100000 in
set_option maxHeartbeats 16000000 in
theorem refuses_any (n i : Int) (s : ByteArray) (w : World) : Calls Try.prog 4 #[.int .i64 n, .int .i64 i, .string s] w fun e w' => e = .returned (.bool true) ∧ Below w.heap.size w w' := by
  rcases ncase n with n1 | ⟨n1, n2⟩ | ⟨n1, n2⟩ <;> rcases icase i with ⟨i1, hi⟩ | ⟨i1, i2, hi⟩ | ⟨i1, i2⟩ <;> by_cases hz0 : s.size = 64
  · have hzb : ((s.size : Int) != 64) = false := by rw [hz0]; rfl
    clear hz0
    go_enter Try.func4, Try.ntmps4
    go_wp2_with fail
    refine (sanity_any w).mono ?_
    rintro e w1 ⟨rfl, hB1⟩
    go_wp2_with fail
    refine (new_bad n w1 (by omega)).mono ?_
    rintro e wx ⟨rfl, rfl⟩
    go_wp2_with fail
    refine (new_any 3 w1 (by omega) (by omega)).mono ?_
    rintro e w2 ⟨A, rfl, hd1, hF1, hB2⟩
    have hd2 : DskAt w2 A rD0 := hd1
    have HD := Lib.hid hd2
    have HB := Lib.hid (hB1.trans (hB2.mono hB1.size))
    have HF := Lib.hid (show ∀ b, A.F b → w.heap.size ≤ b from fun b h => Nat.le_trans hB1.size (hF1 b h))
    clear hd1 hd2 hF1 hB1 hB2
    go_wp2_with fail
    refine (image_any A rD0 w2 HD.out).mono ?_
    rintro e w3 ⟨v12, rfl, hr12, hb⟩
    have hk : Keeps A.F w2 w3 := Keeps.of_below hb
    have hd := HD.out.keeps (F := fun _ => False) (Keeps.of_below hb) (fun _ _ h => h)
    have hG12 := Lib.hid (show ∀ b, w2.heap.size ≤ b → ¬ A.F b from fun b h e => by have := HD.out.ltF e; omega)
    have H12 := Lib.hid hr12
    clear hr12
    clear hb
    have hB := Below.kp HB.out hk HF.out
    clear HD HB
    have HD := Lib.hid hd; have HB := Lib.hid hB
    clear hd hB hk
    go_wp2_with fail
    refine (read_any A rD0 i w3 HD.out).mono ?_
    rintro e w4 ⟨rfl, hb⟩
    rw [rread hi.out, rchk hi.out]
    have hk : Keeps A.F w3 w4 := Keeps.of_below hb
    have hd := HD.out.keeps (F := fun _ => False) (Keeps.of_below hb) (fun _ _ h => h)
    have H12x := Lib.hid (H12.out.keeps hk (fun b _ h => hG12.out b h))
    clear H12
    have H12 := H12x
    clear H12x
    clear hb
    have hB := Below.kp HB.out hk HF.out
    clear HD HB
    have HD := Lib.hid hd; have HB := Lib.hid hB
    clear hd hB hk
    go_wp2_with fail
    refine (full_any 120 w4).mono ?_
    rintro e w5 ⟨rfl, hb⟩
    have hk : Keeps A.F w4 w5 := Keeps.of_below hb
    have hd := HD.out.keeps (F := fun _ => False) (Keeps.of_below hb) (fun _ _ h => h)
    have H12x := Lib.hid (H12.out.keeps hk (fun b _ h => hG12.out b h))
    clear H12
    have H12 := H12x
    clear H12x
    clear hb
    have hB := Below.kp HB.out hk HF.out
    clear HD HB
    have HD := Lib.hid hd; have HB := Lib.hid hB
    clear hd hB hk
    go_wp2_with fail
    refine (write_any A rD0 i (fullS 120) w5 HD.out).mono ?_
    rintro e w6 ⟨rfl, hd0, hk0⟩
    rw [rwrD hi.out] at hd0
    rw [rwrE hi.out]
    have hk : Keeps A.F w5 w6 := hk0
    have hd := hd0
    have H12x := Lib.hid (H12.out.keeps hk (fun b _ h => hG12.out b h))
    clear H12
    have H12 := H12x
    clear H12x
    clear hd0 hk0
    have hB := Below.kp HB.out hk HF.out
    clear HD HB
    have HD := Lib.hid hd; have HB := Lib.hid hB
    clear hd hB hk
    go_wp2_with fail
    refine (rot_any A rD0 i 0 w6 HD.out).mono ?_
    rintro e w7 ⟨rfl, hd0, hk0⟩
    rw [rrotD hi.out] at hd0
    rw [rrotE hi.out]
    have hk : Keeps A.F w6 w7 := hk0
    have hd := hd0
    have H12x := Lib.hid (H12.out.keeps hk (fun b _ h => hG12.out b h))
    clear H12
    have H12 := H12x
    clear H12x
    clear hd0 hk0
    have hB := Below.kp HB.out hk HF.out
    clear HD HB
    have HD := Lib.hid hd; have HB := Lib.hid hB
    clear hd hB hk
    go_wp2_with fail
    refine (wear_any A rD0 i w7 HD.out).mono ?_
    rintro e w8 ⟨rfl, hd0, hk0⟩
    rw [rwearD hi.out] at hd0
    rw [rwearE hi.out]
    have hk : Keeps A.F w7 w8 := hk0
    have hd := hd0
    have H12x := Lib.hid (H12.out.keeps hk (fun b _ h => hG12.out b h))
    clear H12
    have H12 := H12x
    clear H12x
    clear hd0 hk0
    have hB := Below.kp HB.out hk HF.out
    clear HD HB
    have HD := Lib.hid hd; have HB := Lib.hid hB
    clear hd hB hk
    go_wp2_with fail
    refine (image_any A rD0 w8 HD.out).mono ?_
    rintro e w9 ⟨v13, rfl, hr13, hb⟩
    have hk : Keeps A.F w8 w9 := Keeps.of_below hb
    have hd := HD.out.keeps (F := fun _ => False) (Keeps.of_below hb) (fun _ _ h => h)
    have H12x := Lib.hid (H12.out.keeps hk (fun b _ h => hG12.out b h))
    clear H12
    have H12 := H12x
    clear H12x
    clear hb
    have hB := Below.kp HB.out hk HF.out
    clear HD HB
    have HD := Lib.hid hd; have HB := Lib.hid hB
    clear hd hB hk
    go_wp2_with fail
    refine (sameTexts_any v12 v13 rD0.S rD0.S w9 _ _ H12.out hr13).mono ?_
    rintro e w10 ⟨rfl, hb⟩
    rw [show decide (rD0.S = rD0.S) = true from decide_eq_true rfl]
    have hk : Keeps A.F w9 w10 := Keeps.of_below hb
    have hd := HD.out.keeps (F := fun _ => False) (Keeps.of_below hb) (fun _ _ h => h)
    have hB := Below.kp HB.out hk HF.out
    clear HD HB H12 hr13
    have HD := Lib.hid hd; have HB := Lib.hid hB
    clear hd hB hk hb
    go_wp2_with fail
    refine (pending_any A rD0 w10 HD.out).mono ?_
    rintro e w11 ⟨v, rfl, hr, hb⟩
    rw [rK0] at hr
    obtain ⟨a20, c20, rfl, _, _⟩ := Rd.int (xs := []) (Rd_of_owns hr)
    clear hr
    have hk : Keeps A.F w10 w11 := Keeps.of_below hb
    have hd := HD.out.keeps (F := fun _ => False) (Keeps.of_below hb) (fun _ _ h => h)
    clear hb
    have hB := Below.kp HB.out hk HF.out
    clear HD HB
    have HD := Lib.hid hd; have HB := Lib.hid hB
    clear hd hB hk
    go_wp2_with fail
    refine (worn_any A rD0 w11 HD.out).mono ?_
    rintro e w12 ⟨v, rfl, hr, hb⟩
    rw [rK1] at hr
    obtain ⟨a21, c21, rfl, _, _⟩ := Rd.int (xs := []) (Rd_of_owns hr)
    clear hr
    have hk : Keeps A.F w11 w12 := Keeps.of_below hb
    have hd := HD.out.keeps (F := fun _ => False) (Keeps.of_below hb) (fun _ _ h => h)
    clear hb
    have hB := Below.kp HB.out hk HF.out
    clear HD HB
    have HD := Lib.hid hd; have HB := Lib.hid hB
    clear hd hB hk
    go_wp2_with fail
    go_ret
    exact ⟨rfl, HB.out⟩
  · have hzb : ((s.size : Int) != 64) = true := by simpa using (show ¬ (s.size : Int) = 64 by omega)
    have hz := Lib.hid hz0
    clear hz0
    go_enter Try.func4, Try.ntmps4
    go_wp2_with fail
    refine (sanity_any w).mono ?_
    rintro e w1 ⟨rfl, hB1⟩
    go_wp2_with fail
    refine (new_bad n w1 (by omega)).mono ?_
    rintro e wx ⟨rfl, rfl⟩
    go_wp2_with fail
    refine (new_any 3 w1 (by omega) (by omega)).mono ?_
    rintro e w2 ⟨A, rfl, hd1, hF1, hB2⟩
    have hd2 : DskAt w2 A rD0 := hd1
    have HD := Lib.hid hd2
    have HB := Lib.hid (hB1.trans (hB2.mono hB1.size))
    have HF := Lib.hid (show ∀ b, A.F b → w.heap.size ≤ b from fun b h => Nat.le_trans hB1.size (hF1 b h))
    clear hd1 hd2 hF1 hB1 hB2
    go_wp2_with fail
    refine (image_any A rD0 w2 HD.out).mono ?_
    rintro e w3 ⟨v12, rfl, hr12, hb⟩
    have hk : Keeps A.F w2 w3 := Keeps.of_below hb
    have hd := HD.out.keeps (F := fun _ => False) (Keeps.of_below hb) (fun _ _ h => h)
    have hG12 := Lib.hid (show ∀ b, w2.heap.size ≤ b → ¬ A.F b from fun b h e => by have := HD.out.ltF e; omega)
    have H12 := Lib.hid hr12
    clear hr12
    clear hb
    have hB := Below.kp HB.out hk HF.out
    clear HD HB
    have HD := Lib.hid hd; have HB := Lib.hid hB
    clear hd hB hk
    go_wp2_with fail
    refine (read_any A rD0 i w3 HD.out).mono ?_
    rintro e w4 ⟨rfl, hb⟩
    rw [rread hi.out, rchk hi.out]
    have hk : Keeps A.F w3 w4 := Keeps.of_below hb
    have hd := HD.out.keeps (F := fun _ => False) (Keeps.of_below hb) (fun _ _ h => h)
    have H12x := Lib.hid (H12.out.keeps hk (fun b _ h => hG12.out b h))
    clear H12
    have H12 := H12x
    clear H12x
    clear hb
    have hB := Below.kp HB.out hk HF.out
    clear HD HB
    have HD := Lib.hid hd; have HB := Lib.hid hB
    clear hd hB hk
    go_wp2_with fail
    refine (full_any 120 w4).mono ?_
    rintro e w5 ⟨rfl, hb⟩
    have hk : Keeps A.F w4 w5 := Keeps.of_below hb
    have hd := HD.out.keeps (F := fun _ => False) (Keeps.of_below hb) (fun _ _ h => h)
    have H12x := Lib.hid (H12.out.keeps hk (fun b _ h => hG12.out b h))
    clear H12
    have H12 := H12x
    clear H12x
    clear hb
    have hB := Below.kp HB.out hk HF.out
    clear HD HB
    have HD := Lib.hid hd; have HB := Lib.hid hB
    clear hd hB hk
    go_wp2_with fail
    refine (write_any A rD0 i (fullS 120) w5 HD.out).mono ?_
    rintro e w6 ⟨rfl, hd0, hk0⟩
    rw [rwrD hi.out] at hd0
    rw [rwrE hi.out]
    have hk : Keeps A.F w5 w6 := hk0
    have hd := hd0
    have H12x := Lib.hid (H12.out.keeps hk (fun b _ h => hG12.out b h))
    clear H12
    have H12 := H12x
    clear H12x
    clear hd0 hk0
    have hB := Below.kp HB.out hk HF.out
    clear HD HB
    have HD := Lib.hid hd; have HB := Lib.hid hB
    clear hd hB hk
    go_wp2_with fail
    refine (rot_any A rD0 i 0 w6 HD.out).mono ?_
    rintro e w7 ⟨rfl, hd0, hk0⟩
    rw [rrotD hi.out] at hd0
    rw [rrotE hi.out]
    have hk : Keeps A.F w6 w7 := hk0
    have hd := hd0
    have H12x := Lib.hid (H12.out.keeps hk (fun b _ h => hG12.out b h))
    clear H12
    have H12 := H12x
    clear H12x
    clear hd0 hk0
    have hB := Below.kp HB.out hk HF.out
    clear HD HB
    have HD := Lib.hid hd; have HB := Lib.hid hB
    clear hd hB hk
    go_wp2_with fail
    refine (wear_any A rD0 i w7 HD.out).mono ?_
    rintro e w8 ⟨rfl, hd0, hk0⟩
    rw [rwearD hi.out] at hd0
    rw [rwearE hi.out]
    have hk : Keeps A.F w7 w8 := hk0
    have hd := hd0
    have H12x := Lib.hid (H12.out.keeps hk (fun b _ h => hG12.out b h))
    clear H12
    have H12 := H12x
    clear H12x
    clear hd0 hk0
    have hB := Below.kp HB.out hk HF.out
    clear HD HB
    have HD := Lib.hid hd; have HB := Lib.hid hB
    clear hd hB hk
    go_wp2_with fail
    refine (write_any A rD0 0 s w8 HD.out).mono ?_
    rintro e w9 ⟨rfl, hd0, hk0⟩
    rw [rwzD hz.out] at hd0
    rw [rwzE hz.out]
    have hk : Keeps A.F w8 w9 := hk0
    have hd := hd0
    have H12x := Lib.hid (H12.out.keeps hk (fun b _ h => hG12.out b h))
    clear H12
    have H12 := H12x
    clear H12x
    clear hd0 hk0
    have hB := Below.kp HB.out hk HF.out
    clear HD HB
    have HD := Lib.hid hd; have HB := Lib.hid hB
    clear hd hB hk
    go_wp2_with fail
    refine (image_any A rD0 w9 HD.out).mono ?_
    rintro e w10 ⟨v13, rfl, hr13, hb⟩
    have hk : Keeps A.F w9 w10 := Keeps.of_below hb
    have hd := HD.out.keeps (F := fun _ => False) (Keeps.of_below hb) (fun _ _ h => h)
    have H12x := Lib.hid (H12.out.keeps hk (fun b _ h => hG12.out b h))
    clear H12
    have H12 := H12x
    clear H12x
    clear hb
    have hB := Below.kp HB.out hk HF.out
    clear HD HB
    have HD := Lib.hid hd; have HB := Lib.hid hB
    clear hd hB hk
    go_wp2_with fail
    refine (sameTexts_any v12 v13 rD0.S rD0.S w10 _ _ H12.out hr13).mono ?_
    rintro e w11 ⟨rfl, hb⟩
    rw [show decide (rD0.S = rD0.S) = true from decide_eq_true rfl]
    have hk : Keeps A.F w10 w11 := Keeps.of_below hb
    have hd := HD.out.keeps (F := fun _ => False) (Keeps.of_below hb) (fun _ _ h => h)
    have hB := Below.kp HB.out hk HF.out
    clear HD HB H12 hr13
    have HD := Lib.hid hd; have HB := Lib.hid hB
    clear hd hB hk hb
    go_wp2_with fail
    refine (pending_any A rD0 w11 HD.out).mono ?_
    rintro e w12 ⟨v, rfl, hr, hb⟩
    rw [rK0] at hr
    obtain ⟨a20, c20, rfl, _, _⟩ := Rd.int (xs := []) (Rd_of_owns hr)
    clear hr
    have hk : Keeps A.F w11 w12 := Keeps.of_below hb
    have hd := HD.out.keeps (F := fun _ => False) (Keeps.of_below hb) (fun _ _ h => h)
    clear hb
    have hB := Below.kp HB.out hk HF.out
    clear HD HB
    have HD := Lib.hid hd; have HB := Lib.hid hB
    clear hd hB hk
    go_wp2_with fail
    refine (worn_any A rD0 w12 HD.out).mono ?_
    rintro e w13 ⟨v, rfl, hr, hb⟩
    rw [rK1] at hr
    obtain ⟨a21, c21, rfl, _, _⟩ := Rd.int (xs := []) (Rd_of_owns hr)
    clear hr
    have hk : Keeps A.F w12 w13 := Keeps.of_below hb
    have hd := HD.out.keeps (F := fun _ => False) (Keeps.of_below hb) (fun _ _ h => h)
    clear hb
    have hB := Below.kp HB.out hk HF.out
    clear HD HB
    have HD := Lib.hid hd; have HB := Lib.hid hB
    clear hd hB hk
    go_wp2_with fail
    go_ret
    exact ⟨rfl, HB.out⟩
  · have hzb : ((s.size : Int) != 64) = false := by rw [hz0]; rfl
    clear hz0
    go_enter Try.func4, Try.ntmps4
    go_wp2_with fail
    refine (sanity_any w).mono ?_
    rintro e w1 ⟨rfl, hB1⟩
    go_wp2_with fail
    refine (new_bad n w1 (by omega)).mono ?_
    rintro e wx ⟨rfl, rfl⟩
    go_wp2_with fail
    refine (new_any 3 w1 (by omega) (by omega)).mono ?_
    rintro e w2 ⟨A, rfl, hd1, hF1, hB2⟩
    have hd2 : DskAt w2 A rD0 := hd1
    have HD := Lib.hid hd2
    have HB := Lib.hid (hB1.trans (hB2.mono hB1.size))
    have HF := Lib.hid (show ∀ b, A.F b → w.heap.size ≤ b from fun b h => Nat.le_trans hB1.size (hF1 b h))
    clear hd1 hd2 hF1 hB1 hB2
    go_wp2_with fail
    refine (image_any A rD0 w2 HD.out).mono ?_
    rintro e w3 ⟨v12, rfl, hr12, hb⟩
    have hk : Keeps A.F w2 w3 := Keeps.of_below hb
    have hd := HD.out.keeps (F := fun _ => False) (Keeps.of_below hb) (fun _ _ h => h)
    have hG12 := Lib.hid (show ∀ b, w2.heap.size ≤ b → ¬ A.F b from fun b h e => by have := HD.out.ltF e; omega)
    have H12 := Lib.hid hr12
    clear hr12
    clear hb
    have hB := Below.kp HB.out hk HF.out
    clear HD HB
    have HD := Lib.hid hd; have HB := Lib.hid hB
    clear hd hB hk
    go_wp2_with fail
    refine (read_any A rD0 i w3 HD.out).mono ?_
    rintro e w4 ⟨rfl, hb⟩
    rw [rread hi.out, rchk hi.out]
    have hk : Keeps A.F w3 w4 := Keeps.of_below hb
    have hd := HD.out.keeps (F := fun _ => False) (Keeps.of_below hb) (fun _ _ h => h)
    have H12x := Lib.hid (H12.out.keeps hk (fun b _ h => hG12.out b h))
    clear H12
    have H12 := H12x
    clear H12x
    clear hb
    have hB := Below.kp HB.out hk HF.out
    clear HD HB
    have HD := Lib.hid hd; have HB := Lib.hid hB
    clear hd hB hk
    go_wp2_with fail
    refine (full_any 120 w4).mono ?_
    rintro e w5 ⟨rfl, hb⟩
    have hk : Keeps A.F w4 w5 := Keeps.of_below hb
    have hd := HD.out.keeps (F := fun _ => False) (Keeps.of_below hb) (fun _ _ h => h)
    have H12x := Lib.hid (H12.out.keeps hk (fun b _ h => hG12.out b h))
    clear H12
    have H12 := H12x
    clear H12x
    clear hb
    have hB := Below.kp HB.out hk HF.out
    clear HD HB
    have HD := Lib.hid hd; have HB := Lib.hid hB
    clear hd hB hk
    go_wp2_with fail
    refine (write_any A rD0 i (fullS 120) w5 HD.out).mono ?_
    rintro e w6 ⟨rfl, hd0, hk0⟩
    rw [rwrD hi.out] at hd0
    rw [rwrE hi.out]
    have hk : Keeps A.F w5 w6 := hk0
    have hd := hd0
    have H12x := Lib.hid (H12.out.keeps hk (fun b _ h => hG12.out b h))
    clear H12
    have H12 := H12x
    clear H12x
    clear hd0 hk0
    have hB := Below.kp HB.out hk HF.out
    clear HD HB
    have HD := Lib.hid hd; have HB := Lib.hid hB
    clear hd hB hk
    go_wp2_with fail
    refine (rot_any A rD0 i 0 w6 HD.out).mono ?_
    rintro e w7 ⟨rfl, hd0, hk0⟩
    rw [rrotD hi.out] at hd0
    rw [rrotE hi.out]
    have hk : Keeps A.F w6 w7 := hk0
    have hd := hd0
    have H12x := Lib.hid (H12.out.keeps hk (fun b _ h => hG12.out b h))
    clear H12
    have H12 := H12x
    clear H12x
    clear hd0 hk0
    have hB := Below.kp HB.out hk HF.out
    clear HD HB
    have HD := Lib.hid hd; have HB := Lib.hid hB
    clear hd hB hk
    go_wp2_with fail
    refine (wear_any A rD0 i w7 HD.out).mono ?_
    rintro e w8 ⟨rfl, hd0, hk0⟩
    rw [rwearD hi.out] at hd0
    rw [rwearE hi.out]
    have hk : Keeps A.F w7 w8 := hk0
    have hd := hd0
    have H12x := Lib.hid (H12.out.keeps hk (fun b _ h => hG12.out b h))
    clear H12
    have H12 := H12x
    clear H12x
    clear hd0 hk0
    have hB := Below.kp HB.out hk HF.out
    clear HD HB
    have HD := Lib.hid hd; have HB := Lib.hid hB
    clear hd hB hk
    go_wp2_with fail
    refine (image_any A rD0 w8 HD.out).mono ?_
    rintro e w9 ⟨v13, rfl, hr13, hb⟩
    have hk : Keeps A.F w8 w9 := Keeps.of_below hb
    have hd := HD.out.keeps (F := fun _ => False) (Keeps.of_below hb) (fun _ _ h => h)
    have H12x := Lib.hid (H12.out.keeps hk (fun b _ h => hG12.out b h))
    clear H12
    have H12 := H12x
    clear H12x
    clear hb
    have hB := Below.kp HB.out hk HF.out
    clear HD HB
    have HD := Lib.hid hd; have HB := Lib.hid hB
    clear hd hB hk
    go_wp2_with fail
    refine (sameTexts_any v12 v13 rD0.S rD0.S w9 _ _ H12.out hr13).mono ?_
    rintro e w10 ⟨rfl, hb⟩
    rw [show decide (rD0.S = rD0.S) = true from decide_eq_true rfl]
    have hk : Keeps A.F w9 w10 := Keeps.of_below hb
    have hd := HD.out.keeps (F := fun _ => False) (Keeps.of_below hb) (fun _ _ h => h)
    have hB := Below.kp HB.out hk HF.out
    clear HD HB H12 hr13
    have HD := Lib.hid hd; have HB := Lib.hid hB
    clear hd hB hk hb
    go_wp2_with fail
    refine (pending_any A rD0 w10 HD.out).mono ?_
    rintro e w11 ⟨v, rfl, hr, hb⟩
    rw [rK0] at hr
    obtain ⟨a20, c20, rfl, _, _⟩ := Rd.int (xs := []) (Rd_of_owns hr)
    clear hr
    have hk : Keeps A.F w10 w11 := Keeps.of_below hb
    have hd := HD.out.keeps (F := fun _ => False) (Keeps.of_below hb) (fun _ _ h => h)
    clear hb
    have hB := Below.kp HB.out hk HF.out
    clear HD HB
    have HD := Lib.hid hd; have HB := Lib.hid hB
    clear hd hB hk
    go_wp2_with fail
    refine (worn_any A rD0 w11 HD.out).mono ?_
    rintro e w12 ⟨v, rfl, hr, hb⟩
    rw [rK1] at hr
    obtain ⟨a21, c21, rfl, _, _⟩ := Rd.int (xs := []) (Rd_of_owns hr)
    clear hr
    have hk : Keeps A.F w11 w12 := Keeps.of_below hb
    have hd := HD.out.keeps (F := fun _ => False) (Keeps.of_below hb) (fun _ _ h => h)
    clear hb
    have hB := Below.kp HB.out hk HF.out
    clear HD HB
    have HD := Lib.hid hd; have HB := Lib.hid hB
    clear hd hB hk
    go_wp2_with fail
    go_ret
    exact ⟨rfl, HB.out⟩
  · have hzb : ((s.size : Int) != 64) = true := by simpa using (show ¬ (s.size : Int) = 64 by omega)
    have hz := Lib.hid hz0
    clear hz0
    go_enter Try.func4, Try.ntmps4
    go_wp2_with fail
    refine (sanity_any w).mono ?_
    rintro e w1 ⟨rfl, hB1⟩
    go_wp2_with fail
    refine (new_bad n w1 (by omega)).mono ?_
    rintro e wx ⟨rfl, rfl⟩
    go_wp2_with fail
    refine (new_any 3 w1 (by omega) (by omega)).mono ?_
    rintro e w2 ⟨A, rfl, hd1, hF1, hB2⟩
    have hd2 : DskAt w2 A rD0 := hd1
    have HD := Lib.hid hd2
    have HB := Lib.hid (hB1.trans (hB2.mono hB1.size))
    have HF := Lib.hid (show ∀ b, A.F b → w.heap.size ≤ b from fun b h => Nat.le_trans hB1.size (hF1 b h))
    clear hd1 hd2 hF1 hB1 hB2
    go_wp2_with fail
    refine (image_any A rD0 w2 HD.out).mono ?_
    rintro e w3 ⟨v12, rfl, hr12, hb⟩
    have hk : Keeps A.F w2 w3 := Keeps.of_below hb
    have hd := HD.out.keeps (F := fun _ => False) (Keeps.of_below hb) (fun _ _ h => h)
    have hG12 := Lib.hid (show ∀ b, w2.heap.size ≤ b → ¬ A.F b from fun b h e => by have := HD.out.ltF e; omega)
    have H12 := Lib.hid hr12
    clear hr12
    clear hb
    have hB := Below.kp HB.out hk HF.out
    clear HD HB
    have HD := Lib.hid hd; have HB := Lib.hid hB
    clear hd hB hk
    go_wp2_with fail
    refine (read_any A rD0 i w3 HD.out).mono ?_
    rintro e w4 ⟨rfl, hb⟩
    rw [rread hi.out, rchk hi.out]
    have hk : Keeps A.F w3 w4 := Keeps.of_below hb
    have hd := HD.out.keeps (F := fun _ => False) (Keeps.of_below hb) (fun _ _ h => h)
    have H12x := Lib.hid (H12.out.keeps hk (fun b _ h => hG12.out b h))
    clear H12
    have H12 := H12x
    clear H12x
    clear hb
    have hB := Below.kp HB.out hk HF.out
    clear HD HB
    have HD := Lib.hid hd; have HB := Lib.hid hB
    clear hd hB hk
    go_wp2_with fail
    refine (full_any 120 w4).mono ?_
    rintro e w5 ⟨rfl, hb⟩
    have hk : Keeps A.F w4 w5 := Keeps.of_below hb
    have hd := HD.out.keeps (F := fun _ => False) (Keeps.of_below hb) (fun _ _ h => h)
    have H12x := Lib.hid (H12.out.keeps hk (fun b _ h => hG12.out b h))
    clear H12
    have H12 := H12x
    clear H12x
    clear hb
    have hB := Below.kp HB.out hk HF.out
    clear HD HB
    have HD := Lib.hid hd; have HB := Lib.hid hB
    clear hd hB hk
    go_wp2_with fail
    refine (write_any A rD0 i (fullS 120) w5 HD.out).mono ?_
    rintro e w6 ⟨rfl, hd0, hk0⟩
    rw [rwrD hi.out] at hd0
    rw [rwrE hi.out]
    have hk : Keeps A.F w5 w6 := hk0
    have hd := hd0
    have H12x := Lib.hid (H12.out.keeps hk (fun b _ h => hG12.out b h))
    clear H12
    have H12 := H12x
    clear H12x
    clear hd0 hk0
    have hB := Below.kp HB.out hk HF.out
    clear HD HB
    have HD := Lib.hid hd; have HB := Lib.hid hB
    clear hd hB hk
    go_wp2_with fail
    refine (rot_any A rD0 i 0 w6 HD.out).mono ?_
    rintro e w7 ⟨rfl, hd0, hk0⟩
    rw [rrotD hi.out] at hd0
    rw [rrotE hi.out]
    have hk : Keeps A.F w6 w7 := hk0
    have hd := hd0
    have H12x := Lib.hid (H12.out.keeps hk (fun b _ h => hG12.out b h))
    clear H12
    have H12 := H12x
    clear H12x
    clear hd0 hk0
    have hB := Below.kp HB.out hk HF.out
    clear HD HB
    have HD := Lib.hid hd; have HB := Lib.hid hB
    clear hd hB hk
    go_wp2_with fail
    refine (wear_any A rD0 i w7 HD.out).mono ?_
    rintro e w8 ⟨rfl, hd0, hk0⟩
    rw [rwearD hi.out] at hd0
    rw [rwearE hi.out]
    have hk : Keeps A.F w7 w8 := hk0
    have hd := hd0
    have H12x := Lib.hid (H12.out.keeps hk (fun b _ h => hG12.out b h))
    clear H12
    have H12 := H12x
    clear H12x
    clear hd0 hk0
    have hB := Below.kp HB.out hk HF.out
    clear HD HB
    have HD := Lib.hid hd; have HB := Lib.hid hB
    clear hd hB hk
    go_wp2_with fail
    refine (write_any A rD0 0 s w8 HD.out).mono ?_
    rintro e w9 ⟨rfl, hd0, hk0⟩
    rw [rwzD hz.out] at hd0
    rw [rwzE hz.out]
    have hk : Keeps A.F w8 w9 := hk0
    have hd := hd0
    have H12x := Lib.hid (H12.out.keeps hk (fun b _ h => hG12.out b h))
    clear H12
    have H12 := H12x
    clear H12x
    clear hd0 hk0
    have hB := Below.kp HB.out hk HF.out
    clear HD HB
    have HD := Lib.hid hd; have HB := Lib.hid hB
    clear hd hB hk
    go_wp2_with fail
    refine (image_any A rD0 w9 HD.out).mono ?_
    rintro e w10 ⟨v13, rfl, hr13, hb⟩
    have hk : Keeps A.F w9 w10 := Keeps.of_below hb
    have hd := HD.out.keeps (F := fun _ => False) (Keeps.of_below hb) (fun _ _ h => h)
    have H12x := Lib.hid (H12.out.keeps hk (fun b _ h => hG12.out b h))
    clear H12
    have H12 := H12x
    clear H12x
    clear hb
    have hB := Below.kp HB.out hk HF.out
    clear HD HB
    have HD := Lib.hid hd; have HB := Lib.hid hB
    clear hd hB hk
    go_wp2_with fail
    refine (sameTexts_any v12 v13 rD0.S rD0.S w10 _ _ H12.out hr13).mono ?_
    rintro e w11 ⟨rfl, hb⟩
    rw [show decide (rD0.S = rD0.S) = true from decide_eq_true rfl]
    have hk : Keeps A.F w10 w11 := Keeps.of_below hb
    have hd := HD.out.keeps (F := fun _ => False) (Keeps.of_below hb) (fun _ _ h => h)
    have hB := Below.kp HB.out hk HF.out
    clear HD HB H12 hr13
    have HD := Lib.hid hd; have HB := Lib.hid hB
    clear hd hB hk hb
    go_wp2_with fail
    refine (pending_any A rD0 w11 HD.out).mono ?_
    rintro e w12 ⟨v, rfl, hr, hb⟩
    rw [rK0] at hr
    obtain ⟨a20, c20, rfl, _, _⟩ := Rd.int (xs := []) (Rd_of_owns hr)
    clear hr
    have hk : Keeps A.F w11 w12 := Keeps.of_below hb
    have hd := HD.out.keeps (F := fun _ => False) (Keeps.of_below hb) (fun _ _ h => h)
    clear hb
    have hB := Below.kp HB.out hk HF.out
    clear HD HB
    have HD := Lib.hid hd; have HB := Lib.hid hB
    clear hd hB hk
    go_wp2_with fail
    refine (worn_any A rD0 w12 HD.out).mono ?_
    rintro e w13 ⟨v, rfl, hr, hb⟩
    rw [rK1] at hr
    obtain ⟨a21, c21, rfl, _, _⟩ := Rd.int (xs := []) (Rd_of_owns hr)
    clear hr
    have hk : Keeps A.F w12 w13 := Keeps.of_below hb
    have hd := HD.out.keeps (F := fun _ => False) (Keeps.of_below hb) (fun _ _ h => h)
    clear hb
    have hB := Below.kp HB.out hk HF.out
    clear HD HB
    have HD := Lib.hid hd; have HB := Lib.hid hB
    clear hd hB hk
    go_wp2_with fail
    go_ret
    exact ⟨rfl, HB.out⟩
  · have hzb : ((s.size : Int) != 64) = false := by rw [hz0]; rfl
    clear hz0
    go_enter Try.func4, Try.ntmps4
    go_wp2_with fail
    refine (sanity_any w).mono ?_
    rintro e w1 ⟨rfl, hB1⟩
    go_wp2_with fail
    refine (new_bad n w1 (by omega)).mono ?_
    rintro e wx ⟨rfl, rfl⟩
    go_wp2_with fail
    refine (new_any 3 w1 (by omega) (by omega)).mono ?_
    rintro e w2 ⟨A, rfl, hd1, hF1, hB2⟩
    have hd2 : DskAt w2 A rD0 := hd1
    have HD := Lib.hid hd2
    have HB := Lib.hid (hB1.trans (hB2.mono hB1.size))
    have HF := Lib.hid (show ∀ b, A.F b → w.heap.size ≤ b from fun b h => Nat.le_trans hB1.size (hF1 b h))
    clear hd1 hd2 hF1 hB1 hB2
    go_wp2_with fail
    refine (image_any A rD0 w2 HD.out).mono ?_
    rintro e w3 ⟨v12, rfl, hr12, hb⟩
    have hk : Keeps A.F w2 w3 := Keeps.of_below hb
    have hd := HD.out.keeps (F := fun _ => False) (Keeps.of_below hb) (fun _ _ h => h)
    have hG12 := Lib.hid (show ∀ b, w2.heap.size ≤ b → ¬ A.F b from fun b h e => by have := HD.out.ltF e; omega)
    have H12 := Lib.hid hr12
    clear hr12
    clear hb
    have hB := Below.kp HB.out hk HF.out
    clear HD HB
    have HD := Lib.hid hd; have HB := Lib.hid hB
    clear hd hB hk
    go_wp2_with fail
    refine (image_any A rD0 w3 HD.out).mono ?_
    rintro e w4 ⟨v13, rfl, hr13, hb⟩
    have hk : Keeps A.F w3 w4 := Keeps.of_below hb
    have hd := HD.out.keeps (F := fun _ => False) (Keeps.of_below hb) (fun _ _ h => h)
    have H12x := Lib.hid (H12.out.keeps hk (fun b _ h => hG12.out b h))
    clear H12
    have H12 := H12x
    clear H12x
    clear hb
    have hB := Below.kp HB.out hk HF.out
    clear HD HB
    have HD := Lib.hid hd; have HB := Lib.hid hB
    clear hd hB hk
    go_wp2_with fail
    refine (sameTexts_any v12 v13 rD0.S rD0.S w4 _ _ H12.out hr13).mono ?_
    rintro e w5 ⟨rfl, hb⟩
    rw [show decide (rD0.S = rD0.S) = true from decide_eq_true rfl]
    have hk : Keeps A.F w4 w5 := Keeps.of_below hb
    have hd := HD.out.keeps (F := fun _ => False) (Keeps.of_below hb) (fun _ _ h => h)
    have hB := Below.kp HB.out hk HF.out
    clear HD HB H12 hr13
    have HD := Lib.hid hd; have HB := Lib.hid hB
    clear hd hB hk hb
    go_wp2_with fail
    refine (pending_any A rD0 w5 HD.out).mono ?_
    rintro e w6 ⟨v, rfl, hr, hb⟩
    rw [rK0] at hr
    obtain ⟨a20, c20, rfl, _, _⟩ := Rd.int (xs := []) (Rd_of_owns hr)
    clear hr
    have hk : Keeps A.F w5 w6 := Keeps.of_below hb
    have hd := HD.out.keeps (F := fun _ => False) (Keeps.of_below hb) (fun _ _ h => h)
    clear hb
    have hB := Below.kp HB.out hk HF.out
    clear HD HB
    have HD := Lib.hid hd; have HB := Lib.hid hB
    clear hd hB hk
    go_wp2_with fail
    refine (worn_any A rD0 w6 HD.out).mono ?_
    rintro e w7 ⟨v, rfl, hr, hb⟩
    rw [rK1] at hr
    obtain ⟨a21, c21, rfl, _, _⟩ := Rd.int (xs := []) (Rd_of_owns hr)
    clear hr
    have hk : Keeps A.F w6 w7 := Keeps.of_below hb
    have hd := HD.out.keeps (F := fun _ => False) (Keeps.of_below hb) (fun _ _ h => h)
    clear hb
    have hB := Below.kp HB.out hk HF.out
    clear HD HB
    have HD := Lib.hid hd; have HB := Lib.hid hB
    clear hd hB hk
    go_wp2_with fail
    go_ret
    exact ⟨rfl, HB.out⟩
  · have hzb : ((s.size : Int) != 64) = true := by simpa using (show ¬ (s.size : Int) = 64 by omega)
    have hz := Lib.hid hz0
    clear hz0
    go_enter Try.func4, Try.ntmps4
    go_wp2_with fail
    refine (sanity_any w).mono ?_
    rintro e w1 ⟨rfl, hB1⟩
    go_wp2_with fail
    refine (new_bad n w1 (by omega)).mono ?_
    rintro e wx ⟨rfl, rfl⟩
    go_wp2_with fail
    refine (new_any 3 w1 (by omega) (by omega)).mono ?_
    rintro e w2 ⟨A, rfl, hd1, hF1, hB2⟩
    have hd2 : DskAt w2 A rD0 := hd1
    have HD := Lib.hid hd2
    have HB := Lib.hid (hB1.trans (hB2.mono hB1.size))
    have HF := Lib.hid (show ∀ b, A.F b → w.heap.size ≤ b from fun b h => Nat.le_trans hB1.size (hF1 b h))
    clear hd1 hd2 hF1 hB1 hB2
    go_wp2_with fail
    refine (image_any A rD0 w2 HD.out).mono ?_
    rintro e w3 ⟨v12, rfl, hr12, hb⟩
    have hk : Keeps A.F w2 w3 := Keeps.of_below hb
    have hd := HD.out.keeps (F := fun _ => False) (Keeps.of_below hb) (fun _ _ h => h)
    have hG12 := Lib.hid (show ∀ b, w2.heap.size ≤ b → ¬ A.F b from fun b h e => by have := HD.out.ltF e; omega)
    have H12 := Lib.hid hr12
    clear hr12
    clear hb
    have hB := Below.kp HB.out hk HF.out
    clear HD HB
    have HD := Lib.hid hd; have HB := Lib.hid hB
    clear hd hB hk
    go_wp2_with fail
    refine (write_any A rD0 0 s w3 HD.out).mono ?_
    rintro e w4 ⟨rfl, hd0, hk0⟩
    rw [rwzD hz.out] at hd0
    rw [rwzE hz.out]
    have hk : Keeps A.F w3 w4 := hk0
    have hd := hd0
    have H12x := Lib.hid (H12.out.keeps hk (fun b _ h => hG12.out b h))
    clear H12
    have H12 := H12x
    clear H12x
    clear hd0 hk0
    have hB := Below.kp HB.out hk HF.out
    clear HD HB
    have HD := Lib.hid hd; have HB := Lib.hid hB
    clear hd hB hk
    go_wp2_with fail
    refine (image_any A rD0 w4 HD.out).mono ?_
    rintro e w5 ⟨v13, rfl, hr13, hb⟩
    have hk : Keeps A.F w4 w5 := Keeps.of_below hb
    have hd := HD.out.keeps (F := fun _ => False) (Keeps.of_below hb) (fun _ _ h => h)
    have H12x := Lib.hid (H12.out.keeps hk (fun b _ h => hG12.out b h))
    clear H12
    have H12 := H12x
    clear H12x
    clear hb
    have hB := Below.kp HB.out hk HF.out
    clear HD HB
    have HD := Lib.hid hd; have HB := Lib.hid hB
    clear hd hB hk
    go_wp2_with fail
    refine (sameTexts_any v12 v13 rD0.S rD0.S w5 _ _ H12.out hr13).mono ?_
    rintro e w6 ⟨rfl, hb⟩
    rw [show decide (rD0.S = rD0.S) = true from decide_eq_true rfl]
    have hk : Keeps A.F w5 w6 := Keeps.of_below hb
    have hd := HD.out.keeps (F := fun _ => False) (Keeps.of_below hb) (fun _ _ h => h)
    have hB := Below.kp HB.out hk HF.out
    clear HD HB H12 hr13
    have HD := Lib.hid hd; have HB := Lib.hid hB
    clear hd hB hk hb
    go_wp2_with fail
    refine (pending_any A rD0 w6 HD.out).mono ?_
    rintro e w7 ⟨v, rfl, hr, hb⟩
    rw [rK0] at hr
    obtain ⟨a20, c20, rfl, _, _⟩ := Rd.int (xs := []) (Rd_of_owns hr)
    clear hr
    have hk : Keeps A.F w6 w7 := Keeps.of_below hb
    have hd := HD.out.keeps (F := fun _ => False) (Keeps.of_below hb) (fun _ _ h => h)
    clear hb
    have hB := Below.kp HB.out hk HF.out
    clear HD HB
    have HD := Lib.hid hd; have HB := Lib.hid hB
    clear hd hB hk
    go_wp2_with fail
    refine (worn_any A rD0 w7 HD.out).mono ?_
    rintro e w8 ⟨v, rfl, hr, hb⟩
    rw [rK1] at hr
    obtain ⟨a21, c21, rfl, _, _⟩ := Rd.int (xs := []) (Rd_of_owns hr)
    clear hr
    have hk : Keeps A.F w7 w8 := Keeps.of_below hb
    have hd := HD.out.keeps (F := fun _ => False) (Keeps.of_below hb) (fun _ _ h => h)
    clear hb
    have hB := Below.kp HB.out hk HF.out
    clear HD HB
    have HD := Lib.hid hd; have HB := Lib.hid hB
    clear hd hB hk
    go_wp2_with fail
    go_ret
    exact ⟨rfl, HB.out⟩
  · have hzb : ((s.size : Int) != 64) = false := by rw [hz0]; rfl
    clear hz0
    go_enter Try.func4, Try.ntmps4
    go_wp2_with fail
    refine (sanity_any w).mono ?_
    rintro e w1 ⟨rfl, hB1⟩
    go_wp2_with fail
    refine (new_bad n w1 (by omega)).mono ?_
    rintro e wx ⟨rfl, rfl⟩
    go_wp2_with fail
    refine (new_any 3 w1 (by omega) (by omega)).mono ?_
    rintro e w2 ⟨A, rfl, hd1, hF1, hB2⟩
    have hd2 : DskAt w2 A rD0 := hd1
    have HD := Lib.hid hd2
    have HB := Lib.hid (hB1.trans (hB2.mono hB1.size))
    have HF := Lib.hid (show ∀ b, A.F b → w.heap.size ≤ b from fun b h => Nat.le_trans hB1.size (hF1 b h))
    clear hd1 hd2 hF1 hB1 hB2
    go_wp2_with fail
    refine (image_any A rD0 w2 HD.out).mono ?_
    rintro e w3 ⟨v12, rfl, hr12, hb⟩
    have hk : Keeps A.F w2 w3 := Keeps.of_below hb
    have hd := HD.out.keeps (F := fun _ => False) (Keeps.of_below hb) (fun _ _ h => h)
    have hG12 := Lib.hid (show ∀ b, w2.heap.size ≤ b → ¬ A.F b from fun b h e => by have := HD.out.ltF e; omega)
    have H12 := Lib.hid hr12
    clear hr12
    clear hb
    have hB := Below.kp HB.out hk HF.out
    clear HD HB
    have HD := Lib.hid hd; have HB := Lib.hid hB
    clear hd hB hk
    go_wp2_with fail
    refine (read_any A rD0 i w3 HD.out).mono ?_
    rintro e w4 ⟨rfl, hb⟩
    rw [rread hi.out, rchk hi.out]
    have hk : Keeps A.F w3 w4 := Keeps.of_below hb
    have hd := HD.out.keeps (F := fun _ => False) (Keeps.of_below hb) (fun _ _ h => h)
    have H12x := Lib.hid (H12.out.keeps hk (fun b _ h => hG12.out b h))
    clear H12
    have H12 := H12x
    clear H12x
    clear hb
    have hB := Below.kp HB.out hk HF.out
    clear HD HB
    have HD := Lib.hid hd; have HB := Lib.hid hB
    clear hd hB hk
    go_wp2_with fail
    refine (full_any 120 w4).mono ?_
    rintro e w5 ⟨rfl, hb⟩
    have hk : Keeps A.F w4 w5 := Keeps.of_below hb
    have hd := HD.out.keeps (F := fun _ => False) (Keeps.of_below hb) (fun _ _ h => h)
    have H12x := Lib.hid (H12.out.keeps hk (fun b _ h => hG12.out b h))
    clear H12
    have H12 := H12x
    clear H12x
    clear hb
    have hB := Below.kp HB.out hk HF.out
    clear HD HB
    have HD := Lib.hid hd; have HB := Lib.hid hB
    clear hd hB hk
    go_wp2_with fail
    refine (write_any A rD0 i (fullS 120) w5 HD.out).mono ?_
    rintro e w6 ⟨rfl, hd0, hk0⟩
    rw [rwrD hi.out] at hd0
    rw [rwrE hi.out]
    have hk : Keeps A.F w5 w6 := hk0
    have hd := hd0
    have H12x := Lib.hid (H12.out.keeps hk (fun b _ h => hG12.out b h))
    clear H12
    have H12 := H12x
    clear H12x
    clear hd0 hk0
    have hB := Below.kp HB.out hk HF.out
    clear HD HB
    have HD := Lib.hid hd; have HB := Lib.hid hB
    clear hd hB hk
    go_wp2_with fail
    refine (rot_any A rD0 i 0 w6 HD.out).mono ?_
    rintro e w7 ⟨rfl, hd0, hk0⟩
    rw [rrotD hi.out] at hd0
    rw [rrotE hi.out]
    have hk : Keeps A.F w6 w7 := hk0
    have hd := hd0
    have H12x := Lib.hid (H12.out.keeps hk (fun b _ h => hG12.out b h))
    clear H12
    have H12 := H12x
    clear H12x
    clear hd0 hk0
    have hB := Below.kp HB.out hk HF.out
    clear HD HB
    have HD := Lib.hid hd; have HB := Lib.hid hB
    clear hd hB hk
    go_wp2_with fail
    refine (wear_any A rD0 i w7 HD.out).mono ?_
    rintro e w8 ⟨rfl, hd0, hk0⟩
    rw [rwearD hi.out] at hd0
    rw [rwearE hi.out]
    have hk : Keeps A.F w7 w8 := hk0
    have hd := hd0
    have H12x := Lib.hid (H12.out.keeps hk (fun b _ h => hG12.out b h))
    clear H12
    have H12 := H12x
    clear H12x
    clear hd0 hk0
    have hB := Below.kp HB.out hk HF.out
    clear HD HB
    have HD := Lib.hid hd; have HB := Lib.hid hB
    clear hd hB hk
    go_wp2_with fail
    refine (image_any A rD0 w8 HD.out).mono ?_
    rintro e w9 ⟨v13, rfl, hr13, hb⟩
    have hk : Keeps A.F w8 w9 := Keeps.of_below hb
    have hd := HD.out.keeps (F := fun _ => False) (Keeps.of_below hb) (fun _ _ h => h)
    have H12x := Lib.hid (H12.out.keeps hk (fun b _ h => hG12.out b h))
    clear H12
    have H12 := H12x
    clear H12x
    clear hb
    have hB := Below.kp HB.out hk HF.out
    clear HD HB
    have HD := Lib.hid hd; have HB := Lib.hid hB
    clear hd hB hk
    go_wp2_with fail
    refine (sameTexts_any v12 v13 rD0.S rD0.S w9 _ _ H12.out hr13).mono ?_
    rintro e w10 ⟨rfl, hb⟩
    rw [show decide (rD0.S = rD0.S) = true from decide_eq_true rfl]
    have hk : Keeps A.F w9 w10 := Keeps.of_below hb
    have hd := HD.out.keeps (F := fun _ => False) (Keeps.of_below hb) (fun _ _ h => h)
    have hB := Below.kp HB.out hk HF.out
    clear HD HB H12 hr13
    have HD := Lib.hid hd; have HB := Lib.hid hB
    clear hd hB hk hb
    go_wp2_with fail
    refine (pending_any A rD0 w10 HD.out).mono ?_
    rintro e w11 ⟨v, rfl, hr, hb⟩
    rw [rK0] at hr
    obtain ⟨a20, c20, rfl, _, _⟩ := Rd.int (xs := []) (Rd_of_owns hr)
    clear hr
    have hk : Keeps A.F w10 w11 := Keeps.of_below hb
    have hd := HD.out.keeps (F := fun _ => False) (Keeps.of_below hb) (fun _ _ h => h)
    clear hb
    have hB := Below.kp HB.out hk HF.out
    clear HD HB
    have HD := Lib.hid hd; have HB := Lib.hid hB
    clear hd hB hk
    go_wp2_with fail
    refine (worn_any A rD0 w11 HD.out).mono ?_
    rintro e w12 ⟨v, rfl, hr, hb⟩
    rw [rK1] at hr
    obtain ⟨a21, c21, rfl, _, _⟩ := Rd.int (xs := []) (Rd_of_owns hr)
    clear hr
    have hk : Keeps A.F w11 w12 := Keeps.of_below hb
    have hd := HD.out.keeps (F := fun _ => False) (Keeps.of_below hb) (fun _ _ h => h)
    clear hb
    have hB := Below.kp HB.out hk HF.out
    clear HD HB
    have HD := Lib.hid hd; have HB := Lib.hid hB
    clear hd hB hk
    go_wp2_with fail
    go_ret
    exact ⟨rfl, HB.out⟩
  · have hzb : ((s.size : Int) != 64) = true := by simpa using (show ¬ (s.size : Int) = 64 by omega)
    have hz := Lib.hid hz0
    clear hz0
    go_enter Try.func4, Try.ntmps4
    go_wp2_with fail
    refine (sanity_any w).mono ?_
    rintro e w1 ⟨rfl, hB1⟩
    go_wp2_with fail
    refine (new_bad n w1 (by omega)).mono ?_
    rintro e wx ⟨rfl, rfl⟩
    go_wp2_with fail
    refine (new_any 3 w1 (by omega) (by omega)).mono ?_
    rintro e w2 ⟨A, rfl, hd1, hF1, hB2⟩
    have hd2 : DskAt w2 A rD0 := hd1
    have HD := Lib.hid hd2
    have HB := Lib.hid (hB1.trans (hB2.mono hB1.size))
    have HF := Lib.hid (show ∀ b, A.F b → w.heap.size ≤ b from fun b h => Nat.le_trans hB1.size (hF1 b h))
    clear hd1 hd2 hF1 hB1 hB2
    go_wp2_with fail
    refine (image_any A rD0 w2 HD.out).mono ?_
    rintro e w3 ⟨v12, rfl, hr12, hb⟩
    have hk : Keeps A.F w2 w3 := Keeps.of_below hb
    have hd := HD.out.keeps (F := fun _ => False) (Keeps.of_below hb) (fun _ _ h => h)
    have hG12 := Lib.hid (show ∀ b, w2.heap.size ≤ b → ¬ A.F b from fun b h e => by have := HD.out.ltF e; omega)
    have H12 := Lib.hid hr12
    clear hr12
    clear hb
    have hB := Below.kp HB.out hk HF.out
    clear HD HB
    have HD := Lib.hid hd; have HB := Lib.hid hB
    clear hd hB hk
    go_wp2_with fail
    refine (read_any A rD0 i w3 HD.out).mono ?_
    rintro e w4 ⟨rfl, hb⟩
    rw [rread hi.out, rchk hi.out]
    have hk : Keeps A.F w3 w4 := Keeps.of_below hb
    have hd := HD.out.keeps (F := fun _ => False) (Keeps.of_below hb) (fun _ _ h => h)
    have H12x := Lib.hid (H12.out.keeps hk (fun b _ h => hG12.out b h))
    clear H12
    have H12 := H12x
    clear H12x
    clear hb
    have hB := Below.kp HB.out hk HF.out
    clear HD HB
    have HD := Lib.hid hd; have HB := Lib.hid hB
    clear hd hB hk
    go_wp2_with fail
    refine (full_any 120 w4).mono ?_
    rintro e w5 ⟨rfl, hb⟩
    have hk : Keeps A.F w4 w5 := Keeps.of_below hb
    have hd := HD.out.keeps (F := fun _ => False) (Keeps.of_below hb) (fun _ _ h => h)
    have H12x := Lib.hid (H12.out.keeps hk (fun b _ h => hG12.out b h))
    clear H12
    have H12 := H12x
    clear H12x
    clear hb
    have hB := Below.kp HB.out hk HF.out
    clear HD HB
    have HD := Lib.hid hd; have HB := Lib.hid hB
    clear hd hB hk
    go_wp2_with fail
    refine (write_any A rD0 i (fullS 120) w5 HD.out).mono ?_
    rintro e w6 ⟨rfl, hd0, hk0⟩
    rw [rwrD hi.out] at hd0
    rw [rwrE hi.out]
    have hk : Keeps A.F w5 w6 := hk0
    have hd := hd0
    have H12x := Lib.hid (H12.out.keeps hk (fun b _ h => hG12.out b h))
    clear H12
    have H12 := H12x
    clear H12x
    clear hd0 hk0
    have hB := Below.kp HB.out hk HF.out
    clear HD HB
    have HD := Lib.hid hd; have HB := Lib.hid hB
    clear hd hB hk
    go_wp2_with fail
    refine (rot_any A rD0 i 0 w6 HD.out).mono ?_
    rintro e w7 ⟨rfl, hd0, hk0⟩
    rw [rrotD hi.out] at hd0
    rw [rrotE hi.out]
    have hk : Keeps A.F w6 w7 := hk0
    have hd := hd0
    have H12x := Lib.hid (H12.out.keeps hk (fun b _ h => hG12.out b h))
    clear H12
    have H12 := H12x
    clear H12x
    clear hd0 hk0
    have hB := Below.kp HB.out hk HF.out
    clear HD HB
    have HD := Lib.hid hd; have HB := Lib.hid hB
    clear hd hB hk
    go_wp2_with fail
    refine (wear_any A rD0 i w7 HD.out).mono ?_
    rintro e w8 ⟨rfl, hd0, hk0⟩
    rw [rwearD hi.out] at hd0
    rw [rwearE hi.out]
    have hk : Keeps A.F w7 w8 := hk0
    have hd := hd0
    have H12x := Lib.hid (H12.out.keeps hk (fun b _ h => hG12.out b h))
    clear H12
    have H12 := H12x
    clear H12x
    clear hd0 hk0
    have hB := Below.kp HB.out hk HF.out
    clear HD HB
    have HD := Lib.hid hd; have HB := Lib.hid hB
    clear hd hB hk
    go_wp2_with fail
    refine (write_any A rD0 0 s w8 HD.out).mono ?_
    rintro e w9 ⟨rfl, hd0, hk0⟩
    rw [rwzD hz.out] at hd0
    rw [rwzE hz.out]
    have hk : Keeps A.F w8 w9 := hk0
    have hd := hd0
    have H12x := Lib.hid (H12.out.keeps hk (fun b _ h => hG12.out b h))
    clear H12
    have H12 := H12x
    clear H12x
    clear hd0 hk0
    have hB := Below.kp HB.out hk HF.out
    clear HD HB
    have HD := Lib.hid hd; have HB := Lib.hid hB
    clear hd hB hk
    go_wp2_with fail
    refine (image_any A rD0 w9 HD.out).mono ?_
    rintro e w10 ⟨v13, rfl, hr13, hb⟩
    have hk : Keeps A.F w9 w10 := Keeps.of_below hb
    have hd := HD.out.keeps (F := fun _ => False) (Keeps.of_below hb) (fun _ _ h => h)
    have H12x := Lib.hid (H12.out.keeps hk (fun b _ h => hG12.out b h))
    clear H12
    have H12 := H12x
    clear H12x
    clear hb
    have hB := Below.kp HB.out hk HF.out
    clear HD HB
    have HD := Lib.hid hd; have HB := Lib.hid hB
    clear hd hB hk
    go_wp2_with fail
    refine (sameTexts_any v12 v13 rD0.S rD0.S w10 _ _ H12.out hr13).mono ?_
    rintro e w11 ⟨rfl, hb⟩
    rw [show decide (rD0.S = rD0.S) = true from decide_eq_true rfl]
    have hk : Keeps A.F w10 w11 := Keeps.of_below hb
    have hd := HD.out.keeps (F := fun _ => False) (Keeps.of_below hb) (fun _ _ h => h)
    have hB := Below.kp HB.out hk HF.out
    clear HD HB H12 hr13
    have HD := Lib.hid hd; have HB := Lib.hid hB
    clear hd hB hk hb
    go_wp2_with fail
    refine (pending_any A rD0 w11 HD.out).mono ?_
    rintro e w12 ⟨v, rfl, hr, hb⟩
    rw [rK0] at hr
    obtain ⟨a20, c20, rfl, _, _⟩ := Rd.int (xs := []) (Rd_of_owns hr)
    clear hr
    have hk : Keeps A.F w11 w12 := Keeps.of_below hb
    have hd := HD.out.keeps (F := fun _ => False) (Keeps.of_below hb) (fun _ _ h => h)
    clear hb
    have hB := Below.kp HB.out hk HF.out
    clear HD HB
    have HD := Lib.hid hd; have HB := Lib.hid hB
    clear hd hB hk
    go_wp2_with fail
    refine (worn_any A rD0 w12 HD.out).mono ?_
    rintro e w13 ⟨v, rfl, hr, hb⟩
    rw [rK1] at hr
    obtain ⟨a21, c21, rfl, _, _⟩ := Rd.int (xs := []) (Rd_of_owns hr)
    clear hr
    have hk : Keeps A.F w12 w13 := Keeps.of_below hb
    have hd := HD.out.keeps (F := fun _ => False) (Keeps.of_below hb) (fun _ _ h => h)
    clear hb
    have hB := Below.kp HB.out hk HF.out
    clear HD HB
    have HD := Lib.hid hd; have HB := Lib.hid hB
    clear hd hB hk
    go_wp2_with fail
    go_ret
    exact ⟨rfl, HB.out⟩
  · have hzb : ((s.size : Int) != 64) = false := by rw [hz0]; rfl
    clear hz0
    go_enter Try.func4, Try.ntmps4
    go_wp2_with fail
    refine (sanity_any w).mono ?_
    rintro e w1 ⟨rfl, hB1⟩
    go_wp2_with fail
    refine (new_bad n w1 (by omega)).mono ?_
    rintro e wx ⟨rfl, rfl⟩
    go_wp2_with fail
    refine (new_any 3 w1 (by omega) (by omega)).mono ?_
    rintro e w2 ⟨A, rfl, hd1, hF1, hB2⟩
    have hd2 : DskAt w2 A rD0 := hd1
    have HD := Lib.hid hd2
    have HB := Lib.hid (hB1.trans (hB2.mono hB1.size))
    have HF := Lib.hid (show ∀ b, A.F b → w.heap.size ≤ b from fun b h => Nat.le_trans hB1.size (hF1 b h))
    clear hd1 hd2 hF1 hB1 hB2
    go_wp2_with fail
    refine (image_any A rD0 w2 HD.out).mono ?_
    rintro e w3 ⟨v12, rfl, hr12, hb⟩
    have hk : Keeps A.F w2 w3 := Keeps.of_below hb
    have hd := HD.out.keeps (F := fun _ => False) (Keeps.of_below hb) (fun _ _ h => h)
    have hG12 := Lib.hid (show ∀ b, w2.heap.size ≤ b → ¬ A.F b from fun b h e => by have := HD.out.ltF e; omega)
    have H12 := Lib.hid hr12
    clear hr12
    clear hb
    have hB := Below.kp HB.out hk HF.out
    clear HD HB
    have HD := Lib.hid hd; have HB := Lib.hid hB
    clear hd hB hk
    go_wp2_with fail
    refine (read_any A rD0 i w3 HD.out).mono ?_
    rintro e w4 ⟨rfl, hb⟩
    rw [rread hi.out, rchk hi.out]
    have hk : Keeps A.F w3 w4 := Keeps.of_below hb
    have hd := HD.out.keeps (F := fun _ => False) (Keeps.of_below hb) (fun _ _ h => h)
    have H12x := Lib.hid (H12.out.keeps hk (fun b _ h => hG12.out b h))
    clear H12
    have H12 := H12x
    clear H12x
    clear hb
    have hB := Below.kp HB.out hk HF.out
    clear HD HB
    have HD := Lib.hid hd; have HB := Lib.hid hB
    clear hd hB hk
    go_wp2_with fail
    refine (full_any 120 w4).mono ?_
    rintro e w5 ⟨rfl, hb⟩
    have hk : Keeps A.F w4 w5 := Keeps.of_below hb
    have hd := HD.out.keeps (F := fun _ => False) (Keeps.of_below hb) (fun _ _ h => h)
    have H12x := Lib.hid (H12.out.keeps hk (fun b _ h => hG12.out b h))
    clear H12
    have H12 := H12x
    clear H12x
    clear hb
    have hB := Below.kp HB.out hk HF.out
    clear HD HB
    have HD := Lib.hid hd; have HB := Lib.hid hB
    clear hd hB hk
    go_wp2_with fail
    refine (write_any A rD0 i (fullS 120) w5 HD.out).mono ?_
    rintro e w6 ⟨rfl, hd0, hk0⟩
    rw [rwrD hi.out] at hd0
    rw [rwrE hi.out]
    have hk : Keeps A.F w5 w6 := hk0
    have hd := hd0
    have H12x := Lib.hid (H12.out.keeps hk (fun b _ h => hG12.out b h))
    clear H12
    have H12 := H12x
    clear H12x
    clear hd0 hk0
    have hB := Below.kp HB.out hk HF.out
    clear HD HB
    have HD := Lib.hid hd; have HB := Lib.hid hB
    clear hd hB hk
    go_wp2_with fail
    refine (rot_any A rD0 i 0 w6 HD.out).mono ?_
    rintro e w7 ⟨rfl, hd0, hk0⟩
    rw [rrotD hi.out] at hd0
    rw [rrotE hi.out]
    have hk : Keeps A.F w6 w7 := hk0
    have hd := hd0
    have H12x := Lib.hid (H12.out.keeps hk (fun b _ h => hG12.out b h))
    clear H12
    have H12 := H12x
    clear H12x
    clear hd0 hk0
    have hB := Below.kp HB.out hk HF.out
    clear HD HB
    have HD := Lib.hid hd; have HB := Lib.hid hB
    clear hd hB hk
    go_wp2_with fail
    refine (wear_any A rD0 i w7 HD.out).mono ?_
    rintro e w8 ⟨rfl, hd0, hk0⟩
    rw [rwearD hi.out] at hd0
    rw [rwearE hi.out]
    have hk : Keeps A.F w7 w8 := hk0
    have hd := hd0
    have H12x := Lib.hid (H12.out.keeps hk (fun b _ h => hG12.out b h))
    clear H12
    have H12 := H12x
    clear H12x
    clear hd0 hk0
    have hB := Below.kp HB.out hk HF.out
    clear HD HB
    have HD := Lib.hid hd; have HB := Lib.hid hB
    clear hd hB hk
    go_wp2_with fail
    refine (image_any A rD0 w8 HD.out).mono ?_
    rintro e w9 ⟨v13, rfl, hr13, hb⟩
    have hk : Keeps A.F w8 w9 := Keeps.of_below hb
    have hd := HD.out.keeps (F := fun _ => False) (Keeps.of_below hb) (fun _ _ h => h)
    have H12x := Lib.hid (H12.out.keeps hk (fun b _ h => hG12.out b h))
    clear H12
    have H12 := H12x
    clear H12x
    clear hb
    have hB := Below.kp HB.out hk HF.out
    clear HD HB
    have HD := Lib.hid hd; have HB := Lib.hid hB
    clear hd hB hk
    go_wp2_with fail
    refine (sameTexts_any v12 v13 rD0.S rD0.S w9 _ _ H12.out hr13).mono ?_
    rintro e w10 ⟨rfl, hb⟩
    rw [show decide (rD0.S = rD0.S) = true from decide_eq_true rfl]
    have hk : Keeps A.F w9 w10 := Keeps.of_below hb
    have hd := HD.out.keeps (F := fun _ => False) (Keeps.of_below hb) (fun _ _ h => h)
    have hB := Below.kp HB.out hk HF.out
    clear HD HB H12 hr13
    have HD := Lib.hid hd; have HB := Lib.hid hB
    clear hd hB hk hb
    go_wp2_with fail
    refine (pending_any A rD0 w10 HD.out).mono ?_
    rintro e w11 ⟨v, rfl, hr, hb⟩
    rw [rK0] at hr
    obtain ⟨a20, c20, rfl, _, _⟩ := Rd.int (xs := []) (Rd_of_owns hr)
    clear hr
    have hk : Keeps A.F w10 w11 := Keeps.of_below hb
    have hd := HD.out.keeps (F := fun _ => False) (Keeps.of_below hb) (fun _ _ h => h)
    clear hb
    have hB := Below.kp HB.out hk HF.out
    clear HD HB
    have HD := Lib.hid hd; have HB := Lib.hid hB
    clear hd hB hk
    go_wp2_with fail
    refine (worn_any A rD0 w11 HD.out).mono ?_
    rintro e w12 ⟨v, rfl, hr, hb⟩
    rw [rK1] at hr
    obtain ⟨a21, c21, rfl, _, _⟩ := Rd.int (xs := []) (Rd_of_owns hr)
    clear hr
    have hk : Keeps A.F w11 w12 := Keeps.of_below hb
    have hd := HD.out.keeps (F := fun _ => False) (Keeps.of_below hb) (fun _ _ h => h)
    clear hb
    have hB := Below.kp HB.out hk HF.out
    clear HD HB
    have HD := Lib.hid hd; have HB := Lib.hid hB
    clear hd hB hk
    go_wp2_with fail
    go_ret
    exact ⟨rfl, HB.out⟩
  · have hzb : ((s.size : Int) != 64) = true := by simpa using (show ¬ (s.size : Int) = 64 by omega)
    have hz := Lib.hid hz0
    clear hz0
    go_enter Try.func4, Try.ntmps4
    go_wp2_with fail
    refine (sanity_any w).mono ?_
    rintro e w1 ⟨rfl, hB1⟩
    go_wp2_with fail
    refine (new_bad n w1 (by omega)).mono ?_
    rintro e wx ⟨rfl, rfl⟩
    go_wp2_with fail
    refine (new_any 3 w1 (by omega) (by omega)).mono ?_
    rintro e w2 ⟨A, rfl, hd1, hF1, hB2⟩
    have hd2 : DskAt w2 A rD0 := hd1
    have HD := Lib.hid hd2
    have HB := Lib.hid (hB1.trans (hB2.mono hB1.size))
    have HF := Lib.hid (show ∀ b, A.F b → w.heap.size ≤ b from fun b h => Nat.le_trans hB1.size (hF1 b h))
    clear hd1 hd2 hF1 hB1 hB2
    go_wp2_with fail
    refine (image_any A rD0 w2 HD.out).mono ?_
    rintro e w3 ⟨v12, rfl, hr12, hb⟩
    have hk : Keeps A.F w2 w3 := Keeps.of_below hb
    have hd := HD.out.keeps (F := fun _ => False) (Keeps.of_below hb) (fun _ _ h => h)
    have hG12 := Lib.hid (show ∀ b, w2.heap.size ≤ b → ¬ A.F b from fun b h e => by have := HD.out.ltF e; omega)
    have H12 := Lib.hid hr12
    clear hr12
    clear hb
    have hB := Below.kp HB.out hk HF.out
    clear HD HB
    have HD := Lib.hid hd; have HB := Lib.hid hB
    clear hd hB hk
    go_wp2_with fail
    refine (read_any A rD0 i w3 HD.out).mono ?_
    rintro e w4 ⟨rfl, hb⟩
    rw [rread hi.out, rchk hi.out]
    have hk : Keeps A.F w3 w4 := Keeps.of_below hb
    have hd := HD.out.keeps (F := fun _ => False) (Keeps.of_below hb) (fun _ _ h => h)
    have H12x := Lib.hid (H12.out.keeps hk (fun b _ h => hG12.out b h))
    clear H12
    have H12 := H12x
    clear H12x
    clear hb
    have hB := Below.kp HB.out hk HF.out
    clear HD HB
    have HD := Lib.hid hd; have HB := Lib.hid hB
    clear hd hB hk
    go_wp2_with fail
    refine (full_any 120 w4).mono ?_
    rintro e w5 ⟨rfl, hb⟩
    have hk : Keeps A.F w4 w5 := Keeps.of_below hb
    have hd := HD.out.keeps (F := fun _ => False) (Keeps.of_below hb) (fun _ _ h => h)
    have H12x := Lib.hid (H12.out.keeps hk (fun b _ h => hG12.out b h))
    clear H12
    have H12 := H12x
    clear H12x
    clear hb
    have hB := Below.kp HB.out hk HF.out
    clear HD HB
    have HD := Lib.hid hd; have HB := Lib.hid hB
    clear hd hB hk
    go_wp2_with fail
    refine (write_any A rD0 i (fullS 120) w5 HD.out).mono ?_
    rintro e w6 ⟨rfl, hd0, hk0⟩
    rw [rwrD hi.out] at hd0
    rw [rwrE hi.out]
    have hk : Keeps A.F w5 w6 := hk0
    have hd := hd0
    have H12x := Lib.hid (H12.out.keeps hk (fun b _ h => hG12.out b h))
    clear H12
    have H12 := H12x
    clear H12x
    clear hd0 hk0
    have hB := Below.kp HB.out hk HF.out
    clear HD HB
    have HD := Lib.hid hd; have HB := Lib.hid hB
    clear hd hB hk
    go_wp2_with fail
    refine (rot_any A rD0 i 0 w6 HD.out).mono ?_
    rintro e w7 ⟨rfl, hd0, hk0⟩
    rw [rrotD hi.out] at hd0
    rw [rrotE hi.out]
    have hk : Keeps A.F w6 w7 := hk0
    have hd := hd0
    have H12x := Lib.hid (H12.out.keeps hk (fun b _ h => hG12.out b h))
    clear H12
    have H12 := H12x
    clear H12x
    clear hd0 hk0
    have hB := Below.kp HB.out hk HF.out
    clear HD HB
    have HD := Lib.hid hd; have HB := Lib.hid hB
    clear hd hB hk
    go_wp2_with fail
    refine (wear_any A rD0 i w7 HD.out).mono ?_
    rintro e w8 ⟨rfl, hd0, hk0⟩
    rw [rwearD hi.out] at hd0
    rw [rwearE hi.out]
    have hk : Keeps A.F w7 w8 := hk0
    have hd := hd0
    have H12x := Lib.hid (H12.out.keeps hk (fun b _ h => hG12.out b h))
    clear H12
    have H12 := H12x
    clear H12x
    clear hd0 hk0
    have hB := Below.kp HB.out hk HF.out
    clear HD HB
    have HD := Lib.hid hd; have HB := Lib.hid hB
    clear hd hB hk
    go_wp2_with fail
    refine (write_any A rD0 0 s w8 HD.out).mono ?_
    rintro e w9 ⟨rfl, hd0, hk0⟩
    rw [rwzD hz.out] at hd0
    rw [rwzE hz.out]
    have hk : Keeps A.F w8 w9 := hk0
    have hd := hd0
    have H12x := Lib.hid (H12.out.keeps hk (fun b _ h => hG12.out b h))
    clear H12
    have H12 := H12x
    clear H12x
    clear hd0 hk0
    have hB := Below.kp HB.out hk HF.out
    clear HD HB
    have HD := Lib.hid hd; have HB := Lib.hid hB
    clear hd hB hk
    go_wp2_with fail
    refine (image_any A rD0 w9 HD.out).mono ?_
    rintro e w10 ⟨v13, rfl, hr13, hb⟩
    have hk : Keeps A.F w9 w10 := Keeps.of_below hb
    have hd := HD.out.keeps (F := fun _ => False) (Keeps.of_below hb) (fun _ _ h => h)
    have H12x := Lib.hid (H12.out.keeps hk (fun b _ h => hG12.out b h))
    clear H12
    have H12 := H12x
    clear H12x
    clear hb
    have hB := Below.kp HB.out hk HF.out
    clear HD HB
    have HD := Lib.hid hd; have HB := Lib.hid hB
    clear hd hB hk
    go_wp2_with fail
    refine (sameTexts_any v12 v13 rD0.S rD0.S w10 _ _ H12.out hr13).mono ?_
    rintro e w11 ⟨rfl, hb⟩
    rw [show decide (rD0.S = rD0.S) = true from decide_eq_true rfl]
    have hk : Keeps A.F w10 w11 := Keeps.of_below hb
    have hd := HD.out.keeps (F := fun _ => False) (Keeps.of_below hb) (fun _ _ h => h)
    have hB := Below.kp HB.out hk HF.out
    clear HD HB H12 hr13
    have HD := Lib.hid hd; have HB := Lib.hid hB
    clear hd hB hk hb
    go_wp2_with fail
    refine (pending_any A rD0 w11 HD.out).mono ?_
    rintro e w12 ⟨v, rfl, hr, hb⟩
    rw [rK0] at hr
    obtain ⟨a20, c20, rfl, _, _⟩ := Rd.int (xs := []) (Rd_of_owns hr)
    clear hr
    have hk : Keeps A.F w11 w12 := Keeps.of_below hb
    have hd := HD.out.keeps (F := fun _ => False) (Keeps.of_below hb) (fun _ _ h => h)
    clear hb
    have hB := Below.kp HB.out hk HF.out
    clear HD HB
    have HD := Lib.hid hd; have HB := Lib.hid hB
    clear hd hB hk
    go_wp2_with fail
    refine (worn_any A rD0 w12 HD.out).mono ?_
    rintro e w13 ⟨v, rfl, hr, hb⟩
    rw [rK1] at hr
    obtain ⟨a21, c21, rfl, _, _⟩ := Rd.int (xs := []) (Rd_of_owns hr)
    clear hr
    have hk : Keeps A.F w12 w13 := Keeps.of_below hb
    have hd := HD.out.keeps (F := fun _ => False) (Keeps.of_below hb) (fun _ _ h => h)
    clear hb
    have hB := Below.kp HB.out hk HF.out
    clear HD HB
    have HD := Lib.hid hd; have HB := Lib.hid hB
    clear hd hB hk
    go_wp2_with fail
    go_ret
    exact ⟨rfl, HB.out⟩
  · have hzb : ((s.size : Int) != 64) = false := by rw [hz0]; rfl
    clear hz0
    go_enter Try.func4, Try.ntmps4
    go_wp2_with fail
    refine (sanity_any w).mono ?_
    rintro e w1 ⟨rfl, hB1⟩
    go_wp2_with fail
    refine (new_bad n w1 (by omega)).mono ?_
    rintro e wx ⟨rfl, rfl⟩
    go_wp2_with fail
    refine (new_any 3 w1 (by omega) (by omega)).mono ?_
    rintro e w2 ⟨A, rfl, hd1, hF1, hB2⟩
    have hd2 : DskAt w2 A rD0 := hd1
    have HD := Lib.hid hd2
    have HB := Lib.hid (hB1.trans (hB2.mono hB1.size))
    have HF := Lib.hid (show ∀ b, A.F b → w.heap.size ≤ b from fun b h => Nat.le_trans hB1.size (hF1 b h))
    clear hd1 hd2 hF1 hB1 hB2
    go_wp2_with fail
    refine (image_any A rD0 w2 HD.out).mono ?_
    rintro e w3 ⟨v12, rfl, hr12, hb⟩
    have hk : Keeps A.F w2 w3 := Keeps.of_below hb
    have hd := HD.out.keeps (F := fun _ => False) (Keeps.of_below hb) (fun _ _ h => h)
    have hG12 := Lib.hid (show ∀ b, w2.heap.size ≤ b → ¬ A.F b from fun b h e => by have := HD.out.ltF e; omega)
    have H12 := Lib.hid hr12
    clear hr12
    clear hb
    have hB := Below.kp HB.out hk HF.out
    clear HD HB
    have HD := Lib.hid hd; have HB := Lib.hid hB
    clear hd hB hk
    go_wp2_with fail
    refine (image_any A rD0 w3 HD.out).mono ?_
    rintro e w4 ⟨v13, rfl, hr13, hb⟩
    have hk : Keeps A.F w3 w4 := Keeps.of_below hb
    have hd := HD.out.keeps (F := fun _ => False) (Keeps.of_below hb) (fun _ _ h => h)
    have H12x := Lib.hid (H12.out.keeps hk (fun b _ h => hG12.out b h))
    clear H12
    have H12 := H12x
    clear H12x
    clear hb
    have hB := Below.kp HB.out hk HF.out
    clear HD HB
    have HD := Lib.hid hd; have HB := Lib.hid hB
    clear hd hB hk
    go_wp2_with fail
    refine (sameTexts_any v12 v13 rD0.S rD0.S w4 _ _ H12.out hr13).mono ?_
    rintro e w5 ⟨rfl, hb⟩
    rw [show decide (rD0.S = rD0.S) = true from decide_eq_true rfl]
    have hk : Keeps A.F w4 w5 := Keeps.of_below hb
    have hd := HD.out.keeps (F := fun _ => False) (Keeps.of_below hb) (fun _ _ h => h)
    have hB := Below.kp HB.out hk HF.out
    clear HD HB H12 hr13
    have HD := Lib.hid hd; have HB := Lib.hid hB
    clear hd hB hk hb
    go_wp2_with fail
    refine (pending_any A rD0 w5 HD.out).mono ?_
    rintro e w6 ⟨v, rfl, hr, hb⟩
    rw [rK0] at hr
    obtain ⟨a20, c20, rfl, _, _⟩ := Rd.int (xs := []) (Rd_of_owns hr)
    clear hr
    have hk : Keeps A.F w5 w6 := Keeps.of_below hb
    have hd := HD.out.keeps (F := fun _ => False) (Keeps.of_below hb) (fun _ _ h => h)
    clear hb
    have hB := Below.kp HB.out hk HF.out
    clear HD HB
    have HD := Lib.hid hd; have HB := Lib.hid hB
    clear hd hB hk
    go_wp2_with fail
    refine (worn_any A rD0 w6 HD.out).mono ?_
    rintro e w7 ⟨v, rfl, hr, hb⟩
    rw [rK1] at hr
    obtain ⟨a21, c21, rfl, _, _⟩ := Rd.int (xs := []) (Rd_of_owns hr)
    clear hr
    have hk : Keeps A.F w6 w7 := Keeps.of_below hb
    have hd := HD.out.keeps (F := fun _ => False) (Keeps.of_below hb) (fun _ _ h => h)
    clear hb
    have hB := Below.kp HB.out hk HF.out
    clear HD HB
    have HD := Lib.hid hd; have HB := Lib.hid hB
    clear hd hB hk
    go_wp2_with fail
    go_ret
    exact ⟨rfl, HB.out⟩
  · have hzb : ((s.size : Int) != 64) = true := by simpa using (show ¬ (s.size : Int) = 64 by omega)
    have hz := Lib.hid hz0
    clear hz0
    go_enter Try.func4, Try.ntmps4
    go_wp2_with fail
    refine (sanity_any w).mono ?_
    rintro e w1 ⟨rfl, hB1⟩
    go_wp2_with fail
    refine (new_bad n w1 (by omega)).mono ?_
    rintro e wx ⟨rfl, rfl⟩
    go_wp2_with fail
    refine (new_any 3 w1 (by omega) (by omega)).mono ?_
    rintro e w2 ⟨A, rfl, hd1, hF1, hB2⟩
    have hd2 : DskAt w2 A rD0 := hd1
    have HD := Lib.hid hd2
    have HB := Lib.hid (hB1.trans (hB2.mono hB1.size))
    have HF := Lib.hid (show ∀ b, A.F b → w.heap.size ≤ b from fun b h => Nat.le_trans hB1.size (hF1 b h))
    clear hd1 hd2 hF1 hB1 hB2
    go_wp2_with fail
    refine (image_any A rD0 w2 HD.out).mono ?_
    rintro e w3 ⟨v12, rfl, hr12, hb⟩
    have hk : Keeps A.F w2 w3 := Keeps.of_below hb
    have hd := HD.out.keeps (F := fun _ => False) (Keeps.of_below hb) (fun _ _ h => h)
    have hG12 := Lib.hid (show ∀ b, w2.heap.size ≤ b → ¬ A.F b from fun b h e => by have := HD.out.ltF e; omega)
    have H12 := Lib.hid hr12
    clear hr12
    clear hb
    have hB := Below.kp HB.out hk HF.out
    clear HD HB
    have HD := Lib.hid hd; have HB := Lib.hid hB
    clear hd hB hk
    go_wp2_with fail
    refine (write_any A rD0 0 s w3 HD.out).mono ?_
    rintro e w4 ⟨rfl, hd0, hk0⟩
    rw [rwzD hz.out] at hd0
    rw [rwzE hz.out]
    have hk : Keeps A.F w3 w4 := hk0
    have hd := hd0
    have H12x := Lib.hid (H12.out.keeps hk (fun b _ h => hG12.out b h))
    clear H12
    have H12 := H12x
    clear H12x
    clear hd0 hk0
    have hB := Below.kp HB.out hk HF.out
    clear HD HB
    have HD := Lib.hid hd; have HB := Lib.hid hB
    clear hd hB hk
    go_wp2_with fail
    refine (image_any A rD0 w4 HD.out).mono ?_
    rintro e w5 ⟨v13, rfl, hr13, hb⟩
    have hk : Keeps A.F w4 w5 := Keeps.of_below hb
    have hd := HD.out.keeps (F := fun _ => False) (Keeps.of_below hb) (fun _ _ h => h)
    have H12x := Lib.hid (H12.out.keeps hk (fun b _ h => hG12.out b h))
    clear H12
    have H12 := H12x
    clear H12x
    clear hb
    have hB := Below.kp HB.out hk HF.out
    clear HD HB
    have HD := Lib.hid hd; have HB := Lib.hid hB
    clear hd hB hk
    go_wp2_with fail
    refine (sameTexts_any v12 v13 rD0.S rD0.S w5 _ _ H12.out hr13).mono ?_
    rintro e w6 ⟨rfl, hb⟩
    rw [show decide (rD0.S = rD0.S) = true from decide_eq_true rfl]
    have hk : Keeps A.F w5 w6 := Keeps.of_below hb
    have hd := HD.out.keeps (F := fun _ => False) (Keeps.of_below hb) (fun _ _ h => h)
    have hB := Below.kp HB.out hk HF.out
    clear HD HB H12 hr13
    have HD := Lib.hid hd; have HB := Lib.hid hB
    clear hd hB hk hb
    go_wp2_with fail
    refine (pending_any A rD0 w6 HD.out).mono ?_
    rintro e w7 ⟨v, rfl, hr, hb⟩
    rw [rK0] at hr
    obtain ⟨a20, c20, rfl, _, _⟩ := Rd.int (xs := []) (Rd_of_owns hr)
    clear hr
    have hk : Keeps A.F w6 w7 := Keeps.of_below hb
    have hd := HD.out.keeps (F := fun _ => False) (Keeps.of_below hb) (fun _ _ h => h)
    clear hb
    have hB := Below.kp HB.out hk HF.out
    clear HD HB
    have HD := Lib.hid hd; have HB := Lib.hid hB
    clear hd hB hk
    go_wp2_with fail
    refine (worn_any A rD0 w7 HD.out).mono ?_
    rintro e w8 ⟨v, rfl, hr, hb⟩
    rw [rK1] at hr
    obtain ⟨a21, c21, rfl, _, _⟩ := Rd.int (xs := []) (Rd_of_owns hr)
    clear hr
    have hk : Keeps A.F w7 w8 := Keeps.of_below hb
    have hd := HD.out.keeps (F := fun _ => False) (Keeps.of_below hb) (fun _ _ h => h)
    clear hb
    have hB := Below.kp HB.out hk HF.out
    clear HD HB
    have HD := Lib.hid hd; have HB := Lib.hid hB
    clear hd hB hk
    go_wp2_with fail
    go_ret
    exact ⟨rfl, HB.out⟩
  · have hzb : ((s.size : Int) != 64) = false := by rw [hz0]; rfl
    clear hz0
    go_enter Try.func4, Try.ntmps4
    go_wp2_with fail
    refine (sanity_any w).mono ?_
    rintro e w1 ⟨rfl, hB1⟩
    go_wp2_with fail
    refine (new_any 3 w1 (by omega) (by omega)).mono ?_
    rintro e w2 ⟨A, rfl, hd1, hF1, hB2⟩
    have hd2 : DskAt w2 A rD0 := hd1
    have HD := Lib.hid hd2
    have HB := Lib.hid (hB1.trans (hB2.mono hB1.size))
    have HF := Lib.hid (show ∀ b, A.F b → w.heap.size ≤ b from fun b h => Nat.le_trans hB1.size (hF1 b h))
    clear hd1 hd2 hF1 hB1 hB2
    go_wp2_with fail
    refine (image_any A rD0 w2 HD.out).mono ?_
    rintro e w3 ⟨v12, rfl, hr12, hb⟩
    have hk : Keeps A.F w2 w3 := Keeps.of_below hb
    have hd := HD.out.keeps (F := fun _ => False) (Keeps.of_below hb) (fun _ _ h => h)
    have hG12 := Lib.hid (show ∀ b, w2.heap.size ≤ b → ¬ A.F b from fun b h e => by have := HD.out.ltF e; omega)
    have H12 := Lib.hid hr12
    clear hr12
    clear hb
    have hB := Below.kp HB.out hk HF.out
    clear HD HB
    have HD := Lib.hid hd; have HB := Lib.hid hB
    clear hd hB hk
    go_wp2_with fail
    refine (read_any A rD0 i w3 HD.out).mono ?_
    rintro e w4 ⟨rfl, hb⟩
    rw [rread hi.out, rchk hi.out]
    have hk : Keeps A.F w3 w4 := Keeps.of_below hb
    have hd := HD.out.keeps (F := fun _ => False) (Keeps.of_below hb) (fun _ _ h => h)
    have H12x := Lib.hid (H12.out.keeps hk (fun b _ h => hG12.out b h))
    clear H12
    have H12 := H12x
    clear H12x
    clear hb
    have hB := Below.kp HB.out hk HF.out
    clear HD HB
    have HD := Lib.hid hd; have HB := Lib.hid hB
    clear hd hB hk
    go_wp2_with fail
    refine (full_any 120 w4).mono ?_
    rintro e w5 ⟨rfl, hb⟩
    have hk : Keeps A.F w4 w5 := Keeps.of_below hb
    have hd := HD.out.keeps (F := fun _ => False) (Keeps.of_below hb) (fun _ _ h => h)
    have H12x := Lib.hid (H12.out.keeps hk (fun b _ h => hG12.out b h))
    clear H12
    have H12 := H12x
    clear H12x
    clear hb
    have hB := Below.kp HB.out hk HF.out
    clear HD HB
    have HD := Lib.hid hd; have HB := Lib.hid hB
    clear hd hB hk
    go_wp2_with fail
    refine (write_any A rD0 i (fullS 120) w5 HD.out).mono ?_
    rintro e w6 ⟨rfl, hd0, hk0⟩
    rw [rwrD hi.out] at hd0
    rw [rwrE hi.out]
    have hk : Keeps A.F w5 w6 := hk0
    have hd := hd0
    have H12x := Lib.hid (H12.out.keeps hk (fun b _ h => hG12.out b h))
    clear H12
    have H12 := H12x
    clear H12x
    clear hd0 hk0
    have hB := Below.kp HB.out hk HF.out
    clear HD HB
    have HD := Lib.hid hd; have HB := Lib.hid hB
    clear hd hB hk
    go_wp2_with fail
    refine (rot_any A rD0 i 0 w6 HD.out).mono ?_
    rintro e w7 ⟨rfl, hd0, hk0⟩
    rw [rrotD hi.out] at hd0
    rw [rrotE hi.out]
    have hk : Keeps A.F w6 w7 := hk0
    have hd := hd0
    have H12x := Lib.hid (H12.out.keeps hk (fun b _ h => hG12.out b h))
    clear H12
    have H12 := H12x
    clear H12x
    clear hd0 hk0
    have hB := Below.kp HB.out hk HF.out
    clear HD HB
    have HD := Lib.hid hd; have HB := Lib.hid hB
    clear hd hB hk
    go_wp2_with fail
    refine (wear_any A rD0 i w7 HD.out).mono ?_
    rintro e w8 ⟨rfl, hd0, hk0⟩
    rw [rwearD hi.out] at hd0
    rw [rwearE hi.out]
    have hk : Keeps A.F w7 w8 := hk0
    have hd := hd0
    have H12x := Lib.hid (H12.out.keeps hk (fun b _ h => hG12.out b h))
    clear H12
    have H12 := H12x
    clear H12x
    clear hd0 hk0
    have hB := Below.kp HB.out hk HF.out
    clear HD HB
    have HD := Lib.hid hd; have HB := Lib.hid hB
    clear hd hB hk
    go_wp2_with fail
    refine (image_any A rD0 w8 HD.out).mono ?_
    rintro e w9 ⟨v13, rfl, hr13, hb⟩
    have hk : Keeps A.F w8 w9 := Keeps.of_below hb
    have hd := HD.out.keeps (F := fun _ => False) (Keeps.of_below hb) (fun _ _ h => h)
    have H12x := Lib.hid (H12.out.keeps hk (fun b _ h => hG12.out b h))
    clear H12
    have H12 := H12x
    clear H12x
    clear hb
    have hB := Below.kp HB.out hk HF.out
    clear HD HB
    have HD := Lib.hid hd; have HB := Lib.hid hB
    clear hd hB hk
    go_wp2_with fail
    refine (sameTexts_any v12 v13 rD0.S rD0.S w9 _ _ H12.out hr13).mono ?_
    rintro e w10 ⟨rfl, hb⟩
    rw [show decide (rD0.S = rD0.S) = true from decide_eq_true rfl]
    have hk : Keeps A.F w9 w10 := Keeps.of_below hb
    have hd := HD.out.keeps (F := fun _ => False) (Keeps.of_below hb) (fun _ _ h => h)
    have hB := Below.kp HB.out hk HF.out
    clear HD HB H12 hr13
    have HD := Lib.hid hd; have HB := Lib.hid hB
    clear hd hB hk hb
    go_wp2_with fail
    refine (pending_any A rD0 w10 HD.out).mono ?_
    rintro e w11 ⟨v, rfl, hr, hb⟩
    rw [rK0] at hr
    obtain ⟨a20, c20, rfl, _, _⟩ := Rd.int (xs := []) (Rd_of_owns hr)
    clear hr
    have hk : Keeps A.F w10 w11 := Keeps.of_below hb
    have hd := HD.out.keeps (F := fun _ => False) (Keeps.of_below hb) (fun _ _ h => h)
    clear hb
    have hB := Below.kp HB.out hk HF.out
    clear HD HB
    have HD := Lib.hid hd; have HB := Lib.hid hB
    clear hd hB hk
    go_wp2_with fail
    refine (worn_any A rD0 w11 HD.out).mono ?_
    rintro e w12 ⟨v, rfl, hr, hb⟩
    rw [rK1] at hr
    obtain ⟨a21, c21, rfl, _, _⟩ := Rd.int (xs := []) (Rd_of_owns hr)
    clear hr
    have hk : Keeps A.F w11 w12 := Keeps.of_below hb
    have hd := HD.out.keeps (F := fun _ => False) (Keeps.of_below hb) (fun _ _ h => h)
    clear hb
    have hB := Below.kp HB.out hk HF.out
    clear HD HB
    have HD := Lib.hid hd; have HB := Lib.hid hB
    clear hd hB hk
    go_wp2_with fail
    go_ret
    exact ⟨rfl, HB.out⟩
  · have hzb : ((s.size : Int) != 64) = true := by simpa using (show ¬ (s.size : Int) = 64 by omega)
    have hz := Lib.hid hz0
    clear hz0
    go_enter Try.func4, Try.ntmps4
    go_wp2_with fail
    refine (sanity_any w).mono ?_
    rintro e w1 ⟨rfl, hB1⟩
    go_wp2_with fail
    refine (new_any 3 w1 (by omega) (by omega)).mono ?_
    rintro e w2 ⟨A, rfl, hd1, hF1, hB2⟩
    have hd2 : DskAt w2 A rD0 := hd1
    have HD := Lib.hid hd2
    have HB := Lib.hid (hB1.trans (hB2.mono hB1.size))
    have HF := Lib.hid (show ∀ b, A.F b → w.heap.size ≤ b from fun b h => Nat.le_trans hB1.size (hF1 b h))
    clear hd1 hd2 hF1 hB1 hB2
    go_wp2_with fail
    refine (image_any A rD0 w2 HD.out).mono ?_
    rintro e w3 ⟨v12, rfl, hr12, hb⟩
    have hk : Keeps A.F w2 w3 := Keeps.of_below hb
    have hd := HD.out.keeps (F := fun _ => False) (Keeps.of_below hb) (fun _ _ h => h)
    have hG12 := Lib.hid (show ∀ b, w2.heap.size ≤ b → ¬ A.F b from fun b h e => by have := HD.out.ltF e; omega)
    have H12 := Lib.hid hr12
    clear hr12
    clear hb
    have hB := Below.kp HB.out hk HF.out
    clear HD HB
    have HD := Lib.hid hd; have HB := Lib.hid hB
    clear hd hB hk
    go_wp2_with fail
    refine (read_any A rD0 i w3 HD.out).mono ?_
    rintro e w4 ⟨rfl, hb⟩
    rw [rread hi.out, rchk hi.out]
    have hk : Keeps A.F w3 w4 := Keeps.of_below hb
    have hd := HD.out.keeps (F := fun _ => False) (Keeps.of_below hb) (fun _ _ h => h)
    have H12x := Lib.hid (H12.out.keeps hk (fun b _ h => hG12.out b h))
    clear H12
    have H12 := H12x
    clear H12x
    clear hb
    have hB := Below.kp HB.out hk HF.out
    clear HD HB
    have HD := Lib.hid hd; have HB := Lib.hid hB
    clear hd hB hk
    go_wp2_with fail
    refine (full_any 120 w4).mono ?_
    rintro e w5 ⟨rfl, hb⟩
    have hk : Keeps A.F w4 w5 := Keeps.of_below hb
    have hd := HD.out.keeps (F := fun _ => False) (Keeps.of_below hb) (fun _ _ h => h)
    have H12x := Lib.hid (H12.out.keeps hk (fun b _ h => hG12.out b h))
    clear H12
    have H12 := H12x
    clear H12x
    clear hb
    have hB := Below.kp HB.out hk HF.out
    clear HD HB
    have HD := Lib.hid hd; have HB := Lib.hid hB
    clear hd hB hk
    go_wp2_with fail
    refine (write_any A rD0 i (fullS 120) w5 HD.out).mono ?_
    rintro e w6 ⟨rfl, hd0, hk0⟩
    rw [rwrD hi.out] at hd0
    rw [rwrE hi.out]
    have hk : Keeps A.F w5 w6 := hk0
    have hd := hd0
    have H12x := Lib.hid (H12.out.keeps hk (fun b _ h => hG12.out b h))
    clear H12
    have H12 := H12x
    clear H12x
    clear hd0 hk0
    have hB := Below.kp HB.out hk HF.out
    clear HD HB
    have HD := Lib.hid hd; have HB := Lib.hid hB
    clear hd hB hk
    go_wp2_with fail
    refine (rot_any A rD0 i 0 w6 HD.out).mono ?_
    rintro e w7 ⟨rfl, hd0, hk0⟩
    rw [rrotD hi.out] at hd0
    rw [rrotE hi.out]
    have hk : Keeps A.F w6 w7 := hk0
    have hd := hd0
    have H12x := Lib.hid (H12.out.keeps hk (fun b _ h => hG12.out b h))
    clear H12
    have H12 := H12x
    clear H12x
    clear hd0 hk0
    have hB := Below.kp HB.out hk HF.out
    clear HD HB
    have HD := Lib.hid hd; have HB := Lib.hid hB
    clear hd hB hk
    go_wp2_with fail
    refine (wear_any A rD0 i w7 HD.out).mono ?_
    rintro e w8 ⟨rfl, hd0, hk0⟩
    rw [rwearD hi.out] at hd0
    rw [rwearE hi.out]
    have hk : Keeps A.F w7 w8 := hk0
    have hd := hd0
    have H12x := Lib.hid (H12.out.keeps hk (fun b _ h => hG12.out b h))
    clear H12
    have H12 := H12x
    clear H12x
    clear hd0 hk0
    have hB := Below.kp HB.out hk HF.out
    clear HD HB
    have HD := Lib.hid hd; have HB := Lib.hid hB
    clear hd hB hk
    go_wp2_with fail
    refine (write_any A rD0 0 s w8 HD.out).mono ?_
    rintro e w9 ⟨rfl, hd0, hk0⟩
    rw [rwzD hz.out] at hd0
    rw [rwzE hz.out]
    have hk : Keeps A.F w8 w9 := hk0
    have hd := hd0
    have H12x := Lib.hid (H12.out.keeps hk (fun b _ h => hG12.out b h))
    clear H12
    have H12 := H12x
    clear H12x
    clear hd0 hk0
    have hB := Below.kp HB.out hk HF.out
    clear HD HB
    have HD := Lib.hid hd; have HB := Lib.hid hB
    clear hd hB hk
    go_wp2_with fail
    refine (image_any A rD0 w9 HD.out).mono ?_
    rintro e w10 ⟨v13, rfl, hr13, hb⟩
    have hk : Keeps A.F w9 w10 := Keeps.of_below hb
    have hd := HD.out.keeps (F := fun _ => False) (Keeps.of_below hb) (fun _ _ h => h)
    have H12x := Lib.hid (H12.out.keeps hk (fun b _ h => hG12.out b h))
    clear H12
    have H12 := H12x
    clear H12x
    clear hb
    have hB := Below.kp HB.out hk HF.out
    clear HD HB
    have HD := Lib.hid hd; have HB := Lib.hid hB
    clear hd hB hk
    go_wp2_with fail
    refine (sameTexts_any v12 v13 rD0.S rD0.S w10 _ _ H12.out hr13).mono ?_
    rintro e w11 ⟨rfl, hb⟩
    rw [show decide (rD0.S = rD0.S) = true from decide_eq_true rfl]
    have hk : Keeps A.F w10 w11 := Keeps.of_below hb
    have hd := HD.out.keeps (F := fun _ => False) (Keeps.of_below hb) (fun _ _ h => h)
    have hB := Below.kp HB.out hk HF.out
    clear HD HB H12 hr13
    have HD := Lib.hid hd; have HB := Lib.hid hB
    clear hd hB hk hb
    go_wp2_with fail
    refine (pending_any A rD0 w11 HD.out).mono ?_
    rintro e w12 ⟨v, rfl, hr, hb⟩
    rw [rK0] at hr
    obtain ⟨a20, c20, rfl, _, _⟩ := Rd.int (xs := []) (Rd_of_owns hr)
    clear hr
    have hk : Keeps A.F w11 w12 := Keeps.of_below hb
    have hd := HD.out.keeps (F := fun _ => False) (Keeps.of_below hb) (fun _ _ h => h)
    clear hb
    have hB := Below.kp HB.out hk HF.out
    clear HD HB
    have HD := Lib.hid hd; have HB := Lib.hid hB
    clear hd hB hk
    go_wp2_with fail
    refine (worn_any A rD0 w12 HD.out).mono ?_
    rintro e w13 ⟨v, rfl, hr, hb⟩
    rw [rK1] at hr
    obtain ⟨a21, c21, rfl, _, _⟩ := Rd.int (xs := []) (Rd_of_owns hr)
    clear hr
    have hk : Keeps A.F w12 w13 := Keeps.of_below hb
    have hd := HD.out.keeps (F := fun _ => False) (Keeps.of_below hb) (fun _ _ h => h)
    clear hb
    have hB := Below.kp HB.out hk HF.out
    clear HD HB
    have HD := Lib.hid hd; have HB := Lib.hid hB
    clear hd hB hk
    go_wp2_with fail
    go_ret
    exact ⟨rfl, HB.out⟩
  · have hzb : ((s.size : Int) != 64) = false := by rw [hz0]; rfl
    clear hz0
    go_enter Try.func4, Try.ntmps4
    go_wp2_with fail
    refine (sanity_any w).mono ?_
    rintro e w1 ⟨rfl, hB1⟩
    go_wp2_with fail
    refine (new_any 3 w1 (by omega) (by omega)).mono ?_
    rintro e w2 ⟨A, rfl, hd1, hF1, hB2⟩
    have hd2 : DskAt w2 A rD0 := hd1
    have HD := Lib.hid hd2
    have HB := Lib.hid (hB1.trans (hB2.mono hB1.size))
    have HF := Lib.hid (show ∀ b, A.F b → w.heap.size ≤ b from fun b h => Nat.le_trans hB1.size (hF1 b h))
    clear hd1 hd2 hF1 hB1 hB2
    go_wp2_with fail
    refine (image_any A rD0 w2 HD.out).mono ?_
    rintro e w3 ⟨v12, rfl, hr12, hb⟩
    have hk : Keeps A.F w2 w3 := Keeps.of_below hb
    have hd := HD.out.keeps (F := fun _ => False) (Keeps.of_below hb) (fun _ _ h => h)
    have hG12 := Lib.hid (show ∀ b, w2.heap.size ≤ b → ¬ A.F b from fun b h e => by have := HD.out.ltF e; omega)
    have H12 := Lib.hid hr12
    clear hr12
    clear hb
    have hB := Below.kp HB.out hk HF.out
    clear HD HB
    have HD := Lib.hid hd; have HB := Lib.hid hB
    clear hd hB hk
    go_wp2_with fail
    refine (read_any A rD0 i w3 HD.out).mono ?_
    rintro e w4 ⟨rfl, hb⟩
    rw [rread hi.out, rchk hi.out]
    have hk : Keeps A.F w3 w4 := Keeps.of_below hb
    have hd := HD.out.keeps (F := fun _ => False) (Keeps.of_below hb) (fun _ _ h => h)
    have H12x := Lib.hid (H12.out.keeps hk (fun b _ h => hG12.out b h))
    clear H12
    have H12 := H12x
    clear H12x
    clear hb
    have hB := Below.kp HB.out hk HF.out
    clear HD HB
    have HD := Lib.hid hd; have HB := Lib.hid hB
    clear hd hB hk
    go_wp2_with fail
    refine (full_any 120 w4).mono ?_
    rintro e w5 ⟨rfl, hb⟩
    have hk : Keeps A.F w4 w5 := Keeps.of_below hb
    have hd := HD.out.keeps (F := fun _ => False) (Keeps.of_below hb) (fun _ _ h => h)
    have H12x := Lib.hid (H12.out.keeps hk (fun b _ h => hG12.out b h))
    clear H12
    have H12 := H12x
    clear H12x
    clear hb
    have hB := Below.kp HB.out hk HF.out
    clear HD HB
    have HD := Lib.hid hd; have HB := Lib.hid hB
    clear hd hB hk
    go_wp2_with fail
    refine (write_any A rD0 i (fullS 120) w5 HD.out).mono ?_
    rintro e w6 ⟨rfl, hd0, hk0⟩
    rw [rwrD hi.out] at hd0
    rw [rwrE hi.out]
    have hk : Keeps A.F w5 w6 := hk0
    have hd := hd0
    have H12x := Lib.hid (H12.out.keeps hk (fun b _ h => hG12.out b h))
    clear H12
    have H12 := H12x
    clear H12x
    clear hd0 hk0
    have hB := Below.kp HB.out hk HF.out
    clear HD HB
    have HD := Lib.hid hd; have HB := Lib.hid hB
    clear hd hB hk
    go_wp2_with fail
    refine (rot_any A rD0 i 0 w6 HD.out).mono ?_
    rintro e w7 ⟨rfl, hd0, hk0⟩
    rw [rrotD hi.out] at hd0
    rw [rrotE hi.out]
    have hk : Keeps A.F w6 w7 := hk0
    have hd := hd0
    have H12x := Lib.hid (H12.out.keeps hk (fun b _ h => hG12.out b h))
    clear H12
    have H12 := H12x
    clear H12x
    clear hd0 hk0
    have hB := Below.kp HB.out hk HF.out
    clear HD HB
    have HD := Lib.hid hd; have HB := Lib.hid hB
    clear hd hB hk
    go_wp2_with fail
    refine (wear_any A rD0 i w7 HD.out).mono ?_
    rintro e w8 ⟨rfl, hd0, hk0⟩
    rw [rwearD hi.out] at hd0
    rw [rwearE hi.out]
    have hk : Keeps A.F w7 w8 := hk0
    have hd := hd0
    have H12x := Lib.hid (H12.out.keeps hk (fun b _ h => hG12.out b h))
    clear H12
    have H12 := H12x
    clear H12x
    clear hd0 hk0
    have hB := Below.kp HB.out hk HF.out
    clear HD HB
    have HD := Lib.hid hd; have HB := Lib.hid hB
    clear hd hB hk
    go_wp2_with fail
    refine (image_any A rD0 w8 HD.out).mono ?_
    rintro e w9 ⟨v13, rfl, hr13, hb⟩
    have hk : Keeps A.F w8 w9 := Keeps.of_below hb
    have hd := HD.out.keeps (F := fun _ => False) (Keeps.of_below hb) (fun _ _ h => h)
    have H12x := Lib.hid (H12.out.keeps hk (fun b _ h => hG12.out b h))
    clear H12
    have H12 := H12x
    clear H12x
    clear hb
    have hB := Below.kp HB.out hk HF.out
    clear HD HB
    have HD := Lib.hid hd; have HB := Lib.hid hB
    clear hd hB hk
    go_wp2_with fail
    refine (sameTexts_any v12 v13 rD0.S rD0.S w9 _ _ H12.out hr13).mono ?_
    rintro e w10 ⟨rfl, hb⟩
    rw [show decide (rD0.S = rD0.S) = true from decide_eq_true rfl]
    have hk : Keeps A.F w9 w10 := Keeps.of_below hb
    have hd := HD.out.keeps (F := fun _ => False) (Keeps.of_below hb) (fun _ _ h => h)
    have hB := Below.kp HB.out hk HF.out
    clear HD HB H12 hr13
    have HD := Lib.hid hd; have HB := Lib.hid hB
    clear hd hB hk hb
    go_wp2_with fail
    refine (pending_any A rD0 w10 HD.out).mono ?_
    rintro e w11 ⟨v, rfl, hr, hb⟩
    rw [rK0] at hr
    obtain ⟨a20, c20, rfl, _, _⟩ := Rd.int (xs := []) (Rd_of_owns hr)
    clear hr
    have hk : Keeps A.F w10 w11 := Keeps.of_below hb
    have hd := HD.out.keeps (F := fun _ => False) (Keeps.of_below hb) (fun _ _ h => h)
    clear hb
    have hB := Below.kp HB.out hk HF.out
    clear HD HB
    have HD := Lib.hid hd; have HB := Lib.hid hB
    clear hd hB hk
    go_wp2_with fail
    refine (worn_any A rD0 w11 HD.out).mono ?_
    rintro e w12 ⟨v, rfl, hr, hb⟩
    rw [rK1] at hr
    obtain ⟨a21, c21, rfl, _, _⟩ := Rd.int (xs := []) (Rd_of_owns hr)
    clear hr
    have hk : Keeps A.F w11 w12 := Keeps.of_below hb
    have hd := HD.out.keeps (F := fun _ => False) (Keeps.of_below hb) (fun _ _ h => h)
    clear hb
    have hB := Below.kp HB.out hk HF.out
    clear HD HB
    have HD := Lib.hid hd; have HB := Lib.hid hB
    clear hd hB hk
    go_wp2_with fail
    go_ret
    exact ⟨rfl, HB.out⟩
  · have hzb : ((s.size : Int) != 64) = true := by simpa using (show ¬ (s.size : Int) = 64 by omega)
    have hz := Lib.hid hz0
    clear hz0
    go_enter Try.func4, Try.ntmps4
    go_wp2_with fail
    refine (sanity_any w).mono ?_
    rintro e w1 ⟨rfl, hB1⟩
    go_wp2_with fail
    refine (new_any 3 w1 (by omega) (by omega)).mono ?_
    rintro e w2 ⟨A, rfl, hd1, hF1, hB2⟩
    have hd2 : DskAt w2 A rD0 := hd1
    have HD := Lib.hid hd2
    have HB := Lib.hid (hB1.trans (hB2.mono hB1.size))
    have HF := Lib.hid (show ∀ b, A.F b → w.heap.size ≤ b from fun b h => Nat.le_trans hB1.size (hF1 b h))
    clear hd1 hd2 hF1 hB1 hB2
    go_wp2_with fail
    refine (image_any A rD0 w2 HD.out).mono ?_
    rintro e w3 ⟨v12, rfl, hr12, hb⟩
    have hk : Keeps A.F w2 w3 := Keeps.of_below hb
    have hd := HD.out.keeps (F := fun _ => False) (Keeps.of_below hb) (fun _ _ h => h)
    have hG12 := Lib.hid (show ∀ b, w2.heap.size ≤ b → ¬ A.F b from fun b h e => by have := HD.out.ltF e; omega)
    have H12 := Lib.hid hr12
    clear hr12
    clear hb
    have hB := Below.kp HB.out hk HF.out
    clear HD HB
    have HD := Lib.hid hd; have HB := Lib.hid hB
    clear hd hB hk
    go_wp2_with fail
    refine (read_any A rD0 i w3 HD.out).mono ?_
    rintro e w4 ⟨rfl, hb⟩
    rw [rread hi.out, rchk hi.out]
    have hk : Keeps A.F w3 w4 := Keeps.of_below hb
    have hd := HD.out.keeps (F := fun _ => False) (Keeps.of_below hb) (fun _ _ h => h)
    have H12x := Lib.hid (H12.out.keeps hk (fun b _ h => hG12.out b h))
    clear H12
    have H12 := H12x
    clear H12x
    clear hb
    have hB := Below.kp HB.out hk HF.out
    clear HD HB
    have HD := Lib.hid hd; have HB := Lib.hid hB
    clear hd hB hk
    go_wp2_with fail
    refine (full_any 120 w4).mono ?_
    rintro e w5 ⟨rfl, hb⟩
    have hk : Keeps A.F w4 w5 := Keeps.of_below hb
    have hd := HD.out.keeps (F := fun _ => False) (Keeps.of_below hb) (fun _ _ h => h)
    have H12x := Lib.hid (H12.out.keeps hk (fun b _ h => hG12.out b h))
    clear H12
    have H12 := H12x
    clear H12x
    clear hb
    have hB := Below.kp HB.out hk HF.out
    clear HD HB
    have HD := Lib.hid hd; have HB := Lib.hid hB
    clear hd hB hk
    go_wp2_with fail
    refine (write_any A rD0 i (fullS 120) w5 HD.out).mono ?_
    rintro e w6 ⟨rfl, hd0, hk0⟩
    rw [rwrD hi.out] at hd0
    rw [rwrE hi.out]
    have hk : Keeps A.F w5 w6 := hk0
    have hd := hd0
    have H12x := Lib.hid (H12.out.keeps hk (fun b _ h => hG12.out b h))
    clear H12
    have H12 := H12x
    clear H12x
    clear hd0 hk0
    have hB := Below.kp HB.out hk HF.out
    clear HD HB
    have HD := Lib.hid hd; have HB := Lib.hid hB
    clear hd hB hk
    go_wp2_with fail
    refine (rot_any A rD0 i 0 w6 HD.out).mono ?_
    rintro e w7 ⟨rfl, hd0, hk0⟩
    rw [rrotD hi.out] at hd0
    rw [rrotE hi.out]
    have hk : Keeps A.F w6 w7 := hk0
    have hd := hd0
    have H12x := Lib.hid (H12.out.keeps hk (fun b _ h => hG12.out b h))
    clear H12
    have H12 := H12x
    clear H12x
    clear hd0 hk0
    have hB := Below.kp HB.out hk HF.out
    clear HD HB
    have HD := Lib.hid hd; have HB := Lib.hid hB
    clear hd hB hk
    go_wp2_with fail
    refine (wear_any A rD0 i w7 HD.out).mono ?_
    rintro e w8 ⟨rfl, hd0, hk0⟩
    rw [rwearD hi.out] at hd0
    rw [rwearE hi.out]
    have hk : Keeps A.F w7 w8 := hk0
    have hd := hd0
    have H12x := Lib.hid (H12.out.keeps hk (fun b _ h => hG12.out b h))
    clear H12
    have H12 := H12x
    clear H12x
    clear hd0 hk0
    have hB := Below.kp HB.out hk HF.out
    clear HD HB
    have HD := Lib.hid hd; have HB := Lib.hid hB
    clear hd hB hk
    go_wp2_with fail
    refine (write_any A rD0 0 s w8 HD.out).mono ?_
    rintro e w9 ⟨rfl, hd0, hk0⟩
    rw [rwzD hz.out] at hd0
    rw [rwzE hz.out]
    have hk : Keeps A.F w8 w9 := hk0
    have hd := hd0
    have H12x := Lib.hid (H12.out.keeps hk (fun b _ h => hG12.out b h))
    clear H12
    have H12 := H12x
    clear H12x
    clear hd0 hk0
    have hB := Below.kp HB.out hk HF.out
    clear HD HB
    have HD := Lib.hid hd; have HB := Lib.hid hB
    clear hd hB hk
    go_wp2_with fail
    refine (image_any A rD0 w9 HD.out).mono ?_
    rintro e w10 ⟨v13, rfl, hr13, hb⟩
    have hk : Keeps A.F w9 w10 := Keeps.of_below hb
    have hd := HD.out.keeps (F := fun _ => False) (Keeps.of_below hb) (fun _ _ h => h)
    have H12x := Lib.hid (H12.out.keeps hk (fun b _ h => hG12.out b h))
    clear H12
    have H12 := H12x
    clear H12x
    clear hb
    have hB := Below.kp HB.out hk HF.out
    clear HD HB
    have HD := Lib.hid hd; have HB := Lib.hid hB
    clear hd hB hk
    go_wp2_with fail
    refine (sameTexts_any v12 v13 rD0.S rD0.S w10 _ _ H12.out hr13).mono ?_
    rintro e w11 ⟨rfl, hb⟩
    rw [show decide (rD0.S = rD0.S) = true from decide_eq_true rfl]
    have hk : Keeps A.F w10 w11 := Keeps.of_below hb
    have hd := HD.out.keeps (F := fun _ => False) (Keeps.of_below hb) (fun _ _ h => h)
    have hB := Below.kp HB.out hk HF.out
    clear HD HB H12 hr13
    have HD := Lib.hid hd; have HB := Lib.hid hB
    clear hd hB hk hb
    go_wp2_with fail
    refine (pending_any A rD0 w11 HD.out).mono ?_
    rintro e w12 ⟨v, rfl, hr, hb⟩
    rw [rK0] at hr
    obtain ⟨a20, c20, rfl, _, _⟩ := Rd.int (xs := []) (Rd_of_owns hr)
    clear hr
    have hk : Keeps A.F w11 w12 := Keeps.of_below hb
    have hd := HD.out.keeps (F := fun _ => False) (Keeps.of_below hb) (fun _ _ h => h)
    clear hb
    have hB := Below.kp HB.out hk HF.out
    clear HD HB
    have HD := Lib.hid hd; have HB := Lib.hid hB
    clear hd hB hk
    go_wp2_with fail
    refine (worn_any A rD0 w12 HD.out).mono ?_
    rintro e w13 ⟨v, rfl, hr, hb⟩
    rw [rK1] at hr
    obtain ⟨a21, c21, rfl, _, _⟩ := Rd.int (xs := []) (Rd_of_owns hr)
    clear hr
    have hk : Keeps A.F w12 w13 := Keeps.of_below hb
    have hd := HD.out.keeps (F := fun _ => False) (Keeps.of_below hb) (fun _ _ h => h)
    clear hb
    have hB := Below.kp HB.out hk HF.out
    clear HD HB
    have HD := Lib.hid hd; have HB := Lib.hid hB
    clear hd hB hk
    go_wp2_with fail
    go_ret
    exact ⟨rfl, HB.out⟩
  · have hzb : ((s.size : Int) != 64) = false := by rw [hz0]; rfl
    clear hz0
    go_enter Try.func4, Try.ntmps4
    go_wp2_with fail
    refine (sanity_any w).mono ?_
    rintro e w1 ⟨rfl, hB1⟩
    go_wp2_with fail
    refine (new_any 3 w1 (by omega) (by omega)).mono ?_
    rintro e w2 ⟨A, rfl, hd1, hF1, hB2⟩
    have hd2 : DskAt w2 A rD0 := hd1
    have HD := Lib.hid hd2
    have HB := Lib.hid (hB1.trans (hB2.mono hB1.size))
    have HF := Lib.hid (show ∀ b, A.F b → w.heap.size ≤ b from fun b h => Nat.le_trans hB1.size (hF1 b h))
    clear hd1 hd2 hF1 hB1 hB2
    go_wp2_with fail
    refine (image_any A rD0 w2 HD.out).mono ?_
    rintro e w3 ⟨v12, rfl, hr12, hb⟩
    have hk : Keeps A.F w2 w3 := Keeps.of_below hb
    have hd := HD.out.keeps (F := fun _ => False) (Keeps.of_below hb) (fun _ _ h => h)
    have hG12 := Lib.hid (show ∀ b, w2.heap.size ≤ b → ¬ A.F b from fun b h e => by have := HD.out.ltF e; omega)
    have H12 := Lib.hid hr12
    clear hr12
    clear hb
    have hB := Below.kp HB.out hk HF.out
    clear HD HB
    have HD := Lib.hid hd; have HB := Lib.hid hB
    clear hd hB hk
    go_wp2_with fail
    refine (image_any A rD0 w3 HD.out).mono ?_
    rintro e w4 ⟨v13, rfl, hr13, hb⟩
    have hk : Keeps A.F w3 w4 := Keeps.of_below hb
    have hd := HD.out.keeps (F := fun _ => False) (Keeps.of_below hb) (fun _ _ h => h)
    have H12x := Lib.hid (H12.out.keeps hk (fun b _ h => hG12.out b h))
    clear H12
    have H12 := H12x
    clear H12x
    clear hb
    have hB := Below.kp HB.out hk HF.out
    clear HD HB
    have HD := Lib.hid hd; have HB := Lib.hid hB
    clear hd hB hk
    go_wp2_with fail
    refine (sameTexts_any v12 v13 rD0.S rD0.S w4 _ _ H12.out hr13).mono ?_
    rintro e w5 ⟨rfl, hb⟩
    rw [show decide (rD0.S = rD0.S) = true from decide_eq_true rfl]
    have hk : Keeps A.F w4 w5 := Keeps.of_below hb
    have hd := HD.out.keeps (F := fun _ => False) (Keeps.of_below hb) (fun _ _ h => h)
    have hB := Below.kp HB.out hk HF.out
    clear HD HB H12 hr13
    have HD := Lib.hid hd; have HB := Lib.hid hB
    clear hd hB hk hb
    go_wp2_with fail
    refine (pending_any A rD0 w5 HD.out).mono ?_
    rintro e w6 ⟨v, rfl, hr, hb⟩
    rw [rK0] at hr
    obtain ⟨a20, c20, rfl, _, _⟩ := Rd.int (xs := []) (Rd_of_owns hr)
    clear hr
    have hk : Keeps A.F w5 w6 := Keeps.of_below hb
    have hd := HD.out.keeps (F := fun _ => False) (Keeps.of_below hb) (fun _ _ h => h)
    clear hb
    have hB := Below.kp HB.out hk HF.out
    clear HD HB
    have HD := Lib.hid hd; have HB := Lib.hid hB
    clear hd hB hk
    go_wp2_with fail
    refine (worn_any A rD0 w6 HD.out).mono ?_
    rintro e w7 ⟨v, rfl, hr, hb⟩
    rw [rK1] at hr
    obtain ⟨a21, c21, rfl, _, _⟩ := Rd.int (xs := []) (Rd_of_owns hr)
    clear hr
    have hk : Keeps A.F w6 w7 := Keeps.of_below hb
    have hd := HD.out.keeps (F := fun _ => False) (Keeps.of_below hb) (fun _ _ h => h)
    clear hb
    have hB := Below.kp HB.out hk HF.out
    clear HD HB
    have HD := Lib.hid hd; have HB := Lib.hid hB
    clear hd hB hk
    go_wp2_with fail
    go_ret
    exact ⟨rfl, HB.out⟩
  · have hzb : ((s.size : Int) != 64) = true := by simpa using (show ¬ (s.size : Int) = 64 by omega)
    have hz := Lib.hid hz0
    clear hz0
    go_enter Try.func4, Try.ntmps4
    go_wp2_with fail
    refine (sanity_any w).mono ?_
    rintro e w1 ⟨rfl, hB1⟩
    go_wp2_with fail
    refine (new_any 3 w1 (by omega) (by omega)).mono ?_
    rintro e w2 ⟨A, rfl, hd1, hF1, hB2⟩
    have hd2 : DskAt w2 A rD0 := hd1
    have HD := Lib.hid hd2
    have HB := Lib.hid (hB1.trans (hB2.mono hB1.size))
    have HF := Lib.hid (show ∀ b, A.F b → w.heap.size ≤ b from fun b h => Nat.le_trans hB1.size (hF1 b h))
    clear hd1 hd2 hF1 hB1 hB2
    go_wp2_with fail
    refine (image_any A rD0 w2 HD.out).mono ?_
    rintro e w3 ⟨v12, rfl, hr12, hb⟩
    have hk : Keeps A.F w2 w3 := Keeps.of_below hb
    have hd := HD.out.keeps (F := fun _ => False) (Keeps.of_below hb) (fun _ _ h => h)
    have hG12 := Lib.hid (show ∀ b, w2.heap.size ≤ b → ¬ A.F b from fun b h e => by have := HD.out.ltF e; omega)
    have H12 := Lib.hid hr12
    clear hr12
    clear hb
    have hB := Below.kp HB.out hk HF.out
    clear HD HB
    have HD := Lib.hid hd; have HB := Lib.hid hB
    clear hd hB hk
    go_wp2_with fail
    refine (write_any A rD0 0 s w3 HD.out).mono ?_
    rintro e w4 ⟨rfl, hd0, hk0⟩
    rw [rwzD hz.out] at hd0
    rw [rwzE hz.out]
    have hk : Keeps A.F w3 w4 := hk0
    have hd := hd0
    have H12x := Lib.hid (H12.out.keeps hk (fun b _ h => hG12.out b h))
    clear H12
    have H12 := H12x
    clear H12x
    clear hd0 hk0
    have hB := Below.kp HB.out hk HF.out
    clear HD HB
    have HD := Lib.hid hd; have HB := Lib.hid hB
    clear hd hB hk
    go_wp2_with fail
    refine (image_any A rD0 w4 HD.out).mono ?_
    rintro e w5 ⟨v13, rfl, hr13, hb⟩
    have hk : Keeps A.F w4 w5 := Keeps.of_below hb
    have hd := HD.out.keeps (F := fun _ => False) (Keeps.of_below hb) (fun _ _ h => h)
    have H12x := Lib.hid (H12.out.keeps hk (fun b _ h => hG12.out b h))
    clear H12
    have H12 := H12x
    clear H12x
    clear hb
    have hB := Below.kp HB.out hk HF.out
    clear HD HB
    have HD := Lib.hid hd; have HB := Lib.hid hB
    clear hd hB hk
    go_wp2_with fail
    refine (sameTexts_any v12 v13 rD0.S rD0.S w5 _ _ H12.out hr13).mono ?_
    rintro e w6 ⟨rfl, hb⟩
    rw [show decide (rD0.S = rD0.S) = true from decide_eq_true rfl]
    have hk : Keeps A.F w5 w6 := Keeps.of_below hb
    have hd := HD.out.keeps (F := fun _ => False) (Keeps.of_below hb) (fun _ _ h => h)
    have hB := Below.kp HB.out hk HF.out
    clear HD HB H12 hr13
    have HD := Lib.hid hd; have HB := Lib.hid hB
    clear hd hB hk hb
    go_wp2_with fail
    refine (pending_any A rD0 w6 HD.out).mono ?_
    rintro e w7 ⟨v, rfl, hr, hb⟩
    rw [rK0] at hr
    obtain ⟨a20, c20, rfl, _, _⟩ := Rd.int (xs := []) (Rd_of_owns hr)
    clear hr
    have hk : Keeps A.F w6 w7 := Keeps.of_below hb
    have hd := HD.out.keeps (F := fun _ => False) (Keeps.of_below hb) (fun _ _ h => h)
    clear hb
    have hB := Below.kp HB.out hk HF.out
    clear HD HB
    have HD := Lib.hid hd; have HB := Lib.hid hB
    clear hd hB hk
    go_wp2_with fail
    refine (worn_any A rD0 w7 HD.out).mono ?_
    rintro e w8 ⟨v, rfl, hr, hb⟩
    rw [rK1] at hr
    obtain ⟨a21, c21, rfl, _, _⟩ := Rd.int (xs := []) (Rd_of_owns hr)
    clear hr
    have hk : Keeps A.F w7 w8 := Keeps.of_below hb
    have hd := HD.out.keeps (F := fun _ => False) (Keeps.of_below hb) (fun _ _ h => h)
    clear hb
    have hB := Below.kp HB.out hk HF.out
    clear HD HB
    have HD := Lib.hid hd; have HB := Lib.hid hB
    clear hd hB hk
    go_wp2_with fail
    go_ret
    exact ⟨rfl, HB.out⟩
end Go.Proofs.Ytdanhfanepmhkaa
