/- The walk of DigitAdds. -/
import Derived.Test.YtidojiegkdchpaaBh
import Derived.Laws.IdiomStrings
namespace Go.Proofs.Ytidojiegkdchpaa
open Go.RowKit Go.Maps

theorem make0 (w : World) : (Instr.makeSlice 48 (.int .i64 0) (.int .i64 0)).run Try.prog w = .ok (.slice (some ⟨w.heap.size, 0, none⟩) 0 0) (w.alloc (.cells #[] 5)) := by
  kernel_rfl
theorem conv0 (w : World) : (convert 48 9 (.slice (some ⟨w.heap.size, 0, none⟩) 0 0)).run Try.prog (w.alloc (.cells #[] 5)) = .ok (.string ⟨#[]⟩) (w.alloc (.cells #[] 5)) :=
  run_convert_bytes_back _ 48 9 5 _ 0 [] Try.underlying48 Try.underlying5 Try.underlying9 (fun j hj => by simp at hj)
theorem conv1 (c : UInt8) (w : World) : (convert 48 9 (.slice (some ⟨w.heap.size, 0, none⟩) 1 1)).run Try.prog (w.alloc (.cells #[.int .u8 c.toNat] 5)) = .ok (.string ⟨#[c]⟩) (w.alloc (.cells #[.int .u8 c.toNat] 5)) :=
  run_convert_bytes_back _ 48 9 5 _ 1 [c] Try.underlying48 Try.underlying5 Try.underlying9 (fun j hj => by
    have hj0 : j = 0 := by simp at hj; omega
    subst hj0
    rw [addr_add]
    exact (Boxs.new w 5 #[.int .u8 c.toNat]).cell 0)
def rep7 (n : Nat) : ByteArray := ⟨(List.replicate n 55).toArray⟩
theorem rep7_size (n : Nat) : (rep7 n).size = n := by unfold rep7; simp [ByteArray.size]
theorem rep7_succ (n : Nat) : rep7 n ++ ⟨#[55]⟩ = rep7 (n + 1) := by
  unfold rep7
  apply ByteArray.ext
  rw [ByteArray.data_append]
  apply Array.ext'
  simp [List.replicate_succ']
theorem add_check {t : ByteArray} (h : addE t = 0) : checkF (addV t) = 0 ∧ (addV t).size ≤ t.size + 1 := by
  rcases add_cases t with ⟨_, e1, e2⟩ | ⟨_, _, e1, e2⟩ | ⟨_, _, _, e1, e2⟩ | ⟨hok, e3, e4, e1, e2⟩
  · rw [e2] at h; cases h
  · rw [e2] at h; cases h
  · rw [e2] at h; cases h
  · rw [e1]
    refine ⟨?_, by rw [ByteArray.size_append]; exact Nat.le_refl _⟩
    rw [check_add hok (by omega) (by omega) _ (addK_bd _).1 (addK_bd _).2, if_pos rfl]

set_option maxRecDepth 100000 in
set_option maxHeartbeats 8000000 in
theorem digitAdds_any (v1 : Value) (l : List Int) (raw : ByteArray) (at' : Int) (c : UInt8) (w : World) (h1 : RdI w v1 l) (i1 : inI l) (hraw : raw.size ≤ 1048576) (ha : -9223372036854775808 ≤ at') (ha' : at' ≤ 9223372036854775807) :
    Calls Try.prog 6 #[v1, .string raw, .int .i64 at', .int .u8 c.toNat] w fun e w' => e = .returned (.bool true) ∧ Below w.heap.size w w' := by
  have TX := text_any v1 l w h1 i1
  have LV := Lib.hid lives_any
  have stx := textF_size l
  obtain ⟨a1, c1, rfl, _, _⟩ := h1.open
  clear h1
  generalize textF l = s at *
  obtain ⟨r0, r1⟩ := around_bd at' (s.size + 1) (by omega)
  obtain ⟨k, hk⟩ : ∃ k : Nat, around at' (s.size + 1) = k := ⟨(around at' (s.size + 1)).toNat, by omega⟩
  have AR := around_any at' (s.size + 1) w ha ha' (by omega) (by omega)
  rw [hk] at AR r0 r1
  have hks : k ≤ s.size := by omega
  clear hk
  have mk := make0 w
  have cv := conv0 w
  go_enter Try.func6, Try.ntmps6
  go_wp2_with fail
  refine TX.mono ?_
  rintro e w1 ⟨rfl, rfl⟩
  go_wp2_with fail
  refine AR.mono ?_
  rintro e w1 ⟨rfl, rfl⟩
  clear TX AR
  go_wp2_with fail
  clear mk cv
  have HB0 := Lib.hid ((Below.refl w.heap.size w).alloc (Nat.le_refl _) (.cells #[] 5))
  generalize w.alloc (.cells #[] 5) = w1 at *
  go_loopw [11, 12] (fun v i wr => ∃ j : Nat, j ≤ 66 ∧ i = .int .i64 j ∧ v = .string (rep7 j) ∧ wr = w1) (fun _ i _ => 66 - (intOf i).toNat)
  case atStart => exact ⟨0, Nat.zero_le _, rfl, rfl, rfl⟩
  case round =>
    obtain ⟨j, hj, rfl, rfl, rfl⟩ := hrel
    have sz := rep7_size j
    have HS := Lib.hid (rep7_succ j)
    by_cases hlt : j < 66
    · have p1 : (j : Int) < 66 := by omega
      generalize rep7 j = R at *
      go_wp2_with fail
      go_roundw
      case rel => exact ⟨j + 1, by omega, by go_num, by rw [HS.out], (by first | rfl | trivial)⟩
      case measure => simp [intOf]; omega
    · have p1 : ¬ (j : Int) < 66 := by omega
      clear HS
      generalize rep7 j = R at *
      go_upto_region 8 with fail
      have sz' : R.size = 66 := by omega
      clear sz p1
      have sz := sz'
      clear sz'
      refine wp_region_held (S := fun _ => True) (by kernel_rfl) ?_
      have hdr : (wr).drew = { wr with drawn := (wr).drawn + 1 } := rfl
      rw [← hdr]
      clear hdr
      change wpAnyH _ _ _ _ _ _ _ _ (wr.drewN 1)
      have HV := Lib.hid (Below.dn HB0.out 1)
      generalize wr.drewN 1 = V at *
      have x1 : (s.extract 0 k).size = k := by rw [ByteArray.size_extract]; omega
      have x2 : (s.extract k s.size).size = s.size - k := by rw [ByteArray.size_extract]; omega
      have x3 : (s.extract 0 k ++ ⟨#[c]⟩).size = k + 1 := by rw [ByteArray.size_append, x1]; rfl
      have x4 : (ByteArray.mk #[c]).size = 1 := rfl
      have g1 : (k : Int) ≤ (s.size : Int) := by omega
      have g2 : (0 : Int) ≤ (k : Int) := by omega
      refine wpAnyHTake 0 (some 34) (.string s) rfl rfl (by kernel_rfl) (by kernel_rfl) (by kernel_rfl) (fun _ _ _ h => h) (by rfl) (fun _ _ => by rfl) (trivial) ?_
      simp only [Act.put, List.setIfInBounds_toArray, List.set_cons_zero, List.set_cons_succ]
      refine wpAnyHTake 1 (some 35) (.string raw) rfl rfl (by kernel_rfl) (by kernel_rfl) (by kernel_rfl) (fun _ _ _ h => h) (by rfl) (fun _ _ => by rfl) (trivial) ?_
      simp only [Act.put, List.setIfInBounds_toArray, List.set_cons_zero, List.set_cons_succ]
      refine wpAnyHTake 2 (some 36) (.string s) rfl rfl (by kernel_rfl) (by kernel_rfl) (by kernel_rfl) (fun _ _ _ h => h) (by rfl) (fun _ _ => by rfl) (trivial) ?_
      simp only [Act.put, List.setIfInBounds_toArray, List.set_cons_zero, List.set_cons_succ]
      refine wpAnyHTake 3 (some 37) (.int .i64 k) rfl rfl (by kernel_rfl) (by kernel_rfl) (by kernel_rfl) (fun _ _ _ h => h) (by rfl) (fun _ _ => by rfl) (trivial) ?_
      simp only [Act.put, List.setIfInBounds_toArray, List.set_cons_zero, List.set_cons_succ]
      refine wpAnyHTake 4 (some 38) (.string (s.extract 0 k)) rfl rfl (by kernel_rfl) (by kernel_rfl) (by kernel_rfl) (fun _ _ _ h => h) (by rfl) (fun _ _ => by go_simp) (trivial) ?_
      simp only [Act.put, List.setIfInBounds_toArray, List.set_cons_zero, List.set_cons_succ]
      refine wpAnyHTake 5 (some 39) (.int .u8 c.toNat) rfl rfl (by kernel_rfl) (by kernel_rfl) (by kernel_rfl) (fun _ _ _ h => h) (by rfl) (fun _ _ => by rfl) (trivial) ?_
      simp only [Act.put, List.setIfInBounds_toArray, List.set_cons_zero, List.set_cons_succ]
      refine wpAnyHTake 9 (some 43) (.string s) rfl rfl (by kernel_rfl) (by kernel_rfl) (by kernel_rfl) (fun _ _ _ h => h) (by rfl) (fun _ _ => by rfl) (trivial) ?_
      simp only [Act.put, List.setIfInBounds_toArray, List.set_cons_zero, List.set_cons_succ]
      refine wpAnyHTake 10 (some 44) (.int .i64 k) rfl rfl (by kernel_rfl) (by kernel_rfl) (by kernel_rfl) (fun _ _ _ h => h) (by rfl) (fun _ _ => by rfl) (trivial) ?_
      simp only [Act.put, List.setIfInBounds_toArray, List.set_cons_zero, List.set_cons_succ]
      refine wpAnyHTake 11 (some 45) (.string (s.extract k s.size)) rfl rfl (by kernel_rfl) (by kernel_rfl) (by kernel_rfl) (fun _ _ _ h => h) (by rfl) (fun _ _ => by go_simp) (trivial) ?_
      simp only [Act.put, List.setIfInBounds_toArray, List.set_cons_zero, List.set_cons_succ]
      refine wpAnyHTake 13 (some 47) (.string R) rfl rfl (by kernel_rfl) (by kernel_rfl) (by kernel_rfl) (fun _ _ _ h => h) (by rfl) (fun _ _ => by rfl) (trivial) ?_
      simp only [Act.put, List.setIfInBounds_toArray, List.set_cons_zero, List.set_cons_succ]
      refine wpAnyHTake 14 (some 48) (.string (R.extract 0 62)) rfl rfl (by kernel_rfl) (by kernel_rfl) (by kernel_rfl) (fun _ _ _ h => h) (by rfl) (fun _ _ => by go_simp) (trivial) ?_
      simp only [Act.put, List.setIfInBounds_toArray, List.set_cons_zero, List.set_cons_succ]
      refine wpAnyHTake 15 (some 49) (.string R) rfl rfl (by kernel_rfl) (by kernel_rfl) (by kernel_rfl) (fun _ _ _ h => h) (by rfl) (fun _ _ => by rfl) (trivial) ?_
      simp only [Act.put, List.setIfInBounds_toArray, List.set_cons_zero, List.set_cons_succ]
      refine wpAnyHTake 16 (some 50) (.string (R.extract 0 63)) rfl rfl (by kernel_rfl) (by kernel_rfl) (by kernel_rfl) (fun _ _ _ h => h) (by rfl) (fun _ _ => by go_simp) (trivial) ?_
      simp only [Act.put, List.setIfInBounds_toArray, List.set_cons_zero, List.set_cons_succ]
      refine wpAnyHTake 17 (some 51) (.string R) rfl rfl (by kernel_rfl) (by kernel_rfl) (by kernel_rfl) (fun _ _ _ h => h) (by rfl) (fun _ _ => by rfl) (trivial) ?_
      simp only [Act.put, List.setIfInBounds_toArray, List.set_cons_zero, List.set_cons_succ]
      refine wpAnyHTake 18 (some 52) (.string (R.extract 0 64)) rfl rfl (by kernel_rfl) (by kernel_rfl) (by kernel_rfl) (fun _ _ _ h => h) (by rfl) (fun _ _ => by go_simp) (trivial) ?_
      simp only [Act.put, List.setIfInBounds_toArray, List.set_cons_zero, List.set_cons_succ]
      refine wpAnyHTake 19 (some 53) (.string R) rfl rfl (by kernel_rfl) (by kernel_rfl) (by kernel_rfl) (fun _ _ _ h => h) (by rfl) (fun _ _ => by rfl) (trivial) ?_
      simp only [Act.put, List.setIfInBounds_toArray, List.set_cons_zero, List.set_cons_succ]
      refine wpAnyHTake 20 (some 54) (.string (R.extract 0 65)) rfl rfl (by kernel_rfl) (by kernel_rfl) (by kernel_rfl) (fun _ _ _ h => h) (by rfl) (fun _ _ => by go_simp) (trivial) ?_
      simp only [Act.put, List.setIfInBounds_toArray, List.set_cons_zero, List.set_cons_succ]
      refine wpAnyHTake 21 (some 55) (.string R) rfl rfl (by kernel_rfl) (by kernel_rfl) (by kernel_rfl) (fun _ _ _ h => h) (by rfl) (fun _ _ => by rfl) (trivial) ?_
      simp only [Act.put, List.setIfInBounds_toArray, List.set_cons_zero, List.set_cons_succ]
      have cv := conv1 c V
      have HV2 := Lib.hid (HV.out.alloc HV.out.size (.cells #[.int .u8 c.toNat] 5))
      refine wpAnyHOne 6 (some 40) (v := .slice (some ⟨V.heap.size, 0, none⟩) 1 1) (w' := V.alloc (.cells #[.int .u8 c.toNat] 5)) (by kernel_rfl) rfl rfl (by rfl) (by clear cv; go_simp) trivial ?_
      simp only [Act.put, List.setIfInBounds_toArray, List.set_cons_zero, List.set_cons_succ]
      generalize V.alloc (.cells #[.int .u8 c.toNat] 5) = V2 at *
      refine wpAnyHOne 7 (some 41) (v := .string ⟨#[c]⟩) (w' := V2) (by kernel_rfl) rfl rfl (by rfl) (by go_simp) trivial ?_
      clear cv
      simp only [Act.put, List.setIfInBounds_toArray, List.set_cons_zero, List.set_cons_succ]
      refine wpAnyHTake 8 (some 42) (.string (s.extract 0 k ++ ⟨#[c]⟩)) rfl rfl (by kernel_rfl) (by kernel_rfl) (by kernel_rfl) (fun _ _ _ h => h) (by rfl) (fun _ _ => by go_simp; omega) (trivial) ?_
      simp only [Act.put, List.setIfInBounds_toArray, List.set_cons_zero, List.set_cons_succ]
      refine wpAnyHTake 12 (some 46) (.string (s.extract 0 k ++ ⟨#[c]⟩ ++ s.extract k s.size)) rfl rfl (by kernel_rfl) (by kernel_rfl) (by kernel_rfl) (fun _ _ _ h => h) (by rfl) (fun _ _ => by go_simp; omega) (trivial) ?_
      simp only [Act.put, List.setIfInBounds_toArray, List.set_cons_zero, List.set_cons_succ]
      have x5 : (s.extract 0 k ++ ⟨#[c]⟩ ++ s.extract k s.size).size ≤ 13 := by rw [ByteArray.size_append, x3, x2]; omega
      generalize s.extract 0 k ++ ⟨#[c]⟩ ++ s.extract k s.size = T at *
      obtain ⟨R2, hR2⟩ : ∃ x, x = R.extract 0 62 := ⟨_, rfl⟩
      obtain ⟨R3, hR3⟩ : ∃ x, x = R.extract 0 63 := ⟨_, rfl⟩
      obtain ⟨R4, hR4⟩ : ∃ x, x = R.extract 0 64 := ⟨_, rfl⟩
      obtain ⟨R5, hR5⟩ : ∃ x, x = R.extract 0 65 := ⟨_, rfl⟩
      have y2 : R2.size ≤ 66 := by rw [hR2, ByteArray.size_extract]; omega
      have y3 : R3.size ≤ 66 := by rw [hR3, ByteArray.size_extract]; omega
      have y4 : R4.size ≤ 66 := by rw [hR4, ByteArray.size_extract]; omega
      have y5 : R5.size ≤ 66 := by rw [hR5, ByteArray.size_extract]; omega
      rw [← hR2, ← hR3, ← hR4, ← hR5]
      clear hR2 hR3 hR4 hR5 x1 x2 x3 x4 g1 g2
      have HRD0 := rdS_new V2 [s, raw, T, ⟨#[]⟩, ⟨#[48]⟩, R2, R3, R4, R5, R] (by simp)
      have HRD := Lib.hid (show RdS (V2.alloc (.cells #[.string s, .string raw, .string T, .string ⟨#[]⟩, .string ⟨#[48]⟩, .string R2, .string R3, .string R4, .string R5, .string R] 9)) (.slice (some ⟨V2.heap.size, 0, none⟩) 10 10) [s, raw, T, ⟨#[]⟩, ⟨#[48]⟩, R2, R3, R4, R5, R] from HRD0)
      have hall : ∀ t, t ∈ [s, raw, T, ⟨#[]⟩, ⟨#[48]⟩, R2, R3, R4, R5, R] → t.size ≤ 1048576 := by
        intro t ht
        simp only [List.mem_cons, List.not_mem_nil, or_false] at ht
        rcases ht with rfl | rfl | rfl | rfl | rfl | rfl | rfl | rfl | rfl | rfl <;> first | omega | (simp [ByteArray.size])
      have HALL := Lib.hid hall
      have hlen : [s, raw, T, ⟨#[]⟩, ⟨#[48]⟩, R2, R3, R4, R5, R].length = 10 := rfl
      have HLEN := Lib.hid hlen
      clear HRD0 hall hlen
      have HBL := Lib.hid (HV2.out.alloc HV2.out.size (.cells #[.string s, .string raw, .string T, .string ⟨#[]⟩, .string ⟨#[48]⟩, .string R2, .string R3, .string R4, .string R5, .string R] 9))
      refine wpAnyHOne 22 (some 56) (v := .slice (some ⟨V2.heap.size, 0, none⟩) 10 10) (w' := V2.alloc (.cells #[.string s, .string raw, .string T, .string ⟨#[]⟩, .string ⟨#[48]⟩, .string R2, .string R3, .string R4, .string R5, .string R] 9)) (by kernel_rfl) rfl rfl (by rfl) (by go_simp) trivial ?_
      simp only [Act.put, List.setIfInBounds_toArray, List.set_cons_zero, List.set_cons_succ]
      generalize V2.alloc (.cells #[.string s, .string raw, .string T, .string ⟨#[]⟩, .string ⟨#[48]⟩, .string R2, .string R3, .string R4, .string R5, .string R] 9) = wL at *
      generalize V2.heap.size = bL at *
      refine wpAnyHTake 23 (some 13) (.slice (some ⟨bL, 0, none⟩) 10 10) rfl rfl (by kernel_rfl) (by kernel_rfl) (by kernel_rfl) (fun _ _ _ h => h) (by rfl) (fun _ _ => by rfl) (trivial) ?_
      simp only [Act.put, List.setIfInBounds_toArray, List.set_cons_zero, List.set_cons_succ]
      refine wpAnyH_done (by kernel_rfl) ?_ _
      rename_i K hK
      refine hK _ _ ?_
      clear hK
      generalize [s, raw, T, ⟨#[]⟩, ⟨#[48]⟩, R2, R3, R4, R5, R] = LS at *
      go_wp2_with fail
      go_loopw [14] (fun i wr => ∃ j : Nat, j ≤ 10 ∧ i = .int .i64 j ∧ Below w.heap.size w wr ∧ Below wL.heap.size wL wr) (fun i _ => 10 - (intOf i).toNat)
      case atStart => exact ⟨0, Nat.zero_le _, rfl, HBL.out, Below.refl _ _⟩
      case round =>
        obtain ⟨j, hj, rfl, hbl, hbl1⟩ := hrel
        have H1 := Lib.hid hbl; have HL1 := Lib.hid hbl1
        by_cases hlt : j < 10
        · have p1 : (j : Int) < 10 := by omega
          obtain ⟨t, ht⟩ := elem_at (l := LS) (k := j) (by rw [HLEN.out]; exact hlt)
          have htz := HALL.out t (List.mem_of_getElem? ht)
          have R0 := RdS.below HRD.out hbl1
          obtain ⟨a', c', he, _, f⟩ := R0.open
          rw [HLEN.out] at he
          cases he
          obtain ⟨b, o, hbo, hbw, g⟩ := f j t ht
          cases hbo
          rw [Nat.zero_add] at g
          have AC := fun (h : addE t = 0) => add_check h
          have HAC := Lib.hid AC
          have AD := add_any t (by omega) wr
          have RA := Lib.hid (radd_any t (by omega))
          have CK := Lib.hid (check_any t (by omega))
          have RK := Lib.hid (rcheck_any t (by omega))
          clear f R0 ht hbl hbl1 AC
          go_wp2_with fail
          refine AD.mono ?_
          rintro e w5 ⟨rfl, hb5⟩
          have H5 := Lib.hid (H1.out.trans (hb5.mono H1.out.size)); have HL5 := Lib.hid (HL1.out.trans (hb5.mono HL1.out.size))
          have g5 := (hb5.cell (p := ⟨bL, j, none⟩) hbw).trans g
          have hbw5 := Nat.lt_of_lt_of_le hbw hb5.size
          clear hb5 AD g
          go_wp2_with fail
          refine (RA.out _).mono ?_
          rintro e w6 ⟨rfl, hb6⟩
          have H6 := Lib.hid (H5.out.trans (hb6.mono H5.out.size)); have HL6 := Lib.hid (HL5.out.trans (hb6.mono HL5.out.size))
          have G6 := Lib.hid ((hb6.cell (p := ⟨bL, j, none⟩) hbw5).trans g5)
          have hbw6 := Nat.lt_of_lt_of_le hbw5 hb6.size
          clear hb6 g5
          by_cases hE : addE t = 0
          · have hE2 : (addE t == 0) = true := by simp [hE]
            obtain ⟨hck, hcz⟩ := HAC.out hE
            have CA := Lib.hid (check_any (addV t) (by omega))
            have ca := CA.out
            rw [hck] at ca
            have HCA := Lib.hid ca
            clear CA ca hck hcz hE
            generalize addE t = E at *
            generalize addV t = A at *
            go_upto_region 14 with fail
            refine wp_region_held (S := fun W' => W'.cell? ⟨bL, j, none⟩ = some (.string t)) (by kernel_rfl) ?_
            have hdr : (w6).drew = { w6 with drawn := (w6).drawn + 1 } := rfl
            rw [← hdr]
            clear hdr
            have GV := Lib.hid (show (w6.drewN 1).cell? ⟨bL, j, none⟩ = some (.string t) from G6.out)
            have HV := Lib.hid (Below.dn H6.out 1); have HVL := Lib.hid (Below.dn HL6.out 1)
            have hbv : bL < (w6.drewN 1).heap.size := hbw6
            change wpAnyH _ _ _ _ _ _ _ _ (w6.drewN 1)
            generalize w6.drewN 1 = V at *
            refine wpAnyHTake 0 (some 79) (.string A) rfl rfl (by kernel_rfl) (by kernel_rfl) (by kernel_rfl) (fun _ _ _ h => h) (by rfl) (fun _ _ => by rfl) (GV.out) ?_
            simp only [Act.put, List.setIfInBounds_toArray, List.set_cons_zero, List.set_cons_succ]
            refine wpAnyHTake 1 (some 80) (.string A) rfl rfl (by kernel_rfl) (by kernel_rfl) (by kernel_rfl) (fun _ _ _ h => h) (by rfl) (fun _ _ => by rfl) (GV.out) ?_
            simp only [Act.put, List.setIfInBounds_toArray, List.set_cons_zero, List.set_cons_succ]
            refine wpAnyHTake 2 (some 81) (.bool false) rfl rfl (by kernel_rfl) (by kernel_rfl) (by kernel_rfl) (fun _ _ _ h => h) (by rfl) (fun _ _ => by go_simp) (GV.out) ?_
            simp only [Act.put, List.setIfInBounds_toArray, List.set_cons_zero, List.set_cons_succ]
            refine wpAnyHTake 3 (some 82) (.bool false) rfl rfl (by kernel_rfl) (by kernel_rfl) (by kernel_rfl) (fun _ _ _ h => h) (by rfl) (fun _ _ => by rfl) (GV.out) ?_
            simp only [Act.put, List.setIfInBounds_toArray, List.set_cons_zero, List.set_cons_succ]
            refine wpAnyHTake 4 (some 83) (.int .i64 E) rfl rfl (by kernel_rfl) (by kernel_rfl) (by kernel_rfl) (fun _ _ _ h => h) (by rfl) (fun _ _ => by rfl) (GV.out) ?_
            simp only [Act.put, List.setIfInBounds_toArray, List.set_cons_zero, List.set_cons_succ]
            refine wpAnyHTake 5 (some 84) (.int .i64 E) rfl rfl (by kernel_rfl) (by kernel_rfl) (by kernel_rfl) (fun _ _ _ h => h) (by rfl) (fun _ _ => by rfl) (GV.out) ?_
            simp only [Act.put, List.setIfInBounds_toArray, List.set_cons_zero, List.set_cons_succ]
            refine wpAnyHTake 6 (some 85) (.bool false) rfl rfl (by kernel_rfl) (by kernel_rfl) (by kernel_rfl) (fun _ _ _ h => h) (by rfl) (fun _ _ => by go_simp) (GV.out) ?_
            simp only [Act.put, List.setIfInBounds_toArray, List.set_cons_zero, List.set_cons_succ]
            refine wpAnyHTake 7 (some 86) (.bool false) rfl rfl (by kernel_rfl) (by kernel_rfl) (by kernel_rfl) (fun _ _ _ h => h) (by rfl) (fun _ _ => by go_simp) (GV.out) ?_
            simp only [Act.put, List.setIfInBounds_toArray, List.set_cons_zero, List.set_cons_succ]
            refine wpAnyHTake 8 (some 87) (.bool false) rfl rfl (by kernel_rfl) (by kernel_rfl) (by kernel_rfl) (fun _ _ _ h => h) (by rfl) (fun _ _ => by rfl) (GV.out) ?_
            simp only [Act.put, List.setIfInBounds_toArray, List.set_cons_zero, List.set_cons_succ]
            refine wpAnyHTake 9 (some 88) (.slice (some ⟨bL, 0, none⟩) 10 10) rfl rfl (by kernel_rfl) (by kernel_rfl) (by kernel_rfl) (fun _ _ _ h => h) (by rfl) (fun _ _ => by rfl) (GV.out) ?_
            simp only [Act.put, List.setIfInBounds_toArray, List.set_cons_zero, List.set_cons_succ]
            refine wpAnyHTake 10 (some 89) (.int .i64 j) rfl rfl (by kernel_rfl) (by kernel_rfl) (by kernel_rfl) (fun _ _ _ h => h) (by rfl) (fun _ _ => by rfl) (GV.out) ?_
            simp only [Act.put, List.setIfInBounds_toArray, List.set_cons_zero, List.set_cons_succ]
            refine wpAnyHTake 11 (some 90) (.pointer (some ⟨bL, j, none⟩)) rfl rfl (by kernel_rfl) (by kernel_rfl) (by kernel_rfl) (fun _ _ _ h => h) (by rfl) (fun _ _ => by go_simp) (GV.out) ?_
            simp only [Act.put, List.setIfInBounds_toArray, List.set_cons_zero, List.set_cons_succ]
            refine wpAnyHTake 12 (some 91) (.string t) rfl rfl (by kernel_rfl) (by kernel_rfl) (by kernel_rfl) (fun _ _ _ h => h) (by rfl) (fun W hW => by have g1 := hW; go_simp) (GV.out) ?_
            simp only [Act.put, List.setIfInBounds_toArray, List.set_cons_zero, List.set_cons_succ]
            refine wpAnyHTake 14 (some 93) (.slice (some ⟨bL, 0, none⟩) 10 10) rfl rfl (by kernel_rfl) (by kernel_rfl) (by kernel_rfl) (fun _ _ _ h => h) (by rfl) (fun _ _ => by rfl) (GV.out) ?_
            simp only [Act.put, List.setIfInBounds_toArray, List.set_cons_zero, List.set_cons_succ]
            refine wpAnyHTake 15 (some 94) (.int .i64 j) rfl rfl (by kernel_rfl) (by kernel_rfl) (by kernel_rfl) (fun _ _ _ h => h) (by rfl) (fun _ _ => by rfl) (GV.out) ?_
            simp only [Act.put, List.setIfInBounds_toArray, List.set_cons_zero, List.set_cons_succ]
            refine wpAnyHTake 16 (some 95) (.pointer (some ⟨bL, j, none⟩)) rfl rfl (by kernel_rfl) (by kernel_rfl) (by kernel_rfl) (fun _ _ _ h => h) (by rfl) (fun _ _ => by go_simp) (GV.out) ?_
            simp only [Act.put, List.setIfInBounds_toArray, List.set_cons_zero, List.set_cons_succ]
            refine wpAnyHTake 17 (some 96) (.string t) rfl rfl (by kernel_rfl) (by kernel_rfl) (by kernel_rfl) (fun _ _ _ h => h) (by rfl) (fun W hW => by have g1 := hW; go_simp) (GV.out) ?_
            simp only [Act.put, List.setIfInBounds_toArray, List.set_cons_zero, List.set_cons_succ]
            refine wpAnyHCall 13 (some 92) 26 #[.string t] (by kernel_rfl) rfl rfl (by rfl) (by go_simp) (CK.out V) ?_
            rintro e Va ⟨rfl, hb⟩
            have GVa := Lib.hid ((hb.cell (p := ⟨bL, j, none⟩) hbv).trans GV.out)
            have hbva := Nat.lt_of_lt_of_le hbv hb.size
            have HVa := Lib.hid (HV.out.trans (hb.mono HV.out.size)); have HVLa := Lib.hid (HVL.out.trans (hb.mono HVL.out.size))
            clear hb
            refine ⟨_, rfl, GVa.out, ?_⟩
            simp only [Act.put, List.setIfInBounds_toArray, List.set_cons_zero, List.set_cons_succ]
            refine wpAnyHCall 18 (some 97) 27 #[.string t] (by kernel_rfl) rfl rfl (by rfl) (by go_simp) (RK.out Va) ?_
            rintro e Vb ⟨rfl, hb⟩
            have GVb := Lib.hid ((hb.cell (p := ⟨bL, j, none⟩) hbva).trans GVa.out)
            have hbvb := Nat.lt_of_lt_of_le hbva hb.size
            have HVb := Lib.hid (HVa.out.trans (hb.mono HVa.out.size)); have HVLb := Lib.hid (HVLa.out.trans (hb.mono HVLa.out.size))
            clear hb
            refine ⟨_, rfl, GVb.out, ?_⟩
            simp only [Act.put, List.setIfInBounds_toArray, List.set_cons_zero, List.set_cons_succ]
            refine wpAnyHTake 19 (some 98) (.bool false) rfl rfl (by kernel_rfl) (by kernel_rfl) (by kernel_rfl) (fun _ _ _ h => h) (by rfl) (fun _ _ => by go_simp) (GVb.out) ?_
            simp only [Act.put, List.setIfInBounds_toArray, List.set_cons_zero, List.set_cons_succ]
            refine wpAnyHTake 20 (some 99) (.bool false) rfl rfl (by kernel_rfl) (by kernel_rfl) (by kernel_rfl) (fun _ _ _ h => h) (by rfl) (fun _ _ => by go_simp) (GVb.out) ?_
            simp only [Act.put, List.setIfInBounds_toArray, List.set_cons_zero, List.set_cons_succ]
            refine wpAnyHTake 21 (some 100) (.bool false) rfl rfl (by kernel_rfl) (by kernel_rfl) (by kernel_rfl) (fun _ _ _ h => h) (by rfl) (fun _ _ => by rfl) (GVb.out) ?_
            simp only [Act.put, List.setIfInBounds_toArray, List.set_cons_zero, List.set_cons_succ]
            refine wpAnyHTake 22 (some 101) (.int .i64 E) rfl rfl (by kernel_rfl) (by kernel_rfl) (by kernel_rfl) (fun _ _ _ h => h) (by rfl) (fun _ _ => by rfl) (GVb.out) ?_
            simp only [Act.put, List.setIfInBounds_toArray, List.set_cons_zero, List.set_cons_succ]
            refine wpAnyHTake 23 (some 102) (.bool true) rfl rfl (by kernel_rfl) (by kernel_rfl) (by kernel_rfl) (fun _ _ _ h => h) (by rfl) (fun _ _ => by go_simp) (GVb.out) ?_
            simp only [Act.put, List.setIfInBounds_toArray, List.set_cons_zero, List.set_cons_succ]
            refine wpAnyHTake 24 (some 103) (.bool true) rfl rfl (by kernel_rfl) (by kernel_rfl) (by kernel_rfl) (fun _ _ _ h => h) (by rfl) (fun _ _ => by rfl) (GVb.out) ?_
            simp only [Act.put, List.setIfInBounds_toArray, List.set_cons_zero, List.set_cons_succ]
            refine wpAnyHTake 25 (some 104) (.string A) rfl rfl (by kernel_rfl) (by kernel_rfl) (by kernel_rfl) (fun _ _ _ h => h) (by rfl) (fun _ _ => by rfl) (GVb.out) ?_
            simp only [Act.put, List.setIfInBounds_toArray, List.set_cons_zero, List.set_cons_succ]
            refine wpAnyHCall 26 (some 105) 26 #[.string A] (by kernel_rfl) rfl rfl (by rfl) (by go_simp) (HCA.out Vb) ?_
            rintro e Vc ⟨rfl, hb⟩
            have GVc := Lib.hid ((hb.cell (p := ⟨bL, j, none⟩) hbvb).trans GVb.out)
            have hbvc := Nat.lt_of_lt_of_le hbvb hb.size
            have HVc := Lib.hid (HVb.out.trans (hb.mono HVb.out.size)); have HVLc := Lib.hid (HVLb.out.trans (hb.mono HVLb.out.size))
            clear hb
            refine ⟨_, rfl, GVc.out, ?_⟩
            simp only [Act.put, List.setIfInBounds_toArray, List.set_cons_zero, List.set_cons_succ]
            refine wpAnyHTake 27 (some 106) (.bool false) rfl rfl (by kernel_rfl) (by kernel_rfl) (by kernel_rfl) (fun _ _ _ h => h) (by rfl) (fun _ _ => by go_simp) (GVc.out) ?_
            simp only [Act.put, List.setIfInBounds_toArray, List.set_cons_zero, List.set_cons_succ]
            refine wpAnyHTake 28 (some 107) (.bool false) rfl rfl (by kernel_rfl) (by kernel_rfl) (by kernel_rfl) (fun _ _ _ h => h) (by rfl) (fun _ _ => by go_simp) (GVc.out) ?_
            simp only [Act.put, List.setIfInBounds_toArray, List.set_cons_zero, List.set_cons_succ]
            refine wpAnyHTake 29 (some 108) (.bool false) rfl rfl (by kernel_rfl) (by kernel_rfl) (by kernel_rfl) (fun _ _ _ h => h) (by rfl) (fun _ _ => by go_simp) (GVc.out) ?_
            simp only [Act.put, List.setIfInBounds_toArray, List.set_cons_zero, List.set_cons_succ]
            refine wpAnyH_done (by kernel_rfl) ?_ _
            rename_i K hK
            refine hK _ _ ?_
            clear hK
            clear hE2
            go_wp2_with fail
            go_roundw
            case rel => exact ⟨j + 1, by omega, by go_num, HVc.out, HVLc.out⟩
            case measure => simp [intOf]; omega
          · have hE2 : (addE t == 0) = false := beq_eq_false_iff_ne.2 hE
            clear hE
            generalize addE t = E at *
            generalize addV t = A at *
            go_upto_region 14 with fail
            refine wp_region_held (S := fun W' => W'.cell? ⟨bL, j, none⟩ = some (.string t)) (by kernel_rfl) ?_
            have hdr : (w6).drew = { w6 with drawn := (w6).drawn + 1 } := rfl
            rw [← hdr]
            clear hdr
            have GV := Lib.hid (show (w6.drewN 1).cell? ⟨bL, j, none⟩ = some (.string t) from G6.out)
            have HV := Lib.hid (Below.dn H6.out 1); have HVL := Lib.hid (Below.dn HL6.out 1)
            have hbv : bL < (w6.drewN 1).heap.size := hbw6
            change wpAnyH _ _ _ _ _ _ _ _ (w6.drewN 1)
            generalize w6.drewN 1 = V at *
            refine wpAnyHTake 0 (some 79) (.string A) rfl rfl (by kernel_rfl) (by kernel_rfl) (by kernel_rfl) (fun _ _ _ h => h) (by rfl) (fun _ _ => by rfl) (GV.out) ?_
            simp only [Act.put, List.setIfInBounds_toArray, List.set_cons_zero, List.set_cons_succ]
            refine wpAnyHTake 1 (some 80) (.string A) rfl rfl (by kernel_rfl) (by kernel_rfl) (by kernel_rfl) (fun _ _ _ h => h) (by rfl) (fun _ _ => by rfl) (GV.out) ?_
            simp only [Act.put, List.setIfInBounds_toArray, List.set_cons_zero, List.set_cons_succ]
            refine wpAnyHTake 2 (some 81) (.bool false) rfl rfl (by kernel_rfl) (by kernel_rfl) (by kernel_rfl) (fun _ _ _ h => h) (by rfl) (fun _ _ => by go_simp) (GV.out) ?_
            simp only [Act.put, List.setIfInBounds_toArray, List.set_cons_zero, List.set_cons_succ]
            refine wpAnyHTake 3 (some 82) (.bool false) rfl rfl (by kernel_rfl) (by kernel_rfl) (by kernel_rfl) (fun _ _ _ h => h) (by rfl) (fun _ _ => by rfl) (GV.out) ?_
            simp only [Act.put, List.setIfInBounds_toArray, List.set_cons_zero, List.set_cons_succ]
            refine wpAnyHTake 4 (some 83) (.int .i64 E) rfl rfl (by kernel_rfl) (by kernel_rfl) (by kernel_rfl) (fun _ _ _ h => h) (by rfl) (fun _ _ => by rfl) (GV.out) ?_
            simp only [Act.put, List.setIfInBounds_toArray, List.set_cons_zero, List.set_cons_succ]
            refine wpAnyHTake 5 (some 84) (.int .i64 E) rfl rfl (by kernel_rfl) (by kernel_rfl) (by kernel_rfl) (fun _ _ _ h => h) (by rfl) (fun _ _ => by rfl) (GV.out) ?_
            simp only [Act.put, List.setIfInBounds_toArray, List.set_cons_zero, List.set_cons_succ]
            refine wpAnyHTake 6 (some 85) (.bool false) rfl rfl (by kernel_rfl) (by kernel_rfl) (by kernel_rfl) (fun _ _ _ h => h) (by rfl) (fun _ _ => by go_simp) (GV.out) ?_
            simp only [Act.put, List.setIfInBounds_toArray, List.set_cons_zero, List.set_cons_succ]
            refine wpAnyHTake 7 (some 86) (.bool false) rfl rfl (by kernel_rfl) (by kernel_rfl) (by kernel_rfl) (fun _ _ _ h => h) (by rfl) (fun _ _ => by go_simp) (GV.out) ?_
            simp only [Act.put, List.setIfInBounds_toArray, List.set_cons_zero, List.set_cons_succ]
            refine wpAnyHTake 8 (some 87) (.bool false) rfl rfl (by kernel_rfl) (by kernel_rfl) (by kernel_rfl) (fun _ _ _ h => h) (by rfl) (fun _ _ => by rfl) (GV.out) ?_
            simp only [Act.put, List.setIfInBounds_toArray, List.set_cons_zero, List.set_cons_succ]
            refine wpAnyHTake 9 (some 88) (.slice (some ⟨bL, 0, none⟩) 10 10) rfl rfl (by kernel_rfl) (by kernel_rfl) (by kernel_rfl) (fun _ _ _ h => h) (by rfl) (fun _ _ => by rfl) (GV.out) ?_
            simp only [Act.put, List.setIfInBounds_toArray, List.set_cons_zero, List.set_cons_succ]
            refine wpAnyHTake 10 (some 89) (.int .i64 j) rfl rfl (by kernel_rfl) (by kernel_rfl) (by kernel_rfl) (fun _ _ _ h => h) (by rfl) (fun _ _ => by rfl) (GV.out) ?_
            simp only [Act.put, List.setIfInBounds_toArray, List.set_cons_zero, List.set_cons_succ]
            refine wpAnyHTake 11 (some 90) (.pointer (some ⟨bL, j, none⟩)) rfl rfl (by kernel_rfl) (by kernel_rfl) (by kernel_rfl) (fun _ _ _ h => h) (by rfl) (fun _ _ => by go_simp) (GV.out) ?_
            simp only [Act.put, List.setIfInBounds_toArray, List.set_cons_zero, List.set_cons_succ]
            refine wpAnyHTake 12 (some 91) (.string t) rfl rfl (by kernel_rfl) (by kernel_rfl) (by kernel_rfl) (fun _ _ _ h => h) (by rfl) (fun W hW => by have g1 := hW; go_simp) (GV.out) ?_
            simp only [Act.put, List.setIfInBounds_toArray, List.set_cons_zero, List.set_cons_succ]
            refine wpAnyHTake 14 (some 93) (.slice (some ⟨bL, 0, none⟩) 10 10) rfl rfl (by kernel_rfl) (by kernel_rfl) (by kernel_rfl) (fun _ _ _ h => h) (by rfl) (fun _ _ => by rfl) (GV.out) ?_
            simp only [Act.put, List.setIfInBounds_toArray, List.set_cons_zero, List.set_cons_succ]
            refine wpAnyHTake 15 (some 94) (.int .i64 j) rfl rfl (by kernel_rfl) (by kernel_rfl) (by kernel_rfl) (fun _ _ _ h => h) (by rfl) (fun _ _ => by rfl) (GV.out) ?_
            simp only [Act.put, List.setIfInBounds_toArray, List.set_cons_zero, List.set_cons_succ]
            refine wpAnyHTake 16 (some 95) (.pointer (some ⟨bL, j, none⟩)) rfl rfl (by kernel_rfl) (by kernel_rfl) (by kernel_rfl) (fun _ _ _ h => h) (by rfl) (fun _ _ => by go_simp) (GV.out) ?_
            simp only [Act.put, List.setIfInBounds_toArray, List.set_cons_zero, List.set_cons_succ]
            refine wpAnyHTake 17 (some 96) (.string t) rfl rfl (by kernel_rfl) (by kernel_rfl) (by kernel_rfl) (fun _ _ _ h => h) (by rfl) (fun W hW => by have g1 := hW; go_simp) (GV.out) ?_
            simp only [Act.put, List.setIfInBounds_toArray, List.set_cons_zero, List.set_cons_succ]
            refine wpAnyHCall 13 (some 92) 26 #[.string t] (by kernel_rfl) rfl rfl (by rfl) (by go_simp) (CK.out V) ?_
            rintro e Va ⟨rfl, hb⟩
            have GVa := Lib.hid ((hb.cell (p := ⟨bL, j, none⟩) hbv).trans GV.out)
            have hbva := Nat.lt_of_lt_of_le hbv hb.size
            have HVa := Lib.hid (HV.out.trans (hb.mono HV.out.size)); have HVLa := Lib.hid (HVL.out.trans (hb.mono HVL.out.size))
            clear hb
            refine ⟨_, rfl, GVa.out, ?_⟩
            simp only [Act.put, List.setIfInBounds_toArray, List.set_cons_zero, List.set_cons_succ]
            refine wpAnyHCall 18 (some 97) 27 #[.string t] (by kernel_rfl) rfl rfl (by rfl) (by go_simp) (RK.out Va) ?_
            rintro e Vb ⟨rfl, hb⟩
            have GVb := Lib.hid ((hb.cell (p := ⟨bL, j, none⟩) hbva).trans GVa.out)
            have hbvb := Nat.lt_of_lt_of_le hbva hb.size
            have HVb := Lib.hid (HVa.out.trans (hb.mono HVa.out.size)); have HVLb := Lib.hid (HVLa.out.trans (hb.mono HVLa.out.size))
            clear hb
            refine ⟨_, rfl, GVb.out, ?_⟩
            simp only [Act.put, List.setIfInBounds_toArray, List.set_cons_zero, List.set_cons_succ]
            refine wpAnyHTake 19 (some 98) (.bool false) rfl rfl (by kernel_rfl) (by kernel_rfl) (by kernel_rfl) (fun _ _ _ h => h) (by rfl) (fun _ _ => by go_simp) (GVb.out) ?_
            simp only [Act.put, List.setIfInBounds_toArray, List.set_cons_zero, List.set_cons_succ]
            refine wpAnyHTake 20 (some 99) (.bool false) rfl rfl (by kernel_rfl) (by kernel_rfl) (by kernel_rfl) (fun _ _ _ h => h) (by rfl) (fun _ _ => by go_simp) (GVb.out) ?_
            simp only [Act.put, List.setIfInBounds_toArray, List.set_cons_zero, List.set_cons_succ]
            refine wpAnyHTake 21 (some 100) (.bool false) rfl rfl (by kernel_rfl) (by kernel_rfl) (by kernel_rfl) (fun _ _ _ h => h) (by rfl) (fun _ _ => by rfl) (GVb.out) ?_
            simp only [Act.put, List.setIfInBounds_toArray, List.set_cons_zero, List.set_cons_succ]
            refine wpAnyHTake 22 (some 101) (.int .i64 E) rfl rfl (by kernel_rfl) (by kernel_rfl) (by kernel_rfl) (fun _ _ _ h => h) (by rfl) (fun _ _ => by rfl) (GVb.out) ?_
            simp only [Act.put, List.setIfInBounds_toArray, List.set_cons_zero, List.set_cons_succ]
            refine wpAnyHTake 23 (some 102) (.bool false) rfl rfl (by kernel_rfl) (by kernel_rfl) (by kernel_rfl) (fun _ _ _ h => h) (by rfl) (fun _ _ => by go_simp) (GVb.out) ?_
            simp only [Act.put, List.setIfInBounds_toArray, List.set_cons_zero, List.set_cons_succ]
            refine wpAnyHTake 24 (some 103) (.bool false) rfl rfl (by kernel_rfl) (by kernel_rfl) (by kernel_rfl) (fun _ _ _ h => h) (by rfl) (fun _ _ => by rfl) (GVb.out) ?_
            simp only [Act.put, List.setIfInBounds_toArray, List.set_cons_zero, List.set_cons_succ]
            refine wpAnyHPass 25 (some 104) rfl rfl (by kernel_rfl) (by kernel_rfl) (by kernel_rfl) (fun _ _ _ h => h) (by rfl) (GVb.out) ?_
            simp only [Act.put, List.setIfInBounds_toArray, List.set_cons_zero, List.set_cons_succ]
            refine wpAnyHPass 26 (some 105) rfl rfl (by kernel_rfl) (by kernel_rfl) (by kernel_rfl) (fun _ _ _ h => h) (by rfl) (GVb.out) ?_
            simp only [Act.put, List.setIfInBounds_toArray, List.set_cons_zero, List.set_cons_succ]
            refine wpAnyHPass 27 (some 106) rfl rfl (by kernel_rfl) (by kernel_rfl) (by kernel_rfl) (fun _ _ _ h => h) (by rfl) (GVb.out) ?_
            simp only [Act.put, List.setIfInBounds_toArray, List.set_cons_zero, List.set_cons_succ]
            refine wpAnyHTake 28 (some 107) (.bool false) rfl rfl (by kernel_rfl) (by kernel_rfl) (by kernel_rfl) (fun _ _ _ h => h) (by rfl) (fun _ _ => by go_simp) (GVb.out) ?_
            simp only [Act.put, List.setIfInBounds_toArray, List.set_cons_zero, List.set_cons_succ]
            refine wpAnyHTake 29 (some 108) (.bool false) rfl rfl (by kernel_rfl) (by kernel_rfl) (by kernel_rfl) (fun _ _ _ h => h) (by rfl) (fun _ _ => by go_simp) (GVb.out) ?_
            simp only [Act.put, List.setIfInBounds_toArray, List.set_cons_zero, List.set_cons_succ]
            refine wpAnyH_done (by kernel_rfl) ?_ _
            rename_i K hK
            refine hK _ _ ?_
            clear hK
            clear hE2
            go_wp2_with fail
            go_roundw
            case rel => exact ⟨j + 1, by omega, by go_num, HVb.out, HVLb.out⟩
            case measure => simp [intOf]; omega
        · have p1 : ¬ (j : Int) < 10 := by omega
          clear hbl hbl1
          go_wp2_with fail
          refine (LV.out _).mono ?_
          rintro e w8 ⟨rfl, hb8⟩
          go_wp2_with fail
          go_ret
          exact ⟨rfl, H1.out.trans (hb8.mono H1.out.size)⟩
end Go.Proofs.Ytidojiegkdchpaa
