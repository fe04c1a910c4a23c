/- The walk of DigitSums. -/
import Derived.Test.YtidojiegkdchpaaBe
namespace Go.Proofs.Ytidojiegkdchpaa
open Go.RowKit Go.Maps

set_option maxRecDepth 100000 in
set_option maxHeartbeats 8000000 in
theorem digitSums_any (v1 v2 v3 v4 : Value) (l vl ul raw : List Int) (n mod : Int) (cc : UInt8) (w : World) (h1 : RdI w v1 l) (h2 : RdI w v2 vl) (h3 : RdI w v3 ul) (h4 : RdI w v4 raw) (i1 : inI l) (i2 : inI vl) (i3 : inI ul) (hn : -9223372036854775808 ≤ n) (hn' : n ≤ 9223372036854775807) :
    Calls Try.prog 3 #[v1, .int .i64 n, v2, v3, v4, .int .i64 mod, .int .u8 cc.toNat] w fun e w' => e = .returned (.bool true) ∧ Below w.heap.size w w' := by
  obtain ⟨i0, hi0, hz0, hz1, hz2⟩ := info_parts Try.info3i
  have HI0 := Lib.hid hi0; have HZ0 := Lib.hid hz0; have HZ1 := Lib.hid hz1; have HZ2 := Lib.hid hz2
  clear hi0 hz0 hz1 hz2
  have SC := scheme_any v1 l n w h1 i1 hn hn'
  have LV := Lib.hid lives_any
  have H2 := Lib.hid h2; have H3 := Lib.hid h3; have H4 := Lib.hid h4
  have I2 := Lib.hid i2; have I3 := Lib.hid i3
  obtain ⟨a1, c1, rfl, _, _⟩ := h1.open
  obtain ⟨a2, c2, rfl, _, _⟩ := h2.open
  obtain ⟨a3, c3, rfl, _, _⟩ := h3.open
  obtain ⟨a4, c4, rfl, _, _⟩ := h4.open
  have HE := Lib.hid (errF_sch l n)
  have hM := modF_bd n
  have hlw := schF_len l n
  have HW := Lib.hid (schF_bd l n)
  clear h1 h2 h3 h4 i2 i3 hn hn' i1
  go_enter Try.func3, Try.ntmps3
  go_wp2_with fail
  refine SC.mono ?_
  rintro e w1 ⟨u, rfl, hru, hb1⟩
  have HU := Lib.hid hru
  have HB1 := Lib.hid hb1
  obtain ⟨au, cu, rfl, _, _⟩ := hru.open
  generalize schF l n = ws at *
  generalize modF n = M at *
  obtain ⟨hM1, hM2⟩ := hM
  obtain ⟨fA, hfA⟩ : ∃ f : Nat → Int, f = fun k : Nat => atF vl k M := ⟨_, rfl⟩
  obtain ⟨fB, hfB⟩ : ∃ f : Nat → Int, f = fun k : Nat => atF ul k M := ⟨_, rfl⟩
  have bA : ∀ k, 0 ≤ fA k ∧ fA k < M := fun k => by rw [hfA]; exact atF_bd _ _ _ (by omega)
  have bB : ∀ k, 0 ≤ fB k ∧ fB k < M := fun k => by rw [hfB]; exact atF_bd _ _ _ (by omega)
  have bC : ∀ k, 0 ≤ (fA k + fB k) % M ∧ (fA k + fB k) % M < M := fun k => ⟨Int.emod_nonneg _ (by omega), Int.emod_lt_of_pos _ (by omega)⟩
  have HbA := Lib.hid bA; have HbB := Lib.hid bB; have HbC := Lib.hid bC
  have ATA : ∀ (k : Nat) (W : World), k ≤ 8 → Below w.heap.size w W → Calls Try.prog 10 #[.slice a2 vl.length c2, .int .i64 k, .int .i64 M] W fun e w' => e = .returned (.int .i64 (fA k)) ∧ Below W.heap.size W w' := fun k W hk hb => by
    rw [hfA]; exact at_any _ vl k M W (H2.out.below hb) I2.out (by omega) (by omega) (by omega) (by omega)
  have ATB : ∀ (k : Nat) (W : World), k ≤ 8 → Below w.heap.size w W → Calls Try.prog 10 #[.slice a3 ul.length c3, .int .i64 k, .int .i64 M] W fun e w' => e = .returned (.int .i64 (fB k)) ∧ Below W.heap.size W w' := fun k W hk hb => by
    rw [hfB]; exact at_any _ ul k M W (H3.out.below hb) I3.out (by omega) (by omega) (by omega) (by omega)
  have HATA := Lib.hid ATA; have HATB := Lib.hid ATB
  clear hru hb1 SC bA bB bC ATA ATB hfA hfB
  go_wp2_with fail
  go_loopw [17, 18, 19, 20] (fun va vb vc i wr => ∃ k : Nat, k ≤ ws.length ∧ i = .int .i64 k ∧ Own3 w1.heap.size wr va vb vc k k k (lsF fA k) (lsF fB k) (lsF (fun j => (fA j + fB j) % M) k) ∧ Below w1.heap.size w1 wr) (fun _ _ _ i _ => ws.length - (intOf i).toNat)
  case atStart => exact ⟨0, Nat.zero_le _, rfl, ⟨World.ownsRow_nil _ _ _ _, World.ownsRow_nil _ _ _ _, World.ownsRow_nil _ _ _ _, fun _ h => (by cases h), fun _ h => (by cases h), fun _ h => (by cases h)⟩, Below.refl _ _⟩
  case round =>
    obtain ⟨k, hk, rfl, hown, hbl⟩ := hrel
    have HO := Lib.hid hown; have HB := Lib.hid hbl
    have hbs := hbl.size
    by_cases hlt : k < ws.length
    · have q1 : (k : Int) < (ws.length : Int) := by omega
      have TA := HATA.out k wr (by omega) (HB1.out.trans (hbl.mono HB1.out.size))
      have bAk := HbA.out k; have bBk := HbB.out k; have bCk := HbC.out k
      have rm := tmod_mod (a := fA k + fB k) (m := M) (by omega)
      have HRM := Lib.hid rm
      clear hown hbl rm
      go_wp2_with fail
      refine TA.mono ?_
      rintro e w2 ⟨rfl, hb2⟩
      have HO2 := Lib.hid (HO.out.below hb2)
      have HB2 := Lib.hid (HB.out.trans (hb2.mono hbs))
      have hbs2 := HB2.out.size
      clear TA hb2
      go_wp2_with (at_builtin; refine wpList_append_lies _ rfl _ _ _ rfl w1.heap.size 3 i0 _ 1 8 Try.underlying22 HI0.out HZ0.out HZ1.out HZ2.out rfl (by omega) u17 k _ rfl (HO2.out.a.alloc _) ⟨w2.heap.size, 0, none⟩ 1 1 [.int .i64 (fA k)] rfl rfl (cell_one_new _ _ _) (by simp [Value.oneCell']) (by omega) (by unfold maxLen; omega) (by omega) (by simp; omega) (w2.heap.size + 1) (by simp) ?_; intro ga capa w3 hown1 hgrow hat hltg3)
      have HO3 := Lib.hid (HO2.out.stepF ((Below.refl _ w2).alloc (Nat.le_refl _) _) rfl hown1 hgrow (by simpa using hat))
      have HB3 := Lib.hid ((HB2.out.alloc hbs2 _).grown hgrow (by simp; omega) (fun j e => (HO2.out.a.lt j e).1))
      have hbs3 := HB3.out.size
      clear hown1 hgrow hat
      have TB := HATB.out k w3 (by omega) (HB1.out.trans (HB3.out.mono HB1.out.size))
      go_wp2_with fail
      refine TB.mono ?_
      rintro e w4 ⟨rfl, hb4⟩
      have HO4 := Lib.hid (HO3.out.below hb4).rot
      have HB4 := Lib.hid (HB3.out.trans (hb4.mono hbs3))
      have hbs4 := HB4.out.size
      clear TB hb4
      go_wp2_with (at_builtin; refine wpList_append_lies _ rfl _ _ _ rfl w1.heap.size 3 i0 _ 1 8 Try.underlying22 HI0.out HZ0.out HZ1.out HZ2.out rfl (by omega) u18 k _ rfl (HO4.out.a.alloc _) ⟨w4.heap.size, 0, none⟩ 1 1 [.int .i64 (fB k)] rfl rfl (cell_one_new _ _ _) (by simp [Value.oneCell']) (by omega) (by unfold maxLen; omega) (by omega) (by simp; omega) (w4.heap.size + 1) (by simp) ?_; intro gb capb w5 hown1 hgrow hat hltg5)
      have HO5 := Lib.hid (HO4.out.stepF ((Below.refl _ w4).alloc (Nat.le_refl _) _) rfl hown1 hgrow (by simpa using hat)).rot
      have HB5 := Lib.hid ((HB4.out.alloc hbs4 _).grown hgrow (by simp; omega) (fun j e => (HO4.out.a.lt j e).1))
      have hbs5 := HB5.out.size
      clear hown1 hgrow hat
      go_upto_region 10 with fail
      have HO6 := Lib.hid (HO5.out.below (Below.dn (Below.refl w5.heap.size w5) 1))
      have HB6 := Lib.hid (Below.dn HB5.out 1)
      have hbs6 := HB6.out.size
      refine wp_region_held (S := fun W' => W'.cell? ⟨ga, k, none⟩ = some (.int .i64 (fA k)) ∧ W'.cell? ⟨gb, k, none⟩ = some (.int .i64 (fB k))) (by kernel_rfl) ?_
      have hdr : (w5).drew = { w5 with drawn := (w5).drawn + 1 } := rfl
      rw [← hdr]
      clear hdr
      change wpAnyH _ _ _ _ _ _ _ _ (w5.drewN 1)
      generalize w5.drewN 1 = w6 at *
      have HC := Lib.hid (own_cells HO6.out.b HO6.out.c)
      have s0 : 0 ≤ fA k + fB k ∧ fA k + fB k ≤ 2048 := by omega
      have hM0 : ¬ M = 0 := by omega
      have wr1 : IntKind.i64.wrap (fA k + fB k) = fA k + fB k := by rw [IntKind.wrap_i64]; omega
      have wr2 : IntKind.i64.wrap ((fA k + fB k) % M) = (fA k + fB k) % M := by rw [IntKind.wrap_i64]; omega
      refine wpAnyHTake 0 (some 63) (u19) rfl rfl (by kernel_rfl) (by kernel_rfl) (by kernel_rfl) (fun _ _ _ h => h) (by rfl) (fun _ _ => by rfl) (HC.out) ?_
      simp only [Act.put, List.setIfInBounds_toArray, List.set_cons_zero, List.set_cons_succ]
      refine wpAnyHTake 1 (some 64) (.slice (some ⟨ga, 0, none⟩) (k + 1) capa) rfl rfl (by kernel_rfl) (by kernel_rfl) (by kernel_rfl) (fun _ _ _ h => h) (by rfl) (fun _ _ => by rfl) (HC.out) ?_
      simp only [Act.put, List.setIfInBounds_toArray, List.set_cons_zero, List.set_cons_succ]
      refine wpAnyHTake 2 (some 65) (.int .i64 k) rfl rfl (by kernel_rfl) (by kernel_rfl) (by kernel_rfl) (fun _ _ _ h => h) (by rfl) (fun _ _ => by rfl) (HC.out) ?_
      simp only [Act.put, List.setIfInBounds_toArray, List.set_cons_zero, List.set_cons_succ]
      refine wpAnyHTake 3 (some 66) (.pointer (some ⟨ga, k, none⟩)) rfl rfl (by kernel_rfl) (by kernel_rfl) (by kernel_rfl) (fun _ _ _ h => h) (by rfl) (fun _ _ => by go_simp; intro h; omega) (HC.out) ?_
      simp only [Act.put, List.setIfInBounds_toArray, List.set_cons_zero, List.set_cons_succ]
      refine wpAnyHTake 4 (some 67) (.int .i64 (fA k)) rfl rfl (by kernel_rfl) (by kernel_rfl) (by kernel_rfl) (fun _ _ _ h => h) (by rfl) (fun W hW => by have g1 := hW.1; go_simp) (HC.out) ?_
      simp only [Act.put, List.setIfInBounds_toArray, List.set_cons_zero, List.set_cons_succ]
      refine wpAnyHTake 5 (some 68) (.slice (some ⟨gb, 0, none⟩) (k + 1) capb) rfl rfl (by kernel_rfl) (by kernel_rfl) (by kernel_rfl) (fun _ _ _ h => h) (by rfl) (fun _ _ => by rfl) (HC.out) ?_
      simp only [Act.put, List.setIfInBounds_toArray, List.set_cons_zero, List.set_cons_succ]
      refine wpAnyHTake 6 (some 69) (.int .i64 k) rfl rfl (by kernel_rfl) (by kernel_rfl) (by kernel_rfl) (fun _ _ _ h => h) (by rfl) (fun _ _ => by rfl) (HC.out) ?_
      simp only [Act.put, List.setIfInBounds_toArray, List.set_cons_zero, List.set_cons_succ]
      refine wpAnyHTake 7 (some 70) (.pointer (some ⟨gb, k, none⟩)) rfl rfl (by kernel_rfl) (by kernel_rfl) (by kernel_rfl) (fun _ _ _ h => h) (by rfl) (fun _ _ => by go_simp; intro h; omega) (HC.out) ?_
      simp only [Act.put, List.setIfInBounds_toArray, List.set_cons_zero, List.set_cons_succ]
      refine wpAnyHTake 8 (some 71) (.int .i64 (fB k)) rfl rfl (by kernel_rfl) (by kernel_rfl) (by kernel_rfl) (fun _ _ _ h => h) (by rfl) (fun W hW => by have g1 := hW.2; go_simp) (HC.out) ?_
      simp only [Act.put, List.setIfInBounds_toArray, List.set_cons_zero, List.set_cons_succ]
      refine wpAnyHTake 9 (some 72) (.int .i64 (fA k + fB k)) rfl rfl (by kernel_rfl) (by kernel_rfl) (by kernel_rfl) (fun _ _ _ h => h) (by rfl) (fun _ _ => by go_simp) (HC.out) ?_
      simp only [Act.put, List.setIfInBounds_toArray, List.set_cons_zero, List.set_cons_succ]
      refine wpAnyHTake 10 (some 73) (.int .i64 M) rfl rfl (by kernel_rfl) (by kernel_rfl) (by kernel_rfl) (fun _ _ _ h => h) (by rfl) (fun _ _ => by rfl) (HC.out) ?_
      simp only [Act.put, List.setIfInBounds_toArray, List.set_cons_zero, List.set_cons_succ]
      refine wpAnyHTake 11 (some 74) (.int .i64 ((fA k + fB k) % M)) rfl rfl (by kernel_rfl) (by kernel_rfl) (by kernel_rfl) (fun _ _ _ h => h) (by rfl) (fun _ _ => by have rm := HRM.out; go_simp) (HC.out) ?_
      simp only [Act.put, List.setIfInBounds_toArray, List.set_cons_zero, List.set_cons_succ]
      have hal := (Below.refl w6.heap.size w6).alloc (Nat.le_refl _) (.cells #[.int .i64 ((fA k + fB k) % M)] 3)
      have HC7 := Lib.hid (own_cells (HO6.out.below hal).b (HO6.out.below hal).c)
      have HAL := Lib.hid hal
      clear hal
      refine wpAnyHOne 12 (some 75) (w' := w6.alloc (.cells #[.int .i64 ((fA k + fB k) % M)] 3)) (v := .slice (some ⟨w6.heap.size, 0, none⟩) 1 1) (by kernel_rfl) rfl rfl (by rfl) (by go_simp) HC7.out ?_
      simp only [Act.put, List.setIfInBounds_toArray, List.set_cons_zero, List.set_cons_succ]
      refine wpAnyHOp 13 (some 76) (by kernel_rfl) rfl rfl fun K' hK => ?_
      refine step_append_lies _ rfl _ _ _ rfl w1.heap.size 3 i0 _ 1 8 Try.underlying22 HI0.out HZ0.out HZ1.out HZ2.out rfl (by omega) u19 k _ rfl (HO6.out.a.alloc _) ⟨w6.heap.size, 0, none⟩ 1 1 [.int .i64 ((fA k + fB k) % M)] rfl rfl (cell_one_new _ _ _) (by simp [Value.oneCell']) (by omega) (by unfold maxLen; omega) (by omega) (by simp; omega) (w6.heap.size + 1) (by simp) ?_
      intro gc capc w7 hown1 hgrow hat hltg7
      have HO7 := Lib.hid (HO6.out.stepF HAL.out rfl hown1 hgrow (by simpa using hat))
      have HB7 := Lib.hid ((HB6.out.alloc hbs6 _).grown hgrow (by simp; omega) (fun j e => (HO6.out.a.lt j e).1))
      have HC8 := Lib.hid (own_cells HO7.out.b HO7.out.c)
      clear hown1 hgrow hat
      refine hK _ _ HC8.out ?_
      clear hK
      simp only [Act.put, List.setIfInBounds_toArray, List.set_cons_zero, List.set_cons_succ]
      refine wpAnyHTake 14 (some 19) (.slice (some ⟨gc, 0, none⟩) (k + 1) capc) rfl rfl (by kernel_rfl) (by kernel_rfl) (by kernel_rfl) (fun _ _ _ h => h) (by rfl) (fun _ _ => by rfl) (HC8.out) ?_
      simp only [Act.put, List.setIfInBounds_toArray, List.set_cons_zero, List.set_cons_succ]
      refine wpAnyH_done (by kernel_rfl) ?_ _
      rename_i K hK
      refine hK _ _ ?_
      clear hK
      go_wp2_with fail
      go_roundw
      case rel =>
        have h := HO7.out.rot
        exact ⟨k + 1, by omega, by go_num, h, HB7.out⟩
      case measure => simp [intOf]; omega
    · have q1 : ¬ (k : Int) < (ws.length : Int) := by omega
      obtain rfl : k = ws.length := by omega
      have SG := fun (f : Nat → Int) (h : ∀ k, 0 ≤ f k ∧ f k < M) => sum_good (ws := ws) (vs := lsF f ws.length) (m := M) HE.out (lsF_len _ _) (fun x hx => by obtain ⟨j, _, rfl⟩ := lsF_mem hx; exact h j)
      obtain ⟨xa, ea⟩ := SG fA HbA.out
      obtain ⟨xb, eb⟩ := SG fB HbB.out
      obtain ⟨xc, ec⟩ := SG _ HbC.out
      have hz := dotF_add M ws (lsF fA ws.length) (lsF fB ws.length) (lsF_len _ _) (lsF_len _ _)
      rw [← lsF_zip fA fB (fun a b => (a + b) % M), Int.add_emod] at hz
      have ma : mid 1024 (lsF fA ws.length) := fun x hx => by obtain ⟨j, _, rfl⟩ := lsF_mem hx; have := HbA.out j; omega
      have mw : mid 1024 ws := fun x hx => by have := HW.out x hx; omega
      have RA := Rd_of_owns HO.out.a
      have RB := Rd_of_owns HO.out.b
      have RC := Rd_of_owns HO.out.c
      have RW := HU.out.below hbl
      have HRW := Lib.hid RW
      have S1 := sum_any _ _ ws (lsF fA ws.length) M wr RW RA
      rw [xa, ea] at S1
      have HRB := Lib.hid RB; have HRC := Lib.hid RC; have HRA := Lib.hid RA
      have S2 := Lib.hid (fun (W : World) (h : Below wr.heap.size wr W) => sum_any _ _ ws (lsF fB ws.length) M W (HRW.out.below h) (RdI.below HRB.out h))
      have s2 := S2.out
      rw [xb, eb] at s2
      have HS2 := Lib.hid s2
      have S3 := Lib.hid (fun (W : World) (h : Below wr.heap.size wr W) => sum_any _ _ ws (lsF _ ws.length) M W (HRW.out.below h) (RdI.below HRC.out h))
      have s3 := S3.out
      rw [xc, ec] at s3
      have HS3 := Lib.hid s3
      have HT := Lib.hid (fun (W : World) (h : Below wr.heap.size wr W) => rtotal_any _ _ ws (lsF fA ws.length) M W (HRW.out.below h) (RdI.below HRA.out h) hM1 hM2 mw ma (by omega))
      have bx := fun (t : Int) => (⟨Int.emod_nonneg t (by omega), Int.emod_lt_of_pos t (by omega)⟩ : 0 ≤ t % M ∧ t % M < M)
      have bx1 := bx (dotF ws (lsF fA ws.length))
      have bx2 := bx (dotF ws (lsF fB ws.length))
      generalize dotF ws (lsF fA ws.length) % M = X at *
      generalize dotF ws (lsF fB ws.length) % M = Y at *
      generalize dotF ws (lsF (fun j => (fA j + fB j) % M) ws.length) % M = Z at *
      have tm : Int.tmod (X + Y) M = Z := by rw [tmod_mod (by omega)]; exact hz.symm
      have HTM := Lib.hid tm
      clear xa xb xc ea eb ec hz ma mw RA RB RC RW S2 s2 S3 s3 bx SG tm hown hbl
      go_wp2_with fail
      refine S1.mono ?_
      rintro e w2 ⟨rfl, hb2⟩
      have T2 := HS2.out w2 hb2
      have HB2 := Lib.hid hb2
      clear hb2 S1
      go_wp2_with fail
      refine T2.mono ?_
      rintro e w3 ⟨rfl, hb3⟩
      have HB3 := Lib.hid (HB2.out.trans (hb3.mono HB2.out.size))
      have T3 := HS3.out w3 HB3.out
      clear hb3 T2
      go_wp2_with fail
      refine T3.mono ?_
      rintro e w4 ⟨rfl, hb4⟩
      have HB4 := Lib.hid (HB3.out.trans (hb4.mono HB3.out.size))
      have TT := HT.out w4 HB4.out
      clear hb4 T3
      go_wp2_with fail
      refine TT.mono ?_
      rintro e w5 ⟨rfl, hb5⟩
      have HB5 := Lib.hid (HB.out.trans ((HB4.out.trans (hb5.mono HB4.out.size)).mono hbs))
      have tm := HTM.out
      clear hb5 TT
      have wxy : IntKind.i64.wrap (X + Y) = X + Y := by rw [IntKind.wrap_i64]; omega
      have hM0 : ¬ M = 0 := by omega
      go_upto_region 16 with fail
      have HRAW := Lib.hid (IsL.of (H4.out.below (HB1.out.trans (HB5.out.mono HB1.out.size))))
      have HWL := Lib.hid (IsL.of (HU.out.below HB5.out))
      have HVL := Lib.hid (IsL.of (H2.out.below (HB1.out.trans (HB5.out.mono HB1.out.size))))
      have HUL := Lib.hid (IsL.of (H3.out.below (HB1.out.trans (HB5.out.mono HB1.out.size))))
      clear HTM tm wxy HS2 HS3 HT HRA HRB HRC HO HRW
      obtain ⟨Z6, hZ6, hmk6⟩ := makes256
      obtain ⟨Z7, hZ7, hmk7⟩ := makes257
      have HMK6 := Lib.hid hmk6; have HMK7 := Lib.hid hmk7
      clear hmk6 hmk7
      go_cut [27] from 125 to 129 (fun v w' => ∃ b : Nat, v = .slice (some ⟨b, 0, none⟩) 4 4 ∧ Ls4 w' b ∧ Below w5.heap.size w5 w')
      case first =>
        refine wp_region_held (S := fun _ => True) (by kernel_rfl) ?_
        have hdr : (w5).drew = { w5 with drawn := (w5).drawn + 1 } := rfl
        rw [← hdr]
        clear hdr
        change wpAnyH _ _ _ _ _ _ _ _ (w5.drewN 1)
        have HBV := Lib.hid (Below.dn (Below.refl w5.heap.size w5) 1)
        have hsv : (w5.drewN 1).heap.size = w5.heap.size := rfl
        generalize w5.drewN 1 = V at *
        refine wpAnyHTake 0 (some 125) (.slice au ws.length cu) rfl rfl (by kernel_rfl) (by kernel_rfl) (by kernel_rfl) (fun _ _ _ h => h) (by rfl) (fun _ _ => by rfl) (trivial) ?_
        simp only [Act.put, List.setIfInBounds_toArray, List.set_cons_zero, List.set_cons_succ]
        refine wpAnyHTake 1 (some 126) (.slice a4 raw.length c4) rfl rfl (by kernel_rfl) (by kernel_rfl) (by kernel_rfl) (fun _ _ _ h => h) (by rfl) (fun _ _ => by rfl) (trivial) ?_
        simp only [Act.put, List.setIfInBounds_toArray, List.set_cons_zero, List.set_cons_succ]
        refine wpAnyHBoth 2 3 (by kernel_rfl) ?_ ?_
        · have mk1 := HMK6.out V
          refine wpOpRun' (some 127) (v := .slice (some ⟨V.heap.size, 0, none⟩) 256 256) (w' := V.alloc (.cells (ints Z6).toArray 3)) rfl rfl (by rfl) (by go_simp) ⟨trivial, ?_⟩
          have hm1 := isL_make V hZ6 (by omega)
          have hsz1 : (V.alloc (.cells (ints Z6).toArray 3)).heap.size = V.heap.size + 1 := by simp
          have HBA := Lib.hid (HBV.out.alloc (by omega) (.cells (ints Z6).toArray 3))
          clear mk1
          simp only [Act.put, List.setIfInBounds_toArray, List.set_cons_zero, List.set_cons_succ]
          generalize V.alloc (.cells (ints Z6).toArray 3) = V1 at *
          have mk2 := HMK7.out V1
          rw [hsz1] at mk2
          refine wpAnyHOne 3 (some 128) (v := .slice (some ⟨V.heap.size + 1, 0, none⟩) 257 257) (w' := V1.alloc (.cells (ints Z7).toArray 3)) (by kernel_rfl) rfl rfl (by rfl) (by go_simp) trivial ?_
          have hm2 := isL_make V1 hZ7 (by omega)
          rw [hsz1] at hm2
          have hb12 := (Below.refl V1.heap.size V1).alloc (Nat.le_refl _) (.cells (ints Z7).toArray 3)
          have hm1' := hm1.below hb12
          have hsz2 : (V1.alloc (.cells (ints Z7).toArray 3)).heap.size = V.heap.size + 1 + 1 := by simp [hsz1]
          have HBB := Lib.hid (HBA.out.alloc (by omega) (.cells (ints Z7).toArray 3))
          clear mk2 hb12 hm1
          simp only [Act.put, List.setIfInBounds_toArray, List.set_cons_zero, List.set_cons_succ]
          generalize V1.alloc (.cells (ints Z7).toArray 3) = V2 at *
          have hl := ls4_new (HWL.out.below ((HBB.out))) (HRAW.out.below HBB.out) hm1' hm2
          rw [hsz2] at hl
          have HL := Lib.hid hl
          have HBC := Lib.hid (HBB.out.alloc (by omega) (.cells #[.slice au ws.length cu, .slice a4 raw.length c4, .slice (some ⟨V.heap.size, 0, none⟩) 256 256, .slice (some ⟨V.heap.size + 1, 0, none⟩) 257 257] 22))
          clear hl hm1' hm2
          refine wpAnyHOne 4 (some 129) (v := .slice (some ⟨V.heap.size + 1 + 1, 0, none⟩) 4 4) (w' := V2.alloc (.cells #[.slice au ws.length cu, .slice a4 raw.length c4, .slice (some ⟨V.heap.size, 0, none⟩) 256 256, .slice (some ⟨V.heap.size + 1, 0, none⟩) 257 257] 22)) (by kernel_rfl) rfl rfl (by rfl) (by go_simp) trivial ?_
          simp only [Act.put, List.setIfInBounds_toArray, List.set_cons_zero, List.set_cons_succ]
          refine wpAnyHTake 5 (some 27) (.slice (some ⟨V.heap.size + 1 + 1, 0, none⟩) 4 4) rfl rfl (by kernel_rfl) (by kernel_rfl) (by kernel_rfl) (fun _ _ _ h => h) (by rfl) (fun _ _ => by rfl) (trivial) ?_
          simp only [Act.put, List.setIfInBounds_toArray, List.set_cons_zero, List.set_cons_succ]
          refine wpAnyH_done (by kernel_rfl) ?_ _
          rename_i K hK
          refine hK _ _ ?_
          clear hK
          go_meet
          case rel => exact ⟨_, rfl, HL.out, HBC.out⟩
        · have mk1 := HMK7.out V
          refine wpOpRun' (some 128) (v := .slice (some ⟨V.heap.size, 0, none⟩) 257 257) (w' := V.alloc (.cells (ints Z7).toArray 3)) rfl rfl (by rfl) (by go_simp) ⟨trivial, ?_⟩
          have hm1 := isL_make V hZ7 (by omega)
          have hsz1 : (V.alloc (.cells (ints Z7).toArray 3)).heap.size = V.heap.size + 1 := by simp
          have HBA := Lib.hid (HBV.out.alloc (by omega) (.cells (ints Z7).toArray 3))
          clear mk1
          simp only [Act.put, List.setIfInBounds_toArray, List.set_cons_zero, List.set_cons_succ]
          generalize V.alloc (.cells (ints Z7).toArray 3) = V1 at *
          have mk2 := HMK6.out V1
          rw [hsz1] at mk2
          refine wpAnyHOne 2 (some 127) (v := .slice (some ⟨V.heap.size + 1, 0, none⟩) 256 256) (w' := V1.alloc (.cells (ints Z6).toArray 3)) (by kernel_rfl) rfl rfl (by rfl) (by go_simp) trivial ?_
          have hm2 := isL_make V1 hZ6 (by omega)
          rw [hsz1] at hm2
          have hb12 := (Below.refl V1.heap.size V1).alloc (Nat.le_refl _) (.cells (ints Z6).toArray 3)
          have hm1' := hm1.below hb12
          have hsz2 : (V1.alloc (.cells (ints Z6).toArray 3)).heap.size = V.heap.size + 1 + 1 := by simp [hsz1]
          have HBB := Lib.hid (HBA.out.alloc (by omega) (.cells (ints Z6).toArray 3))
          clear mk2 hb12 hm1
          simp only [Act.put, List.setIfInBounds_toArray, List.set_cons_zero, List.set_cons_succ]
          generalize V1.alloc (.cells (ints Z6).toArray 3) = V2 at *
          have hl := ls4_new (HWL.out.below ((HBB.out))) (HRAW.out.below HBB.out) hm2 hm1'
          rw [hsz2] at hl
          have HL := Lib.hid hl
          have HBC := Lib.hid (HBB.out.alloc (by omega) (.cells #[.slice au ws.length cu, .slice a4 raw.length c4, .slice (some ⟨V.heap.size + 1, 0, none⟩) 256 256, .slice (some ⟨V.heap.size, 0, none⟩) 257 257] 22))
          clear hl hm1' hm2
          refine wpAnyHOne 4 (some 129) (v := .slice (some ⟨V.heap.size + 1 + 1, 0, none⟩) 4 4) (w' := V2.alloc (.cells #[.slice au ws.length cu, .slice a4 raw.length c4, .slice (some ⟨V.heap.size + 1, 0, none⟩) 256 256, .slice (some ⟨V.heap.size, 0, none⟩) 257 257] 22)) (by kernel_rfl) rfl rfl (by rfl) (by go_simp) trivial ?_
          simp only [Act.put, List.setIfInBounds_toArray, List.set_cons_zero, List.set_cons_succ]
          refine wpAnyHTake 5 (some 27) (.slice (some ⟨V.heap.size + 1 + 1, 0, none⟩) 4 4) rfl rfl (by kernel_rfl) (by kernel_rfl) (by kernel_rfl) (fun _ _ _ h => h) (by rfl) (fun _ _ => by rfl) (trivial) ?_
          simp only [Act.put, List.setIfInBounds_toArray, List.set_cons_zero, List.set_cons_succ]
          refine wpAnyH_done (by kernel_rfl) ?_ _
          rename_i K hK
          refine hK _ _ ?_
          clear hK
          go_meet
          case rel => exact ⟨_, rfl, HL.out, HBC.out⟩
      case rest =>
        obtain ⟨b7, rfl, hl7, hb7⟩ := hcut
        have HL7 := Lib.hid hl7
        have HBX := Lib.hid hb7
        have m6 := HMK6.out wc
        clear hl7 hb7
        go_wp2_with fail
        have hm := isL_make wc hZ6 (by omega)
        have hb1 := HBX.out.alloc HBX.out.size (.cells (ints Z6).toArray 3)
        have hc1 := (Below.refl wc.heap.size wc).alloc (Nat.le_refl _) (.cells (ints Z6).toArray 3)
        have h7 := HL7.out.below hc1
        have hs1 : (wc.alloc (.cells (ints Z6).toArray 3)).heap.size = wc.heap.size + 1 := by simp
        clear hc1 m6
        generalize wc.alloc (.cells (ints Z6).toArray 3) = W1 at *
        have hl := ls4_new (HVL.out.below hb1) (HRAW.out.below hb1) (HUL.out.below hb1) hm
        rw [hs1] at hl
        have hb2 := hb1.alloc hb1.size (.cells #[.slice a2 vl.length c2, .slice a4 raw.length c4, .slice a3 ul.length c3, .slice (some ⟨wc.heap.size, 0, none⟩) 256 256] 22)
        have hc2 := (Below.refl W1.heap.size W1).alloc (Nat.le_refl _) (.cells #[.slice a2 vl.length c2, .slice a4 raw.length c4, .slice a3 ul.length c3, .slice (some ⟨wc.heap.size, 0, none⟩) 256 256] 22)
        have h72 := h7.below hc2
        have hs2 : (W1.alloc (.cells #[.slice a2 vl.length c2, .slice a4 raw.length c4, .slice a3 ul.length c3, .slice (some ⟨wc.heap.size, 0, none⟩) 256 256] 22)).heap.size = wc.heap.size + 1 + 1 := by simp [hs1]
        clear hc2 hb1 h7
        generalize W1.alloc (.cells #[.slice a2 vl.length c2, .slice a4 raw.length c4, .slice a3 ul.length c3, .slice (some ⟨wc.heap.size, 0, none⟩) 256 256] 22) = W2 at *
        have h6 := is6_new W2 M mod 1 2 1024 1025
        rw [hs2] at h6
        have hb3 := hb2.alloc hb2.size (.cells #[.int .i64 M, .int .i64 mod, .int .i64 1, .int .i64 2, .int .i64 1024, .int .i64 1025] 3)
        have hc3 := (Below.refl W2.heap.size W2).alloc (Nat.le_refl _) (.cells #[.int .i64 M, .int .i64 mod, .int .i64 1, .int .i64 2, .int .i64 1024, .int .i64 1025] 3)
        have HL7' := Lib.hid (h72.below hc3)
        have HL8 := Lib.hid (hl.below hc3)
        have H6 := Lib.hid h6
        have HBL := Lib.hid (HB1.out.trans ((HB5.out.trans (hb3.mono HB5.out.size)).mono HB1.out.size))
        clear h6 hb3 hc3 h72 hl hb2 hs1 hs2 hm
        generalize W2.alloc (.cells #[.int .i64 M, .int .i64 mod, .int .i64 1, .int .i64 2, .int .i64 1024, .int .i64 1025] 3) = wL at *
        generalize wc.heap.size + 1 + 1 = b9 at *
        generalize wc.heap.size + 1 = b8 at *
        go_loopw [30] (fun i wr => ∃ k : Nat, k ≤ 4 ∧ i = .int .i64 k ∧ Below w.heap.size w wr ∧ Below wL.heap.size wL wr) (fun i _ => 4 - (intOf i).toNat)
        case atStart => exact ⟨0, Nat.zero_le _, rfl, HBL.out, Below.refl _ _⟩
        case round =>
          obtain ⟨k1, hk1, rfl, hbl, hbl1⟩ := hrel
          have HA1 := Lib.hid hbl; have HA2 := Lib.hid hbl1
          by_cases hlt1 : k1 < 4
          · have q1 : (k1 : Int) < 4 := by omega
            clear hbl hbl1
            go_wp2_with fail
            go_loopw [31] (fun i wr => ∃ k : Nat, k ≤ 4 ∧ i = .int .i64 k ∧ Below w.heap.size w wr ∧ Below wL.heap.size wL wr) (fun i _ => 4 - (intOf i).toNat)
            case atStart => exact ⟨0, Nat.zero_le _, rfl, HA1.out, HA2.out⟩
            case round =>
              obtain ⟨k2, hk2, rfl, hbl, hbl1⟩ := hrel
              have HB1 := Lib.hid hbl; have HB2 := Lib.hid hbl1
              by_cases hlt2 : k2 < 4
              · have q2 : (k2 : Int) < 4 := by omega
                clear hbl hbl1
                go_wp2_with fail
                go_loopw [32] (fun i wr => ∃ k : Nat, k ≤ 6 ∧ i = .int .i64 k ∧ Below w.heap.size w wr ∧ Below wL.heap.size wL wr) (fun i _ => 6 - (intOf i).toNat)
                case atStart => exact ⟨0, Nat.zero_le _, rfl, HB1.out, HB2.out⟩
                case round =>
                  obtain ⟨k3, hk3, rfl, hbl, hbl1⟩ := hrel
                  have HC1 := Lib.hid hbl; have HC2 := Lib.hid hbl1
                  by_cases hlt3 : k3 < 6
                  · have q3 : (k3 : Int) < 6 := by omega
                    have f7 := HL7'.out.below hbl1
                    have f8 := HL8.out.below hbl1
                    have f6 := H6.out.below hbl1
                    obtain ⟨_, g1, p1, d1, L1, rfl, r1⟩ := f7.2 k1 hlt1
                    obtain ⟨_, g2, p2, d2, L2, rfl, r2⟩ := f8.2 k2 hlt2
                    obtain ⟨m3, g3⟩ := f6.2 k3 hlt3
                    have l7 := f7.1; have l8 := f8.1; have l6 := f6.1
                    have R1 := Lib.hid r1; have R2 := Lib.hid r2
                    have HG := Lib.hid (show Lds wr b7 b8 b9 k1 k2 k3 (.slice p1 L1.length d1) (.slice p2 L2.length d2) m3 from ⟨g1, g3, g2⟩)
                    clear hbl hbl1 f7 f8 f6 g1 g2 g3 r1 r2
                    go_upto_region 28 with fail
                    have HGa := Lib.hid (HG.out.below (Below.dn (Below.refl wr.heap.size wr) 1) l7 l8 l6)
                    refine wp_region_held (S := fun W' => W'.cell? ⟨b7, k1, none⟩ = some (.slice p1 L1.length d1) ∧ W'.cell? ⟨b9, k3, none⟩ = some (.int .i64 m3) ∧ W'.cell? ⟨b8, k2, none⟩ = some (.slice p2 L2.length d2)) (by kernel_rfl) ?_
                    have hdr : (wr).drew = { wr with drawn := (wr).drawn + 1 } := rfl
                    rw [← hdr]
                    clear hdr
                    have HBVa := Lib.hid (Below.dn (Below.refl wr.heap.size wr) 1)
                    have hsva : wr.heap.size ≤ (wr.drewN 1).heap.size := Nat.le_refl _
                    change wpAnyH _ _ _ _ _ _ _ _ (wr.drewN 1)
                    generalize wr.drewN 1 = V at *
                    refine wpAnyHTake 0 (some 157) (.slice (some ⟨b7, 0, none⟩) 4 4) rfl rfl (by kernel_rfl) (by kernel_rfl) (by kernel_rfl) (fun _ _ _ h => h) (by rfl) (fun _ _ => by rfl) (HGa.out) ?_
                    simp only [Act.put, List.setIfInBounds_toArray, List.set_cons_zero, List.set_cons_succ]
                    refine wpAnyHTake 1 (some 158) (.int .i64 k1) rfl rfl (by kernel_rfl) (by kernel_rfl) (by kernel_rfl) (fun _ _ _ h => h) (by rfl) (fun _ _ => by rfl) (HGa.out) ?_
                    simp only [Act.put, List.setIfInBounds_toArray, List.set_cons_zero, List.set_cons_succ]
                    refine wpAnyHTake 2 (some 159) (.pointer (some ⟨b7, k1, none⟩)) rfl rfl (by kernel_rfl) (by kernel_rfl) (by kernel_rfl) (fun _ _ _ h => h) (by rfl) (fun _ _ => by go_simp) (HGa.out) ?_
                    simp only [Act.put, List.setIfInBounds_toArray, List.set_cons_zero, List.set_cons_succ]
                    refine wpAnyHTake 3 (some 160) (.slice p1 L1.length d1) rfl rfl (by kernel_rfl) (by kernel_rfl) (by kernel_rfl) (fun _ _ _ h => h) (by rfl) (fun W hW => by have g1 := hW.1; go_simp) (HGa.out) ?_
                    simp only [Act.put, List.setIfInBounds_toArray, List.set_cons_zero, List.set_cons_succ]
                    refine wpAnyHTake 4 (some 161) (.slice (some ⟨b9, 0, none⟩) 6 6) rfl rfl (by kernel_rfl) (by kernel_rfl) (by kernel_rfl) (fun _ _ _ h => h) (by rfl) (fun _ _ => by rfl) (HGa.out) ?_
                    simp only [Act.put, List.setIfInBounds_toArray, List.set_cons_zero, List.set_cons_succ]
                    refine wpAnyHTake 5 (some 162) (.int .i64 k3) rfl rfl (by kernel_rfl) (by kernel_rfl) (by kernel_rfl) (fun _ _ _ h => h) (by rfl) (fun _ _ => by rfl) (HGa.out) ?_
                    simp only [Act.put, List.setIfInBounds_toArray, List.set_cons_zero, List.set_cons_succ]
                    refine wpAnyHTake 6 (some 163) (.pointer (some ⟨b9, k3, none⟩)) rfl rfl (by kernel_rfl) (by kernel_rfl) (by kernel_rfl) (fun _ _ _ h => h) (by rfl) (fun _ _ => by go_simp) (HGa.out) ?_
                    simp only [Act.put, List.setIfInBounds_toArray, List.set_cons_zero, List.set_cons_succ]
                    refine wpAnyHTake 7 (some 164) (.int .i64 m3) rfl rfl (by kernel_rfl) (by kernel_rfl) (by kernel_rfl) (fun _ _ _ h => h) (by rfl) (fun W hW => by have g1 := hW.2.1; go_simp) (HGa.out) ?_
                    simp only [Act.put, List.setIfInBounds_toArray, List.set_cons_zero, List.set_cons_succ]
                    refine wpAnyHTake 8 (some 165) (.slice (some ⟨b8, 0, none⟩) 4 4) rfl rfl (by kernel_rfl) (by kernel_rfl) (by kernel_rfl) (fun _ _ _ h => h) (by rfl) (fun _ _ => by rfl) (HGa.out) ?_
                    simp only [Act.put, List.setIfInBounds_toArray, List.set_cons_zero, List.set_cons_succ]
                    refine wpAnyHTake 9 (some 166) (.int .i64 k2) rfl rfl (by kernel_rfl) (by kernel_rfl) (by kernel_rfl) (fun _ _ _ h => h) (by rfl) (fun _ _ => by rfl) (HGa.out) ?_
                    simp only [Act.put, List.setIfInBounds_toArray, List.set_cons_zero, List.set_cons_succ]
                    refine wpAnyHTake 10 (some 167) (.pointer (some ⟨b8, k2, none⟩)) rfl rfl (by kernel_rfl) (by kernel_rfl) (by kernel_rfl) (fun _ _ _ h => h) (by rfl) (fun _ _ => by go_simp) (HGa.out) ?_
                    simp only [Act.put, List.setIfInBounds_toArray, List.set_cons_zero, List.set_cons_succ]
                    refine wpAnyHTake 11 (some 168) (.slice p2 L2.length d2) rfl rfl (by kernel_rfl) (by kernel_rfl) (by kernel_rfl) (fun _ _ _ h => h) (by rfl) (fun W hW => by have g1 := hW.2.2; go_simp) (HGa.out) ?_
                    simp only [Act.put, List.setIfInBounds_toArray, List.set_cons_zero, List.set_cons_succ]
                    refine wpAnyHCall 12 (some 169) 11 #[.slice p1 L1.length d1, .int .i64 m3, .slice p2 L2.length d2] (by kernel_rfl) rfl rfl (by rfl) (by go_simp) (sum_any _ _ L1 L2 m3 V (R1.out.below HBVa.out) (RdI.below R2.out HBVa.out)) ?_
                    rintro e V2 ⟨rfl, hb⟩
                    have HBa2 := Lib.hid (HBVa.out.trans (hb.mono hsva))
                    have HGa2 := Lib.hid (HGa.out.below hb (Nat.lt_of_lt_of_le l7 hsva) (Nat.lt_of_lt_of_le l8 hsva) (Nat.lt_of_lt_of_le l6 hsva))
                    clear hb
                    refine ⟨_, rfl, HGa2.out, ?_⟩
                    simp only [Act.put, List.setIfInBounds_toArray, List.set_cons_zero, List.set_cons_succ]
                    refine wpAnyHTake 13 (some 156) (.tuple #[.int .i64 (sumV L1 m3 L2), .int .i64 (sumE L1 m3 L2)]) rfl rfl (by kernel_rfl) (by kernel_rfl) (by kernel_rfl) (fun _ _ _ h => h) (by rfl) (fun _ _ => by rfl) (HGa2.out) ?_
                    simp only [Act.put, List.setIfInBounds_toArray, List.set_cons_zero, List.set_cons_succ]
                    refine wpAnyHTake 14 (some 170) (.int .i64 (sumV L1 m3 L2)) rfl rfl (by kernel_rfl) (by kernel_rfl) (by kernel_rfl) (fun _ _ _ h => h) (by rfl) (fun _ _ => by go_simp) (HGa2.out) ?_
                    simp only [Act.put, List.setIfInBounds_toArray, List.set_cons_zero, List.set_cons_succ]
                    refine wpAnyHTake 15 (some 171) (.int .i64 (sumE L1 m3 L2)) rfl rfl (by kernel_rfl) (by kernel_rfl) (by kernel_rfl) (fun _ _ _ h => h) (by rfl) (fun _ _ => by go_simp) (HGa2.out) ?_
                    simp only [Act.put, List.setIfInBounds_toArray, List.set_cons_zero, List.set_cons_succ]
                    refine wpAnyHTake 16 (some 33) (.int .i64 (sumV L1 m3 L2)) rfl rfl (by kernel_rfl) (by kernel_rfl) (by kernel_rfl) (fun _ _ _ h => h) (by rfl) (fun _ _ => by rfl) (HGa2.out) ?_
                    simp only [Act.put, List.setIfInBounds_toArray, List.set_cons_zero, List.set_cons_succ]
                    refine wpAnyHTake 17 (some 34) (.int .i64 (sumE L1 m3 L2)) rfl rfl (by kernel_rfl) (by kernel_rfl) (by kernel_rfl) (fun _ _ _ h => h) (by rfl) (fun _ _ => by rfl) (HGa2.out) ?_
                    simp only [Act.put, List.setIfInBounds_toArray, List.set_cons_zero, List.set_cons_succ]
                    refine wpAnyH_done (by kernel_rfl) ?_ _
                    rename_i K hK
                    refine hK _ _ ?_
                    clear hK
                    have HD1 := Lib.hid (HC1.out.trans (HBa2.out.mono HC1.out.size)); have HD2 := Lib.hid (HC2.out.trans (HBa2.out.mono HC2.out.size))
                    have l7' := Nat.lt_of_lt_of_le l7 HBa2.out.size
                    have l8' := Nat.lt_of_lt_of_le l8 HBa2.out.size
                    have l6' := Nat.lt_of_lt_of_le l6 HBa2.out.size
                    have R3 := Lib.hid (R1.out.below HBa2.out); have R4 := Lib.hid (RdI.below R2.out HBa2.out)
                    clear HGa HBVa hsva
                    go_upto_region 29 with fail
                    have HGb := Lib.hid (HGa2.out.below (Below.dn (Below.refl V2.heap.size V2) 1) l7' l8' l6')
                    refine wp_region_held (S := fun W' => W'.cell? ⟨b7, k1, none⟩ = some (.slice p1 L1.length d1) ∧ W'.cell? ⟨b9, k3, none⟩ = some (.int .i64 m3) ∧ W'.cell? ⟨b8, k2, none⟩ = some (.slice p2 L2.length d2)) (by kernel_rfl) ?_
                    have hdr : (V2).drew = { V2 with drawn := (V2).drawn + 1 } := rfl
                    rw [← hdr]
                    clear hdr
                    have HBVb := Lib.hid (Below.dn (Below.refl V2.heap.size V2) 1)
                    have hsvb : V2.heap.size ≤ (V2.drewN 1).heap.size := Nat.le_refl _
                    change wpAnyH _ _ _ _ _ _ _ _ (V2.drewN 1)
                    generalize V2.drewN 1 = U at *
                    refine wpAnyHTake 0 (some 173) (.slice (some ⟨b7, 0, none⟩) 4 4) rfl rfl (by kernel_rfl) (by kernel_rfl) (by kernel_rfl) (fun _ _ _ h => h) (by rfl) (fun _ _ => by rfl) (HGb.out) ?_
                    simp only [Act.put, List.setIfInBounds_toArray, List.set_cons_zero, List.set_cons_succ]
                    refine wpAnyHTake 1 (some 174) (.int .i64 k1) rfl rfl (by kernel_rfl) (by kernel_rfl) (by kernel_rfl) (fun _ _ _ h => h) (by rfl) (fun _ _ => by rfl) (HGb.out) ?_
                    simp only [Act.put, List.setIfInBounds_toArray, List.set_cons_zero, List.set_cons_succ]
                    refine wpAnyHTake 2 (some 175) (.pointer (some ⟨b7, k1, none⟩)) rfl rfl (by kernel_rfl) (by kernel_rfl) (by kernel_rfl) (fun _ _ _ h => h) (by rfl) (fun _ _ => by go_simp) (HGb.out) ?_
                    simp only [Act.put, List.setIfInBounds_toArray, List.set_cons_zero, List.set_cons_succ]
                    refine wpAnyHTake 3 (some 176) (.slice p1 L1.length d1) rfl rfl (by kernel_rfl) (by kernel_rfl) (by kernel_rfl) (fun _ _ _ h => h) (by rfl) (fun W hW => by have g1 := hW.1; go_simp) (HGb.out) ?_
                    simp only [Act.put, List.setIfInBounds_toArray, List.set_cons_zero, List.set_cons_succ]
                    refine wpAnyHTake 4 (some 177) (.slice (some ⟨b9, 0, none⟩) 6 6) rfl rfl (by kernel_rfl) (by kernel_rfl) (by kernel_rfl) (fun _ _ _ h => h) (by rfl) (fun _ _ => by rfl) (HGb.out) ?_
                    simp only [Act.put, List.setIfInBounds_toArray, List.set_cons_zero, List.set_cons_succ]
                    refine wpAnyHTake 5 (some 178) (.int .i64 k3) rfl rfl (by kernel_rfl) (by kernel_rfl) (by kernel_rfl) (fun _ _ _ h => h) (by rfl) (fun _ _ => by rfl) (HGb.out) ?_
                    simp only [Act.put, List.setIfInBounds_toArray, List.set_cons_zero, List.set_cons_succ]
                    refine wpAnyHTake 6 (some 179) (.pointer (some ⟨b9, k3, none⟩)) rfl rfl (by kernel_rfl) (by kernel_rfl) (by kernel_rfl) (fun _ _ _ h => h) (by rfl) (fun _ _ => by go_simp) (HGb.out) ?_
                    simp only [Act.put, List.setIfInBounds_toArray, List.set_cons_zero, List.set_cons_succ]
                    refine wpAnyHTake 7 (some 180) (.int .i64 m3) rfl rfl (by kernel_rfl) (by kernel_rfl) (by kernel_rfl) (fun _ _ _ h => h) (by rfl) (fun W hW => by have g1 := hW.2.1; go_simp) (HGb.out) ?_
                    simp only [Act.put, List.setIfInBounds_toArray, List.set_cons_zero, List.set_cons_succ]
                    refine wpAnyHTake 8 (some 181) (.slice (some ⟨b8, 0, none⟩) 4 4) rfl rfl (by kernel_rfl) (by kernel_rfl) (by kernel_rfl) (fun _ _ _ h => h) (by rfl) (fun _ _ => by rfl) (HGb.out) ?_
                    simp only [Act.put, List.setIfInBounds_toArray, List.set_cons_zero, List.set_cons_succ]
                    refine wpAnyHTake 9 (some 182) (.int .i64 k2) rfl rfl (by kernel_rfl) (by kernel_rfl) (by kernel_rfl) (fun _ _ _ h => h) (by rfl) (fun _ _ => by rfl) (HGb.out) ?_
                    simp only [Act.put, List.setIfInBounds_toArray, List.set_cons_zero, List.set_cons_succ]
                    refine wpAnyHTake 10 (some 183) (.pointer (some ⟨b8, k2, none⟩)) rfl rfl (by kernel_rfl) (by kernel_rfl) (by kernel_rfl) (fun _ _ _ h => h) (by rfl) (fun _ _ => by go_simp) (HGb.out) ?_
                    simp only [Act.put, List.setIfInBounds_toArray, List.set_cons_zero, List.set_cons_succ]
                    refine wpAnyHTake 11 (some 184) (.slice p2 L2.length d2) rfl rfl (by kernel_rfl) (by kernel_rfl) (by kernel_rfl) (fun _ _ _ h => h) (by rfl) (fun W hW => by have g1 := hW.2.2; go_simp) (HGb.out) ?_
                    simp only [Act.put, List.setIfInBounds_toArray, List.set_cons_zero, List.set_cons_succ]
                    refine wpAnyHCall 12 (some 185) 13 #[.slice p1 L1.length d1, .int .i64 m3, .slice p2 L2.length d2] (by kernel_rfl) rfl rfl (by rfl) (by go_simp) (rsum_any _ _ L1 L2 m3 U (R3.out.below HBVb.out) (RdI.below R4.out HBVb.out)) ?_
                    rintro e U2 ⟨rfl, hb⟩
                    have HBb2 := Lib.hid (HBVb.out.trans (hb.mono hsvb))
                    have HGb2 := Lib.hid (HGb.out.below hb (Nat.lt_of_lt_of_le l7' hsvb) (Nat.lt_of_lt_of_le l8' hsvb) (Nat.lt_of_lt_of_le l6' hsvb))
                    clear hb
                    refine ⟨_, rfl, HGb2.out, ?_⟩
                    simp only [Act.put, List.setIfInBounds_toArray, List.set_cons_zero, List.set_cons_succ]
                    refine wpAnyHTake 13 (some 172) (.tuple #[.int .i64 (sumV L1 m3 L2), .int .i64 (sumE L1 m3 L2)]) rfl rfl (by kernel_rfl) (by kernel_rfl) (by kernel_rfl) (fun _ _ _ h => h) (by rfl) (fun _ _ => by rfl) (HGb2.out) ?_
                    simp only [Act.put, List.setIfInBounds_toArray, List.set_cons_zero, List.set_cons_succ]
                    refine wpAnyHTake 14 (some 186) (.int .i64 (sumV L1 m3 L2)) rfl rfl (by kernel_rfl) (by kernel_rfl) (by kernel_rfl) (fun _ _ _ h => h) (by rfl) (fun _ _ => by go_simp) (HGb2.out) ?_
                    simp only [Act.put, List.setIfInBounds_toArray, List.set_cons_zero, List.set_cons_succ]
                    refine wpAnyHTake 15 (some 187) (.int .i64 (sumE L1 m3 L2)) rfl rfl (by kernel_rfl) (by kernel_rfl) (by kernel_rfl) (fun _ _ _ h => h) (by rfl) (fun _ _ => by go_simp) (HGb2.out) ?_
                    simp only [Act.put, List.setIfInBounds_toArray, List.set_cons_zero, List.set_cons_succ]
                    refine wpAnyHTake 16 (some 35) (.int .i64 (sumV L1 m3 L2)) rfl rfl (by kernel_rfl) (by kernel_rfl) (by kernel_rfl) (fun _ _ _ h => h) (by rfl) (fun _ _ => by rfl) (HGb2.out) ?_
                    simp only [Act.put, List.setIfInBounds_toArray, List.set_cons_zero, List.set_cons_succ]
                    refine wpAnyHTake 17 (some 36) (.int .i64 (sumE L1 m3 L2)) rfl rfl (by kernel_rfl) (by kernel_rfl) (by kernel_rfl) (fun _ _ _ h => h) (by rfl) (fun _ _ => by rfl) (HGb2.out) ?_
                    simp only [Act.put, List.setIfInBounds_toArray, List.set_cons_zero, List.set_cons_succ]
                    refine wpAnyH_done (by kernel_rfl) ?_ _
                    rename_i K hK
                    refine hK _ _ ?_
                    clear hK
                    have HE1 := Lib.hid (HD1.out.trans (HBb2.out.mono HD1.out.size)); have HE2 := Lib.hid (HD2.out.trans (HBb2.out.mono HD2.out.size))
                    clear HGb HBVb hsvb HGb2 HGa2
                    go_wp2_with fail
                    go_roundw
                    case rel => exact ⟨k3 + 1, by omega, by go_num, HE1.out, HE2.out⟩
                    case measure => simp [intOf]; omega
                  · have q3 : ¬ (k3 : Int) < 6 := by omega
                    clear hbl hbl1
                    go_wp2_with fail
                    go_roundw
                    case rel => exact ⟨k2 + 1, by omega, by go_num, HC1.out, HC2.out⟩
                    case measure => simp [intOf]; omega
              · have q2 : ¬ (k2 : Int) < 4 := by omega
                clear hbl hbl1
                go_wp2_with fail
                go_roundw
                case rel => exact ⟨k1 + 1, by omega, by go_num, HB1.out, HB2.out⟩
                case measure => simp [intOf]; omega
          · have q1 : ¬ (k1 : Int) < 4 := by omega
            clear hbl hbl1
            go_wp2_with fail
            refine (value_any _ _).mono ?_
            rintro e w6 ⟨rfl, hb6⟩
            have HV6 := Lib.hid (HA1.out.trans (hb6.mono HA1.out.size))
            clear hb6
            go_wp2_with fail
            refine (rvalue_any _ _).mono ?_
            rintro e w7 ⟨rfl, hb7⟩
            have HV7 := Lib.hid (HV6.out.trans (hb7.mono HV6.out.size))
            clear hb7
            go_wp2_with fail
            refine (LV.out _).mono ?_
            rintro e w8 ⟨rfl, hb8⟩
            go_wp2_with fail
            go_ret
            exact ⟨rfl, HV7.out.trans (hb8.mono HV7.out.size)⟩
end Go.Proofs.Ytidojiegkdchpaa
