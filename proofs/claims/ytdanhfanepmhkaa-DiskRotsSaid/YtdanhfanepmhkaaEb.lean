/- The reference disk: Read, Write, Wear. -/
import Derived.Test.YtdanhfanepmhkaaEa
namespace Go.Proofs.Ytdanhfanepmhkaa
open Go.RowKit Go.Maps Go.Sort

theorem chk_off {D : Dk} {i : Int} (h : D.off = true) : D.chk i = 23 := by unfold Dk.chk; rw [h]; rfl
theorem chk_out {D : Dk} {i : Int} (h : D.off = false) (hi : D.inB i = false) : D.chk i = 1 := by
  have h1 : ¬ (0 ≤ i ∧ i < D.S.length) := fun h => by rw [inB_iff.2 h] at hi; cases hi
  unfold Dk.chk
  rw [h, if_neg (by simp), if_pos (by omega)]
theorem chk_in {D : Dk} {i : Int} (h : D.off = false) (hi : D.inB i = true) : D.chk i = 0 := by
  have h1 := inB_iff.1 hi
  unfold Dk.chk
  rw [h, if_neg (by simp), if_neg (by omega)]

theorem inB_nat {D : Dk} {i : Int} (h : D.inB i = true) : ∃ k : Nat, i = k ∧ k < D.S.length := by
  have h1 := inB_iff.1 h
  exact ⟨i.toNat, by omega, by omega⟩

theorem RefAt.box0 {w : World} {B : RAt} {D : Dk} (h : RefAt w B D) : w.cell? ⟨B.d, 0, none⟩ = some (.slice (some ⟨B.g, 0, none⟩) D.S.length B.c) := by
  have := h.l.box.cell 0
  simpa [rows_len] using this
theorem RefAt.box1 {w : World} {B : RAt} {D : Dk} (h : RefAt w B D) : w.cell? ⟨B.d, 1, none⟩ = some (.bool D.off) := by
  have := h.l.box.cell 1
  simpa using this
theorem RefAt.row {w : World} {B : RAt} {D : Dk} (h : RefAt w B D) {k : Nat} (hk : k < D.S.length) (j : Nat) (hj : j < 4) : w.cell? ⟨B.g, k * 4 + j, none⟩ = (sc (row D k))[j]? := h.l.cell (rows_at D hk) j hj

set_option maxHeartbeats 800000 in
theorem rread_any (B : RAt) (D : Dk) (i : Int) (w : World) (h : RefAt w B D) :
    Calls Try.prog 34 #[.pointer (some ⟨B.d, 0, none⟩), .int .i64 i] w fun e w' => e = .returned (.tuple #[.string (D.readS i), .int .i64 (D.chk i)]) ∧ w = w' := by
  have c1 := h.box1
  have c0 := h.box0
  have IS := ris_any B D i w h
  have hlen := h.ok.len
  cases ho : D.off
  · rw [ho] at c1
    cases hb : D.inB i
    · rw [hb] at IS
      have hr : D.chk i = 1 := chk_out ho hb
      have hr2 : D.readS i = ⟨#[]⟩ := by unfold Dk.readS; rw [if_neg (by omega)]
      have HR := Lib.hid hr; have HR2 := Lib.hid hr2
      clear hr hr2 h
      go_enter Try.func34, Try.ntmps34
      go_wp2_with fail
      refine (IS).mono ?_
      rintro e w1 ⟨rfl, rfl⟩
      go_wp2_with fail
      go_ret2
      exact ⟨ret_si HR2.out.symm HR.out.symm, rfl⟩
    · rw [hb] at IS
      obtain ⟨k, rfl, hk⟩ := inB_nat hb
      have hr : D.chk k = 0 := chk_in ho hb
      have hr2 : D.readS k = D.at k := by unfold Dk.readS; rw [if_pos hr]; rfl
      have q0 := h.row hk 0 (by omega)
      have q1 := h.row hk 1 (by omega)
      have q2 := h.row hk 2 (by omega)
      have HR := Lib.hid hr; have HR2 := Lib.hid hr2
      cases hP : D.P k with
      | none =>
        simp [sc, row, hP] at q0 q2
        clear hr hr2 h q1
        have hat : D.at k = D.S[k] := by unfold Dk.at; rw [hP]; simp [hk]
        have HAT := Lib.hid hat
        clear hat
        go_enter Try.func34, Try.ntmps34
        go_wp2_with fail
        refine (IS).mono ?_
        rintro e w1 ⟨rfl, rfl⟩
        go_wp2_with fail
        go_ret2
        refine ⟨ret_si (HR2.out.trans HAT.out).symm HR.out.symm, rfl⟩
      | some u =>
        simp [sc, row, hP] at q1 q2
        clear hr hr2 h q0
        have hat : D.at k = u := by unfold Dk.at; rw [hP]; rfl
        have HAT := Lib.hid hat
        clear hat
        go_enter Try.func34, Try.ntmps34
        go_wp2_with fail
        refine (IS).mono ?_
        rintro e w1 ⟨rfl, rfl⟩
        go_wp2_with fail
        go_ret2
        refine ⟨ret_si (HR2.out.trans HAT.out).symm HR.out.symm, rfl⟩
  · rw [ho] at c1
    have hr : D.chk i = 23 := chk_off ho
    have hr2 : D.readS i = ⟨#[]⟩ := by unfold Dk.readS; rw [if_neg (by omega)]
    have HR := Lib.hid hr; have HR2 := Lib.hid hr2
    clear hr hr2 h IS
    go_enter Try.func34, Try.ntmps34
    go_wp2_with fail
    go_ret2
    exact ⟨ret_si HR2.out.symm HR.out.symm, rfl⟩

theorem Dk.ok.ofP {D : Dk} (h : D.ok) {P : Nat → Option ByteArray} (hP : ∀ k s, P k = some s → s.size = 64) : ({ D with P := P } : Dk).ok := ⟨h.len, h.pos, h.ssz, hP, h.lo, h.hi⟩
theorem Dk.ok.ofW {D : Dk} (h : D.ok) {W : Nat → Bool} : ({ D with W := W } : Dk).ok := ⟨h.len, h.pos, h.ssz, h.psz, h.lo, h.hi⟩
theorem Dk.ok.ofS {D : Dk} (h : D.ok) {S : List ByteArray} (hl : S.length = D.S.length) (hS : ∀ (k : Nat) (s : ByteArray), S[k]? = some s → s.size = 64) : ({ D with S := S } : Dk).ok :=
  ⟨by have := h.len; dsimp only; omega, by have := h.pos; dsimp only; omega, hS, h.psz, h.lo, h.hi⟩

set_option maxHeartbeats 800000 in
theorem rwear_any (B : RAt) (D : Dk) (i : Int) (w : World) (h : RefAt w B D) :
    Calls Try.prog 39 #[.pointer (some ⟨B.d, 0, none⟩), .int .i64 i] w fun e w' => e = .returned (.int .i64 (D.argE i)) ∧ RefAt w' B (D.wear i) ∧ Keeps B.F w w' := by
  have c0 := h.box0
  have IS := ris_any B D i w h
  have hlen := h.ok.len
  have H := Lib.hid h
  cases hb : D.inB i
  · rw [hb] at IS
    have hr : D.argE i = 1 := by unfold Dk.argE; rw [hb]; rfl
    have hr2 : D.wear i = D := by unfold Dk.wear; rw [hb]; rfl
    have HR := Lib.hid hr; have HR2 := Lib.hid hr2
    clear hr hr2 h
    go_enter Try.func39, Try.ntmps39
    go_wp2_with fail
    refine (IS).mono ?_
    rintro e w1 ⟨rfl, rfl⟩
    go_wp2_with fail
    go_ret
    exact ⟨ret_int HR.out.symm, by rw [HR2.out]; exact H.out, Keeps.refl _ _⟩
  · rw [hb] at IS
    obtain ⟨k, rfl, hk⟩ := inB_nat hb
    have hr : D.argE k = 0 := by unfold Dk.argE; rw [hb]; rfl
    have hr2 : D.wear k = { D with W := fun j => if j = k then true else D.W j } := by unfold Dk.wear; rw [hb]; rfl
    have q3 := h.row hk 3 (by omega)
    simp [sc] at q3
    have f3 := h.l.frozen (k * 4 + 3)
    have HR := Lib.hid hr; have HR2 := Lib.hid hr2
    clear hr hr2 h
    go_enter Try.func39, Try.ntmps39
    go_wp2_with fail
    refine (IS).mono ?_
    rintro e w1 ⟨rfl, rfl⟩
    go_wp2_with fail
    go_ret
    refine ⟨ret_int HR.out.symm, ?_, (Keeps.refl _ _).setCell B.fg _⟩
    rw [HR2.out]
    refine ⟨?_, H.out.ok.ofW⟩
    rw [rows_set (D := D) (D' := { D with W := fun j => if j = k then true else D.W j }) (r := { row D k with w := true }) hk rfl (fun j _ hj => by simp [row, hj]) (by simp [row])]
    exact H.out.l.put (rows_at D hk) 3 (by omega) (.bool true) rfl

set_option maxHeartbeats 1600000 in
theorem rwrite_any (B : RAt) (D : Dk) (i : Int) (s : ByteArray) (w : World) (h : RefAt w B D) :
    Calls Try.prog 33 #[.pointer (some ⟨B.d, 0, none⟩), .int .i64 i, .string s] w fun e w' => e = .returned (.int .i64 (D.writeE i s)) ∧ RefAt w' B (D.writeD i s) ∧ Keeps B.F w w' := by
  have c1 := h.box1
  have IS := ris_any B D i w h
  have hlen := h.ok.len
  have H := Lib.hid h
  cases ho : D.off
  · rw [ho] at c1
    cases hb : D.inB i
    · rw [hb] at IS
      have hc : D.chk i = 1 := chk_out ho hb
      have hr : D.writeE i s = 1 := by unfold Dk.writeE; rw [if_pos (by omega), hc]
      have hr2 : D.writeD i s = D := by unfold Dk.writeD; rw [if_pos (by omega)]
      have HR := Lib.hid hr; have HR2 := Lib.hid hr2
      clear hr hr2 h hc
      go_enter Try.func33, Try.ntmps33
      go_wp2_with fail
      refine (IS).mono ?_
      rintro e w1 ⟨rfl, rfl⟩
      go_wp2_with fail
      go_ret
      exact ⟨ret_int HR.out.symm, by rw [HR2.out]; exact H.out, Keeps.refl _ _⟩
    · rw [hb] at IS
      obtain ⟨k, rfl, hk⟩ := inB_nat hb
      have hc : D.chk k = 0 := chk_in ho hb
      by_cases hz : s.size = 64
      · have hzb : ((s.size : Int) != 64) = false := by rw [hz]; rfl
        have ST := rstep_any B D w h
        by_cases hst : D.stepE = 0
        · have hr : D.writeE k s = 0 := by unfold Dk.writeE; rw [if_neg (by simp [hc]), if_neg (by simp [hz]), hst]
          have hr2 : D.writeD k s = { D.stepD with P := fun j => if j = k then some s else D.P j } := by unfold Dk.writeD; rw [if_neg (by simp [hc]), if_neg (by simp [hz]), if_neg (by simp [hst])]; rfl
          rw [hst] at ST
          have HR := Lib.hid hr; have HR2 := Lib.hid hr2; have HZ := Lib.hid hz; have HK := Lib.hid hk
          obtain ⟨e1, e2, e3⟩ := stepD_S D
          have hk1 : k < D.stepD.S.length := by rw [e1]; exact hk
          have HE := Lib.hid (And.intro e1 e2)
          clear hr hr2 h hc hz e1 e2 e3 hst
          go_enter Try.func33, Try.ntmps33
          go_wp2_with fail
          refine (IS).mono ?_
          rintro e w1 ⟨rfl, rfl⟩
          go_wp2_with fail
          refine (ST).mono ?_
          rintro e w1 ⟨rfl, hD, hKK⟩
          clear ST IS c1
          have c0 := hD.box0
          have q1 := hD.row hk1 1 (by omega)
          have q2 := hD.row hk1 2 (by omega)
          simp [sc] at q1 q2
          have f1 := hD.l.frozen (k * 4 + 1)
          have f2 := hD.l.frozen (k * 4 + 2)
          have hne := hD.l.ne
          have HD := Lib.hid hD; have HKK := Lib.hid hKK
          clear hD hKK
          go_wp2_with fail
          go_ret
          refine ⟨ret_int HR.out.symm, ?_, HKK.out.trans (((Keeps.refl _ _).setCell B.fg _).setCell B.fg _)⟩
          rw [HR2.out]
          refine ⟨?_, HD.out.ok.ofP (fun j t ht => ?_)⟩
          · rw [rows_set (D := D.stepD) (D' := { D.stepD with P := fun j => if j = k then some s else D.P j }) (r := { row D.stepD k with x := s, d := true }) hk1 rfl (fun j _ hj => by simp [row, hj, HE.out.2]) (by simp [row])]
            have g1 := HD.out.l.put (rows_at D.stepD hk1) 1 (by omega) (.string s) (u := { row D.stepD k with x := s }) rfl
            have g2 := g1.put (k := k) (s := { row D.stepD k with x := s }) (by rw [List.getElem?_set, if_pos rfl, if_pos (by rw [rows_len]; exact hk1)]) 2 (by omega) (.bool true) (u := { row D.stepD k with x := s, d := true }) rfl
            rw [List.set_set] at g2
            exact g2
          · by_cases e : j = k
            · rw [if_pos e] at ht; cases ht; exact HZ.out
            · rw [if_neg e, ← HE.out.2] at ht; exact HD.out.ok.psz j t ht
        · have hr : D.writeE k s = D.stepE := by unfold Dk.writeE; rw [if_neg (by simp [hc]), if_neg (by simp [hz])]
          have hr2 : D.writeD k s = D.stepD := by unfold Dk.writeD; rw [if_neg (by simp [hc]), if_neg (by simp [hz]), if_pos hst]
          have hbb : (D.stepE != 0) = true := by simpa using hst
          have HR := Lib.hid hr; have HR2 := Lib.hid hr2
          clear hr hr2 hc hst hz h
          go_enter Try.func33, Try.ntmps33
          go_wp2_with fail
          refine (IS).mono ?_
          rintro e w1 ⟨rfl, rfl⟩
          go_wp2_with fail
          refine (ST).mono ?_
          rintro e w1 ⟨rfl, hD, hK⟩
          go_wp2_with fail
          go_ret
          exact ⟨ret_int HR.out.symm, by rw [HR2.out]; exact hD, hK⟩
      · have hzb : ((s.size : Int) != 64) = true := by simpa using (show ¬ (s.size : Int) = 64 by omega)
        have hr : D.writeE k s = 1 := by unfold Dk.writeE; rw [if_neg (by simp [hc]), if_pos hz]
        have hr2 : D.writeD k s = D := by unfold Dk.writeD; rw [if_neg (by simp [hc]), if_pos hz]
        have HR := Lib.hid hr; have HR2 := Lib.hid hr2
        clear hr hr2 hc hz h
        go_enter Try.func33, Try.ntmps33
        go_wp2_with fail
        refine (IS).mono ?_
        rintro e w1 ⟨rfl, rfl⟩
        go_wp2_with fail
        go_ret
        exact ⟨ret_int HR.out.symm, by rw [HR2.out]; exact H.out, Keeps.refl _ _⟩
  · rw [ho] at c1
    have hc : D.chk i = 23 := chk_off ho
    have hr : D.writeE i s = 23 := by unfold Dk.writeE; rw [if_pos (by omega), hc]
    have hr2 : D.writeD i s = D := by unfold Dk.writeD; rw [if_pos (by omega)]
    have HR := Lib.hid hr; have HR2 := Lib.hid hr2
    clear hr hr2 h hc IS
    go_enter Try.func33, Try.ntmps33
    go_wp2_with fail
    go_ret
    exact ⟨ret_int HR.out.symm, by rw [HR2.out]; exact H.out, Keeps.refl _ _⟩
end Go.Proofs.Ytdanhfanepmhkaa
