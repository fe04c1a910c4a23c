/- The reference disk: Flush, Mount. -/
import Derived.Test.YtdanhfanepmhkaaEd
namespace Go.Proofs.Ytdanhfanepmhkaa
open Go.RowKit Go.Maps Go.Sort

def tornTo (P : Nat → Option ByteArray) (picks : List Int) (j : Nat) : List (Nat × Int) := (keysN j P).zipIdx.map fun p => (p.1, picks.getD p.2 64)
theorem keysN_none {P : Nat → Option ByteArray} {j : Nat} (h : P j = none) : keysN (j + 1) P = keysN j P := by
  unfold keysN
  rw [List.range_succ, List.filter_append]
  simp [h]
theorem keysN_some {P : Nat → Option ByteArray} {j : Nat} {u : ByteArray} (h : P j = some u) : keysN (j + 1) P = keysN j P ++ [j] := by
  unfold keysN
  rw [List.range_succ, List.filter_append]
  simp [h]
theorem tornTo_none {P : Nat → Option ByteArray} {picks : List Int} {j : Nat} (h : P j = none) : tornTo P picks (j + 1) = tornTo P picks j := by
  unfold tornTo; rw [keysN_none h]
theorem tornTo_some {P : Nat → Option ByteArray} {picks : List Int} {j : Nat} {u : ByteArray} (h : P j = some u) : tornTo P picks (j + 1) = tornTo P picks j ++ [(j, picks.getD (keysN j P).length 64)] := by
  unfold tornTo; rw [keysN_some h, List.zipIdx_append, List.map_append]; simp
theorem tornTo_lt {P : Nat → Option ByteArray} {picks : List Int} {j : Nat} {p : Nat × Int} (h : p ∈ tornTo P picks j) : p.1 ≠ j := by
  unfold tornTo at h
  obtain ⟨q, hq, rfl⟩ := List.mem_map.1 h
  have := keysN_mem (List.fst_mem_of_mem_zipIdx hq)
  dsimp only
  omega
theorem to64_lt {P : Nat → Option ByteArray} {j : Nat} {p : Nat × Int} (h : p ∈ (keysN j P).map fun k => (k, (64 : Int))) : p.1 ≠ j := by
  obtain ⟨q, hq, rfl⟩ := List.mem_map.1 h
  have := keysN_mem hq
  dsimp only
  omega

set_option maxRecDepth 100000 in
set_option maxHeartbeats 2000000 in
theorem rflush_any (B : RAt) (D : Dk) (w : World) (h : RefAt w B D) :
    Calls Try.prog 35 #[.pointer (some ⟨B.d, 0, none⟩)] w fun e w' => e = .returned (.int .i64 D.flushE) ∧ RefAt w' B D.flushD ∧ Keeps B.F w w' := by
  have c1 := h.box1
  have ST := rstep_any B D w h
  have hin : D.inB 0 = true := inB_iff.2 ⟨by omega, by have := h.ok.pos; omega⟩
  have H := Lib.hid h
  cases ho : D.off
  · rw [ho] at c1
    have hc : D.chk 0 = 0 := chk_in ho hin
    by_cases hst : D.stepE = 0
    · have hr : D.flushE = 0 := by unfold Dk.flushE; rw [if_neg (by simp [hc]), hst]
      have hr2 : D.flushD = D.stepD.settles D.stepD.all64 := by unfold Dk.flushD; rw [if_neg (by simp [hc]), if_neg (by simp [hst])]
      rw [hst] at ST
      have HR := Lib.hid hr; have HR2 := Lib.hid hr2
      clear hr hr2 hc hst h hin H
      generalize D.stepD = D1 at *
      go_enter Try.func35, Try.ntmps35
      go_wp2_with fail
      refine (ST).mono ?_
      rintro e w1 ⟨rfl, hD, hK⟩
      clear ST c1
      have hlen := hD.ok.len
      have HD := Lib.hid hD; have HK := Lib.hid hK
      clear hD hK
      go_wp2_with fail
      go_loopw [4] (fun i wr => ∃ j : Nat, j ≤ D1.S.length ∧ i = .int .i64 j ∧ RefAt wr B (D1.settles ((keysN j D1.P).map fun k => (k, 64))) ∧ Keeps B.F w1 wr) (fun i _ => D1.S.length - (intOf i).toNat)
      case atStart => exact ⟨0, Nat.zero_le _, rfl, HD.out, Keeps.refl _ _⟩
      case round =>
        obtain ⟨j, hj, rfl, hd, hk⟩ := hrel
        have c0 := hd.box0
        rw [settles_len] at c0
        by_cases hlt : j < D1.S.length
        · have q2 := hd.row (k := j) (by rw [settles_len]; exact hlt) 2 (by omega)
          have hP := settles_P D1 ((keysN j D1.P).map fun k => (k, (64 : Int))) j (fun p hp => to64_lt hp)
          have hj0 : (0 : Int) ≤ (j : Int) := Int.natCast_nonneg _
          have hj1 : (j : Int) < (D1.S.length : Int) := by omega
          cases hPj : D1.P j with
          | none =>
            rw [hPj] at hP
            simp [sc, row, hP] at q2
            have HD2 := Lib.hid hd; have HK2 := Lib.hid hk; have HP := Lib.hid hPj
            clear hd hk hPj hP
            go_wp2_with fail
            go_roundw
            case rel => exact ⟨j + 1, by omega, by go_num, by rw [keysN_none HP.out]; exact HD2.out, HK2.out⟩
            case measure => simp [intOf]; omega
          | some u =>
            rw [hPj] at hP
            simp [sc, row, hP] at q2
            have SE := rsettle_any B _ j 64 wr hd (by rw [settles_len]; exact hlt) hP
            have HK2 := Lib.hid hk; have HP := Lib.hid hPj
            clear hd hk hPj hP
            go_wp2_with fail
            refine (SE).mono ?_
            rintro e w4 ⟨rfl, hd4, hk4⟩
            clear SE
            have HD4 := Lib.hid hd4; have HK4 := Lib.hid hk4
            clear hd4 hk4
            go_wp2_with fail
            go_roundw
            case rel => exact ⟨j + 1, by omega, by go_num, by rw [keysN_some HP.out, List.map_append]; exact (settles_snoc _ _ _).symm ▸ HD4.out, HK2.out.trans HK4.out⟩
            case measure => simp [intOf]; omega
        · have he : j = D1.S.length := by omega
          subst he
          have HD2 := Lib.hid hd; have HK2 := Lib.hid hk
          clear hd hk
          go_wp2_with fail
          go_ret
          refine ⟨ret_int HR.out.symm, ?_, HK.out.trans HK2.out⟩
          rw [HR2.out]
          exact HD2.out
    · have hr : D.flushE = D.stepE := by unfold Dk.flushE; rw [if_neg (by simp [hc])]
      have hr2 : D.flushD = D.stepD := by unfold Dk.flushD; rw [if_neg (by simp [hc]), if_pos hst]
      have hb : (D.stepE != 0) = true := by simpa using hst
      have HR := Lib.hid hr; have HR2 := Lib.hid hr2
      clear hr hr2 hc hst h hin
      go_enter Try.func35, Try.ntmps35
      go_wp2_with fail
      refine (ST).mono ?_
      rintro e w1 ⟨rfl, hD, hK⟩
      go_wp2_with fail
      go_ret
      exact ⟨ret_int HR.out.symm, by rw [HR2.out]; exact hD, hK⟩
  · rw [ho] at c1
    have hc : D.chk 0 = 23 := chk_off ho
    have hr : D.flushE = 23 := by unfold Dk.flushE; rw [if_pos (by omega), hc]
    have hr2 : D.flushD = D := by unfold Dk.flushD; rw [if_pos (by omega)]
    have HR := Lib.hid hr; have HR2 := Lib.hid hr2
    clear hr hr2 hc h ST hin
    go_enter Try.func35, Try.ntmps35
    go_wp2_with fail
    go_ret
    exact ⟨ret_int HR.out.symm, by rw [HR2.out]; exact H.out, Keeps.refl _ _⟩

set_option maxRecDepth 100000 in
set_option maxHeartbeats 2000000 in
theorem rmount_any (B : RAt) (D : Dk) (w : World) (h : RefAt w B D) (G : Nat → Prop) (hG : ∀ b, G b → ¬ B.F b) (pv : Value) (picks : List Int) (hp : Rd w G 1 pv picks.length (ints picks)) :
    Calls Try.prog 37 #[.pointer (some ⟨B.d, 0, none⟩), pv] w fun e w' => e = .returned (.tuple #[]) ∧ RefAt w' B (D.mountD picks) ∧ Keeps B.F w w' := by
  obtain ⟨pa, pc, rfl, hpm, hpat⟩ := hp.int
  have hlen := h.ok.len
  have H := Lib.hid h; have HPAT := Lib.hid hpat
  clear h hpat hp
  go_enter Try.func37, Try.ntmps37
  go_wp2_with fail
  go_loopw [4, 5, 6] (fun a i _ wr => ∃ j : Nat, j ≤ D.S.length ∧ i = .int .i64 j ∧ a = .int .i64 (keysN j D.P).length ∧ RefAt wr B (D.settles (tornTo D.P picks j)) ∧ Keeps B.F w wr) (fun _ i _ _ => D.S.length - (intOf i).toNat)
  case atStart => exact ⟨0, Nat.zero_le _, rfl, rfl, H.out, Keeps.refl _ _⟩
  case round =>
    obtain ⟨j, hj, rfl, rfl, hd, hk⟩ := hrel
    have c0 := hd.box0
    rw [settles_len] at c0
    by_cases hlt : j < D.S.length
    · have q2 := hd.row (k := j) (by rw [settles_len]; exact hlt) 2 (by omega)
      have hP := settles_P D (tornTo D.P picks j) j (fun p hp => tornTo_lt hp)
      have hj0 : (0 : Int) ≤ (j : Int) := Int.natCast_nonneg _
      have hj1 : (j : Int) < (D.S.length : Int) := by omega
      have hkl := keysN_len j D.P
      cases hPj : D.P j with
      | none =>
        rw [hPj] at hP
        simp [sc, row, hP] at q2
        have HD2 := Lib.hid hd; have HK2 := Lib.hid hk; have HP := Lib.hid hPj
        clear hd hk hPj hP
        go_wp2_with fail
        go_roundw
        case rel => exact ⟨j + 1, by omega, by go_num, by rw [keysN_none HP.out], by rw [tornTo_none HP.out]; exact HD2.out, HK2.out⟩
        case measure => simp [intOf]; omega
      | some u =>
        rw [hPj] at hP
        simp [sc, row, hP] at q2
        have SE := fun n => rsettle_any B _ j n wr hd (by rw [settles_len]; exact hlt) hP
        have HK2 := Lib.hid hk; have HP := Lib.hid hPj
        have hks : (keysN (j + 1) D.P).length = (keysN j D.P).length + 1 := by rw [keysN_some hPj, List.length_append]; rfl
        have HKS := Lib.hid hks
        clear hks
        generalize hcc : (keysN j D.P).length = c at *
        have HC := Lib.hid hcc
        clear hcc
        by_cases hjp : c < picks.length
        · obtain ⟨n, hn⟩ := elem_at hjp
          obtain ⟨b2, off2, rfl, hb3, hb4, hcell2⟩ := HPAT.out c n hn
          have hc4 : wr.cell? ⟨b2, off2 + c, none⟩ = some (.int .i64 n) := (World.cell?_of_block (hk.block b2 hb3 (hG b2 hb4))).trans hcell2
          have hgd : picks.getD c 64 = n := by rw [List.getD_eq_getElem?_getD, hn]; rfl
          have HG := Lib.hid hgd
          clear hd hk hPj hP hcell2 hn hgd hb3 hb4
          have hjp0 : (0 : Int) ≤ (c : Int) := Int.natCast_nonneg _
          have hjp1 : (c : Int) < (picks.length : Int) := by omega
          go_wp2_with fail
          refine (SE _).mono ?_
          rintro e w4 ⟨rfl, hd4, hk4⟩
          clear SE
          have HD4 := Lib.hid hd4; have HK4 := Lib.hid hk4
          clear hd4 hk4
          go_wp2_with fail
          go_roundw
          case rel => exact ⟨j + 1, by omega, by go_num, by rw [HKS.out]; go_num, by rw [tornTo_some HP.out, HC.out, HG.out]; exact (settles_snoc _ _ _).symm ▸ HD4.out, HK2.out.trans HK4.out⟩
          case measure => simp [intOf]; omega
        · have hgd : picks.getD c 64 = 64 := by rw [List.getD_eq_getElem?_getD, List.getElem?_eq_none (by omega)]; rfl
          have HG := Lib.hid hgd
          clear hd hk hPj hP hgd
          have hjp1 : ¬ (c : Int) < (picks.length : Int) := by omega
          go_wp2_with fail
          refine (SE _).mono ?_
          rintro e w4 ⟨rfl, hd4, hk4⟩
          clear SE
          have HD4 := Lib.hid hd4; have HK4 := Lib.hid hk4
          clear hd4 hk4
          go_wp2_with fail
          go_roundw
          case rel => exact ⟨j + 1, by omega, by go_num, by rw [HKS.out]; go_num, by rw [tornTo_some HP.out, HC.out, HG.out]; exact (settles_snoc _ _ _).symm ▸ HD4.out, HK2.out.trans HK4.out⟩
          case measure => simp [intOf]; omega
    · have he : j = D.S.length := by omega
      subst he
      have c1 := hd.l.box.cell 1
      have c2 := hd.l.box.cell 2
      have f1 := hd.l.box.frozen 1
      have f2 := hd.l.box.frozen 2
      simp at c1 c2
      have HD2 := Lib.hid hd; have HK2 := Lib.hid hk
      clear hd hk
      go_wp2_with fail
      go_end0
      have hD : RefAt wr B (D.settles (D.torn picks)) := HD2.out
      refine ⟨rfl, ⟨?_, ⟨hD.ok.len, hD.ok.pos, hD.ok.ssz, hD.ok.psz, by show _ ≤ (-1 : Int); omega, by show (-1 : Int) ≤ _; omega⟩⟩, (HK2.out.setCell B.fd _).setCell B.fd _⟩
      exact (hD.l.setOff false).setLeft (-1)
end Go.Proofs.Ytdanhfanepmhkaa
