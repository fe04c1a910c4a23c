/- The disk: Mount. -/
import Derived.Test.YtdanhfanepmhkaaDi
namespace Go.Proofs.Ytdanhfanepmhkaa
open Go.RowKit Go.Maps Go.Sort

def Dk.torn (D : Dk) (picks : List Int) : List (Nat × Int) := (keysN D.S.length D.P).zipIdx.map fun p => (p.1, picks.getD p.2 64)
def Dk.mountD (D : Dk) (picks : List Int) : Dk := { D.settles (D.torn picks) with off := false, left := -1 }
theorem torn_at (D : Dk) (picks : List Int) {j k : Nat} (h : (keysN D.S.length D.P)[j]? = some k) : (D.torn picks)[j]? = some (k, picks.getD j 64) := by
  unfold Dk.torn
  rw [List.getElem?_map, List.getElem?_zipIdx, h]
  simp
theorem torn_len (D : Dk) (picks : List Int) : (D.torn picks).length = (keysN D.S.length D.P).length := by unfold Dk.torn; simp
theorem torn_fst (D : Dk) (picks : List Int) (j : Nat) : ((D.torn picks).take j).map (·.1) = (keysN D.S.length D.P).take j := by
  unfold Dk.torn
  rw [← List.map_take, List.map_map]
  refine List.ext_getElem? fun i => ?_
  simp only [List.getElem?_map, List.getElem?_take, List.getElem?_zipIdx]
  split
  · cases (keysN D.S.length D.P)[i]? <;> simp
  · rfl

set_option maxRecDepth 100000 in
set_option maxHeartbeats 2000000 in
theorem mount_any (A : At) (D : Dk) (w : World) (h : DskAt w A D) (G : Nat → Prop) (hG : ∀ b, G b → ¬ A.F b) (pv : Value) (picks : List Int) (hp : Rd w G 1 pv picks.length (ints picks)) :
    Calls Try.prog 26 #[.pointer (some ⟨A.d, 0, none⟩), pv] w fun e w' => e = .returned (.tuple #[]) ∧ DskAt w' A (D.mountD picks) ∧ Keeps A.F w w' := by
  obtain ⟨pa, pc, rfl, hpm, hpat⟩ := hp.int
  have PE := pending_any A D w h
  have hlen := h.len
  have hFl : ∀ b, A.F b → b < w.heap.size := by
    rintro b (rfl | rfl | rfl | rfl)
    · exact h.ltd
    · exact h.blk.lt
    · exact h.pend.lt
    · exact h.worn.lt
  have H := Lib.hid h; have HPAT := Lib.hid hpat; have HFL := Lib.hid hFl
  clear h hpat hFl hp
  go_enter Try.func26, Try.ntmps26
  go_wp2_with fail
  refine (PE).mono ?_
  rintro e w2 ⟨v, rfl, hrow, hb⟩
  clear PE
  rw [keysOf_pend] at hrow
  have R0 : Rd w2 (fun b => w.heap.size ≤ b) 1 v (keysN D.S.length D.P).length (ints ((keysN D.S.length D.P).map fun k : Nat => (k : Int))) := by
    have := Rd_of_owns hrow
    rw [List.length_map] at this
    exact this
  have hD2 := H.out.keeps (Keeps.of_below (F := fun _ => False) hb) (fun _ _ h => h)
  have hK2 : Keeps A.F w w2 := Keeps.of_below hb
  clear hrow hb
  obtain ⟨ks, hks⟩ : ∃ ks, ks = keysN D.S.length D.P := ⟨_, rfl⟩
  have hkl : ks.length ≤ 4096 := by rw [hks]; exact Nat.le_trans (keysN_len _ _) hlen
  rw [← hks] at R0
  obtain ⟨a, cap, rfl, _, hat⟩ := Rd.int (xs := ks.map fun k : Nat => (k : Int)) (by rw [List.length_map]; exact R0)
  rw [List.length_map]
  have HAT := Lib.hid hat; have HK2 := Lib.hid hK2; have HD2 := Lib.hid hD2; have HKS := Lib.hid hks
  clear hat hK2 hD2 R0 hks
  go_wp2_with fail
  go_loopw [4, 5, 6, 10] (fun _ _ _ i wr => ∃ j : Nat, j ≤ ks.length ∧ i = .int .i64 j ∧ DskAt wr A (D.settles ((D.torn picks).take j)) ∧ Keeps A.F w2 wr) (fun _ _ _ i _ => ks.length - (intOf i).toNat)
  case atStart => exact ⟨0, Nat.zero_le _, rfl, HD2.out, Keeps.refl _ _⟩
  case round =>
    obtain ⟨j, hj, rfl, hd, hk⟩ := hrel
    by_cases hlt : j < ks.length
    · obtain ⟨k, hkk⟩ := elem_at hlt
      obtain ⟨b, off, rfl, hb1, hb2, hcell⟩ := HAT.out j k (by rw [List.getElem?_map, hkk]; rfl)
      have hc3 : wr.cell? ⟨b, off + j, none⟩ = some (.int .i64 k) := (World.cell?_of_block (hk.block b hb1 (fun e => by have := HFL.out b e; omega))).trans hcell
      obtain ⟨hkn, hks⟩ := keysN_mem (k := k) (by rw [← HKS.out]; exact List.mem_of_getElem? hkk)
      obtain ⟨s, hs⟩ := Option.isSome_iff_exists.1 hks
      have hP := (settles_P D ((D.torn picks).take j) k (by
        intro p hp
        have hp1 : p.1 ∈ ((D.torn picks).take j).map (·.1) := List.mem_map_of_mem hp
        rw [torn_fst, ← HKS.out] at hp1
        exact nodup_take (HKS.out ▸ keysN_nodup _ _) hkk _ hp1)).trans hs
      have SE := fun n => settle_any A _ k n wr hd (by rw [settles_len]; exact hkn) hP
      have hta := torn_at D picks (j := j) (k := k) (by rw [← HKS.out]; exact hkk)
      have HTA := Lib.hid hta; have HK := Lib.hid hk
      have hj0 : (0 : Int) ≤ (j : Int) := Int.natCast_nonneg _
      have hj1 : (j : Int) < (ks.length : Int) := by omega
      by_cases hjp : j < picks.length
      · obtain ⟨n, hn⟩ := elem_at hjp
        obtain ⟨b2, off2, rfl, hb3, hb4, hcell2⟩ := HPAT.out j n hn
        have hc4 : wr.cell? ⟨b2, off2 + j, none⟩ = some (.int .i64 n) := (World.cell?_of_block ((HK2.out.trans hk).block b2 hb3 (hG b2 hb4))).trans hcell2
        have hgd : picks.getD j 64 = n := by rw [List.getD_eq_getElem?_getD, hn]; rfl
        rw [hgd] at HTA
        clear hcell hkk hks hs hP hd hk hb1 hb2 hcell2 hn hta hgd hb3 hb4
        have hjp1 : (j : Int) < (picks.length : Int) := by omega
        go_wp2_with fail
        refine (SE _).mono ?_
        rintro e w4 ⟨rfl, hd4, hk4⟩
        clear SE
        have HD4 := Lib.hid hd4; have HK4 := Lib.hid hk4
        clear hd4 hk4
        go_wp2_with fail
        go_roundw
        case rel => exact ⟨j + 1, by omega, by go_num, by rw [take_succ_at HTA.out]; exact (settles_snoc _ _ _).symm ▸ HD4.out, HK.out.trans HK4.out⟩
        case measure => simp [intOf]; omega
      · have hgd : picks.getD j 64 = 64 := by rw [List.getD_eq_getElem?_getD, List.getElem?_eq_none (by omega)]; rfl
        rw [hgd] at HTA
        clear hcell hkk hks hs hP hd hk hb1 hb2 hta hgd
        have hjp1 : ¬ (j : Int) < (picks.length : Int) := by omega
        go_wp2_with fail
        refine (SE _).mono ?_
        rintro e w4 ⟨rfl, hd4, hk4⟩
        clear SE
        have HD4 := Lib.hid hd4; have HK4 := Lib.hid hk4
        clear hd4 hk4
        go_wp2_with fail
        go_roundw
        case rel => exact ⟨j + 1, by omega, by go_num, by rw [take_succ_at HTA.out]; exact (settles_snoc _ _ _).symm ▸ HD4.out, HK.out.trans HK4.out⟩
        case measure => simp [intOf]; omega
    · have he : j = ks.length := by omega
      subst he
      have c3 := hd.box.cell 3
      have c4 := hd.box.cell 4
      have f3 := hd.box.frozen 3
      have f4 := hd.box.frozen 4
      simp at c3 c4
      have HD := Lib.hid hd; have HK := Lib.hid hk
      clear hd hk
      go_wp2_with fail
      go_end0
      have hD := HD.out
      rw [List.take_of_length_le (by rw [torn_len, HKS.out]; exact Nat.le_refl _)] at hD
      exact ⟨rfl, (hD.setOff false).setLeft (-1) (by omega) (by omega), ((HK2.out.trans HK.out).setCell A.fd _).setCell A.fd _⟩
end Go.Proofs.Ytdanhfanepmhkaa
