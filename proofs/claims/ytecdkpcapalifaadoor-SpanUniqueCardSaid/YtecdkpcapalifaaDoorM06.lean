/- Form (reference). -/
import Derived.Test.YtecdkpcapalifaaDoorM05
import Derived.IntWalk
import Derived.LoopN
set_option linter.unusedVariables false
namespace Go.Proofs.YtecdkpcapalifaaDoor
open Go.RowKit Go.Maps

set_option maxRecDepth 100000 in
set_option maxHeartbeats 8000000 in
theorem rform_some (s : Sty) (v : Value) (l : List Sp) (w : World) (h : RdP w v l) (hs : okSty s) (hne : l ≠ []) (hl : l.length ≤ 100000) (hr : ∀ x ∈ l, 1 ≤ x.1 ∧ x.1 ≤ x.2 ∧ x.2 ≤ 999) :
    Calls Tryd.prog 21 #[.agg #[.int .i64 s.k, .bool s.nx, .int .i64 s.row, .int .i64 s.pas], v] w fun e w' => e = .returned (.string (bs (formL s l))) ∧ Below w.heap.size w w' := by
  obtain ⟨b1, o1, c, rfl, l1, l2, hb1, f⟩ := h.open2 hne
  clear h hne
  have F := Lib.hid f; have HRT := Lib.hid hr; have HOK := Lib.hid hs; clear f hr
  obtain ⟨k, nx, row, pas⟩ := s
  obtain ⟨k1, k2, r0, r1, r2, p0, p1, p2⟩ := hs
  dsimp only at *
  obtain ⟨S, hS⟩ : ∃ S : Sty, S = ⟨k, nx, row, pas⟩ := ⟨_, rfl⟩
  have HS := Lib.hid hS
  rw [← hS]
  clear hS
  have hst := StyAt.new w 24 k nx row pas
  have HST0 := Lib.hid hst
  have HB0 := Lib.hid ((Below.refl w.heap.size w).alloc (Nat.le_refl _) (.cells #[.int .i64 k, .bool nx, .int .i64 row, .int .i64 pas] 24))
  have hz0 : (w.alloc (.cells #[.int .i64 k, .bool nx, .int .i64 row, .int .i64 pas] 24)).heap.size = w.heap.size + 1 := by simp
  clear hst
  go_enter Tryd.func21, Tryd.ntmps21
  go_wp2
  generalize w.alloc (.cells #[.int .i64 k, .bool nx, .int .i64 row, .int .i64 pas] 24) = W0 at *
  go_loopw [5, 6] (fun ov iv wr => ∃ (p : Nat) (P : List (List UInt8)), p ≤ l.length ∧ iv = .int .i64 p ∧ ov = .string (bs (joinL P)) ∧ (P = [] ↔ p = 0) ∧ partsL S l = P ++ partsL S (l.drop p) ∧ (joinL P).length ≤ 20 * p ∧ StyAt wr w.heap.size k nx row pas ∧ Below w.heap.size w wr ∧ w.heap.size + 1 ≤ wr.heap.size) (fun _ iv _ => l.length - (intOf iv).toNat)
  case atStart => exact ⟨0, [], by omega, rfl, rfl, by simp, rfl, by simp [joinL], HST0.out, HB0.out, by omega⟩
  case round =>
    obtain ⟨p, P, hp, rfl, rfl, hP0, hparts, hPl, hst, hbl, hsz⟩ := hrel
    have HP0 := Lib.hid hP0; have HPT := Lib.hid hparts; have HST := Lib.hid hst; have HBL := Lib.hid hbl
    obtain ⟨wo, hwo⟩ : ∃ wo, wo = wr := ⟨_, rfl⟩
    subst hwo
    clear hP0 hparts hst hbl
    by_cases hlt : p < l.length
    · have hlt' : (p : Int) < (l.length : Int) := by omega
      have hpi : (p : Int) ≤ 100000 := by omega
      go_wp2_with fail
      go_loopw [7] (fun nv wr => ∃ n : Nat, 1 ≤ n ∧ p + n ≤ l.length ∧ nv = .int .i64 n ∧ (∀ i x y, i + 1 < n → (l.drop p)[i]? = some x → (l.drop p)[i + 1]? = some y → y.1 = x.2 + 2) ∧ ∃ nq, wr = wo.drewN nq) (fun nv _ => l.length - (intOf nv).toNat)
      case atStart => exact ⟨1, by omega, by omega, rfl, fun i x y hi => absurd hi (by omega), 0, rfl⟩
      case round =>
        obtain ⟨n, hn1, hn2, rfl, hch, nq0, rfl⟩ := hrel
        have HCH := Lib.hid hch
        have hni : (n : Int) ≤ 100000 := by omega
        have hn1i : (1 : Int) ≤ (n : Int) := by omega
        clear hch
        by_cases hlt2 : p + n < l.length
        · obtain ⟨⟨y0, y1⟩, hy⟩ := elem_at hlt2
          obtain ⟨⟨x0, x1⟩, hx⟩ := elem_at (l := l) (k := p + n - 1) (by omega)
          obtain ⟨q0, q1⟩ := F.out _ _ hy
          obtain ⟨t0, t1⟩ := F.out _ _ hx
          have g0 := (HBL.out.cell (p := ⟨b1, o1 + (p + n) * 2, none⟩) hb1).trans q0
          have g1 := (HBL.out.cell (p := ⟨b1, o1 + (p + n - 1) * 2 + 1, none⟩) hb1).trans t1
          dsimp only at g0 g1
          have hxr := HRT.out _ (List.mem_of_getElem? hx)
          dsimp only at hxr
          obtain ⟨hx1, hx2, hx3⟩ := hxr
          have HX := Lib.hid hx; have HY := Lib.hid hy
          have hlt2' : (p : Int) + (n : Int) < (l.length : Int) := by omega
          clear q0 q1 t0 t1 hx hy
          by_cases hg : y0 = x1 + 2
          · have hgb : (y0 == x1 + 2) = true := by rw [beq_iff_eq]; exact hg
            have HG := Lib.hid hg
            clear hg
            go_wp2_with fail
            go_quiet (fail)
            go_wp2_with fail
            go_roundw
            case rel => exact ⟨n + 1, by omega, by omega, by go_num, chain_step hn1 HCH.out HX.out HY.out HG.out, _, rfl⟩
            case measure => simp [intOf]; omega
          · have hgb : (y0 == x1 + 2) = false := beq_eq_false_iff_ne.2 hg
            have hrow : rowN (l.drop p) = n := rowN_walk hn1 hn2 HCH.out (.inr ⟨_, _, HX.out, HY.out, hg⟩)
            have HROW := Lib.hid hrow
            clear hg hrow HX HY
            go_wp2_with fail
            go_quiet (fail)
            clear g0 g1 hgb hx1 hx2 hx3
            have HB1 := Lib.hid (Below.dn (Below.dn HBL.out nq0) nq)
            have HS1 := Lib.hid (show StyAt ((wo.drewN nq0).drewN nq) w.heap.size k nx row pas from HST.out)
            have hz1 : w.heap.size + 1 ≤ ((wo.drewN nq0).drewN nq).heap.size := hsz
            generalize (wo.drewN nq0).drewN nq = W1 at *
            have hstep : partsL S (l.drop p) = rowParts S ((l.drop p).take n) ++ partsL S (l.drop (p + n)) := by
              rw [partsL_step S (by intro e; have := congrArg List.length e; rw [List.length_drop, List.length_nil] at this; omega), HROW.out, List.drop_drop]
            have HSTEP := Lib.hid hstep
            have hrl : ((l.drop p).take n).length = n := row_len hn2
            have HRL := Lib.hid hrl
            clear hstep hrl
            by_cases hpas : 0 < pas ∧ pas ≤ (n : Int)
            · obtain ⟨hpa, hpb⟩ := hpas
              obtain ⟨⟨x0, x1⟩, hx⟩ := elem_at hlt
              obtain ⟨⟨z0, z1⟩, hz⟩ := elem_at (l := l) (k := p + n - 1) (by omega)
              have hrp : rowParts S ((l.drop p).take n) = [betweenL k x0 z1 ++ passimB] := by
                rw [HS.out, rowParts_pas (s := ⟨k, nx, row, pas⟩) hpa (by rw [HRL.out]; exact hpb), headS_at hx hn1, lastS_at hz hn1 hn2]
              have HRP := Lib.hid hrp
              obtain ⟨q0, q1⟩ := F.out _ _ hx
              obtain ⟨t0, t1⟩ := F.out _ _ hz
              have hxr := HRT.out _ (List.mem_of_getElem? hx)
              have hzr := HRT.out _ (List.mem_of_getElem? hz)
              dsimp only at hxr hzr q0 q1 t0 t1
              obtain ⟨hx1, hx2, hx3⟩ := hxr
              obtain ⟨hy1, hy2, hy3⟩ := hzr
              have HQ := Lib.hid q0; have HT := Lib.hid t1
              have pn : (pas == 0) = false := beq_eq_false_iff_ne.2 (by omega)
              have HW1 := Lib.hid (show IntKind.i64.wrap ((p : Int) + (n : Int)) = (p : Int) + (n : Int) from IntWalk.i64_in _ (by omega))
              have hsub : (p : Int) + (n : Int) - 1 = ((p + n - 1 : Nat) : Int) := by omega
              have HW2 := Lib.hid (show IntKind.i64.wrap ((p : Int) + (n : Int) - 1) = ((p + n - 1 : Nat) : Int) by rw [hsub]; exact IntWalk.i64_in _ (by omega))
              have HW3 := Lib.hid (show ((p + n - 1 : Nat) : Int) < (l.length : Int) ∧ p + n - 1 < l.length by omega)
              clear q0 q1 t0 t1 hx hz hrp hsub
              go_wp2_with fail
              go_loopw [5, 8] (fun ov iv wr => ∃ kk : Nat, p ≤ kk ∧ kk ≤ p + n ∧ iv = .int .i64 kk ∧ ((kk = p ∧ ov = .string (bs (joinL P))) ∨ (p < kk ∧ ov = .string (bs (joinL (P ++ [betweenL k x0 z1 ++ passimB]))))) ∧ StyAt wr w.heap.size k nx row pas ∧ Below w.heap.size w wr ∧ w.heap.size + 1 ≤ wr.heap.size) (fun _ iv _ => p + n - (intOf iv).toNat)
              case atStart => exact ⟨p, by omega, by omega, rfl, .inl ⟨rfl, rfl⟩, HS1.out, HB1.out, hz1⟩
              case round =>
                obtain ⟨kk, hk1, hk2, rfl, hov, hst, hbl, hsz3⟩ := hrel
                have HS4 := Lib.hid hst; have HB4 := Lib.hid hbl; have HZ4 := Lib.hid hsz3
                clear hst hbl
                by_cases hlt3 : kk < p + n
                · have hlt3' : (kk : Int) < (p : Int) + (n : Int) := by omega
                  rcases hov with ⟨rfl, rfl⟩ | ⟨hgt, rfl⟩
                  · have HG4 := Lib.hid (show wr.cell? ⟨b1, o1 + kk * 2, none⟩ = some (.int .i64 x0) ∧ wr.cell? ⟨b1, o1 + (kk + n - 1) * 2 + 1, none⟩ = some (.int .i64 z1) from ⟨(HB4.out.cell (p := ⟨b1, o1 + kk * 2, none⟩) hb1).trans HQ.out, (HB4.out.cell (p := ⟨b1, o1 + (kk + n - 1) * 2 + 1, none⟩) hb1).trans HT.out⟩)
                    have hps := hPl
                    rw [← bs_size] at hps
                    generalize hSA : bs (joinL P) = SA at *
                    have HSA := Lib.hid hSA
                    have hs4 := HS4.out
                    obtain ⟨s0, s1, s2, s3⟩ := hs4
                    clear hSA
                    by_cases hk0 : kk = 0
                    · have hPn : P = [] := HP0.out.2 hk0
                      have k0 : (kk : Int) ≤ 0 := by omega
                      have ZS := Lib.hid (show SA.size ≤ 2000000 by omega)
                      have HPN := Lib.hid hPn
                      have HK0 := Lib.hid hk0
                      clear hPn hk0
                      go_wp2_with fail
                      clear s0 s1 s2 s3
                      refine wp_region_held (S := fun W' => StyAt W' w.heap.size k nx row pas ∧ W'.cell? ⟨b1, o1 + kk * 2, none⟩ = some (.int .i64 x0) ∧ W'.cell? ⟨b1, o1 + (kk + n - 1) * 2 + 1, none⟩ = some (.int .i64 z1)) (by kernel_rfl) ?_
                      have hdr : (wr).drew = { wr with drawn := (wr).drawn + 1 } := rfl
                      rw [← hdr]
                      clear hdr
                      have G1 := Lib.hid (show StyAt (wr.drewN 1) w.heap.size k nx row pas ∧ ((wr.drewN 1).cell? ⟨b1, o1 + kk * 2, none⟩ = some (.int .i64 x0) ∧ (wr.drewN 1).cell? ⟨b1, o1 + (kk + n - 1) * 2 + 1, none⟩ = some (.int .i64 z1)) from ⟨HS4.out, HG4.out⟩)
                      have HBV := Lib.hid (Below.dn HB4.out 1)
                      have hszv : w.heap.size + 1 ≤ (wr.drewN 1).heap.size := by have := HZ4.out; exact this
                      have hb1v : b1 < (wr.drewN 1).heap.size := by have : w.heap.size + 1 ≤ (wr.drewN 1).heap.size := hszv; omega
                      change wpAnyH _ _ _ _ _ _ _ _ (wr.drewN 1)
                      generalize wr.drewN 1 = V at *
                      refine wpAnyHTake 0 (some 88) (.string SA) rfl rfl (by kernel_rfl) (by kernel_rfl) (by kernel_rfl) (fun _ _ _ h => h) (by rfl) (fun _ _ => by rfl) (G1.out) ?_
                      simp only [Act.put, List.setIfInBounds_toArray, List.set_cons_zero, List.set_cons_succ]
                      refine wpAnyHTake 1 (some 89) (.agg #[.int .i64 k, .bool nx, .int .i64 row, .int .i64 pas]) rfl rfl (by kernel_rfl) (by kernel_rfl) (by kernel_rfl) (fun _ _ _ h => h) (by rfl) (fun W hW => by obtain ⟨⟨c0, c1, c2, c3⟩, _⟩ := hW; go_simp) (G1.out) ?_
                      simp only [Act.put, List.setIfInBounds_toArray, List.set_cons_zero, List.set_cons_succ]
                      refine wpAnyHTake 2 (some 90) (.slice (some ⟨b1, o1, none⟩) l.length c) rfl rfl (by kernel_rfl) (by kernel_rfl) (by kernel_rfl) (fun _ _ _ h => h) (by rfl) (fun _ _ => by rfl) (G1.out) ?_
                      simp only [Act.put, List.setIfInBounds_toArray, List.set_cons_zero, List.set_cons_succ]
                      refine wpAnyHTake 3 (some 91) (.int .i64 kk) rfl rfl (by kernel_rfl) (by kernel_rfl) (by kernel_rfl) (fun _ _ _ h => h) (by rfl) (fun _ _ => by rfl) (G1.out) ?_
                      simp only [Act.put, List.setIfInBounds_toArray, List.set_cons_zero, List.set_cons_succ]
                      refine wpAnyHTake 4 (some 92) (.pointer (some ⟨b1, o1 + kk * 2, none⟩)) rfl rfl (by kernel_rfl) (by kernel_rfl) (by kernel_rfl) (fun _ _ _ h => h) (by rfl) (fun _ _ => by go_simp) (G1.out) ?_
                      simp only [Act.put, List.setIfInBounds_toArray, List.set_cons_zero, List.set_cons_succ]
                      refine wpAnyHTake 5 (some 93) (.pointer (some ⟨b1, o1 + kk * 2, none⟩)) rfl rfl (by kernel_rfl) (by kernel_rfl) (by kernel_rfl) (fun _ _ _ h => h) (by rfl) (fun _ _ => by go_simp) (G1.out) ?_
                      simp only [Act.put, List.setIfInBounds_toArray, List.set_cons_zero, List.set_cons_succ]
                      refine wpAnyHTake 6 (some 94) (.int .i64 x0) rfl rfl (by kernel_rfl) (by kernel_rfl) (by kernel_rfl) (fun _ _ _ h => h) (by rfl) (fun W hW => by obtain ⟨_, c4, c5⟩ := hW; go_simp) (G1.out) ?_
                      simp only [Act.put, List.setIfInBounds_toArray, List.set_cons_zero, List.set_cons_succ]
                      refine wpAnyHTake 7 (some 95) (.slice (some ⟨b1, o1, none⟩) l.length c) rfl rfl (by kernel_rfl) (by kernel_rfl) (by kernel_rfl) (fun _ _ _ h => h) (by rfl) (fun _ _ => by rfl) (G1.out) ?_
                      simp only [Act.put, List.setIfInBounds_toArray, List.set_cons_zero, List.set_cons_succ]
                      refine wpAnyHTake 8 (some 96) (.int .i64 kk) rfl rfl (by kernel_rfl) (by kernel_rfl) (by kernel_rfl) (fun _ _ _ h => h) (by rfl) (fun _ _ => by rfl) (G1.out) ?_
                      simp only [Act.put, List.setIfInBounds_toArray, List.set_cons_zero, List.set_cons_succ]
                      refine wpAnyHTake 9 (some 97) (.int .i64 n) rfl rfl (by kernel_rfl) (by kernel_rfl) (by kernel_rfl) (fun _ _ _ h => h) (by rfl) (fun _ _ => by rfl) (G1.out) ?_
                      simp only [Act.put, List.setIfInBounds_toArray, List.set_cons_zero, List.set_cons_succ]
                      refine wpAnyHTake 10 (some 98) (.int .i64 ((kk : Int) + (n : Int))) rfl rfl (by kernel_rfl) (by kernel_rfl) (by kernel_rfl) (fun _ _ _ h => h) (by rfl) (fun _ _ => by have h0 := HW1.out; go_simp) (G1.out) ?_
                      simp only [Act.put, List.setIfInBounds_toArray, List.set_cons_zero, List.set_cons_succ]
                      refine wpAnyHTake 11 (some 99) (.int .i64 ((kk + n - 1 : Nat) : Int)) rfl rfl (by kernel_rfl) (by kernel_rfl) (by kernel_rfl) (fun _ _ _ h => h) (by rfl) (fun _ _ => by have h0 := HW2.out; go_simp) (G1.out) ?_
                      simp only [Act.put, List.setIfInBounds_toArray, List.set_cons_zero, List.set_cons_succ]
                      refine wpAnyHTake 12 (some 100) (.pointer (some ⟨b1, o1 + (kk + n - 1) * 2, none⟩)) rfl rfl (by kernel_rfl) (by kernel_rfl) (by kernel_rfl) (fun _ _ _ h => h) (by rfl) (fun _ _ => by have h0 := HW3.out; go_simp) (G1.out) ?_
                      simp only [Act.put, List.setIfInBounds_toArray, List.set_cons_zero, List.set_cons_succ]
                      refine wpAnyHTake 13 (some 101) (.pointer (some ⟨b1, o1 + (kk + n - 1) * 2 + 1, none⟩)) rfl rfl (by kernel_rfl) (by kernel_rfl) (by kernel_rfl) (fun _ _ _ h => h) (by rfl) (fun _ _ => by go_simp) (G1.out) ?_
                      simp only [Act.put, List.setIfInBounds_toArray, List.set_cons_zero, List.set_cons_succ]
                      refine wpAnyHTake 14 (some 102) (.int .i64 z1) rfl rfl (by kernel_rfl) (by kernel_rfl) (by kernel_rfl) (fun _ _ _ h => h) (by rfl) (fun W hW => by obtain ⟨_, c4, c5⟩ := hW; go_simp) (G1.out) ?_
                      simp only [Act.put, List.setIfInBounds_toArray, List.set_cons_zero, List.set_cons_succ]
                      refine wpAnyHCall 15 (some 103) 46 #[.agg #[.int .i64 k, .bool nx, .int .i64 row, .int .i64 pas], .int .i64 x0, .int .i64 z1] (by kernel_rfl) rfl rfl (by rfl) (by go_simp) (rbetween_any k row pas x0 z1 nx _ k1 k2 (by omega) (by omega) (by omega) (by omega)) ?_
                      rintro e V2 ⟨rfl, hb⟩
                      have G2 := Lib.hid (show StyAt V2 w.heap.size k nx row pas ∧ V2.cell? ⟨b1, o1 + kk * 2, none⟩ = some (.int .i64 x0) ∧ V2.cell? ⟨b1, o1 + (kk + n - 1) * 2 + 1, none⟩ = some (.int .i64 z1) from ⟨G1.out.1.below hb (by omega), (hb.cell (p := ⟨b1, o1 + kk * 2, none⟩) hb1v).trans G1.out.2.1, (hb.cell (p := ⟨b1, o1 + (kk + n - 1) * 2 + 1, none⟩) hb1v).trans G1.out.2.2⟩)
                      have HB2 := Lib.hid (HBV.out.trans (hb.mono (by omega)))
                      have hz2 : w.heap.size + 1 ≤ V2.heap.size := by have := hb.size; omega
                      clear hb HBV G1
                      refine ⟨_, rfl, G2.out, ?_⟩
                      have ZE := Lib.hid (show (bs (betweenL k x0 z1)).size ≤ 7 by rw [bs_size]; exact betweenL_len _ _ _)
                      generalize hE : bs (betweenL k x0 z1) = E at *
                      have HE := Lib.hid hE
                      clear hE
                      have ZE2 := Lib.hid (show (SA ++ E).size ≤ 2000100 by have h1 := ZS.out; have h2 := ZE.out; rw [ByteArray.size_append]; omega)
                      simp only [Act.put, List.setIfInBounds_toArray, List.set_cons_zero, List.set_cons_succ]
                      refine wpAnyHTake 16 (some 104) (.string (SA ++ E)) rfl rfl (by kernel_rfl) (by kernel_rfl) (by kernel_rfl) (fun _ _ _ h => h) (by rfl) (fun _ _ => by have h1 := ZS.out; have h2 := ZE.out; go_simp; try omega) (G2.out) ?_
                      simp only [Act.put, List.setIfInBounds_toArray, List.set_cons_zero, List.set_cons_succ]
                      refine wpAnyHTake 17 (some 105) (.string (SA ++ E ++ { data := #[32, 112, 97, 115, 115, 105, 109] })) rfl rfl (by kernel_rfl) (by kernel_rfl) (by kernel_rfl) (fun _ _ _ h => h) (by rfl) (fun _ _ => by have h1 := ZS.out; have h2 := ZE.out; go_simp; try omega) (G2.out) ?_
                      simp only [Act.put, List.setIfInBounds_toArray, List.set_cons_zero, List.set_cons_succ]
                      refine wpAnyHTake 18 (some 5) (.string (SA ++ E ++ { data := #[32, 112, 97, 115, 115, 105, 109] })) rfl rfl (by kernel_rfl) (by kernel_rfl) (by kernel_rfl) (fun _ _ _ h => h) (by rfl) (fun _ _ => by rfl) (G2.out) ?_
                      simp only [Act.put, List.setIfInBounds_toArray, List.set_cons_zero, List.set_cons_succ]
                      refine wpAnyH_done (by kernel_rfl) ?_ _
                      refine ‹∀ (a : Act) (w : World), Code.wp Tryd.prog _ _ a w → (_ : Act → World → Prop) a w› _ _ ?_
                      go_wp2_with fail
                      go_roundw
                      case rel =>
                        refine ⟨kk + 1, by omega, by omega, by go_num, .inr ⟨by omega, ?_⟩, G2.out.1, HB2.out, hz2⟩
                        rw [← HSA.out, ← HE.out, HPN.out]
                        exact congrArg Value.string (by rw [show ({ data := #[32, 112, 97, 115, 115, 105, 109] } : ByteArray) = bs passimB from rfl, bs_append, bs_append]; rfl)
                      case measure => simp [intOf]; omega
                    · have hPn : P ≠ [] := fun e => hk0 (HP0.out.1 e)
                      have k0 : 0 < (kk : Int) := by omega
                      have HPN := Lib.hid hPn
                      have hcs : (SA ++ { data := #[44, 32] }).size ≤ 2000000 := by rw [ByteArray.size_append]; show SA.size + 2 ≤ _; omega
                      clear hPn hk0
                      have ZS := Lib.hid hcs
                      have zs : SA.size ≤ 2000000 := by rw [ByteArray.size_append] at hcs; omega
                      clear hcs
                      go_wp2_with fail
                      generalize hSC : SA ++ { data := #[44, 32] } = SC at *
                      have HSC := Lib.hid hSC
                      clear hSC s0 s1 s2 s3
                      refine wp_region_held (S := fun W' => StyAt W' w.heap.size k nx row pas ∧ W'.cell? ⟨b1, o1 + kk * 2, none⟩ = some (.int .i64 x0) ∧ W'.cell? ⟨b1, o1 + (kk + n - 1) * 2 + 1, none⟩ = some (.int .i64 z1)) (by kernel_rfl) ?_
                      have hdr : (wr).drew = { wr with drawn := (wr).drawn + 1 } := rfl
                      rw [← hdr]
                      clear hdr
                      have G1 := Lib.hid (show StyAt (wr.drewN 1) w.heap.size k nx row pas ∧ ((wr.drewN 1).cell? ⟨b1, o1 + kk * 2, none⟩ = some (.int .i64 x0) ∧ (wr.drewN 1).cell? ⟨b1, o1 + (kk + n - 1) * 2 + 1, none⟩ = some (.int .i64 z1)) from ⟨HS4.out, HG4.out⟩)
                      have HBV := Lib.hid (Below.dn HB4.out 1)
                      have hszv : w.heap.size + 1 ≤ (wr.drewN 1).heap.size := by have := HZ4.out; exact this
                      have hb1v : b1 < (wr.drewN 1).heap.size := by have : w.heap.size + 1 ≤ (wr.drewN 1).heap.size := hszv; omega
                      change wpAnyH _ _ _ _ _ _ _ _ (wr.drewN 1)
                      generalize wr.drewN 1 = V at *
                      refine wpAnyHTake 0 (some 88) (.string SC) rfl rfl (by kernel_rfl) (by kernel_rfl) (by kernel_rfl) (fun _ _ _ h => h) (by rfl) (fun _ _ => by rfl) (G1.out) ?_
                      simp only [Act.put, List.setIfInBounds_toArray, List.set_cons_zero, List.set_cons_succ]
                      refine wpAnyHTake 1 (some 89) (.agg #[.int .i64 k, .bool nx, .int .i64 row, .int .i64 pas]) rfl rfl (by kernel_rfl) (by kernel_rfl) (by kernel_rfl) (fun _ _ _ h => h) (by rfl) (fun W hW => by obtain ⟨⟨c0, c1, c2, c3⟩, _⟩ := hW; go_simp) (G1.out) ?_
                      simp only [Act.put, List.setIfInBounds_toArray, List.set_cons_zero, List.set_cons_succ]
                      refine wpAnyHTake 2 (some 90) (.slice (some ⟨b1, o1, none⟩) l.length c) rfl rfl (by kernel_rfl) (by kernel_rfl) (by kernel_rfl) (fun _ _ _ h => h) (by rfl) (fun _ _ => by rfl) (G1.out) ?_
                      simp only [Act.put, List.setIfInBounds_toArray, List.set_cons_zero, List.set_cons_succ]
                      refine wpAnyHTake 3 (some 91) (.int .i64 kk) rfl rfl (by kernel_rfl) (by kernel_rfl) (by kernel_rfl) (fun _ _ _ h => h) (by rfl) (fun _ _ => by rfl) (G1.out) ?_
                      simp only [Act.put, List.setIfInBounds_toArray, List.set_cons_zero, List.set_cons_succ]
                      refine wpAnyHTake 4 (some 92) (.pointer (some ⟨b1, o1 + kk * 2, none⟩)) rfl rfl (by kernel_rfl) (by kernel_rfl) (by kernel_rfl) (fun _ _ _ h => h) (by rfl) (fun _ _ => by go_simp) (G1.out) ?_
                      simp only [Act.put, List.setIfInBounds_toArray, List.set_cons_zero, List.set_cons_succ]
                      refine wpAnyHTake 5 (some 93) (.pointer (some ⟨b1, o1 + kk * 2, none⟩)) rfl rfl (by kernel_rfl) (by kernel_rfl) (by kernel_rfl) (fun _ _ _ h => h) (by rfl) (fun _ _ => by go_simp) (G1.out) ?_
                      simp only [Act.put, List.setIfInBounds_toArray, List.set_cons_zero, List.set_cons_succ]
                      refine wpAnyHTake 6 (some 94) (.int .i64 x0) rfl rfl (by kernel_rfl) (by kernel_rfl) (by kernel_rfl) (fun _ _ _ h => h) (by rfl) (fun W hW => by obtain ⟨_, c4, c5⟩ := hW; go_simp) (G1.out) ?_
                      simp only [Act.put, List.setIfInBounds_toArray, List.set_cons_zero, List.set_cons_succ]
                      refine wpAnyHTake 7 (some 95) (.slice (some ⟨b1, o1, none⟩) l.length c) rfl rfl (by kernel_rfl) (by kernel_rfl) (by kernel_rfl) (fun _ _ _ h => h) (by rfl) (fun _ _ => by rfl) (G1.out) ?_
                      simp only [Act.put, List.setIfInBounds_toArray, List.set_cons_zero, List.set_cons_succ]
                      refine wpAnyHTake 8 (some 96) (.int .i64 kk) rfl rfl (by kernel_rfl) (by kernel_rfl) (by kernel_rfl) (fun _ _ _ h => h) (by rfl) (fun _ _ => by rfl) (G1.out) ?_
                      simp only [Act.put, List.setIfInBounds_toArray, List.set_cons_zero, List.set_cons_succ]
                      refine wpAnyHTake 9 (some 97) (.int .i64 n) rfl rfl (by kernel_rfl) (by kernel_rfl) (by kernel_rfl) (fun _ _ _ h => h) (by rfl) (fun _ _ => by rfl) (G1.out) ?_
                      simp only [Act.put, List.setIfInBounds_toArray, List.set_cons_zero, List.set_cons_succ]
                      refine wpAnyHTake 10 (some 98) (.int .i64 ((kk : Int) + (n : Int))) rfl rfl (by kernel_rfl) (by kernel_rfl) (by kernel_rfl) (fun _ _ _ h => h) (by rfl) (fun _ _ => by have h0 := HW1.out; go_simp) (G1.out) ?_
                      simp only [Act.put, List.setIfInBounds_toArray, List.set_cons_zero, List.set_cons_succ]
                      refine wpAnyHTake 11 (some 99) (.int .i64 ((kk + n - 1 : Nat) : Int)) rfl rfl (by kernel_rfl) (by kernel_rfl) (by kernel_rfl) (fun _ _ _ h => h) (by rfl) (fun _ _ => by have h0 := HW2.out; go_simp) (G1.out) ?_
                      simp only [Act.put, List.setIfInBounds_toArray, List.set_cons_zero, List.set_cons_succ]
                      refine wpAnyHTake 12 (some 100) (.pointer (some ⟨b1, o1 + (kk + n - 1) * 2, none⟩)) rfl rfl (by kernel_rfl) (by kernel_rfl) (by kernel_rfl) (fun _ _ _ h => h) (by rfl) (fun _ _ => by have h0 := HW3.out; go_simp) (G1.out) ?_
                      simp only [Act.put, List.setIfInBounds_toArray, List.set_cons_zero, List.set_cons_succ]
                      refine wpAnyHTake 13 (some 101) (.pointer (some ⟨b1, o1 + (kk + n - 1) * 2 + 1, none⟩)) rfl rfl (by kernel_rfl) (by kernel_rfl) (by kernel_rfl) (fun _ _ _ h => h) (by rfl) (fun _ _ => by go_simp) (G1.out) ?_
                      simp only [Act.put, List.setIfInBounds_toArray, List.set_cons_zero, List.set_cons_succ]
                      refine wpAnyHTake 14 (some 102) (.int .i64 z1) rfl rfl (by kernel_rfl) (by kernel_rfl) (by kernel_rfl) (fun _ _ _ h => h) (by rfl) (fun W hW => by obtain ⟨_, c4, c5⟩ := hW; go_simp) (G1.out) ?_
                      simp only [Act.put, List.setIfInBounds_toArray, List.set_cons_zero, List.set_cons_succ]
                      refine wpAnyHCall 15 (some 103) 46 #[.agg #[.int .i64 k, .bool nx, .int .i64 row, .int .i64 pas], .int .i64 x0, .int .i64 z1] (by kernel_rfl) rfl rfl (by rfl) (by go_simp) (rbetween_any k row pas x0 z1 nx _ k1 k2 (by omega) (by omega) (by omega) (by omega)) ?_
                      rintro e V2 ⟨rfl, hb⟩
                      have G2 := Lib.hid (show StyAt V2 w.heap.size k nx row pas ∧ V2.cell? ⟨b1, o1 + kk * 2, none⟩ = some (.int .i64 x0) ∧ V2.cell? ⟨b1, o1 + (kk + n - 1) * 2 + 1, none⟩ = some (.int .i64 z1) from ⟨G1.out.1.below hb (by omega), (hb.cell (p := ⟨b1, o1 + kk * 2, none⟩) hb1v).trans G1.out.2.1, (hb.cell (p := ⟨b1, o1 + (kk + n - 1) * 2 + 1, none⟩) hb1v).trans G1.out.2.2⟩)
                      have HB2 := Lib.hid (HBV.out.trans (hb.mono (by omega)))
                      have hz2 : w.heap.size + 1 ≤ V2.heap.size := by have := hb.size; omega
                      clear hb HBV G1
                      refine ⟨_, rfl, G2.out, ?_⟩
                      have ZE := Lib.hid (show (bs (betweenL k x0 z1)).size ≤ 7 by rw [bs_size]; exact betweenL_len _ _ _)
                      generalize hE : bs (betweenL k x0 z1) = E at *
                      have HE := Lib.hid hE
                      clear hE
                      have ZE2 := Lib.hid (show (SC ++ E).size ≤ 2000100 by have h1 := ZS.out; have h2 := ZE.out; rw [ByteArray.size_append]; omega)
                      simp only [Act.put, List.setIfInBounds_toArray, List.set_cons_zero, List.set_cons_succ]
                      refine wpAnyHTake 16 (some 104) (.string (SC ++ E)) rfl rfl (by kernel_rfl) (by kernel_rfl) (by kernel_rfl) (fun _ _ _ h => h) (by rfl) (fun _ _ => by have h1 := ZS.out; have h2 := ZE.out; go_simp; try omega) (G2.out) ?_
                      simp only [Act.put, List.setIfInBounds_toArray, List.set_cons_zero, List.set_cons_succ]
                      refine wpAnyHTake 17 (some 105) (.string (SC ++ E ++ { data := #[32, 112, 97, 115, 115, 105, 109] })) rfl rfl (by kernel_rfl) (by kernel_rfl) (by kernel_rfl) (fun _ _ _ h => h) (by rfl) (fun _ _ => by have h1 := ZS.out; have h2 := ZE.out; go_simp; try omega) (G2.out) ?_
                      simp only [Act.put, List.setIfInBounds_toArray, List.set_cons_zero, List.set_cons_succ]
                      refine wpAnyHTake 18 (some 5) (.string (SC ++ E ++ { data := #[32, 112, 97, 115, 115, 105, 109] })) rfl rfl (by kernel_rfl) (by kernel_rfl) (by kernel_rfl) (fun _ _ _ h => h) (by rfl) (fun _ _ => by rfl) (G2.out) ?_
                      simp only [Act.put, List.setIfInBounds_toArray, List.set_cons_zero, List.set_cons_succ]
                      refine wpAnyH_done (by kernel_rfl) ?_ _
                      refine ‹∀ (a : Act) (w : World), Code.wp Tryd.prog _ _ a w → (_ : Act → World → Prop) a w› _ _ ?_
                      go_wp2_with fail
                      go_roundw
                      case rel =>
                        refine ⟨kk + 1, by omega, by omega, by go_num, .inr ⟨by omega, ?_⟩, G2.out.1, HB2.out, hz2⟩
                        rw [← HSC.out, ← HSA.out, ← HE.out, joinL_snoc _ _ HPN.out]
                        exact congrArg Value.string (by rw [show ({ data := #[32, 112, 97, 115, 115, 105, 109] } : ByteArray) = bs passimB from rfl, show ({ data := #[44, 32] } : ByteArray) = bs [44, 32] from rfl, bs_append, bs_append, bs_append, List.append_assoc, List.append_assoc]; rfl)
                      case measure => simp [intOf]; omega
                  · have kp : ((kk : Int) == (p : Int)) = false := beq_eq_false_iff_ne.2 (by omega)
                    have k0 : 0 < (kk : Int) := by omega
                    generalize hSA : bs (joinL (P ++ [betweenL k x0 z1 ++ passimB])) = SA at *
                    have HSA := Lib.hid hSA
                    have hs4 := HS4.out
                    obtain ⟨s0, s1, s2, s3⟩ := hs4
                    clear hSA
                    go_wp2_with fail
                    go_roundw
                    case rel => exact ⟨kk + 1, by omega, by omega, by go_num, .inr ⟨by omega, by first | rfl | rw [HSA.out]⟩, HS4.out, HB4.out, hsz3⟩
                    case measure => simp [intOf]; omega
                · have hkk : kk = p + n := by omega
                  rcases hov with ⟨h, _⟩ | ⟨hgt, rfl⟩
                  · omega
                  · have hlt3' : ¬ (kk : Int) < (p : Int) + (n : Int) := by omega
                    have hnew : partsL S l = (P ++ [betweenL k x0 z1 ++ passimB]) ++ partsL S (l.drop (p + n)) := by rw [HPT.out, HSTEP.out, HRP.out, List.append_assoc]
                    have hlen2 : (joinL (P ++ [betweenL k x0 z1 ++ passimB])).length ≤ 20 * (p + n) := by
                      have hb7 := betweenL_len k x0 z1
                      have hl14 : (betweenL k x0 z1 ++ passimB).length ≤ 14 := by rw [List.length_append]; show _ + 7 ≤ 14; omega
                      by_cases hP : P = []
                      · rw [hP, joinL_one]; omega
                      · rw [joinL_snoc _ _ hP, List.length_append, List.length_cons, List.length_cons]; omega
                    have HNEW := Lib.hid hnew; have HLEN2 := Lib.hid hlen2
                    generalize hSA : bs (joinL (P ++ [betweenL k x0 z1 ++ passimB])) = SA at *
                    have HSA := Lib.hid hSA
                    have HKK := Lib.hid hkk
                    clear hSA hnew hlen2 hkk
                    go_wp2_with fail
                    go_roundw
                    case rel => exact ⟨p + n, P ++ [betweenL k x0 z1 ++ passimB], hn2, by go_num, by first | rfl | rw [HSA.out], by simp; omega, HNEW.out, HLEN2.out, HS4.out, HB4.out, hsz3⟩
                    case measure => simp [intOf]; omega
            · have hrp : rowParts S ((l.drop p).take n) = ((l.drop p).take n).map (elementL S) := by
                rw [rowParts_el (by rw [HS.out, HRL.out]; exact hpas)]
              have HRP := Lib.hid hrp
              have hno : (pas == 0) = true ∨ (n : Int) < pas ∧ (pas == 0) = false := by
                by_cases h : pas = 0
                · exact .inl (by rw [beq_iff_eq]; exact h)
                · exact .inr ⟨by omega, beq_eq_false_iff_ne.2 h⟩
              clear hrp hpas
              go_wp2_with fail
              go_loopw [5, 8] (fun ov iv wr => ∃ kk : Nat, p ≤ kk ∧ kk ≤ p + n ∧ iv = .int .i64 kk ∧ ov = .string (bs (joinL (P ++ ((l.drop p).take (kk - p)).map (elementL S)))) ∧ (joinL (P ++ ((l.drop p).take (kk - p)).map (elementL S))).length ≤ 20 * kk ∧ StyAt wr w.heap.size k nx row pas ∧ Below w.heap.size w wr ∧ w.heap.size + 1 ≤ wr.heap.size) (fun _ iv _ => p + n - (intOf iv).toNat)
              case atStart => exact ⟨p, by omega, by omega, rfl, by simp, by simpa using hPl, HS1.out, HB1.out, hz1⟩
              case round =>
                obtain ⟨kk, hk1, hk2, rfl, rfl, hps, hst, hbl, hsz3⟩ := hrel
                have HS4 := Lib.hid hst; have HB4 := Lib.hid hbl; have HZ4 := Lib.hid hsz3
                by_cases hlt3 : kk < p + n
                · have hlt3' : (kk : Int) < (p : Int) + (n : Int) := by omega
                  obtain ⟨⟨x0, x1⟩, hx⟩ := elem_at (l := l) (k := kk) (by omega)
                  obtain ⟨q0, q1⟩ := F.out _ _ hx
                  have HG4 := Lib.hid (show SpAt wr b1 (o1 + kk * 2) x0 x1 from ⟨(hbl.cell (p := ⟨b1, o1 + kk * 2, none⟩) hb1).trans q0, (hbl.cell (p := ⟨b1, o1 + kk * 2 + 1, none⟩) hb1).trans q1⟩)
                  have hxr := HRT.out _ (List.mem_of_getElem? hx)
                  dsimp only at hxr
                  obtain ⟨hx1, hx2, hx3⟩ := hxr
                  have hnext : P ++ ((l.drop p).take (kk + 1 - p)).map (elementL S) = (P ++ ((l.drop p).take (kk - p)).map (elementL S)) ++ [elementL S (x0, x1)] := by
                    rw [show kk + 1 - p = (kk - p) + 1 by omega, take_succ_at (x := (x0, x1)) (by rw [drop_at, show p + (kk - p) = kk by omega]; exact hx), List.map_append, List.append_assoc]; rfl
                  have HNX := Lib.hid hnext
                  have hnil : (P ++ ((l.drop p).take (kk - p)).map (elementL S)) = [] ↔ kk = 0 := by
                    rw [List.append_eq_nil_iff, HP0.out, List.map_eq_nil_iff]
                    constructor
                    · rintro ⟨h1, h2⟩
                      have := congrArg List.length h2
                      rw [List.length_take, List.length_drop, List.length_nil] at this
                      omega
                    · intro h
                      exact ⟨by omega, by rw [show kk - p = 0 by omega]; rfl⟩
                  have HNIL := Lib.hid hnil
                  have hlk : kk < l.length := by omega
                  have hlki : (kk : Int) < (l.length : Int) := by omega
                  have hk0i : (0 : Int) ≤ (kk : Int) := Int.natCast_nonneg _
                  have HSE := Lib.hid (show elementL S (x0, x1) = elementL ⟨k, nx, row, pas⟩ (x0, x1) by rw [HS.out])
                  generalize hQ : P ++ ((l.drop p).take (kk - p)).map (elementL S) = Q at *
                  have HQ := Lib.hid hQ
                  have HLP := Lib.hid hps
                  rw [← bs_size] at hps
                  generalize hSA : bs (joinL Q) = SA at *
                  have HSA := Lib.hid hSA
                  clear hst hbl q0 q1 hx hnext hnil hQ hSA
                  by_cases hk0 : kk = 0
                  · have hQn : Q = [] := HNIL.out.2 hk0
                    have k0 : (kk : Int) ≤ 0 := by omega
                    have ZS := Lib.hid (show SA.size ≤ 2000000 by omega)
                    have HQN := Lib.hid hQn
                    have hs4 := HS4.out
                    obtain ⟨s0, s1, s2, s3⟩ := hs4
                    clear hQn hk0
                    rcases hno with hno0 | ⟨hno1, hno2⟩
                    all_goals
                      go_wp2_with fail
                      clear s0 s1 s2 s3
                      refine wp_region_held (S := fun W' => StyAt W' w.heap.size k nx row pas ∧ SpAt W' b1 (o1 + kk * 2) x0 x1) (by kernel_rfl) ?_
                      have hdr : (wr).drew = { wr with drawn := (wr).drawn + 1 } := rfl
                      rw [← hdr]
                      clear hdr
                      have G1 := Lib.hid (show StyAt (wr.drewN 1) w.heap.size k nx row pas ∧ SpAt (wr.drewN 1) b1 (o1 + kk * 2) x0 x1 from ⟨HS4.out, HG4.out⟩)
                      have HBV := Lib.hid (Below.dn HB4.out 1)
                      have hszv : w.heap.size + 1 ≤ (wr.drewN 1).heap.size := by have := HZ4.out; exact this
                      have hb1v : b1 < (wr.drewN 1).heap.size := by have : w.heap.size + 1 ≤ (wr.drewN 1).heap.size := hszv; omega
                      change wpAnyH _ _ _ _ _ _ _ _ (wr.drewN 1)
                      generalize wr.drewN 1 = V at *
                      refine wpAnyHTake 0 (some 77) (.string SA) rfl rfl (by kernel_rfl) (by kernel_rfl) (by kernel_rfl) (fun _ _ _ h => h) (by rfl) (fun _ _ => by rfl) (G1.out) ?_
                      simp only [Act.put, List.setIfInBounds_toArray, List.set_cons_zero, List.set_cons_succ]
                      refine wpAnyHTake 1 (some 78) (.agg #[.int .i64 k, .bool nx, .int .i64 row, .int .i64 pas]) rfl rfl (by kernel_rfl) (by kernel_rfl) (by kernel_rfl) (fun _ _ _ h => h) (by rfl) (fun W hW => by obtain ⟨⟨c0, c1, c2, c3⟩, _⟩ := hW; go_simp) (G1.out) ?_
                      simp only [Act.put, List.setIfInBounds_toArray, List.set_cons_zero, List.set_cons_succ]
                      refine wpAnyHTake 2 (some 79) (.slice (some ⟨b1, o1, none⟩) l.length c) rfl rfl (by kernel_rfl) (by kernel_rfl) (by kernel_rfl) (fun _ _ _ h => h) (by rfl) (fun _ _ => by rfl) (G1.out) ?_
                      simp only [Act.put, List.setIfInBounds_toArray, List.set_cons_zero, List.set_cons_succ]
                      refine wpAnyHTake 3 (some 80) (.int .i64 kk) rfl rfl (by kernel_rfl) (by kernel_rfl) (by kernel_rfl) (fun _ _ _ h => h) (by rfl) (fun _ _ => by rfl) (G1.out) ?_
                      simp only [Act.put, List.setIfInBounds_toArray, List.set_cons_zero, List.set_cons_succ]
                      refine wpAnyHTake 4 (some 81) (.pointer (some ⟨b1, o1 + kk * 2, none⟩)) rfl rfl (by kernel_rfl) (by kernel_rfl) (by kernel_rfl) (fun _ _ _ h => h) (by rfl) (fun _ _ => by go_simp) (G1.out) ?_
                      simp only [Act.put, List.setIfInBounds_toArray, List.set_cons_zero, List.set_cons_succ]
                      refine wpAnyHTake 5 (some 82) (.agg #[.int .i64 x0, .int .i64 x1]) rfl rfl (by kernel_rfl) (by kernel_rfl) (by kernel_rfl) (fun _ _ _ h => h) (by rfl) (fun W hW => by obtain ⟨_, c4, c5⟩ := hW; go_simp) (G1.out) ?_
                      simp only [Act.put, List.setIfInBounds_toArray, List.set_cons_zero, List.set_cons_succ]
                      refine wpAnyHCall 6 (some 83) 45 #[.agg #[.int .i64 k, .bool nx, .int .i64 row, .int .i64 pas], .agg #[.int .i64 x0, .int .i64 x1]] (by kernel_rfl) rfl rfl (by rfl) (by go_simp) (relement_any ⟨k, nx, row, pas⟩ (x0, x1) _ k1 k2 r0 r2 hx1 hx2 hx3) ?_
                      rintro e V2 ⟨rfl, hb⟩
                      have G2 := Lib.hid (show StyAt V2 w.heap.size k nx row pas ∧ SpAt V2 b1 (o1 + kk * 2) x0 x1 from ⟨G1.out.1.below hb (by omega), G1.out.2.below hb hb1v⟩)
                      have HB2 := Lib.hid (HBV.out.trans (hb.mono (by omega)))
                      have hz2 : w.heap.size + 1 ≤ V2.heap.size := by have := hb.size; omega
                      clear hb HBV G1
                      refine ⟨_, rfl, G2.out, ?_⟩
                      have ZE := Lib.hid (show (bs (elementL ⟨k, nx, row, pas⟩ (x0, x1))).size ≤ 8 by rw [bs_size]; exact elementL_len _ _)
                      generalize hE : bs (elementL ⟨k, nx, row, pas⟩ (x0, x1)) = E at *
                      have HE := Lib.hid hE
                      clear hE
                      simp only [Act.put, List.setIfInBounds_toArray, List.set_cons_zero, List.set_cons_succ]
                      refine wpAnyHTake 7 (some 84) (.string (SA ++ E)) rfl rfl (by kernel_rfl) (by kernel_rfl) (by kernel_rfl) (fun _ _ _ h => h) (by rfl) (fun _ _ => by have h1 := ZS.out; have h2 := ZE.out; go_simp; try omega) (G2.out) ?_
                      simp only [Act.put, List.setIfInBounds_toArray, List.set_cons_zero, List.set_cons_succ]
                      refine wpAnyHTake 8 (some 5) (.string (SA ++ E)) rfl rfl (by kernel_rfl) (by kernel_rfl) (by kernel_rfl) (fun _ _ _ h => h) (by rfl) (fun _ _ => by rfl) (G2.out) ?_
                      simp only [Act.put, List.setIfInBounds_toArray, List.set_cons_zero, List.set_cons_succ]
                      refine wpAnyH_done (by kernel_rfl) ?_ _
                      refine ‹∀ (a : Act) (w : World), Code.wp Tryd.prog _ _ a w → (_ : Act → World → Prop) a w› _ _ ?_
                      go_wp2_with fail
                      go_roundw
                      case rel =>
                        refine ⟨kk + 1, by omega, by omega, by go_num, ?_, ?_, G2.out.1, HB2.out, hz2⟩
                        · rw [HNX.out, ← HSA.out, ← HE.out, HQN.out, HSE.out]
                          exact congrArg Value.string (by rw [bs_append]; rfl)
                        · rw [HNX.out, HQN.out, joinL_one]; have := elementL_len S (x0, x1); omega
                      case measure => simp [intOf]; omega
                  · have hQn : Q ≠ [] := fun e => hk0 (HNIL.out.1 e)
                    have k0 : 0 < (kk : Int) := by omega
                    have HQN := Lib.hid hQn
                    have hcs : (SA ++ { data := #[44, 32] }).size ≤ 2000010 := by rw [ByteArray.size_append]; show SA.size + 2 ≤ _; omega
                    have ZS := Lib.hid hcs
                    have zs : SA.size ≤ 2000000 := by omega
                    have hs4 := HS4.out
                    obtain ⟨s0, s1, s2, s3⟩ := hs4
                    clear hQn hk0 hcs
                    by_cases hkp : kk = p
                    · have kpe : ((kk : Int) == (p : Int)) = true := by rw [beq_iff_eq]; omega
                      have HKP := Lib.hid hkp
                      clear hkp
                      rcases hno with hno0 | ⟨hno1, hno2⟩
                      all_goals
                        go_wp2_with fail
                        clear s0 s1 s2 s3
                        generalize hSC : SA ++ { data := #[44, 32] } = SC at *
                        have HSC := Lib.hid hSC
                        clear hSC
                        refine wp_region_held (S := fun W' => StyAt W' w.heap.size k nx row pas ∧ SpAt W' b1 (o1 + kk * 2) x0 x1) (by kernel_rfl) ?_
                        have hdr : (wr).drew = { wr with drawn := (wr).drawn + 1 } := rfl
                        rw [← hdr]
                        clear hdr
                        have G1 := Lib.hid (show StyAt (wr.drewN 1) w.heap.size k nx row pas ∧ SpAt (wr.drewN 1) b1 (o1 + kk * 2) x0 x1 from ⟨HS4.out, HG4.out⟩)
                        have HBV := Lib.hid (Below.dn HB4.out 1)
                        have hszv : w.heap.size + 1 ≤ (wr.drewN 1).heap.size := by have := HZ4.out; exact this
                        have hb1v : b1 < (wr.drewN 1).heap.size := by have : w.heap.size + 1 ≤ (wr.drewN 1).heap.size := hszv; omega
                        change wpAnyH _ _ _ _ _ _ _ _ (wr.drewN 1)
                        generalize wr.drewN 1 = V at *
                        refine wpAnyHTake 0 (some 77) (.string SC) rfl rfl (by kernel_rfl) (by kernel_rfl) (by kernel_rfl) (fun _ _ _ h => h) (by rfl) (fun _ _ => by rfl) (G1.out) ?_
                        simp only [Act.put, List.setIfInBounds_toArray, List.set_cons_zero, List.set_cons_succ]
                        refine wpAnyHTake 1 (some 78) (.agg #[.int .i64 k, .bool nx, .int .i64 row, .int .i64 pas]) rfl rfl (by kernel_rfl) (by kernel_rfl) (by kernel_rfl) (fun _ _ _ h => h) (by rfl) (fun W hW => by obtain ⟨⟨c0, c1, c2, c3⟩, _⟩ := hW; go_simp) (G1.out) ?_
                        simp only [Act.put, List.setIfInBounds_toArray, List.set_cons_zero, List.set_cons_succ]
                        refine wpAnyHTake 2 (some 79) (.slice (some ⟨b1, o1, none⟩) l.length c) rfl rfl (by kernel_rfl) (by kernel_rfl) (by kernel_rfl) (fun _ _ _ h => h) (by rfl) (fun _ _ => by rfl) (G1.out) ?_
                        simp only [Act.put, List.setIfInBounds_toArray, List.set_cons_zero, List.set_cons_succ]
                        refine wpAnyHTake 3 (some 80) (.int .i64 kk) rfl rfl (by kernel_rfl) (by kernel_rfl) (by kernel_rfl) (fun _ _ _ h => h) (by rfl) (fun _ _ => by rfl) (G1.out) ?_
                        simp only [Act.put, List.setIfInBounds_toArray, List.set_cons_zero, List.set_cons_succ]
                        refine wpAnyHTake 4 (some 81) (.pointer (some ⟨b1, o1 + kk * 2, none⟩)) rfl rfl (by kernel_rfl) (by kernel_rfl) (by kernel_rfl) (fun _ _ _ h => h) (by rfl) (fun _ _ => by go_simp) (G1.out) ?_
                        simp only [Act.put, List.setIfInBounds_toArray, List.set_cons_zero, List.set_cons_succ]
                        refine wpAnyHTake 5 (some 82) (.agg #[.int .i64 x0, .int .i64 x1]) rfl rfl (by kernel_rfl) (by kernel_rfl) (by kernel_rfl) (fun _ _ _ h => h) (by rfl) (fun W hW => by obtain ⟨_, c4, c5⟩ := hW; go_simp) (G1.out) ?_
                        simp only [Act.put, List.setIfInBounds_toArray, List.set_cons_zero, List.set_cons_succ]
                        refine wpAnyHCall 6 (some 83) 45 #[.agg #[.int .i64 k, .bool nx, .int .i64 row, .int .i64 pas], .agg #[.int .i64 x0, .int .i64 x1]] (by kernel_rfl) rfl rfl (by rfl) (by go_simp) (relement_any ⟨k, nx, row, pas⟩ (x0, x1) _ k1 k2 r0 r2 hx1 hx2 hx3) ?_
                        rintro e V2 ⟨rfl, hb⟩
                        have G2 := Lib.hid (show StyAt V2 w.heap.size k nx row pas ∧ SpAt V2 b1 (o1 + kk * 2) x0 x1 from ⟨G1.out.1.below hb (by omega), G1.out.2.below hb hb1v⟩)
                        have HB2 := Lib.hid (HBV.out.trans (hb.mono (by omega)))
                        have hz2 : w.heap.size + 1 ≤ V2.heap.size := by have := hb.size; omega
                        clear hb HBV G1
                        refine ⟨_, rfl, G2.out, ?_⟩
                        have ZE := Lib.hid (show (bs (elementL ⟨k, nx, row, pas⟩ (x0, x1))).size ≤ 8 by rw [bs_size]; exact elementL_len _ _)
                        generalize hE : bs (elementL ⟨k, nx, row, pas⟩ (x0, x1)) = E at *
                        have HE := Lib.hid hE
                        clear hE
                        simp only [Act.put, List.setIfInBounds_toArray, List.set_cons_zero, List.set_cons_succ]
                        refine wpAnyHTake 7 (some 84) (.string (SC ++ E)) rfl rfl (by kernel_rfl) (by kernel_rfl) (by kernel_rfl) (fun _ _ _ h => h) (by rfl) (fun _ _ => by have h1 := ZS.out; have h2 := ZE.out; go_simp; try omega) (G2.out) ?_
                        simp only [Act.put, List.setIfInBounds_toArray, List.set_cons_zero, List.set_cons_succ]
                        refine wpAnyHTake 8 (some 5) (.string (SC ++ E)) rfl rfl (by kernel_rfl) (by kernel_rfl) (by kernel_rfl) (fun _ _ _ h => h) (by rfl) (fun _ _ => by rfl) (G2.out) ?_
                        simp only [Act.put, List.setIfInBounds_toArray, List.set_cons_zero, List.set_cons_succ]
                        refine wpAnyH_done (by kernel_rfl) ?_ _
                        refine ‹∀ (a : Act) (w : World), Code.wp Tryd.prog _ _ a w → (_ : Act → World → Prop) a w› _ _ ?_
                        go_wp2_with fail
                        go_roundw
                        case rel =>
                          refine ⟨kk + 1, by omega, by omega, by go_num, ?_, ?_, G2.out.1, HB2.out, hz2⟩
                          · rw [HNX.out, ← HSC.out, ← HSA.out, ← HE.out, HSE.out, joinL_snoc _ _ HQN.out]
                            exact congrArg Value.string (by rw [show ({ data := #[44, 32] } : ByteArray) = bs [44, 32] from rfl, bs_append, bs_append, List.append_assoc]; rfl)
                          · rw [HNX.out, joinL_snoc _ _ HQN.out, List.length_append, List.length_cons, List.length_cons]; have := elementL_len S (x0, x1); have := HLP.out; omega
                        case measure => simp [intOf]; omega
                    · have kpe : ((kk : Int) == (p : Int)) = false := beq_eq_false_iff_ne.2 (by omega)
                      have HKP := Lib.hid hkp
                      clear hkp
                      rcases hno with hno0 | ⟨hno1, hno2⟩
                      all_goals
                        go_wp2_with fail
                        clear s0 s1 s2 s3
                        generalize hSC : SA ++ { data := #[44, 32] } = SC at *
                        have HSC := Lib.hid hSC
                        clear hSC
                        refine wp_region_held (S := fun W' => StyAt W' w.heap.size k nx row pas ∧ SpAt W' b1 (o1 + kk * 2) x0 x1) (by kernel_rfl) ?_
                        have hdr : (wr).drew = { wr with drawn := (wr).drawn + 1 } := rfl
                        rw [← hdr]
                        clear hdr
                        have G1 := Lib.hid (show StyAt (wr.drewN 1) w.heap.size k nx row pas ∧ SpAt (wr.drewN 1) b1 (o1 + kk * 2) x0 x1 from ⟨HS4.out, HG4.out⟩)
                        have HBV := Lib.hid (Below.dn HB4.out 1)
                        have hszv : w.heap.size + 1 ≤ (wr.drewN 1).heap.size := by have := HZ4.out; exact this
                        have hb1v : b1 < (wr.drewN 1).heap.size := by have : w.heap.size + 1 ≤ (wr.drewN 1).heap.size := hszv; omega
                        change wpAnyH _ _ _ _ _ _ _ _ (wr.drewN 1)
                        generalize wr.drewN 1 = V at *
                        refine wpAnyHTake 0 (some 77) (.string SC) rfl rfl (by kernel_rfl) (by kernel_rfl) (by kernel_rfl) (fun _ _ _ h => h) (by rfl) (fun _ _ => by rfl) (G1.out) ?_
                        simp only [Act.put, List.setIfInBounds_toArray, List.set_cons_zero, List.set_cons_succ]
                        refine wpAnyHTake 1 (some 78) (.agg #[.int .i64 k, .bool nx, .int .i64 row, .int .i64 pas]) rfl rfl (by kernel_rfl) (by kernel_rfl) (by kernel_rfl) (fun _ _ _ h => h) (by rfl) (fun W hW => by obtain ⟨⟨c0, c1, c2, c3⟩, _⟩ := hW; go_simp) (G1.out) ?_
                        simp only [Act.put, List.setIfInBounds_toArray, List.set_cons_zero, List.set_cons_succ]
                        refine wpAnyHTake 2 (some 79) (.slice (some ⟨b1, o1, none⟩) l.length c) rfl rfl (by kernel_rfl) (by kernel_rfl) (by kernel_rfl) (fun _ _ _ h => h) (by rfl) (fun _ _ => by rfl) (G1.out) ?_
                        simp only [Act.put, List.setIfInBounds_toArray, List.set_cons_zero, List.set_cons_succ]
                        refine wpAnyHTake 3 (some 80) (.int .i64 kk) rfl rfl (by kernel_rfl) (by kernel_rfl) (by kernel_rfl) (fun _ _ _ h => h) (by rfl) (fun _ _ => by rfl) (G1.out) ?_
                        simp only [Act.put, List.setIfInBounds_toArray, List.set_cons_zero, List.set_cons_succ]
                        refine wpAnyHTake 4 (some 81) (.pointer (some ⟨b1, o1 + kk * 2, none⟩)) rfl rfl (by kernel_rfl) (by kernel_rfl) (by kernel_rfl) (fun _ _ _ h => h) (by rfl) (fun _ _ => by go_simp) (G1.out) ?_
                        simp only [Act.put, List.setIfInBounds_toArray, List.set_cons_zero, List.set_cons_succ]
                        refine wpAnyHTake 5 (some 82) (.agg #[.int .i64 x0, .int .i64 x1]) rfl rfl (by kernel_rfl) (by kernel_rfl) (by kernel_rfl) (fun _ _ _ h => h) (by rfl) (fun W hW => by obtain ⟨_, c4, c5⟩ := hW; go_simp) (G1.out) ?_
                        simp only [Act.put, List.setIfInBounds_toArray, List.set_cons_zero, List.set_cons_succ]
                        refine wpAnyHCall 6 (some 83) 45 #[.agg #[.int .i64 k, .bool nx, .int .i64 row, .int .i64 pas], .agg #[.int .i64 x0, .int .i64 x1]] (by kernel_rfl) rfl rfl (by rfl) (by go_simp) (relement_any ⟨k, nx, row, pas⟩ (x0, x1) _ k1 k2 r0 r2 hx1 hx2 hx3) ?_
                        rintro e V2 ⟨rfl, hb⟩
                        have G2 := Lib.hid (show StyAt V2 w.heap.size k nx row pas ∧ SpAt V2 b1 (o1 + kk * 2) x0 x1 from ⟨G1.out.1.below hb (by omega), G1.out.2.below hb hb1v⟩)
                        have HB2 := Lib.hid (HBV.out.trans (hb.mono (by omega)))
                        have hz2 : w.heap.size + 1 ≤ V2.heap.size := by have := hb.size; omega
                        clear hb HBV G1
                        refine ⟨_, rfl, G2.out, ?_⟩
                        have ZE := Lib.hid (show (bs (elementL ⟨k, nx, row, pas⟩ (x0, x1))).size ≤ 8 by rw [bs_size]; exact elementL_len _ _)
                        generalize hE : bs (elementL ⟨k, nx, row, pas⟩ (x0, x1)) = E at *
                        have HE := Lib.hid hE
                        clear hE
                        simp only [Act.put, List.setIfInBounds_toArray, List.set_cons_zero, List.set_cons_succ]
                        refine wpAnyHTake 7 (some 84) (.string (SC ++ E)) rfl rfl (by kernel_rfl) (by kernel_rfl) (by kernel_rfl) (fun _ _ _ h => h) (by rfl) (fun _ _ => by have h1 := ZS.out; have h2 := ZE.out; go_simp; try omega) (G2.out) ?_
                        simp only [Act.put, List.setIfInBounds_toArray, List.set_cons_zero, List.set_cons_succ]
                        refine wpAnyHTake 8 (some 5) (.string (SC ++ E)) rfl rfl (by kernel_rfl) (by kernel_rfl) (by kernel_rfl) (fun _ _ _ h => h) (by rfl) (fun _ _ => by rfl) (G2.out) ?_
                        simp only [Act.put, List.setIfInBounds_toArray, List.set_cons_zero, List.set_cons_succ]
                        refine wpAnyH_done (by kernel_rfl) ?_ _
                        refine ‹∀ (a : Act) (w : World), Code.wp Tryd.prog _ _ a w → (_ : Act → World → Prop) a w› _ _ ?_
                        go_wp2_with fail
                        go_roundw
                        case rel =>
                          refine ⟨kk + 1, by omega, by omega, by go_num, ?_, ?_, G2.out.1, HB2.out, hz2⟩
                          · rw [HNX.out, ← HSC.out, ← HSA.out, ← HE.out, HSE.out, joinL_snoc _ _ HQN.out]
                            exact congrArg Value.string (by rw [show ({ data := #[44, 32] } : ByteArray) = bs [44, 32] from rfl, bs_append, bs_append, List.append_assoc]; rfl)
                          · rw [HNX.out, joinL_snoc _ _ HQN.out, List.length_append, List.length_cons, List.length_cons]; have := elementL_len S (x0, x1); have := HLP.out; omega
                        case measure => simp [intOf]; omega
                · have hkk : kk = p + n := by omega
                  subst hkk
                  have hlt3' : ¬ ((p + n : Nat) : Int) < (p : Int) + (n : Int) := by omega
                  have hnew : partsL S l = (P ++ ((l.drop p).take (p + n - p)).map (elementL S)) ++ partsL S (l.drop (p + n)) := by rw [HPT.out, HSTEP.out, HRP.out, List.append_assoc, show p + n - p = n by omega]
                  have hnn : (P ++ ((l.drop p).take (p + n - p)).map (elementL S)) = [] ↔ p + n = 0 := by
                    rw [List.append_eq_nil_iff, List.map_eq_nil_iff, show p + n - p = n by omega]
                    constructor
                    · rintro ⟨_, h2⟩
                      have := congrArg List.length h2
                      rw [HRL.out] at this
                      simp at this
                      omega
                    · intro h; omega
                  have HNEW := Lib.hid hnew; have HNN := Lib.hid hnn; have HLEN2 := Lib.hid hps
                  generalize P ++ ((l.drop p).take (p + n - p)).map (elementL S) = Q at *
                  generalize hSA : bs (joinL Q) = SA at *
                  have HSA := Lib.hid hSA
                  clear hSA hnew hnn hst hbl
                  go_wp2_with fail
                  go_roundw
                  case rel => exact ⟨p + n, Q, hn2, by go_num, by first | rfl | rw [HSA.out], HNN.out, HNEW.out, HLEN2.out, HS4.out, HB4.out, hsz3⟩
                  case measure => simp [intOf]; omega
        · have hrow : rowN (l.drop p) = n := rowN_walk hn1 hn2 HCH.out (.inl (by omega))
          have HROW := Lib.hid hrow
          have hd : decide ((p : Int) + (n : Int) < (l.length : Int)) = false := decide_eq_false (by omega)
          clear hrow
          go_wp2_with fail
          go_quiet (fail)
          clear hd
          have HB1 := Lib.hid (Below.dn (Below.dn HBL.out nq0) nq)
          have HS1 := Lib.hid (show StyAt ((wo.drewN nq0).drewN nq) w.heap.size k nx row pas from HST.out)
          have hz1 : w.heap.size + 1 ≤ ((wo.drewN nq0).drewN nq).heap.size := hsz
          generalize (wo.drewN nq0).drewN nq = W1 at *
          have hstep : partsL S (l.drop p) = rowParts S ((l.drop p).take n) ++ partsL S (l.drop (p + n)) := by
            rw [partsL_step S (by intro e; have := congrArg List.length e; rw [List.length_drop, List.length_nil] at this; omega), HROW.out, List.drop_drop]
          have HSTEP := Lib.hid hstep
          have hrl : ((l.drop p).take n).length = n := row_len hn2
          have HRL := Lib.hid hrl
          clear hstep hrl
          by_cases hpas : 0 < pas ∧ pas ≤ (n : Int)
          · obtain ⟨hpa, hpb⟩ := hpas
            obtain ⟨⟨x0, x1⟩, hx⟩ := elem_at hlt
            obtain ⟨⟨z0, z1⟩, hz⟩ := elem_at (l := l) (k := p + n - 1) (by omega)
            have hrp : rowParts S ((l.drop p).take n) = [betweenL k x0 z1 ++ passimB] := by
              rw [HS.out, rowParts_pas (s := ⟨k, nx, row, pas⟩) hpa (by rw [HRL.out]; exact hpb), headS_at hx hn1, lastS_at hz hn1 hn2]
            have HRP := Lib.hid hrp
            obtain ⟨q0, q1⟩ := F.out _ _ hx
            obtain ⟨t0, t1⟩ := F.out _ _ hz
            have hxr := HRT.out _ (List.mem_of_getElem? hx)
            have hzr := HRT.out _ (List.mem_of_getElem? hz)
            dsimp only at hxr hzr q0 q1 t0 t1
            obtain ⟨hx1, hx2, hx3⟩ := hxr
            obtain ⟨hy1, hy2, hy3⟩ := hzr
            have HQ := Lib.hid q0; have HT := Lib.hid t1
            have pn : (pas == 0) = false := beq_eq_false_iff_ne.2 (by omega)
            have HW1 := Lib.hid (show IntKind.i64.wrap ((p : Int) + (n : Int)) = (p : Int) + (n : Int) from IntWalk.i64_in _ (by omega))
            have hsub : (p : Int) + (n : Int) - 1 = ((p + n - 1 : Nat) : Int) := by omega
            have HW2 := Lib.hid (show IntKind.i64.wrap ((p : Int) + (n : Int) - 1) = ((p + n - 1 : Nat) : Int) by rw [hsub]; exact IntWalk.i64_in _ (by omega))
            have HW3 := Lib.hid (show ((p + n - 1 : Nat) : Int) < (l.length : Int) ∧ p + n - 1 < l.length by omega)
            clear q0 q1 t0 t1 hx hz hrp hsub
            go_wp2_with fail
            go_loopw [5, 8] (fun ov iv wr => ∃ kk : Nat, p ≤ kk ∧ kk ≤ p + n ∧ iv = .int .i64 kk ∧ ((kk = p ∧ ov = .string (bs (joinL P))) ∨ (p < kk ∧ ov = .string (bs (joinL (P ++ [betweenL k x0 z1 ++ passimB]))))) ∧ StyAt wr w.heap.size k nx row pas ∧ Below w.heap.size w wr ∧ w.heap.size + 1 ≤ wr.heap.size) (fun _ iv _ => p + n - (intOf iv).toNat)
            case atStart => exact ⟨p, by omega, by omega, rfl, .inl ⟨rfl, rfl⟩, HS1.out, HB1.out, hz1⟩
            case round =>
              obtain ⟨kk, hk1, hk2, rfl, hov, hst, hbl, hsz3⟩ := hrel
              have HS4 := Lib.hid hst; have HB4 := Lib.hid hbl; have HZ4 := Lib.hid hsz3
              clear hst hbl
              by_cases hlt3 : kk < p + n
              · have hlt3' : (kk : Int) < (p : Int) + (n : Int) := by omega
                rcases hov with ⟨rfl, rfl⟩ | ⟨hgt, rfl⟩
                · have HG4 := Lib.hid (show wr.cell? ⟨b1, o1 + kk * 2, none⟩ = some (.int .i64 x0) ∧ wr.cell? ⟨b1, o1 + (kk + n - 1) * 2 + 1, none⟩ = some (.int .i64 z1) from ⟨(HB4.out.cell (p := ⟨b1, o1 + kk * 2, none⟩) hb1).trans HQ.out, (HB4.out.cell (p := ⟨b1, o1 + (kk + n - 1) * 2 + 1, none⟩) hb1).trans HT.out⟩)
                  have hps := hPl
                  rw [← bs_size] at hps
                  generalize hSA : bs (joinL P) = SA at *
                  have HSA := Lib.hid hSA
                  have hs4 := HS4.out
                  obtain ⟨s0, s1, s2, s3⟩ := hs4
                  clear hSA
                  by_cases hk0 : kk = 0
                  · have hPn : P = [] := HP0.out.2 hk0
                    have k0 : (kk : Int) ≤ 0 := by omega
                    have ZS := Lib.hid (show SA.size ≤ 2000000 by omega)
                    have HPN := Lib.hid hPn
                    have HK0 := Lib.hid hk0
                    clear hPn hk0
                    go_wp2_with fail
                    clear s0 s1 s2 s3
                    refine wp_region_held (S := fun W' => StyAt W' w.heap.size k nx row pas ∧ W'.cell? ⟨b1, o1 + kk * 2, none⟩ = some (.int .i64 x0) ∧ W'.cell? ⟨b1, o1 + (kk + n - 1) * 2 + 1, none⟩ = some (.int .i64 z1)) (by kernel_rfl) ?_
                    have hdr : (wr).drew = { wr with drawn := (wr).drawn + 1 } := rfl
                    rw [← hdr]
                    clear hdr
                    have G1 := Lib.hid (show StyAt (wr.drewN 1) w.heap.size k nx row pas ∧ ((wr.drewN 1).cell? ⟨b1, o1 + kk * 2, none⟩ = some (.int .i64 x0) ∧ (wr.drewN 1).cell? ⟨b1, o1 + (kk + n - 1) * 2 + 1, none⟩ = some (.int .i64 z1)) from ⟨HS4.out, HG4.out⟩)
                    have HBV := Lib.hid (Below.dn HB4.out 1)
                    have hszv : w.heap.size + 1 ≤ (wr.drewN 1).heap.size := by have := HZ4.out; exact this
                    have hb1v : b1 < (wr.drewN 1).heap.size := by have : w.heap.size + 1 ≤ (wr.drewN 1).heap.size := hszv; omega
                    change wpAnyH _ _ _ _ _ _ _ _ (wr.drewN 1)
                    generalize wr.drewN 1 = V at *
                    refine wpAnyHTake 0 (some 88) (.string SA) rfl rfl (by kernel_rfl) (by kernel_rfl) (by kernel_rfl) (fun _ _ _ h => h) (by rfl) (fun _ _ => by rfl) (G1.out) ?_
                    simp only [Act.put, List.setIfInBounds_toArray, List.set_cons_zero, List.set_cons_succ]
                    refine wpAnyHTake 1 (some 89) (.agg #[.int .i64 k, .bool nx, .int .i64 row, .int .i64 pas]) rfl rfl (by kernel_rfl) (by kernel_rfl) (by kernel_rfl) (fun _ _ _ h => h) (by rfl) (fun W hW => by obtain ⟨⟨c0, c1, c2, c3⟩, _⟩ := hW; go_simp) (G1.out) ?_
                    simp only [Act.put, List.setIfInBounds_toArray, List.set_cons_zero, List.set_cons_succ]
                    refine wpAnyHTake 2 (some 90) (.slice (some ⟨b1, o1, none⟩) l.length c) rfl rfl (by kernel_rfl) (by kernel_rfl) (by kernel_rfl) (fun _ _ _ h => h) (by rfl) (fun _ _ => by rfl) (G1.out) ?_
                    simp only [Act.put, List.setIfInBounds_toArray, List.set_cons_zero, List.set_cons_succ]
                    refine wpAnyHTake 3 (some 91) (.int .i64 kk) rfl rfl (by kernel_rfl) (by kernel_rfl) (by kernel_rfl) (fun _ _ _ h => h) (by rfl) (fun _ _ => by rfl) (G1.out) ?_
                    simp only [Act.put, List.setIfInBounds_toArray, List.set_cons_zero, List.set_cons_succ]
                    refine wpAnyHTake 4 (some 92) (.pointer (some ⟨b1, o1 + kk * 2, none⟩)) rfl rfl (by kernel_rfl) (by kernel_rfl) (by kernel_rfl) (fun _ _ _ h => h) (by rfl) (fun _ _ => by go_simp) (G1.out) ?_
                    simp only [Act.put, List.setIfInBounds_toArray, List.set_cons_zero, List.set_cons_succ]
                    refine wpAnyHTake 5 (some 93) (.pointer (some ⟨b1, o1 + kk * 2, none⟩)) rfl rfl (by kernel_rfl) (by kernel_rfl) (by kernel_rfl) (fun _ _ _ h => h) (by rfl) (fun _ _ => by go_simp) (G1.out) ?_
                    simp only [Act.put, List.setIfInBounds_toArray, List.set_cons_zero, List.set_cons_succ]
                    refine wpAnyHTake 6 (some 94) (.int .i64 x0) rfl rfl (by kernel_rfl) (by kernel_rfl) (by kernel_rfl) (fun _ _ _ h => h) (by rfl) (fun W hW => by obtain ⟨_, c4, c5⟩ := hW; go_simp) (G1.out) ?_
                    simp only [Act.put, List.setIfInBounds_toArray, List.set_cons_zero, List.set_cons_succ]
                    refine wpAnyHTake 7 (some 95) (.slice (some ⟨b1, o1, none⟩) l.length c) rfl rfl (by kernel_rfl) (by kernel_rfl) (by kernel_rfl) (fun _ _ _ h => h) (by rfl) (fun _ _ => by rfl) (G1.out) ?_
                    simp only [Act.put, List.setIfInBounds_toArray, List.set_cons_zero, List.set_cons_succ]
                    refine wpAnyHTake 8 (some 96) (.int .i64 kk) rfl rfl (by kernel_rfl) (by kernel_rfl) (by kernel_rfl) (fun _ _ _ h => h) (by rfl) (fun _ _ => by rfl) (G1.out) ?_
                    simp only [Act.put, List.setIfInBounds_toArray, List.set_cons_zero, List.set_cons_succ]
                    refine wpAnyHTake 9 (some 97) (.int .i64 n) rfl rfl (by kernel_rfl) (by kernel_rfl) (by kernel_rfl) (fun _ _ _ h => h) (by rfl) (fun _ _ => by rfl) (G1.out) ?_
                    simp only [Act.put, List.setIfInBounds_toArray, List.set_cons_zero, List.set_cons_succ]
                    refine wpAnyHTake 10 (some 98) (.int .i64 ((kk : Int) + (n : Int))) rfl rfl (by kernel_rfl) (by kernel_rfl) (by kernel_rfl) (fun _ _ _ h => h) (by rfl) (fun _ _ => by have h0 := HW1.out; go_simp) (G1.out) ?_
                    simp only [Act.put, List.setIfInBounds_toArray, List.set_cons_zero, List.set_cons_succ]
                    refine wpAnyHTake 11 (some 99) (.int .i64 ((kk + n - 1 : Nat) : Int)) rfl rfl (by kernel_rfl) (by kernel_rfl) (by kernel_rfl) (fun _ _ _ h => h) (by rfl) (fun _ _ => by have h0 := HW2.out; go_simp) (G1.out) ?_
                    simp only [Act.put, List.setIfInBounds_toArray, List.set_cons_zero, List.set_cons_succ]
                    refine wpAnyHTake 12 (some 100) (.pointer (some ⟨b1, o1 + (kk + n - 1) * 2, none⟩)) rfl rfl (by kernel_rfl) (by kernel_rfl) (by kernel_rfl) (fun _ _ _ h => h) (by rfl) (fun _ _ => by have h0 := HW3.out; go_simp) (G1.out) ?_
                    simp only [Act.put, List.setIfInBounds_toArray, List.set_cons_zero, List.set_cons_succ]
                    refine wpAnyHTake 13 (some 101) (.pointer (some ⟨b1, o1 + (kk + n - 1) * 2 + 1, none⟩)) rfl rfl (by kernel_rfl) (by kernel_rfl) (by kernel_rfl) (fun _ _ _ h => h) (by rfl) (fun _ _ => by go_simp) (G1.out) ?_
                    simp only [Act.put, List.setIfInBounds_toArray, List.set_cons_zero, List.set_cons_succ]
                    refine wpAnyHTake 14 (some 102) (.int .i64 z1) rfl rfl (by kernel_rfl) (by kernel_rfl) (by kernel_rfl) (fun _ _ _ h => h) (by rfl) (fun W hW => by obtain ⟨_, c4, c5⟩ := hW; go_simp) (G1.out) ?_
                    simp only [Act.put, List.setIfInBounds_toArray, List.set_cons_zero, List.set_cons_succ]
                    refine wpAnyHCall 15 (some 103) 46 #[.agg #[.int .i64 k, .bool nx, .int .i64 row, .int .i64 pas], .int .i64 x0, .int .i64 z1] (by kernel_rfl) rfl rfl (by rfl) (by go_simp) (rbetween_any k row pas x0 z1 nx _ k1 k2 (by omega) (by omega) (by omega) (by omega)) ?_
                    rintro e V2 ⟨rfl, hb⟩
                    have G2 := Lib.hid (show StyAt V2 w.heap.size k nx row pas ∧ V2.cell? ⟨b1, o1 + kk * 2, none⟩ = some (.int .i64 x0) ∧ V2.cell? ⟨b1, o1 + (kk + n - 1) * 2 + 1, none⟩ = some (.int .i64 z1) from ⟨G1.out.1.below hb (by omega), (hb.cell (p := ⟨b1, o1 + kk * 2, none⟩) hb1v).trans G1.out.2.1, (hb.cell (p := ⟨b1, o1 + (kk + n - 1) * 2 + 1, none⟩) hb1v).trans G1.out.2.2⟩)
                    have HB2 := Lib.hid (HBV.out.trans (hb.mono (by omega)))
                    have hz2 : w.heap.size + 1 ≤ V2.heap.size := by have := hb.size; omega
                    clear hb HBV G1
                    refine ⟨_, rfl, G2.out, ?_⟩
                    have ZE := Lib.hid (show (bs (betweenL k x0 z1)).size ≤ 7 by rw [bs_size]; exact betweenL_len _ _ _)
                    generalize hE : bs (betweenL k x0 z1) = E at *
                    have HE := Lib.hid hE
                    clear hE
                    have ZE2 := Lib.hid (show (SA ++ E).size ≤ 2000100 by have h1 := ZS.out; have h2 := ZE.out; rw [ByteArray.size_append]; omega)
                    simp only [Act.put, List.setIfInBounds_toArray, List.set_cons_zero, List.set_cons_succ]
                    refine wpAnyHTake 16 (some 104) (.string (SA ++ E)) rfl rfl (by kernel_rfl) (by kernel_rfl) (by kernel_rfl) (fun _ _ _ h => h) (by rfl) (fun _ _ => by have h1 := ZS.out; have h2 := ZE.out; go_simp; try omega) (G2.out) ?_
                    simp only [Act.put, List.setIfInBounds_toArray, List.set_cons_zero, List.set_cons_succ]
                    refine wpAnyHTake 17 (some 105) (.string (SA ++ E ++ { data := #[32, 112, 97, 115, 115, 105, 109] })) rfl rfl (by kernel_rfl) (by kernel_rfl) (by kernel_rfl) (fun _ _ _ h => h) (by rfl) (fun _ _ => by have h1 := ZS.out; have h2 := ZE.out; go_simp; try omega) (G2.out) ?_
                    simp only [Act.put, List.setIfInBounds_toArray, List.set_cons_zero, List.set_cons_succ]
                    refine wpAnyHTake 18 (some 5) (.string (SA ++ E ++ { data := #[32, 112, 97, 115, 115, 105, 109] })) rfl rfl (by kernel_rfl) (by kernel_rfl) (by kernel_rfl) (fun _ _ _ h => h) (by rfl) (fun _ _ => by rfl) (G2.out) ?_
                    simp only [Act.put, List.setIfInBounds_toArray, List.set_cons_zero, List.set_cons_succ]
                    refine wpAnyH_done (by kernel_rfl) ?_ _
                    refine ‹∀ (a : Act) (w : World), Code.wp Tryd.prog _ _ a w → (_ : Act → World → Prop) a w› _ _ ?_
                    go_wp2_with fail
                    go_roundw
                    case rel =>
                      refine ⟨kk + 1, by omega, by omega, by go_num, .inr ⟨by omega, ?_⟩, G2.out.1, HB2.out, hz2⟩
                      rw [← HSA.out, ← HE.out, HPN.out]
                      exact congrArg Value.string (by rw [show ({ data := #[32, 112, 97, 115, 115, 105, 109] } : ByteArray) = bs passimB from rfl, bs_append, bs_append]; rfl)
                    case measure => simp [intOf]; omega
                  · have hPn : P ≠ [] := fun e => hk0 (HP0.out.1 e)
                    have k0 : 0 < (kk : Int) := by omega
                    have HPN := Lib.hid hPn
                    have hcs : (SA ++ { data := #[44, 32] }).size ≤ 2000000 := by rw [ByteArray.size_append]; show SA.size + 2 ≤ _; omega
                    clear hPn hk0
                    have ZS := Lib.hid hcs
                    have zs : SA.size ≤ 2000000 := by rw [ByteArray.size_append] at hcs; omega
                    clear hcs
                    go_wp2_with fail
                    generalize hSC : SA ++ { data := #[44, 32] } = SC at *
                    have HSC := Lib.hid hSC
                    clear hSC s0 s1 s2 s3
                    refine wp_region_held (S := fun W' => StyAt W' w.heap.size k nx row pas ∧ W'.cell? ⟨b1, o1 + kk * 2, none⟩ = some (.int .i64 x0) ∧ W'.cell? ⟨b1, o1 + (kk + n - 1) * 2 + 1, none⟩ = some (.int .i64 z1)) (by kernel_rfl) ?_
                    have hdr : (wr).drew = { wr with drawn := (wr).drawn + 1 } := rfl
                    rw [← hdr]
                    clear hdr
                    have G1 := Lib.hid (show StyAt (wr.drewN 1) w.heap.size k nx row pas ∧ ((wr.drewN 1).cell? ⟨b1, o1 + kk * 2, none⟩ = some (.int .i64 x0) ∧ (wr.drewN 1).cell? ⟨b1, o1 + (kk + n - 1) * 2 + 1, none⟩ = some (.int .i64 z1)) from ⟨HS4.out, HG4.out⟩)
                    have HBV := Lib.hid (Below.dn HB4.out 1)
                    have hszv : w.heap.size + 1 ≤ (wr.drewN 1).heap.size := by have := HZ4.out; exact this
                    have hb1v : b1 < (wr.drewN 1).heap.size := by have : w.heap.size + 1 ≤ (wr.drewN 1).heap.size := hszv; omega
                    change wpAnyH _ _ _ _ _ _ _ _ (wr.drewN 1)
                    generalize wr.drewN 1 = V at *
                    refine wpAnyHTake 0 (some 88) (.string SC) rfl rfl (by kernel_rfl) (by kernel_rfl) (by kernel_rfl) (fun _ _ _ h => h) (by rfl) (fun _ _ => by rfl) (G1.out) ?_
                    simp only [Act.put, List.setIfInBounds_toArray, List.set_cons_zero, List.set_cons_succ]
                    refine wpAnyHTake 1 (some 89) (.agg #[.int .i64 k, .bool nx, .int .i64 row, .int .i64 pas]) rfl rfl (by kernel_rfl) (by kernel_rfl) (by kernel_rfl) (fun _ _ _ h => h) (by rfl) (fun W hW => by obtain ⟨⟨c0, c1, c2, c3⟩, _⟩ := hW; go_simp) (G1.out) ?_
                    simp only [Act.put, List.setIfInBounds_toArray, List.set_cons_zero, List.set_cons_succ]
                    refine wpAnyHTake 2 (some 90) (.slice (some ⟨b1, o1, none⟩) l.length c) rfl rfl (by kernel_rfl) (by kernel_rfl) (by kernel_rfl) (fun _ _ _ h => h) (by rfl) (fun _ _ => by rfl) (G1.out) ?_
                    simp only [Act.put, List.setIfInBounds_toArray, List.set_cons_zero, List.set_cons_succ]
                    refine wpAnyHTake 3 (some 91) (.int .i64 kk) rfl rfl (by kernel_rfl) (by kernel_rfl) (by kernel_rfl) (fun _ _ _ h => h) (by rfl) (fun _ _ => by rfl) (G1.out) ?_
                    simp only [Act.put, List.setIfInBounds_toArray, List.set_cons_zero, List.set_cons_succ]
                    refine wpAnyHTake 4 (some 92) (.pointer (some ⟨b1, o1 + kk * 2, none⟩)) rfl rfl (by kernel_rfl) (by kernel_rfl) (by kernel_rfl) (fun _ _ _ h => h) (by rfl) (fun _ _ => by go_simp) (G1.out) ?_
                    simp only [Act.put, List.setIfInBounds_toArray, List.set_cons_zero, List.set_cons_succ]
                    refine wpAnyHTake 5 (some 93) (.pointer (some ⟨b1, o1 + kk * 2, none⟩)) rfl rfl (by kernel_rfl) (by kernel_rfl) (by kernel_rfl) (fun _ _ _ h => h) (by rfl) (fun _ _ => by go_simp) (G1.out) ?_
                    simp only [Act.put, List.setIfInBounds_toArray, List.set_cons_zero, List.set_cons_succ]
                    refine wpAnyHTake 6 (some 94) (.int .i64 x0) rfl rfl (by kernel_rfl) (by kernel_rfl) (by kernel_rfl) (fun _ _ _ h => h) (by rfl) (fun W hW => by obtain ⟨_, c4, c5⟩ := hW; go_simp) (G1.out) ?_
                    simp only [Act.put, List.setIfInBounds_toArray, List.set_cons_zero, List.set_cons_succ]
                    refine wpAnyHTake 7 (some 95) (.slice (some ⟨b1, o1, none⟩) l.length c) rfl rfl (by kernel_rfl) (by kernel_rfl) (by kernel_rfl) (fun _ _ _ h => h) (by rfl) (fun _ _ => by rfl) (G1.out) ?_
                    simp only [Act.put, List.setIfInBounds_toArray, List.set_cons_zero, List.set_cons_succ]
                    refine wpAnyHTake 8 (some 96) (.int .i64 kk) rfl rfl (by kernel_rfl) (by kernel_rfl) (by kernel_rfl) (fun _ _ _ h => h) (by rfl) (fun _ _ => by rfl) (G1.out) ?_
                    simp only [Act.put, List.setIfInBounds_toArray, List.set_cons_zero, List.set_cons_succ]
                    refine wpAnyHTake 9 (some 97) (.int .i64 n) rfl rfl (by kernel_rfl) (by kernel_rfl) (by kernel_rfl) (fun _ _ _ h => h) (by rfl) (fun _ _ => by rfl) (G1.out) ?_
                    simp only [Act.put, List.setIfInBounds_toArray, List.set_cons_zero, List.set_cons_succ]
                    refine wpAnyHTake 10 (some 98) (.int .i64 ((kk : Int) + (n : Int))) rfl rfl (by kernel_rfl) (by kernel_rfl) (by kernel_rfl) (fun _ _ _ h => h) (by rfl) (fun _ _ => by have h0 := HW1.out; go_simp) (G1.out) ?_
                    simp only [Act.put, List.setIfInBounds_toArray, List.set_cons_zero, List.set_cons_succ]
                    refine wpAnyHTake 11 (some 99) (.int .i64 ((kk + n - 1 : Nat) : Int)) rfl rfl (by kernel_rfl) (by kernel_rfl) (by kernel_rfl) (fun _ _ _ h => h) (by rfl) (fun _ _ => by have h0 := HW2.out; go_simp) (G1.out) ?_
                    simp only [Act.put, List.setIfInBounds_toArray, List.set_cons_zero, List.set_cons_succ]
                    refine wpAnyHTake 12 (some 100) (.pointer (some ⟨b1, o1 + (kk + n - 1) * 2, none⟩)) rfl rfl (by kernel_rfl) (by kernel_rfl) (by kernel_rfl) (fun _ _ _ h => h) (by rfl) (fun _ _ => by have h0 := HW3.out; go_simp) (G1.out) ?_
                    simp only [Act.put, List.setIfInBounds_toArray, List.set_cons_zero, List.set_cons_succ]
                    refine wpAnyHTake 13 (some 101) (.pointer (some ⟨b1, o1 + (kk + n - 1) * 2 + 1, none⟩)) rfl rfl (by kernel_rfl) (by kernel_rfl) (by kernel_rfl) (fun _ _ _ h => h) (by rfl) (fun _ _ => by go_simp) (G1.out) ?_
                    simp only [Act.put, List.setIfInBounds_toArray, List.set_cons_zero, List.set_cons_succ]
                    refine wpAnyHTake 14 (some 102) (.int .i64 z1) rfl rfl (by kernel_rfl) (by kernel_rfl) (by kernel_rfl) (fun _ _ _ h => h) (by rfl) (fun W hW => by obtain ⟨_, c4, c5⟩ := hW; go_simp) (G1.out) ?_
                    simp only [Act.put, List.setIfInBounds_toArray, List.set_cons_zero, List.set_cons_succ]
                    refine wpAnyHCall 15 (some 103) 46 #[.agg #[.int .i64 k, .bool nx, .int .i64 row, .int .i64 pas], .int .i64 x0, .int .i64 z1] (by kernel_rfl) rfl rfl (by rfl) (by go_simp) (rbetween_any k row pas x0 z1 nx _ k1 k2 (by omega) (by omega) (by omega) (by omega)) ?_
                    rintro e V2 ⟨rfl, hb⟩
                    have G2 := Lib.hid (show StyAt V2 w.heap.size k nx row pas ∧ V2.cell? ⟨b1, o1 + kk * 2, none⟩ = some (.int .i64 x0) ∧ V2.cell? ⟨b1, o1 + (kk + n - 1) * 2 + 1, none⟩ = some (.int .i64 z1) from ⟨G1.out.1.below hb (by omega), (hb.cell (p := ⟨b1, o1 + kk * 2, none⟩) hb1v).trans G1.out.2.1, (hb.cell (p := ⟨b1, o1 + (kk + n - 1) * 2 + 1, none⟩) hb1v).trans G1.out.2.2⟩)
                    have HB2 := Lib.hid (HBV.out.trans (hb.mono (by omega)))
                    have hz2 : w.heap.size + 1 ≤ V2.heap.size := by have := hb.size; omega
                    clear hb HBV G1
                    refine ⟨_, rfl, G2.out, ?_⟩
                    have ZE := Lib.hid (show (bs (betweenL k x0 z1)).size ≤ 7 by rw [bs_size]; exact betweenL_len _ _ _)
                    generalize hE : bs (betweenL k x0 z1) = E at *
                    have HE := Lib.hid hE
                    clear hE
                    have ZE2 := Lib.hid (show (SC ++ E).size ≤ 2000100 by have h1 := ZS.out; have h2 := ZE.out; rw [ByteArray.size_append]; omega)
                    simp only [Act.put, List.setIfInBounds_toArray, List.set_cons_zero, List.set_cons_succ]
                    refine wpAnyHTake 16 (some 104) (.string (SC ++ E)) rfl rfl (by kernel_rfl) (by kernel_rfl) (by kernel_rfl) (fun _ _ _ h => h) (by rfl) (fun _ _ => by have h1 := ZS.out; have h2 := ZE.out; go_simp; try omega) (G2.out) ?_
                    simp only [Act.put, List.setIfInBounds_toArray, List.set_cons_zero, List.set_cons_succ]
                    refine wpAnyHTake 17 (some 105) (.string (SC ++ E ++ { data := #[32, 112, 97, 115, 115, 105, 109] })) rfl rfl (by kernel_rfl) (by kernel_rfl) (by kernel_rfl) (fun _ _ _ h => h) (by rfl) (fun _ _ => by have h1 := ZS.out; have h2 := ZE.out; go_simp; try omega) (G2.out) ?_
                    simp only [Act.put, List.setIfInBounds_toArray, List.set_cons_zero, List.set_cons_succ]
                    refine wpAnyHTake 18 (some 5) (.string (SC ++ E ++ { data := #[32, 112, 97, 115, 115, 105, 109] })) rfl rfl (by kernel_rfl) (by kernel_rfl) (by kernel_rfl) (fun _ _ _ h => h) (by rfl) (fun _ _ => by rfl) (G2.out) ?_
                    simp only [Act.put, List.setIfInBounds_toArray, List.set_cons_zero, List.set_cons_succ]
                    refine wpAnyH_done (by kernel_rfl) ?_ _
                    refine ‹∀ (a : Act) (w : World), Code.wp Tryd.prog _ _ a w → (_ : Act → World → Prop) a w› _ _ ?_
                    go_wp2_with fail
                    go_roundw
                    case rel =>
                      refine ⟨kk + 1, by omega, by omega, by go_num, .inr ⟨by omega, ?_⟩, G2.out.1, HB2.out, hz2⟩
                      rw [← HSC.out, ← HSA.out, ← HE.out, joinL_snoc _ _ HPN.out]
                      exact congrArg Value.string (by rw [show ({ data := #[32, 112, 97, 115, 115, 105, 109] } : ByteArray) = bs passimB from rfl, show ({ data := #[44, 32] } : ByteArray) = bs [44, 32] from rfl, bs_append, bs_append, bs_append, List.append_assoc, List.append_assoc]; rfl)
                    case measure => simp [intOf]; omega
                · have kp : ((kk : Int) == (p : Int)) = false := beq_eq_false_iff_ne.2 (by omega)
                  have k0 : 0 < (kk : Int) := by omega
                  generalize hSA : bs (joinL (P ++ [betweenL k x0 z1 ++ passimB])) = SA at *
                  have HSA := Lib.hid hSA
                  have hs4 := HS4.out
                  obtain ⟨s0, s1, s2, s3⟩ := hs4
                  clear hSA
                  go_wp2_with fail
                  go_roundw
                  case rel => exact ⟨kk + 1, by omega, by omega, by go_num, .inr ⟨by omega, by first | rfl | rw [HSA.out]⟩, HS4.out, HB4.out, hsz3⟩
                  case measure => simp [intOf]; omega
              · have hkk : kk = p + n := by omega
                rcases hov with ⟨h, _⟩ | ⟨hgt, rfl⟩
                · omega
                · have hlt3' : ¬ (kk : Int) < (p : Int) + (n : Int) := by omega
                  have hnew : partsL S l = (P ++ [betweenL k x0 z1 ++ passimB]) ++ partsL S (l.drop (p + n)) := by rw [HPT.out, HSTEP.out, HRP.out, List.append_assoc]
                  have hlen2 : (joinL (P ++ [betweenL k x0 z1 ++ passimB])).length ≤ 20 * (p + n) := by
                    have hb7 := betweenL_len k x0 z1
                    have hl14 : (betweenL k x0 z1 ++ passimB).length ≤ 14 := by rw [List.length_append]; show _ + 7 ≤ 14; omega
                    by_cases hP : P = []
                    · rw [hP, joinL_one]; omega
                    · rw [joinL_snoc _ _ hP, List.length_append, List.length_cons, List.length_cons]; omega
                  have HNEW := Lib.hid hnew; have HLEN2 := Lib.hid hlen2
                  generalize hSA : bs (joinL (P ++ [betweenL k x0 z1 ++ passimB])) = SA at *
                  have HSA := Lib.hid hSA
                  have HKK := Lib.hid hkk
                  clear hSA hnew hlen2 hkk
                  go_wp2_with fail
                  go_roundw
                  case rel => exact ⟨p + n, P ++ [betweenL k x0 z1 ++ passimB], hn2, by go_num, by first | rfl | rw [HSA.out], by simp; omega, HNEW.out, HLEN2.out, HS4.out, HB4.out, hsz3⟩
                  case measure => simp [intOf]; omega
          · have hrp : rowParts S ((l.drop p).take n) = ((l.drop p).take n).map (elementL S) := by
              rw [rowParts_el (by rw [HS.out, HRL.out]; exact hpas)]
            have HRP := Lib.hid hrp
            have hno : (pas == 0) = true ∨ (n : Int) < pas ∧ (pas == 0) = false := by
              by_cases h : pas = 0
              · exact .inl (by rw [beq_iff_eq]; exact h)
              · exact .inr ⟨by omega, beq_eq_false_iff_ne.2 h⟩
            clear hrp hpas
            go_wp2_with fail
            go_loopw [5, 8] (fun ov iv wr => ∃ kk : Nat, p ≤ kk ∧ kk ≤ p + n ∧ iv = .int .i64 kk ∧ ov = .string (bs (joinL (P ++ ((l.drop p).take (kk - p)).map (elementL S)))) ∧ (joinL (P ++ ((l.drop p).take (kk - p)).map (elementL S))).length ≤ 20 * kk ∧ StyAt wr w.heap.size k nx row pas ∧ Below w.heap.size w wr ∧ w.heap.size + 1 ≤ wr.heap.size) (fun _ iv _ => p + n - (intOf iv).toNat)
            case atStart => exact ⟨p, by omega, by omega, rfl, by simp, by simpa using hPl, HS1.out, HB1.out, hz1⟩
            case round =>
              obtain ⟨kk, hk1, hk2, rfl, rfl, hps, hst, hbl, hsz3⟩ := hrel
              have HS4 := Lib.hid hst; have HB4 := Lib.hid hbl; have HZ4 := Lib.hid hsz3
              by_cases hlt3 : kk < p + n
              · have hlt3' : (kk : Int) < (p : Int) + (n : Int) := by omega
                obtain ⟨⟨x0, x1⟩, hx⟩ := elem_at (l := l) (k := kk) (by omega)
                obtain ⟨q0, q1⟩ := F.out _ _ hx
                have HG4 := Lib.hid (show SpAt wr b1 (o1 + kk * 2) x0 x1 from ⟨(hbl.cell (p := ⟨b1, o1 + kk * 2, none⟩) hb1).trans q0, (hbl.cell (p := ⟨b1, o1 + kk * 2 + 1, none⟩) hb1).trans q1⟩)
                have hxr := HRT.out _ (List.mem_of_getElem? hx)
                dsimp only at hxr
                obtain ⟨hx1, hx2, hx3⟩ := hxr
                have hnext : P ++ ((l.drop p).take (kk + 1 - p)).map (elementL S) = (P ++ ((l.drop p).take (kk - p)).map (elementL S)) ++ [elementL S (x0, x1)] := by
                  rw [show kk + 1 - p = (kk - p) + 1 by omega, take_succ_at (x := (x0, x1)) (by rw [drop_at, show p + (kk - p) = kk by omega]; exact hx), List.map_append, List.append_assoc]; rfl
                have HNX := Lib.hid hnext
                have hnil : (P ++ ((l.drop p).take (kk - p)).map (elementL S)) = [] ↔ kk = 0 := by
                  rw [List.append_eq_nil_iff, HP0.out, List.map_eq_nil_iff]
                  constructor
                  · rintro ⟨h1, h2⟩
                    have := congrArg List.length h2
                    rw [List.length_take, List.length_drop, List.length_nil] at this
                    omega
                  · intro h
                    exact ⟨by omega, by rw [show kk - p = 0 by omega]; rfl⟩
                have HNIL := Lib.hid hnil
                have hlk : kk < l.length := by omega
                have hlki : (kk : Int) < (l.length : Int) := by omega
                have hk0i : (0 : Int) ≤ (kk : Int) := Int.natCast_nonneg _
                have HSE := Lib.hid (show elementL S (x0, x1) = elementL ⟨k, nx, row, pas⟩ (x0, x1) by rw [HS.out])
                generalize hQ : P ++ ((l.drop p).take (kk - p)).map (elementL S) = Q at *
                have HQ := Lib.hid hQ
                have HLP := Lib.hid hps
                rw [← bs_size] at hps
                generalize hSA : bs (joinL Q) = SA at *
                have HSA := Lib.hid hSA
                clear hst hbl q0 q1 hx hnext hnil hQ hSA
                by_cases hk0 : kk = 0
                · have hQn : Q = [] := HNIL.out.2 hk0
                  have k0 : (kk : Int) ≤ 0 := by omega
                  have ZS := Lib.hid (show SA.size ≤ 2000000 by omega)
                  have HQN := Lib.hid hQn
                  have hs4 := HS4.out
                  obtain ⟨s0, s1, s2, s3⟩ := hs4
                  clear hQn hk0
                  rcases hno with hno0 | ⟨hno1, hno2⟩
                  all_goals
                    go_wp2_with fail
                    clear s0 s1 s2 s3
                    refine wp_region_held (S := fun W' => StyAt W' w.heap.size k nx row pas ∧ SpAt W' b1 (o1 + kk * 2) x0 x1) (by kernel_rfl) ?_
                    have hdr : (wr).drew = { wr with drawn := (wr).drawn + 1 } := rfl
                    rw [← hdr]
                    clear hdr
                    have G1 := Lib.hid (show StyAt (wr.drewN 1) w.heap.size k nx row pas ∧ SpAt (wr.drewN 1) b1 (o1 + kk * 2) x0 x1 from ⟨HS4.out, HG4.out⟩)
                    have HBV := Lib.hid (Below.dn HB4.out 1)
                    have hszv : w.heap.size + 1 ≤ (wr.drewN 1).heap.size := by have := HZ4.out; exact this
                    have hb1v : b1 < (wr.drewN 1).heap.size := by have : w.heap.size + 1 ≤ (wr.drewN 1).heap.size := hszv; omega
                    change wpAnyH _ _ _ _ _ _ _ _ (wr.drewN 1)
                    generalize wr.drewN 1 = V at *
                    refine wpAnyHTake 0 (some 77) (.string SA) rfl rfl (by kernel_rfl) (by kernel_rfl) (by kernel_rfl) (fun _ _ _ h => h) (by rfl) (fun _ _ => by rfl) (G1.out) ?_
                    simp only [Act.put, List.setIfInBounds_toArray, List.set_cons_zero, List.set_cons_succ]
                    refine wpAnyHTake 1 (some 78) (.agg #[.int .i64 k, .bool nx, .int .i64 row, .int .i64 pas]) rfl rfl (by kernel_rfl) (by kernel_rfl) (by kernel_rfl) (fun _ _ _ h => h) (by rfl) (fun W hW => by obtain ⟨⟨c0, c1, c2, c3⟩, _⟩ := hW; go_simp) (G1.out) ?_
                    simp only [Act.put, List.setIfInBounds_toArray, List.set_cons_zero, List.set_cons_succ]
                    refine wpAnyHTake 2 (some 79) (.slice (some ⟨b1, o1, none⟩) l.length c) rfl rfl (by kernel_rfl) (by kernel_rfl) (by kernel_rfl) (fun _ _ _ h => h) (by rfl) (fun _ _ => by rfl) (G1.out) ?_
                    simp only [Act.put, List.setIfInBounds_toArray, List.set_cons_zero, List.set_cons_succ]
                    refine wpAnyHTake 3 (some 80) (.int .i64 kk) rfl rfl (by kernel_rfl) (by kernel_rfl) (by kernel_rfl) (fun _ _ _ h => h) (by rfl) (fun _ _ => by rfl) (G1.out) ?_
                    simp only [Act.put, List.setIfInBounds_toArray, List.set_cons_zero, List.set_cons_succ]
                    refine wpAnyHTake 4 (some 81) (.pointer (some ⟨b1, o1 + kk * 2, none⟩)) rfl rfl (by kernel_rfl) (by kernel_rfl) (by kernel_rfl) (fun _ _ _ h => h) (by rfl) (fun _ _ => by go_simp) (G1.out) ?_
                    simp only [Act.put, List.setIfInBounds_toArray, List.set_cons_zero, List.set_cons_succ]
                    refine wpAnyHTake 5 (some 82) (.agg #[.int .i64 x0, .int .i64 x1]) rfl rfl (by kernel_rfl) (by kernel_rfl) (by kernel_rfl) (fun _ _ _ h => h) (by rfl) (fun W hW => by obtain ⟨_, c4, c5⟩ := hW; go_simp) (G1.out) ?_
                    simp only [Act.put, List.setIfInBounds_toArray, List.set_cons_zero, List.set_cons_succ]
                    refine wpAnyHCall 6 (some 83) 45 #[.agg #[.int .i64 k, .bool nx, .int .i64 row, .int .i64 pas], .agg #[.int .i64 x0, .int .i64 x1]] (by kernel_rfl) rfl rfl (by rfl) (by go_simp) (relement_any ⟨k, nx, row, pas⟩ (x0, x1) _ k1 k2 r0 r2 hx1 hx2 hx3) ?_
                    rintro e V2 ⟨rfl, hb⟩
                    have G2 := Lib.hid (show StyAt V2 w.heap.size k nx row pas ∧ SpAt V2 b1 (o1 + kk * 2) x0 x1 from ⟨G1.out.1.below hb (by omega), G1.out.2.below hb hb1v⟩)
                    have HB2 := Lib.hid (HBV.out.trans (hb.mono (by omega)))
                    have hz2 : w.heap.size + 1 ≤ V2.heap.size := by have := hb.size; omega
                    clear hb HBV G1
                    refine ⟨_, rfl, G2.out, ?_⟩
                    have ZE := Lib.hid (show (bs (elementL ⟨k, nx, row, pas⟩ (x0, x1))).size ≤ 8 by rw [bs_size]; exact elementL_len _ _)
                    generalize hE : bs (elementL ⟨k, nx, row, pas⟩ (x0, x1)) = E at *
                    have HE := Lib.hid hE
                    clear hE
                    simp only [Act.put, List.setIfInBounds_toArray, List.set_cons_zero, List.set_cons_succ]
                    refine wpAnyHTake 7 (some 84) (.string (SA ++ E)) rfl rfl (by kernel_rfl) (by kernel_rfl) (by kernel_rfl) (fun _ _ _ h => h) (by rfl) (fun _ _ => by have h1 := ZS.out; have h2 := ZE.out; go_simp; try omega) (G2.out) ?_
                    simp only [Act.put, List.setIfInBounds_toArray, List.set_cons_zero, List.set_cons_succ]
                    refine wpAnyHTake 8 (some 5) (.string (SA ++ E)) rfl rfl (by kernel_rfl) (by kernel_rfl) (by kernel_rfl) (fun _ _ _ h => h) (by rfl) (fun _ _ => by rfl) (G2.out) ?_
                    simp only [Act.put, List.setIfInBounds_toArray, List.set_cons_zero, List.set_cons_succ]
                    refine wpAnyH_done (by kernel_rfl) ?_ _
                    refine ‹∀ (a : Act) (w : World), Code.wp Tryd.prog _ _ a w → (_ : Act → World → Prop) a w› _ _ ?_
                    go_wp2_with fail
                    go_roundw
                    case rel =>
                      refine ⟨kk + 1, by omega, by omega, by go_num, ?_, ?_, G2.out.1, HB2.out, hz2⟩
                      · rw [HNX.out, ← HSA.out, ← HE.out, HQN.out, HSE.out]
                        exact congrArg Value.string (by rw [bs_append]; rfl)
                      · rw [HNX.out, HQN.out, joinL_one]; have := elementL_len S (x0, x1); omega
                    case measure => simp [intOf]; omega
                · have hQn : Q ≠ [] := fun e => hk0 (HNIL.out.1 e)
                  have k0 : 0 < (kk : Int) := by omega
                  have HQN := Lib.hid hQn
                  have hcs : (SA ++ { data := #[44, 32] }).size ≤ 2000010 := by rw [ByteArray.size_append]; show SA.size + 2 ≤ _; omega
                  have ZS := Lib.hid hcs
                  have zs : SA.size ≤ 2000000 := by omega
                  have hs4 := HS4.out
                  obtain ⟨s0, s1, s2, s3⟩ := hs4
                  clear hQn hk0 hcs
                  by_cases hkp : kk = p
                  · have kpe : ((kk : Int) == (p : Int)) = true := by rw [beq_iff_eq]; omega
                    have HKP := Lib.hid hkp
                    clear hkp
                    rcases hno with hno0 | ⟨hno1, hno2⟩
                    all_goals
                      go_wp2_with fail
                      clear s0 s1 s2 s3
                      generalize hSC : SA ++ { data := #[44, 32] } = SC at *
                      have HSC := Lib.hid hSC
                      clear hSC
                      refine wp_region_held (S := fun W' => StyAt W' w.heap.size k nx row pas ∧ SpAt W' b1 (o1 + kk * 2) x0 x1) (by kernel_rfl) ?_
                      have hdr : (wr).drew = { wr with drawn := (wr).drawn + 1 } := rfl
                      rw [← hdr]
                      clear hdr
                      have G1 := Lib.hid (show StyAt (wr.drewN 1) w.heap.size k nx row pas ∧ SpAt (wr.drewN 1) b1 (o1 + kk * 2) x0 x1 from ⟨HS4.out, HG4.out⟩)
                      have HBV := Lib.hid (Below.dn HB4.out 1)
                      have hszv : w.heap.size + 1 ≤ (wr.drewN 1).heap.size := by have := HZ4.out; exact this
                      have hb1v : b1 < (wr.drewN 1).heap.size := by have : w.heap.size + 1 ≤ (wr.drewN 1).heap.size := hszv; omega
                      change wpAnyH _ _ _ _ _ _ _ _ (wr.drewN 1)
                      generalize wr.drewN 1 = V at *
                      refine wpAnyHTake 0 (some 77) (.string SC) rfl rfl (by kernel_rfl) (by kernel_rfl) (by kernel_rfl) (fun _ _ _ h => h) (by rfl) (fun _ _ => by rfl) (G1.out) ?_
                      simp only [Act.put, List.setIfInBounds_toArray, List.set_cons_zero, List.set_cons_succ]
                      refine wpAnyHTake 1 (some 78) (.agg #[.int .i64 k, .bool nx, .int .i64 row, .int .i64 pas]) rfl rfl (by kernel_rfl) (by kernel_rfl) (by kernel_rfl) (fun _ _ _ h => h) (by rfl) (fun W hW => by obtain ⟨⟨c0, c1, c2, c3⟩, _⟩ := hW; go_simp) (G1.out) ?_
                      simp only [Act.put, List.setIfInBounds_toArray, List.set_cons_zero, List.set_cons_succ]
                      refine wpAnyHTake 2 (some 79) (.slice (some ⟨b1, o1, none⟩) l.length c) rfl rfl (by kernel_rfl) (by kernel_rfl) (by kernel_rfl) (fun _ _ _ h => h) (by rfl) (fun _ _ => by rfl) (G1.out) ?_
                      simp only [Act.put, List.setIfInBounds_toArray, List.set_cons_zero, List.set_cons_succ]
                      refine wpAnyHTake 3 (some 80) (.int .i64 kk) rfl rfl (by kernel_rfl) (by kernel_rfl) (by kernel_rfl) (fun _ _ _ h => h) (by rfl) (fun _ _ => by rfl) (G1.out) ?_
                      simp only [Act.put, List.setIfInBounds_toArray, List.set_cons_zero, List.set_cons_succ]
                      refine wpAnyHTake 4 (some 81) (.pointer (some ⟨b1, o1 + kk * 2, none⟩)) rfl rfl (by kernel_rfl) (by kernel_rfl) (by kernel_rfl) (fun _ _ _ h => h) (by rfl) (fun _ _ => by go_simp) (G1.out) ?_
                      simp only [Act.put, List.setIfInBounds_toArray, List.set_cons_zero, List.set_cons_succ]
                      refine wpAnyHTake 5 (some 82) (.agg #[.int .i64 x0, .int .i64 x1]) rfl rfl (by kernel_rfl) (by kernel_rfl) (by kernel_rfl) (fun _ _ _ h => h) (by rfl) (fun W hW => by obtain ⟨_, c4, c5⟩ := hW; go_simp) (G1.out) ?_
                      simp only [Act.put, List.setIfInBounds_toArray, List.set_cons_zero, List.set_cons_succ]
                      refine wpAnyHCall 6 (some 83) 45 #[.agg #[.int .i64 k, .bool nx, .int .i64 row, .int .i64 pas], .agg #[.int .i64 x0, .int .i64 x1]] (by kernel_rfl) rfl rfl (by rfl) (by go_simp) (relement_any ⟨k, nx, row, pas⟩ (x0, x1) _ k1 k2 r0 r2 hx1 hx2 hx3) ?_
                      rintro e V2 ⟨rfl, hb⟩
                      have G2 := Lib.hid (show StyAt V2 w.heap.size k nx row pas ∧ SpAt V2 b1 (o1 + kk * 2) x0 x1 from ⟨G1.out.1.below hb (by omega), G1.out.2.below hb hb1v⟩)
                      have HB2 := Lib.hid (HBV.out.trans (hb.mono (by omega)))
                      have hz2 : w.heap.size + 1 ≤ V2.heap.size := by have := hb.size; omega
                      clear hb HBV G1
                      refine ⟨_, rfl, G2.out, ?_⟩
                      have ZE := Lib.hid (show (bs (elementL ⟨k, nx, row, pas⟩ (x0, x1))).size ≤ 8 by rw [bs_size]; exact elementL_len _ _)
                      generalize hE : bs (elementL ⟨k, nx, row, pas⟩ (x0, x1)) = E at *
                      have HE := Lib.hid hE
                      clear hE
                      simp only [Act.put, List.setIfInBounds_toArray, List.set_cons_zero, List.set_cons_succ]
                      refine wpAnyHTake 7 (some 84) (.string (SC ++ E)) rfl rfl (by kernel_rfl) (by kernel_rfl) (by kernel_rfl) (fun _ _ _ h => h) (by rfl) (fun _ _ => by have h1 := ZS.out; have h2 := ZE.out; go_simp; try omega) (G2.out) ?_
                      simp only [Act.put, List.setIfInBounds_toArray, List.set_cons_zero, List.set_cons_succ]
                      refine wpAnyHTake 8 (some 5) (.string (SC ++ E)) rfl rfl (by kernel_rfl) (by kernel_rfl) (by kernel_rfl) (fun _ _ _ h => h) (by rfl) (fun _ _ => by rfl) (G2.out) ?_
                      simp only [Act.put, List.setIfInBounds_toArray, List.set_cons_zero, List.set_cons_succ]
                      refine wpAnyH_done (by kernel_rfl) ?_ _
                      refine ‹∀ (a : Act) (w : World), Code.wp Tryd.prog _ _ a w → (_ : Act → World → Prop) a w› _ _ ?_
                      go_wp2_with fail
                      go_roundw
                      case rel =>
                        refine ⟨kk + 1, by omega, by omega, by go_num, ?_, ?_, G2.out.1, HB2.out, hz2⟩
                        · rw [HNX.out, ← HSC.out, ← HSA.out, ← HE.out, HSE.out, joinL_snoc _ _ HQN.out]
                          exact congrArg Value.string (by rw [show ({ data := #[44, 32] } : ByteArray) = bs [44, 32] from rfl, bs_append, bs_append, List.append_assoc]; rfl)
                        · rw [HNX.out, joinL_snoc _ _ HQN.out, List.length_append, List.length_cons, List.length_cons]; have := elementL_len S (x0, x1); have := HLP.out; omega
                      case measure => simp [intOf]; omega
                  · have kpe : ((kk : Int) == (p : Int)) = false := beq_eq_false_iff_ne.2 (by omega)
                    have HKP := Lib.hid hkp
                    clear hkp
                    rcases hno with hno0 | ⟨hno1, hno2⟩
                    all_goals
                      go_wp2_with fail
                      clear s0 s1 s2 s3
                      generalize hSC : SA ++ { data := #[44, 32] } = SC at *
                      have HSC := Lib.hid hSC
                      clear hSC
                      refine wp_region_held (S := fun W' => StyAt W' w.heap.size k nx row pas ∧ SpAt W' b1 (o1 + kk * 2) x0 x1) (by kernel_rfl) ?_
                      have hdr : (wr).drew = { wr with drawn := (wr).drawn + 1 } := rfl
                      rw [← hdr]
                      clear hdr
                      have G1 := Lib.hid (show StyAt (wr.drewN 1) w.heap.size k nx row pas ∧ SpAt (wr.drewN 1) b1 (o1 + kk * 2) x0 x1 from ⟨HS4.out, HG4.out⟩)
                      have HBV := Lib.hid (Below.dn HB4.out 1)
                      have hszv : w.heap.size + 1 ≤ (wr.drewN 1).heap.size := by have := HZ4.out; exact this
                      have hb1v : b1 < (wr.drewN 1).heap.size := by have : w.heap.size + 1 ≤ (wr.drewN 1).heap.size := hszv; omega
                      change wpAnyH _ _ _ _ _ _ _ _ (wr.drewN 1)
                      generalize wr.drewN 1 = V at *
                      refine wpAnyHTake 0 (some 77) (.string SC) rfl rfl (by kernel_rfl) (by kernel_rfl) (by kernel_rfl) (fun _ _ _ h => h) (by rfl) (fun _ _ => by rfl) (G1.out) ?_
                      simp only [Act.put, List.setIfInBounds_toArray, List.set_cons_zero, List.set_cons_succ]
                      refine wpAnyHTake 1 (some 78) (.agg #[.int .i64 k, .bool nx, .int .i64 row, .int .i64 pas]) rfl rfl (by kernel_rfl) (by kernel_rfl) (by kernel_rfl) (fun _ _ _ h => h) (by rfl) (fun W hW => by obtain ⟨⟨c0, c1, c2, c3⟩, _⟩ := hW; go_simp) (G1.out) ?_
                      simp only [Act.put, List.setIfInBounds_toArray, List.set_cons_zero, List.set_cons_succ]
                      refine wpAnyHTake 2 (some 79) (.slice (some ⟨b1, o1, none⟩) l.length c) rfl rfl (by kernel_rfl) (by kernel_rfl) (by kernel_rfl) (fun _ _ _ h => h) (by rfl) (fun _ _ => by rfl) (G1.out) ?_
                      simp only [Act.put, List.setIfInBounds_toArray, List.set_cons_zero, List.set_cons_succ]
                      refine wpAnyHTake 3 (some 80) (.int .i64 kk) rfl rfl (by kernel_rfl) (by kernel_rfl) (by kernel_rfl) (fun _ _ _ h => h) (by rfl) (fun _ _ => by rfl) (G1.out) ?_
                      simp only [Act.put, List.setIfInBounds_toArray, List.set_cons_zero, List.set_cons_succ]
                      refine wpAnyHTake 4 (some 81) (.pointer (some ⟨b1, o1 + kk * 2, none⟩)) rfl rfl (by kernel_rfl) (by kernel_rfl) (by kernel_rfl) (fun _ _ _ h => h) (by rfl) (fun _ _ => by go_simp) (G1.out) ?_
                      simp only [Act.put, List.setIfInBounds_toArray, List.set_cons_zero, List.set_cons_succ]
                      refine wpAnyHTake 5 (some 82) (.agg #[.int .i64 x0, .int .i64 x1]) rfl rfl (by kernel_rfl) (by kernel_rfl) (by kernel_rfl) (fun _ _ _ h => h) (by rfl) (fun W hW => by obtain ⟨_, c4, c5⟩ := hW; go_simp) (G1.out) ?_
                      simp only [Act.put, List.setIfInBounds_toArray, List.set_cons_zero, List.set_cons_succ]
                      refine wpAnyHCall 6 (some 83) 45 #[.agg #[.int .i64 k, .bool nx, .int .i64 row, .int .i64 pas], .agg #[.int .i64 x0, .int .i64 x1]] (by kernel_rfl) rfl rfl (by rfl) (by go_simp) (relement_any ⟨k, nx, row, pas⟩ (x0, x1) _ k1 k2 r0 r2 hx1 hx2 hx3) ?_
                      rintro e V2 ⟨rfl, hb⟩
                      have G2 := Lib.hid (show StyAt V2 w.heap.size k nx row pas ∧ SpAt V2 b1 (o1 + kk * 2) x0 x1 from ⟨G1.out.1.below hb (by omega), G1.out.2.below hb hb1v⟩)
                      have HB2 := Lib.hid (HBV.out.trans (hb.mono (by omega)))
                      have hz2 : w.heap.size + 1 ≤ V2.heap.size := by have := hb.size; omega
                      clear hb HBV G1
                      refine ⟨_, rfl, G2.out, ?_⟩
                      have ZE := Lib.hid (show (bs (elementL ⟨k, nx, row, pas⟩ (x0, x1))).size ≤ 8 by rw [bs_size]; exact elementL_len _ _)
                      generalize hE : bs (elementL ⟨k, nx, row, pas⟩ (x0, x1)) = E at *
                      have HE := Lib.hid hE
                      clear hE
                      simp only [Act.put, List.setIfInBounds_toArray, List.set_cons_zero, List.set_cons_succ]
                      refine wpAnyHTake 7 (some 84) (.string (SC ++ E)) rfl rfl (by kernel_rfl) (by kernel_rfl) (by kernel_rfl) (fun _ _ _ h => h) (by rfl) (fun _ _ => by have h1 := ZS.out; have h2 := ZE.out; go_simp; try omega) (G2.out) ?_
                      simp only [Act.put, List.setIfInBounds_toArray, List.set_cons_zero, List.set_cons_succ]
                      refine wpAnyHTake 8 (some 5) (.string (SC ++ E)) rfl rfl (by kernel_rfl) (by kernel_rfl) (by kernel_rfl) (fun _ _ _ h => h) (by rfl) (fun _ _ => by rfl) (G2.out) ?_
                      simp only [Act.put, List.setIfInBounds_toArray, List.set_cons_zero, List.set_cons_succ]
                      refine wpAnyH_done (by kernel_rfl) ?_ _
                      refine ‹∀ (a : Act) (w : World), Code.wp Tryd.prog _ _ a w → (_ : Act → World → Prop) a w› _ _ ?_
                      go_wp2_with fail
                      go_roundw
                      case rel =>
                        refine ⟨kk + 1, by omega, by omega, by go_num, ?_, ?_, G2.out.1, HB2.out, hz2⟩
                        · rw [HNX.out, ← HSC.out, ← HSA.out, ← HE.out, HSE.out, joinL_snoc _ _ HQN.out]
                          exact congrArg Value.string (by rw [show ({ data := #[44, 32] } : ByteArray) = bs [44, 32] from rfl, bs_append, bs_append, List.append_assoc]; rfl)
                        · rw [HNX.out, joinL_snoc _ _ HQN.out, List.length_append, List.length_cons, List.length_cons]; have := elementL_len S (x0, x1); have := HLP.out; omega
                      case measure => simp [intOf]; omega
              · have hkk : kk = p + n := by omega
                subst hkk
                have hlt3' : ¬ ((p + n : Nat) : Int) < (p : Int) + (n : Int) := by omega
                have hnew : partsL S l = (P ++ ((l.drop p).take (p + n - p)).map (elementL S)) ++ partsL S (l.drop (p + n)) := by rw [HPT.out, HSTEP.out, HRP.out, List.append_assoc, show p + n - p = n by omega]
                have hnn : (P ++ ((l.drop p).take (p + n - p)).map (elementL S)) = [] ↔ p + n = 0 := by
                  rw [List.append_eq_nil_iff, List.map_eq_nil_iff, show p + n - p = n by omega]
                  constructor
                  · rintro ⟨_, h2⟩
                    have := congrArg List.length h2
                    rw [HRL.out] at this
                    simp at this
                    omega
                  · intro h; omega
                have HNEW := Lib.hid hnew; have HNN := Lib.hid hnn; have HLEN2 := Lib.hid hps
                generalize P ++ ((l.drop p).take (p + n - p)).map (elementL S) = Q at *
                generalize hSA : bs (joinL Q) = SA at *
                have HSA := Lib.hid hSA
                clear hSA hnew hnn hst hbl
                go_wp2_with fail
                go_roundw
                case rel => exact ⟨p + n, Q, hn2, by go_num, by first | rfl | rw [HSA.out], HNN.out, HNEW.out, HLEN2.out, HS4.out, HB4.out, hsz3⟩
                case measure => simp [intOf]; omega
    · obtain rfl : p = l.length := by omega
      have hfin : partsL S l = P := by have := HPT.out; rw [List.drop_length, partsL_nil, List.append_nil] at this; exact this
      have HFIN := Lib.hid hfin
      have hlt' : ¬ (l.length : Int) < (l.length : Int) := by omega
      clear hfin
      go_wp2_with fail
      go_ret
      exact ⟨ret_str (by unfold formL; rw [HFIN.out]), HBL.out⟩

theorem rform_any (s : Sty) (v : Value) (l : List Sp) (w : World) (h : RdP w v l) (hs : okSty s) (hl : l.length ≤ 100000) (hr : ∀ x ∈ l, 1 ≤ x.1 ∧ x.1 ≤ x.2 ∧ x.2 ≤ 999) :
    Calls Tryd.prog 21 #[.agg #[.int .i64 s.k, .bool s.nx, .int .i64 s.row, .int .i64 s.pas], v] w fun e w' => e = .returned (.string (bs (formL s l))) ∧ Below w.heap.size w w' := by
  by_cases hne : l = []
  · subst hne
    obtain ⟨a, c, rfl, l1, l2, _⟩ := h.open
    clear h hr
    have HB := Lib.hid ((Below.refl w.heap.size w).alloc (Nat.le_refl _) (.cells #[.int .i64 s.k, .bool s.nx, .int .i64 s.row, .int .i64 s.pas] 24))
    simp only [List.length_nil] at *
    go_enter Tryd.func21, Tryd.ntmps21
    go_wp2
    refine wp_loop_rounds 1 ?_
    rw [rounds_succ]
    go_wp2
    go_ret
    exact ⟨rfl, HB.out⟩
  · exact rform_some s v l w h hs hne hl hr
end Go.Proofs.YtecdkpcapalifaaDoor

