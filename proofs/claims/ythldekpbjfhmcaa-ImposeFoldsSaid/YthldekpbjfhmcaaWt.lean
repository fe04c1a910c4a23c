import Derived.Test.YthldekpbjfhmcaaWs
import Derived.Deep.AppendLies
namespace Go.Proofs.Ythldekpbjfhmcaa
open Go.RowKit

theorem sheetsL_err (p k : Int) (cs : List Int) (h : errOf p k ≠ 0) : sheetsL p k cs = ([], errOf p k) := by unfold sheetsL; rw [if_neg h]

set_option maxHeartbeats 1000000 in
theorem sheetsB_any (p k : Int) (v : Value) (cs : List Int) (w : World) (hp : -9223372036854775808 ≤ p) (hp' : p ≤ 9223372036854775807) (hk : -9223372036854775808 ≤ k) (hk' : k ≤ 9223372036854775807) (h1 : RdI w v cs) :
    Calls Try.prog 25 #[.int .i64 p, .int .i64 k, v] w fun e w' => ∃ v', e = .returned (.tuple #[v', .int .i64 (sheetsL p k cs).2]) ∧ OwnI w' w.heap.size v' (sheetsL p k cs).1 ∧ Below w.heap.size w w' := by
  by_cases h0 : errOf p k = 0
  · exact sheets_ok p k v cs w h0 h1
  · have hs := sheetsL_err p k cs h0
    have h0' : (errOf p k != 0) = true := by simpa using h0
    have HS := Lib.hid hs
    clear hs h0 h1
    go_enter Try.func25, Try.ntmps25
    go_wp2_with (first | (go_at_call 37; refine (valid_any p k _ hp hp' hk hk').mono ?_; rintro e w1 ⟨rfl, hb1⟩))
    go_ret2
    exact ⟨_, by rw [HS.out]; rfl, by rw [HS.out]; exact OwnI.nil _ _, ((Below.refl _ _).alloc (Nat.le_refl _) _).trans (hb1.mono (by simp))⟩

theorem hitC_nil (k : Int) (j : Nat) : hitC k [] j = false := by simp [hitC]
theorem hitC_snoc (k : Int) (l : List Int) (c : Int) (j : Nat) : hitC k (l ++ [c]) j = (hitC k l j || (c == lfA k j || c == lfB k j)) := by
  unfold hitC
  rw [Bool.eq_iff_iff]
  simp only [List.mem_append, List.mem_singleton, Bool.or_eq_true, decide_eq_true_eq, beq_iff_eq]
  constructor
  · rintro ((h | h) | (h | h))
    · exact .inl (.inl h)
    · exact .inr (.inl h.symm)
    · exact .inl (.inr h)
    · exact .inr (.inr h.symm)
  · rintro ((h | h) | (h | h))
    · exact .inl (.inl h)
    · exact .inr (.inl h)
    · exact .inl (.inr h.symm)
    · exact .inr (.inr h.symm)

def selTo (k : Int) (cs : List Int) (n : Nat) : List Int := ((List.range n).filter (hitC k cs)).map fun j : Nat => (j : Int)
theorem selTo_yes (k : Int) (cs : List Int) (n : Nat) (h : hitC k cs n = true) : selTo k cs (n + 1) = selTo k cs n ++ [(n : Int)] := by
  unfold selTo; rw [range_filter, h]; simp
theorem selTo_no (k : Int) (cs : List Int) (n : Nat) (h : hitC k cs n = false) : selTo k cs (n + 1) = selTo k cs n := by
  unfold selTo; rw [range_filter, h]; simp
theorem selTo_len (k : Int) (cs : List Int) (n : Nat) : (selTo k cs n).length ≤ n := by
  unfold selTo; rw [List.length_map]
  exact Nat.le_trans (List.length_filter_le _ _) (by simp)

theorem half_prod (p k : Int) (hp : 0 ≤ p) (hp' : p ≤ 999) (hk : 2 ≤ k) (hk' : k ≤ 16) (hk2 : k % 2 = 0) : cnt p k * k / 2 = (((cnt p k).toNat * (k / 2).toNat : Nat) : Int) := by
  have hc := (cnt_bd p k hp hp' hk hk').1
  rw [Int.natCast_mul, Int.toNat_of_nonneg hc, Int.toNat_of_nonneg (by omega)]
  have : cnt p k * k = cnt p k * (k / 2) * 2 := by rw [Int.mul_assoc]; congr 1; omega
  rw [this, Int.mul_ediv_cancel _ (by omega)]

theorem lf_int (k : Int) (j : Nat) (hk : 2 ≤ k) : lfA k j = (j : Int) / (k / 2) * k + 1 + (j : Int) % (k / 2) ∧ lfB k j = (j : Int) / (k / 2) * k + k - (j : Int) % (k / 2) := by
  have h : ((k / 2).toNat : Int) = k / 2 := Int.toNat_of_nonneg (by omega)
  unfold lfA lfB
  rw [Int.natCast_ediv, Int.natCast_emod, h]; exact ⟨rfl, rfl⟩

theorem q_bd (p k : Int) (j : Nat) (hp : 0 ≤ p) (hp' : p ≤ 999) (hk : 2 ≤ k) (hk' : k ≤ 16) (hj : j < (cnt p k).toNat * (k / 2).toNat) :
    0 ≤ (j : Int) / (k / 2) ∧ (j : Int) / (k / 2) ≤ 515 ∧ 0 ≤ (j : Int) / (k / 2) * k ∧ (j : Int) / (k / 2) * k ≤ 515 ∧ 0 ≤ (j : Int) % (k / 2) ∧ (j : Int) % (k / 2) ≤ 8 := by
  have hc := cntk_bd p k hp hp' hk hk'
  have h2 : (j : Int) < cnt p k * (k / 2) := by
    have := cnt_bd p k hp hp' hk hk'
    have e : (((cnt p k).toNat * (k / 2).toNat : Nat) : Int) = cnt p k * (k / 2) := by rw [Int.natCast_mul, Int.toNat_of_nonneg this.1, Int.toNat_of_nonneg (by omega)]
    omega
  have q0 : 0 ≤ (j : Int) / (k / 2) := Int.ediv_nonneg (by omega) (by omega)
  have q1 : (j : Int) / (k / 2) < cnt p k := Int.ediv_lt_of_lt_mul (by omega) h2
  have q2 : (j : Int) / (k / 2) * k ≤ cnt p k * k := Int.mul_le_mul_of_nonneg_right (by omega) (by omega)
  have r0 := Int.emod_nonneg (j : Int) (show k / 2 ≠ 0 by omega)
  have r1 := Int.emod_lt_of_pos (j : Int) (show 0 < k / 2 by omega)
  have q3 := cnt_bd p k hp hp' hk hk'
  exact ⟨q0, by omega, Int.mul_nonneg q0 (by omega), by omega, r0, by omega⟩

set_option maxRecDepth 100000 in
set_option maxHeartbeats 4000000 in
theorem rsheets_any (p k : Int) (v : Value) (cs : List Int) (w : World) (hp : -9223372036854775808 ≤ p) (hp' : p ≤ 9223372036854775807) (hk : -9223372036854775808 ≤ k) (hk' : k ≤ 9223372036854775807) (h1 : RdI w v cs) :
    Calls Try.prog 27 #[.int .i64 p, .int .i64 k, v] w fun e w' => ∃ v', e = .returned (.tuple #[v', .int .i64 (sheetsL p k cs).2]) ∧ OwnI w' w.heap.size v' (sheetsL p k cs).1 ∧ Below w.heap.size w w' := by
  by_cases h0 : errOf p k = 0
  · obtain ⟨hp1, hp2, hk1, hk2, hk3⟩ := errOf_zero h0
    obtain ⟨a1, c1, rfl, l1, f1⟩ := h1.open
    have F1 := Lib.hid f1; have H0 := Lib.hid h0
    obtain ⟨i0, hi0, hz0, hz1, hz2⟩ := info_parts Try.info3
    have HI := Lib.hid hi0; have HZ0 := Lib.hid hz0; have HZ1 := Lib.hid hz1; have HZ2 := Lib.hid hz2
    obtain ⟨ck1, ck2⟩ := cntk_bd p k hp1 hp2 hk1 hk2
    obtain ⟨d1, d2, d3⟩ := halves k hk1 hk2
    have hhp := half_prod p k hp1 hp2 hk1 hk2 hk3
    have HHP := Lib.hid hhp
    clear hi0 hz0 hz1 hz2 h1 f1 h0 hk3 d3 hhp
    go_enter Try.func27, Try.ntmps27
    go_wp2_with (first | (go_at_call 42; refine (error_any p k _ hp hp' hk hk').mono ?_; rintro e w1 ⟨rfl, rfl⟩; rw [H0.out]))
    go_loop [9] (fun i => ∃ j : Nat, j ≤ cs.length ∧ i = .int .i64 j ∧ (∀ c, c ∈ cs.take j → hasB p k c = true)) (fun i => cs.length - (intOf i).toNat)
    case atStart => exact ⟨0, by omega, rfl, by simp⟩
    case round =>
      obtain ⟨j, hj, rfl, hall⟩ := hrel
      have HALL := Lib.hid hall
      clear hall
      by_cases hlt : j < cs.length
      · obtain ⟨c, hc⟩ := elem_at hlt
        obtain ⟨b1, o1, rfl, hb1, y0⟩ := F1.out j c hc
        have HC := Lib.hid hc
        clear hc
        by_cases hh : hasB p k c = true
        · have HALL2 : ∀ c', c' ∈ cs.take (j + 1) → hasB p k c' = true := by
            intro c' hc'
            rw [List.take_add_one, HC.out] at hc'
            simp only [Option.toList_some, List.mem_append, List.mem_singleton] at hc'
            rcases hc' with h | rfl
            · exact HALL.out c' h
            · exact hh
          have HA2 := Lib.hid HALL2; have HH := Lib.hid hh
          clear HALL2 hh
          go_wp2_with (first | (go_at_call 43; refine (rhas_any p k c _ hp1 hp2 hk1 hk2).mono ?_; rintro e w2 ⟨rfl, rfl⟩; rw [HH.out]))
          go_round
          case rel => exact ⟨j + 1, by omega, by go_num, HA2.out⟩
          case measure => simp [intOf]; omega
        · have hh' : hasB p k c = false := by simpa using hh
          have hs : sheetsL p k cs = ([], 5) := by
            unfold sheetsL
            rw [if_pos H0.out, if_neg (fun h => hh (List.all_eq_true.1 h c (List.mem_of_getElem? HC.out)))]
          have HS := Lib.hid hs; have HH := Lib.hid hh'
          clear hs hh hh'
          go_wp2_with (first | (go_at_call 43; refine (rhas_any p k c _ hp1 hp2 hk1 hk2).mono ?_; rintro e w2 ⟨rfl, rfl⟩; rw [HH.out]))
          go_ret2
          exact ⟨_, by rw [HS.out]; rfl, by rw [HS.out]; exact OwnI.nil _ _, Below.refl _ _⟩
      · have hjl : j = cs.length := by omega
        have hs : sheetsL p k cs = (selTo k cs ((cnt p k).toNat * (k / 2).toNat), 0) := by
          unfold sheetsL
          rw [if_pos H0.out, if_pos (List.all_eq_true.2 (fun c hc => HALL.out c (by rw [hjl, List.take_length]; exact hc)))]; rfl
        have HS := Lib.hid hs
        clear hs hjl
        go_wp2
        go_loopw [10, 11] (fun v i wr => ∃ j : Nat, j ≤ (cnt p k).toNat * (k / 2).toNat ∧ i = .int .i64 j ∧ OwnI wr w.heap.size v (selTo k cs j) ∧ Below w.heap.size w wr) (fun _ i _ => (cnt p k).toNat * (k / 2).toNat - (intOf i).toNat)
        case atStart => exact ⟨0, by omega, rfl, by simpa [selTo] using OwnI.nil _ _, Below.refl _ _⟩
        case round =>
          obtain ⟨j, hj, rfl, hown, hbl⟩ := hrel
          have HO := Lib.hid hown; have HB := Lib.hid hbl
          have hbs := hbl.size
          clear hown hbl
          generalize hM : (cnt p k).toNat * (k / 2).toNat = M at *
          have HM := Lib.hid hM
          have hMb : (M : Int) ≤ 515 := by rw [← HHP.out]; omega
          clear hM
          by_cases hlt2 : j < M
          · obtain ⟨q0, q3, q1, q2, r0, r1⟩ := q_bd p k j hp1 hp2 hk1 hk2 (by rw [HM.out]; exact hlt2)
            obtain ⟨eA, eB⟩ := lf_int k j hk1
            have EA := Lib.hid eA; have EB := Lib.hid eB
            clear eA eB
            have hd : decide ((j : Int) < cnt p k * k / 2) = true := by rw [HHP.out]; simp; omega
            obtain ⟨wo, rfl⟩ : ∃ wo : World, wo = wr := ⟨_, rfl⟩
            go_wp2_with (first | (go_at_call 26; refine (count_any p k _ hp1 hp2 hk1 hk2).mono ?_; rintro e w1 ⟨rfl, rfl⟩))
            go_loop [14, 15] (fun f i => ∃ t : Nat, t ≤ cs.length ∧ i = .int .i64 t ∧ f = .bool (hitC k (cs.take t) j)) (fun _ i => cs.length - (intOf i).toNat)
            case atStart => exact ⟨0, by omega, rfl, by rw [List.take_zero, hitC_nil]⟩
            case round =>
              obtain ⟨t, ht, rfl, rfl⟩ := hrel
              by_cases hlt3 : t < cs.length
              · obtain ⟨c, hc⟩ := elem_at hlt3
                obtain ⟨b1, o1, rfl, hb1, y0⟩ := F1.out t c hc
                have y1 := (HB.out.cell (p := ⟨b1, o1 + t, none⟩) hb1).trans y0
                clear y0
                have hsn : hitC k (cs.take (t + 1)) j = (hitC k (cs.take t) j || (c == lfA k j || c == lfB k j)) := by rw [List.take_add_one, hc]; exact hitC_snoc _ _ _ _
                rw [EA.out, EB.out] at hsn
                have HSN := Lib.hid hsn
                clear hc hsn
                by_cases hf : hitC k (cs.take t) j = true
                · have hv : hitC k (cs.take (t + 1)) j = true := by rw [HSN.out, hf]; rfl
                  have HV := Lib.hid hv
                  rw [hf]
                  clear hv hf
                  go_wp2
                  go_round
                  case rel => exact ⟨t + 1, by omega, by go_num, by rw [HV.out]⟩
                  case measure => simp [intOf]; omega
                · have hf' : hitC k (cs.take t) j = false := by simpa using hf
                  rw [hf']
                  by_cases hca : c = (j : Int) / (k / 2) * k + 1 + (j : Int) % (k / 2)
                  · have hv : hitC k (cs.take (t + 1)) j = true := by rw [HSN.out, hf', beq_iff_eq.2 hca]; rfl
                    have hb : (c == (j : Int) / (k / 2) * k + 1 + (j : Int) % (k / 2)) = true := beq_iff_eq.2 hca
                    have HV := Lib.hid hv
                    clear hv hf hf' hca
                    go_wp2
                    go_round
                    case rel => exact ⟨t + 1, by omega, by go_num, by rw [HV.out]⟩
                    case measure => simp [intOf]; omega
                  · have hb : (c == (j : Int) / (k / 2) * k + 1 + (j : Int) % (k / 2)) = false := beq_eq_false_iff_ne.2 hca
                    by_cases hcb : c = (j : Int) / (k / 2) * k + k - (j : Int) % (k / 2)
                    · have hb2 : (c == (j : Int) / (k / 2) * k + k - (j : Int) % (k / 2)) = true := beq_iff_eq.2 hcb
                      have hv : hitC k (cs.take (t + 1)) j = true := by rw [HSN.out, hf', hb, hb2]; rfl
                      have HV := Lib.hid hv
                      clear hv hf hf' hca hcb
                      go_wp2
                      go_round
                      case rel => exact ⟨t + 1, by omega, by go_num, by rw [HV.out]⟩
                      case measure => simp [intOf]; omega
                    · have hb2 : (c == (j : Int) / (k / 2) * k + k - (j : Int) % (k / 2)) = false := beq_eq_false_iff_ne.2 hcb
                      have hv : hitC k (cs.take (t + 1)) j = false := by rw [HSN.out, hf', hb, hb2]; rfl
                      have HV := Lib.hid hv
                      clear hv hf hf' hca hcb
                      go_wp2
                      go_round
                      case rel => exact ⟨t + 1, by omega, by go_num, by rw [HV.out]⟩
                      case measure => simp [intOf]; omega
              · have htl : cs.take t = cs := List.take_of_length_le (by omega)
                rw [htl]
                clear htl
                have hsl := selTo_len k cs j
                have HOs := HO.out
                by_cases hf : hitC k cs j = true
                · have hT := selTo_yes k cs j hf
                  have HT := Lib.hid hT
                  rw [hf]
                  clear hT hf HOs
                  generalize hL : selTo k cs j = L at *
                  have HLL := Lib.hid hL
                  clear hL
                  go_wp2_with (at_builtin; refine wpList_append_lies _ rfl _ _ _ rfl w.heap.size 3 i0 _ 1 8 Try.underlying28 HI.out HZ0.out HZ1.out HZ2.out rfl (by omega) _ L.length (ints L) rfl (HO.out.alloc _) ⟨wo.heap.size, 0, none⟩ 1 1 [.int .i64 j] rfl rfl (cell_one_new _ _ _) (by simp [Value.oneCell']) (by omega) (by unfold maxLen; omega) (by omega) (by simp; omega) (wo.heap.size + 1) (by simp) ?_; intro gg cap w3 hown1 hgrow hat hltg)
                  have hown2 := OwnI.snoc1 hown1
                  have HO2 := Lib.hid hown2
                  go_roundw
                  case rel => exact ⟨j + 1, by omega, by go_num, by rw [HT.out]; exact HO2.out, (HB.out.alloc hbs _).grown hgrow (by simp; omega) (fun j e => (HO.out.lt j e).1)⟩
                  case measure => simp [intOf]; omega
                · have hf' : hitC k cs j = false := by simpa using hf
                  have hT := selTo_no k cs j hf'
                  have HT := Lib.hid hT
                  rw [hf']
                  clear hT hf hf' HOs
                  go_wp2
                  go_roundw
                  case rel => exact ⟨j + 1, by omega, by go_num, by rw [HT.out]; exact HO.out, HB.out⟩
                  case measure => simp [intOf]; omega
          · have hjm : j = M := by omega
            have HJM := Lib.hid hjm
            have hd : decide ((j : Int) < cnt p k * k / 2) = false := by rw [HHP.out]; simp; omega
            clear hjm
            go_wp2_with (first | (go_at_call 26; refine (count_any p k _ hp1 hp2 hk1 hk2).mono ?_; rintro e w1 ⟨rfl, rfl⟩))
            go_ret2
            refine ⟨_, by rw [HS.out]; rfl, ?_, HB.out⟩
            rw [HS.out, ← HJM.out]; exact HO.out
  · have hs := sheetsL_err p k cs h0
    have h0' : (errOf p k != 0) = true := by simpa using h0
    have HS := Lib.hid hs
    clear hs h0 h1
    go_enter Try.func27, Try.ntmps27
    go_wp2_with (first | (go_at_call 42; refine (error_any p k _ hp hp' hk hk').mono ?_; rintro e w1 ⟨rfl, rfl⟩))
    go_ret2
    exact ⟨_, by rw [HS.out]; rfl, by rw [HS.out]; exact OwnI.nil _ _, Below.refl _ _⟩
end Go.Proofs.Ythldekpbjfhmcaa
