/- The walk of DigitFinds. -/
import Derived.Test.YtidojiegkdchpaaBb
namespace Go.Proofs.Ytidojiegkdchpaa
open Go.RowKit Go.Maps

def Found (s t : ByteArray) : Prop := checkF t = 9 ∧ s ∈ nearF t ∧ (nearF t).length ≤ 2 * s.size - 1 ∧ t.size = s.size
theorem check_nine {t : ByteArray} (hok : okF t = true) (h2 : 2 ≤ t.size) (h64 : t.size ≤ 64) (h : totF (valsF t) 1 ≠ 0) : checkF t = 9 := by
  unfold checkF
  rw [if_neg (by rw [hok]; simp; omega), if_neg (by omega), if_pos h]
theorem nearOk_of {t : ByteArray} (hok : okF t = true) (h2 : 2 ≤ t.size) (h64 : t.size ≤ 64) : nearOk t = true := by
  unfold nearOk
  rw [hok]; simp [h2, h64]
theorem goodB_of {s t : ByteArray} (h : s ≠ t) (hc : checkF s = 0) : goodB t s = true := by
  unfold goodB; simp [h, hc]
theorem finds_ch {s : ByteArray} (h : checkF s = 0) {k c : Nat} (hk : k < s.size) (hc : c < 31) (hne : chF s k c ≠ s) : Found s (chF s k c) := by
  obtain ⟨hok, h2, h64, h0⟩ := check_zero h
  have ht := ok_ch hok hk hc
  have hz := chF_size (c := c) hk
  have h9 := check_nine ht (by omega) (by omega) (fun e => hne (ch_same hok hk hc h0 e))
  obtain ⟨v, hv, v0, v1⟩ := vals_at hok hk
  have hb := ch_back hok hk hv v0 v1 c hc
  refine ⟨h9, ?_, by have := near_len ht (by omega); rw [hz] at this; exact this, hz⟩
  unfold nearF
  rw [if_pos (nearOk_of ht (by omega) (by omega)), putsB_mem]
  unfold nearL nlF
  refine List.mem_flatMap.2 ⟨k, List.mem_range.2 (by rw [hz]; exact hk), List.mem_append.2 (.inl ?_)⟩
  unfold rowF
  refine List.mem_filter.2 ⟨List.mem_map.2 ⟨v.toNat, List.mem_range.2 (by omega), hb⟩, goodB_of (Ne.symm hne) h⟩
theorem finds_ex {s : ByteArray} (h : checkF s = 0) {k : Nat} (hk : k + 1 < s.size) (hne : exF s k ≠ s) : Found s (exF s k) := by
  obtain ⟨hok, h2, h64, h0⟩ := check_zero h
  have ht := ok_ex hok hk
  have hz := exF_size hk
  have h9 := check_nine ht (by omega) (by omega) (fun e => hne (ex_same0 hok hk h0 e))
  have hb := ex_back hok hk
  refine ⟨h9, ?_, by have := near_len ht (by omega); rw [hz] at this; exact this, hz⟩
  unfold nearF
  rw [if_pos (nearOk_of ht (by omega) (by omega)), putsB_mem]
  unfold nearL nlF
  refine List.mem_flatMap.2 ⟨k, List.mem_range.2 (by omega), List.mem_append.2 (.inr ?_)⟩
  unfold exgF
  rw [hb, if_pos ⟨by omega, goodB_of (Ne.symm hne) h⟩]
  simp
theorem ok_text (l : List Int) : okF (textF l) = true := by
  unfold okF
  rw [List.all_eq_true]
  intro x hx
  obtain ⟨c, hc, rfl⟩ := List.mem_map.1 hx
  have hc' : c ∈ textL (l.take 12) := by
    have e : (textF l).data.toList = textL (l.take 12) := by unfold textF bs; simp
    rw [e] at hc; exact hc
  obtain ⟨y, _, rfl⟩ := List.mem_map.1 hc'
  have hb := around_bd y 31 (by omega)
  rw [val_char _ hb.1 (by omega)]
  simpa using hb.1
def fs0 (l : List Int) : ByteArray := ⟨#[48]⟩ ++ textF l
def fsS (l : List Int) : ByteArray := fs0 l ++ bs [charF (addK (fs0 l))]
theorem fs_facts (l : List Int) : addV (fs0 l) = fsS l ∧ addE (fs0 l) = 0 ∧ checkF (fsS l) = 0 ∧ nearF (fsS l) = [] ∧ 2 ≤ (fsS l).size ∧ (fsS l).size ≤ 14 := by
  have hok : okF (fs0 l) = true := by
    unfold fs0
    rw [okF_append, ok_text]
    decide +kernel
  have hz : (fs0 l).size = 1 + (textF l).size := by unfold fs0; rw [ByteArray.size_append]; rfl
  have ht := textF_size l
  have hc : checkF (fsS l) = 0 := by
    unfold fsS
    rw [check_add hok (by omega) (by omega) _ (addK_bd _).1 (addK_bd _).2, if_pos rfl]
  have hs : (fsS l).size = (fs0 l).size + 1 := by unfold fsS; rw [ByteArray.size_append]; rfl
  rcases add_cases (fs0 l) with ⟨e, _⟩ | ⟨e, _⟩ | ⟨_, _, e, _⟩ | ⟨_, _, _, e1, e2⟩
  · rw [hok] at e; cases e
  · rw [e] at hz
    have : (0 : Nat) = 1 + (textF l).size := hz
    omega
  · omega
  · exact ⟨e1, e2, hc, near_none hc, by omega, by omega⟩
theorem has_snoc {l : List ByteArray} {j : Nat} {x s : ByteArray} (h : l[j]? = some x) : hasB (l.take (j + 1)) s = (hasB (l.take j) s || decide (x = s)) := by
  rw [take_succ_at h]
  unfold hasB
  rw [List.any_append]; simp
theorem owns_new (W : World) (x : ByteArray) : (W.alloc (.cells #[.string x] 9)).ownsRow W.heap.size 9 1 (.slice (some ⟨W.heap.size, 0, none⟩) 1 1) 1 (strs [x]) :=
  ⟨rfl, .inr ⟨W.heap.size, 1, #[.string x], rfl, Nat.le_refl _, Boxs.new W 9 _, Nat.le_refl _, by unfold maxLen; omega, rfl, rfl⟩⟩

set_option maxRecDepth 100000 in
set_option maxHeartbeats 8000000 in
theorem digitFinds_any (v1 : Value) (l : List Int) (at' value : Int) (w : World) (h1 : RdI w v1 l) (i1 : inI l) (ha : -9223372036854775808 ≤ at') (ha' : at' ≤ 9223372036854775807) (hv : -9223372036854775808 ≤ value) (hv' : value ≤ 9223372036854775807) :
    Calls Try.prog 7 #[v1, .int .i64 at', .int .i64 value] w fun e w' => e = .returned (.bool true) ∧ Below w.heap.size w w' := by
  obtain ⟨i0, hi0, hz0, hz1, hz2⟩ := info_parts Try.info9i
  have HI := Lib.hid hi0; have HZ0 := Lib.hid hz0; have HZ1 := Lib.hid hz1; have HZ2 := Lib.hid hz2
  clear hi0 hz0 hz1 hz2
  have TX := text_any v1 l w h1 i1
  have LV := Lib.hid lives_any
  have stx := textF_size l
  obtain ⟨f1, f2, f3, f4, f5, f6⟩ := fs_facts l
  have AD := add_any (fs0 l) (by unfold fs0; rw [ByteArray.size_append]; have : (ByteArray.mk #[48]).size = 1 := rfl; omega) w
  rw [f1, f2] at AD
  have hs0 : fs0 l = ⟨#[48]⟩ ++ textF l := rfl
  rw [hs0] at AD
  obtain ⟨a1, c1, rfl, _, _⟩ := h1.open
  clear f1 f2 hs0 h1
  generalize fsS l = s at *
  generalize textF l = tl at *
  have CK := Lib.hid (check_any s (by omega))
  have NS := Lib.hid (near_any s (by omega))
  have szb : ((s.size : Int) == 0) = false := beq_eq_false_iff_ne.2 (by omega)
  have hlen1 : (ByteArray.mk #[48]).size = 1 := rfl
  obtain ⟨r0, r1⟩ := around_bd at' s.size (by omega)
  obtain ⟨k, hk⟩ : ∃ k : Nat, around at' s.size = k := ⟨(around at' s.size).toNat, by omega⟩
  obtain ⟨u0, u1⟩ := around_bd value 31 (by omega)
  obtain ⟨c, hc⟩ : ∃ c : Nat, around value 31 = c := ⟨(around value 31).toNat, by omega⟩
  have AR1 := Lib.hid (fun W => around_any at' s.size W ha ha' (by omega) (by omega))
  have AR2 := Lib.hid (fun W => around_any value 31 W hv hv' (by omega) (by omega))
  have ar1 := AR1.out
  have ar2 := AR2.out
  rw [hk] at ar1 r0 r1
  rw [hc] at ar2 u0 u1
  have HA1 := Lib.hid ar1; have HA2 := Lib.hid ar2
  have hks : k < s.size := by omega
  have hc31 : c < 31 := by omega
  have CH := Lib.hid (changed_any s k c (by omega) hks hc31)
  have hT1 : chF s k c = s ∨ Found s (chF s k c) := by
    by_cases e : chF s k c = s
    · exact .inl e
    · exact .inr (finds_ch f3 hks hc31 e)
  have HT1 := Lib.hid hT1
  have hF : ∀ t, t = s ∨ Found s t → t.size ≤ 64 := by
    rintro t (rfl | ⟨_, _, _, h⟩) <;> omega
  have HF := Lib.hid hF
  have hEX : k + 1 < s.size → (∀ W, Calls Try.prog 30 #[.string s, .int .i64 k] W fun e w' => e = .returned (.string (exF s k)) ∧ Below W.heap.size W w') ∧ (exF s k = s ∨ Found s (exF s k)) := fun hn => by
    refine ⟨fun W => exchanged_any s k (by omega) hn W, ?_⟩
    by_cases e : exF s k = s
    · exact .inl e
    · exact .inr (finds_ex f3 hn e)
  have HEX := Lib.hid hEX
  have ck3 := CK.out
  rw [f3] at ck3
  have HCK := Lib.hid ck3
  have ns4 := NS.out
  rw [f4] at ns4
  have HNS := Lib.hid ns4
  clear ar1 ar2 hk hc CK NS AR1 AR2 hT1 hEX hF ck3 ns4 f3 f4 u0 u1
  generalize hT : chF s k c = T1 at *
  go_enter Try.func7, Try.ntmps7
  go_wp2_with fail
  refine TX.mono ?_
  rintro e w1 ⟨rfl, rfl⟩
  go_wp2_with fail
  refine AD.mono ?_
  rintro e w1 ⟨rfl, hb1⟩
  have HB1 := Lib.hid hb1
  clear hb1 AD
  go_wp2_with fail
  refine (HCK.out _).mono ?_
  rintro e w2 ⟨rfl, hb2⟩
  have HB2 := Lib.hid (HB1.out.trans (hb2.mono HB1.out.size))
  clear hb2
  go_wp2_with fail
  refine (HNS.out _).mono ?_
  rintro e w3 ⟨u, rfl, hru, hb3⟩
  have HB3 := Lib.hid (HB2.out.trans (hb3.mono HB2.out.size))
  obtain ⟨ua, uc, rfl, _, _⟩ := hru.open
  clear hru hb3
  go_wp2_with fail
  refine (HA1.out _).mono ?_
  rintro e w4 ⟨rfl, rfl⟩
  go_wp2_with fail
  refine (HA2.out _).mono ?_
  rintro e w4 ⟨rfl, rfl⟩
  go_wp2_with fail
  refine (CH.out _).mono ?_
  rintro e w4 ⟨rfl, hb4⟩
  have HB4 := Lib.hid (HB3.out.trans (hb4.mono HB3.out.size))
  clear hb4
  have HRD0 := Lib.hid (rdS_new w4 [T1] (by simp))
  have hown := owns_new w4 T1
  have HOW := Lib.hid hown
  have HB5 := Lib.hid (HB4.out.alloc HB4.out.size (.cells #[.string T1] 9))
  clear hown
  by_cases hnx : k + 1 < s.size
  · have q1 : (k : Int) + 1 < (s.size : Int) := by omega
    obtain ⟨EX, hT2⟩ := HEX.out hnx
    have HT2 := Lib.hid hT2
    clear hT2
    generalize exF s k = T2 at *
    go_wp2_with fail
    refine (EX _).mono ?_
    rintro e w5 ⟨rfl, hb5⟩
    have hown5 := Lib.hid (owns_below HOW.out hb5)
    have HB6 := Lib.hid (HB5.out.trans (hb5.mono HB5.out.size))
    have hs5 := hb5.size
    simp only [World.size_alloc] at hs5
    clear hb5 EX
    go_wp2_with (at_builtin; refine wpList_append_lies _ rfl _ _ _ rfl w4.heap.size 9 i0 _ 1 16 Try.underlying49 HI.out HZ0.out HZ1.out HZ2.out rfl (by omega) _ 1 (strs [T1]) rfl (hown5.out.alloc _) ⟨w5.heap.size, 0, none⟩ 1 1 [.string T2] rfl rfl (cell_one_new _ _ _) (by simp [Value.oneCell']) (by omega) (by unfold maxLen; omega) (by omega) (by simp; omega) (w5.heap.size + 1) (by simp) ?_; intro gg cap wL hown1 hgrow hat hltg; have HRD := Lib.hid (show RdS wL _ [T1, T2] from Rd_of_owns hown1); have HBL := Lib.hid ((HB6.out.alloc HB6.out.size _).grown hgrow (by simp; have := HB6.out.size; omega) (fun j e => by have := (hown5.out.lt j e).1; have := HB4.out.size; omega)); clear hown1 hgrow hat hltg)
    have hall : ∀ t, t ∈ [T1, T2] → t = s ∨ Found s t := by
      intro t ht
      rcases List.mem_cons.1 ht with rfl | ht
      · exact HT1.out
      · rw [List.mem_singleton.1 ht]; exact HT2.out
    have HALL := Lib.hid hall
    have hLL : [T1, T2].length = 2 := rfl
    clear hall
    generalize hLS : [T1, T2] = LS at *
    clear hLS
    go_loopw [11] (fun i wr => ∃ i' : Nat, i' ≤ 2 ∧ i = .int .i64 i' ∧ Below w.heap.size w wr ∧ Below wL.heap.size wL wr) (fun i _ => 2 - (intOf i).toNat)
    case atStart => exact ⟨0, Nat.zero_le _, rfl, HBL.out, Below.refl _ _⟩
    case round =>
      obtain ⟨i, hi, rfl, hbl, hblL⟩ := hrel
      have H1 := Lib.hid hbl; have HL1 := Lib.hid hblL
      by_cases hlt : i < 2
      · have p1 : (i : Int) < 2 := by omega
        obtain ⟨t, ht⟩ := elem_at (l := LS) (k := i) (by omega)
        have htt := HALL.out t (List.mem_of_getElem? ht)
        have htz := HF.out t htt
        have R0 := RdS.below HRD.out hblL
        obtain ⟨a, c', he, _, f⟩ := R0.open
        rw [hLL] at he
        cases he
        obtain ⟨b, o, hbo, hbw, g⟩ := f i t ht
        cases hbo
        rw [Nat.zero_add] at g
        clear f R0 ht hbl hblL
        by_cases hts : t = s
        · have e1 : (t.toList == s.toList) = true := by rw [hts]; exact bytes_eq s
          clear htt hts
          go_wp2_with fail
          go_roundw
          case rel => exact ⟨i + 1, by omega, by go_num, H1.out, HL1.out⟩
          case measure => simp [intOf]; omega
        · have e1 := bytes_ne hts
          obtain ⟨n1, n2, n3, n4⟩ := htt.resolve_left hts
          have NT := near_any t (by omega) wr
          have CT := Lib.hid (check_any t (by omega))
          have ct := CT.out
          rw [n1] at ct
          have HCT := Lib.hid ct
          have hhas : hasB (nearF t) s = true := (hasB_iff _ _).2 n2
          have HHAS := Lib.hid hhas
          have n5 : ¬ (2 * (s.size : Int) - 1 < ((nearF t).length : Int)) := by omega
          have n7 : (nearF t).length ≤ 200 := by omega
          clear ct CT n1 n2 hts hhas
          generalize nearF t = L at *
          go_wp2_with fail
          refine NT.mono ?_
          rintro e w5 ⟨u, rfl, hru, hb5⟩
          have H5 := Lib.hid (H1.out.trans (hb5.mono H1.out.size)); have HL5 := Lib.hid (HL1.out.trans (hb5.mono HL1.out.size))
          have g5 := (hb5.cell (p := ⟨gg, i, none⟩) hbw).trans g
          have hbw5 := Nat.lt_of_lt_of_le hbw hb5.size
          obtain ⟨ua', uc', rfl, _, fu⟩ := hru.open
          have FU := Lib.hid fu
          have HG := Lib.hid g5
          clear hru hb5 fu NT g
          go_wp2_with fail
          go_loopw [13, 14] (fun f j wr' => ∃ j' : Nat, j' ≤ L.length ∧ j = .int .i64 j' ∧ f = .bool (hasB (L.take j') s) ∧ ∃ nq, wr' = w5.drewN nq) (fun _ j _ => L.length - (intOf j).toNat)
          case atStart => exact ⟨0, Nat.zero_le _, rfl, rfl, 0, rfl⟩
          case round =>
            obtain ⟨j, hj, rfl, rfl, nq, rfl⟩ := hrel
            by_cases hjl : j < L.length
            · have p2 : (j : Int) < (L.length : Int) := by omega
              obtain ⟨y, hy⟩ := elem_at hjl
              obtain ⟨b', o', rfl, hbw', g'⟩ := FU.out j y hy
              have hsn := has_snoc (s := s) hy
              have HSN := Lib.hid hsn
              clear hsn hy
              cases hf : hasB (L.take j) s
              · by_cases hys : y = s
                · have e2 : (y.toList == s.toList) = true := by rw [hys]; exact bytes_eq s
                  have hr : hasB (L.take (j + 1)) s = true := by rw [HSN.out, hf]; simp [hys]
                  have HR := Lib.hid hr
                  clear hys hf hr
                  go_wp2_with fail
                  all_goals first | (go_quiet (fail); go_wp2_with fail) | skip
                  go_roundw
                  case rel => exact ⟨j + 1, by omega, by go_num, by rw [HR.out], _, rfl⟩
                  case measure => simp [intOf]; omega
                · have e2 := bytes_ne hys
                  have hr : hasB (L.take (j + 1)) s = false := by rw [HSN.out, hf]; simp [hys]
                  have HR := Lib.hid hr
                  clear hys hf hr
                  go_wp2_with fail
                  all_goals first | (go_quiet (fail); go_wp2_with fail) | skip
                  go_roundw
                  case rel => exact ⟨j + 1, by omega, by go_num, by rw [HR.out], _, rfl⟩
                  case measure => simp [intOf]; omega
              · have hr : hasB (L.take (j + 1)) s = true := by rw [HSN.out, hf]; simp
                have HR := Lib.hid hr
                clear hf hr
                go_wp2_with fail
                all_goals first | (go_quiet (fail); go_wp2_with fail) | skip
                go_roundw
                case rel => exact ⟨j + 1, by omega, by go_num, by rw [HR.out], _, rfl⟩
                case measure => simp [intOf]; omega
            · have p2 : ¬ (j : Int) < (L.length : Int) := by omega
              have hf : hasB (L.take j) s = true := by rw [List.take_of_length_le (by omega)]; exact HHAS.out
              rw [hf]
              have g6 : (w5.drewN nq).cell? _ = some (.string t) := HG.out
              have hdn := Below.dn (Below.refl w5.heap.size w5) nq
              have H6 := Lib.hid (H5.out.trans (hdn.mono H5.out.size)); have HL6 := Lib.hid (HL5.out.trans (hdn.mono HL5.out.size))
              clear hf hdn
              generalize w5.drewN nq = w6 at *
              go_wp2_with fail
              refine (HCT.out _).mono ?_
              rintro e w7 ⟨rfl, hb7⟩
              have H7 := Lib.hid (H6.out.trans (hb7.mono H6.out.size)); have HL7 := Lib.hid (HL6.out.trans (hb7.mono HL6.out.size))
              clear hb7 g6
              go_wp2_with fail
              go_roundw
              case rel => exact ⟨i + 1, by omega, by go_num, H7.out, HL7.out⟩
              case measure => simp [intOf]; omega
      · have p1 : ¬ (i : Int) < 2 := by omega
        clear hbl hblL
        go_wp2_with fail
        refine (LV.out _).mono ?_
        rintro e w8 ⟨rfl, hb8⟩
        go_wp2_with fail
        go_ret
        exact ⟨rfl, H1.out.trans (hb8.mono H1.out.size)⟩
  · have q1 : ¬ (k : Int) + 1 < (s.size : Int) := by omega
    go_wp2_with fail
    have hall : ∀ t, t ∈ [T1] → t = s ∨ Found s t := by
      intro t ht
      rw [List.mem_singleton.1 ht]; exact HT1.out
    have HALL := Lib.hid hall
    have hLL : [T1].length = 1 := rfl
    have HRD := Lib.hid (show RdS (w4.alloc (.cells #[.string T1] 9)) (.slice (some ⟨w4.heap.size, 0, none⟩) 1 1) [T1] from HRD0.out)
    have HBL := HB5
    clear hall
    generalize hLS : [T1] = LS at *
    clear hLS
    generalize w4.alloc (.cells #[.string T1] 9) = wL at *
    go_loopw [11] (fun i wr => ∃ i' : Int, (i' = 0 ∨ i' = 1) ∧ i = .int .i64 i' ∧ Below w.heap.size w wr ∧ Below wL.heap.size wL wr) (fun i _ => 1 - (intOf i).toNat)
    case atStart => exact ⟨0, .inl rfl, rfl, HBL.out, Below.refl _ _⟩
    case round =>
      obtain ⟨i, hi, rfl, hbl, hblL⟩ := hrel
      have H1 := Lib.hid hbl; have HL1 := Lib.hid hblL
      rcases hi with rfl | rfl
      · obtain ⟨t, ht⟩ := elem_at (l := LS) (k := 0) (by omega)
        have htt := HALL.out t (List.mem_of_getElem? ht)
        have htz := HF.out t htt
        have R0 := RdS.below HRD.out hblL
        obtain ⟨a, c', he, _, f⟩ := R0.open
        rw [hLL] at he
        cases he
        obtain ⟨b, o, hbo, hbw, g⟩ := f 0 t ht
        cases hbo
        rw [Nat.zero_add] at g
        clear f R0 ht hbl hblL
        by_cases hts : t = s
        · have e1 : (t.toList == s.toList) = true := by rw [hts]; exact bytes_eq s
          clear htt hts
          go_wp2_with fail
          go_roundw
          case rel => exact ⟨1, .inr rfl, by first | rfl | go_num, H1.out, HL1.out⟩
          case measure => simp [intOf]
        · have e1 := bytes_ne hts
          obtain ⟨n1, n2, n3, n4⟩ := htt.resolve_left hts
          have NT := near_any t (by omega) wr
          have CT := Lib.hid (check_any t (by omega))
          have ct := CT.out
          rw [n1] at ct
          have HCT := Lib.hid ct
          have hhas : hasB (nearF t) s = true := (hasB_iff _ _).2 n2
          have HHAS := Lib.hid hhas
          have n5 : ¬ (2 * (s.size : Int) - 1 < ((nearF t).length : Int)) := by omega
          have n7 : (nearF t).length ≤ 200 := by omega
          clear ct CT n1 n2 hts hhas
          generalize nearF t = L at *
          go_wp2_with fail
          refine NT.mono ?_
          rintro e w5 ⟨u, rfl, hru, hb5⟩
          have H5 := Lib.hid (H1.out.trans (hb5.mono H1.out.size)); have HL5 := Lib.hid (HL1.out.trans (hb5.mono HL1.out.size))
          have g5 := (hb5.cell (p := ⟨w4.heap.size, 0, none⟩) hbw).trans g
          have hbw5 := Nat.lt_of_lt_of_le hbw hb5.size
          obtain ⟨ua', uc', rfl, _, fu⟩ := hru.open
          have FU := Lib.hid fu
          have HG := Lib.hid g5
          clear hru hb5 fu NT g
          go_wp2_with fail
          go_loopw [13, 14] (fun f j wr' => ∃ j' : Nat, j' ≤ L.length ∧ j = .int .i64 j' ∧ f = .bool (hasB (L.take j') s) ∧ ∃ nq, wr' = w5.drewN nq) (fun _ j _ => L.length - (intOf j).toNat)
          case atStart => exact ⟨0, Nat.zero_le _, rfl, rfl, 0, rfl⟩
          case round =>
            obtain ⟨j, hj, rfl, rfl, nq, rfl⟩ := hrel
            by_cases hjl : j < L.length
            · have p2 : (j : Int) < (L.length : Int) := by omega
              obtain ⟨y, hy⟩ := elem_at hjl
              obtain ⟨b', o', rfl, hbw', g'⟩ := FU.out j y hy
              have hsn := has_snoc (s := s) hy
              have HSN := Lib.hid hsn
              clear hsn hy
              cases hf : hasB (L.take j) s
              · by_cases hys : y = s
                · have e2 : (y.toList == s.toList) = true := by rw [hys]; exact bytes_eq s
                  have hr : hasB (L.take (j + 1)) s = true := by rw [HSN.out, hf]; simp [hys]
                  have HR := Lib.hid hr
                  clear hys hf hr
                  go_wp2_with fail
                  all_goals first | (go_quiet (fail); go_wp2_with fail) | skip
                  go_roundw
                  case rel => exact ⟨j + 1, by omega, by go_num, by rw [HR.out], _, rfl⟩
                  case measure => simp [intOf]; omega
                · have e2 := bytes_ne hys
                  have hr : hasB (L.take (j + 1)) s = false := by rw [HSN.out, hf]; simp [hys]
                  have HR := Lib.hid hr
                  clear hys hf hr
                  go_wp2_with fail
                  all_goals first | (go_quiet (fail); go_wp2_with fail) | skip
                  go_roundw
                  case rel => exact ⟨j + 1, by omega, by go_num, by rw [HR.out], _, rfl⟩
                  case measure => simp [intOf]; omega
              · have hr : hasB (L.take (j + 1)) s = true := by rw [HSN.out, hf]; simp
                have HR := Lib.hid hr
                clear hf hr
                go_wp2_with fail
                all_goals first | (go_quiet (fail); go_wp2_with fail) | skip
                go_roundw
                case rel => exact ⟨j + 1, by omega, by go_num, by rw [HR.out], _, rfl⟩
                case measure => simp [intOf]; omega
            · have p2 : ¬ (j : Int) < (L.length : Int) := by omega
              have hf : hasB (L.take j) s = true := by rw [List.take_of_length_le (by omega)]; exact HHAS.out
              rw [hf]
              have g6 : (w5.drewN nq).cell? _ = some (.string t) := HG.out
              have hdn := Below.dn (Below.refl w5.heap.size w5) nq
              have H6 := Lib.hid (H5.out.trans (hdn.mono H5.out.size)); have HL6 := Lib.hid (HL5.out.trans (hdn.mono HL5.out.size))
              clear hf hdn
              generalize w5.drewN nq = w6 at *
              go_wp2_with fail
              refine (HCT.out _).mono ?_
              rintro e w7 ⟨rfl, hb7⟩
              have H7 := Lib.hid (H6.out.trans (hb7.mono H6.out.size)); have HL7 := Lib.hid (HL6.out.trans (hb7.mono HL6.out.size))
              clear hb7 g6
              go_wp2_with fail
              go_roundw
              case rel => exact ⟨1, .inr rfl, by first | rfl | go_num, H7.out, HL7.out⟩
              case measure => simp [intOf]
      · clear hbl hblL
        go_wp2_with fail
        refine (LV.out _).mono ?_
        rintro e w8 ⟨rfl, hb8⟩
        go_wp2_with fail
        go_ret
        exact ⟨rfl, H1.out.trans (hb8.mono H1.out.size)⟩
end Go.Proofs.Ytidojiegkdchpaa
