import Derived.Test.YthldekpbjfhmcaaWi
namespace Go.Proofs.Ythldekpbjfhmcaa
open Go.RowKit

/-- the error of a leaf of a volume, and its conjugate -/
def leafErr (p k l : Int) : Int := if errOf p k = 0 then (if hasB p k l = true then 0 else 5) else errOf p k
def conjR (p k l : Int) : Int := if leafErr p k l = 0 then conj k l else 0

theorem errOf_ne5 (p k l : Int) (h : errOf p k ≠ 0) : leafErr p k l = errOf p k ∧ conjR p k l = 0 := by
  have h1 : leafErr p k l = errOf p k := by unfold leafErr; rw [if_neg h]
  exact ⟨h1, by unfold conjR; rw [h1, if_neg h]⟩

theorem hasB_true {p k l : Int} (h : hasB p k l = true) : 1 ≤ l ∧ l ≤ cnt p k * k := by
  unfold hasB at h; simpa using h

set_option maxHeartbeats 1000000 in
theorem conjugateL_any (p k l : Int) (w : World) (hp : -9223372036854775808 ≤ p) (hp' : p ≤ 9223372036854775807) (hk : -9223372036854775808 ≤ k) (hk' : k ≤ 9223372036854775807) :
    Calls Try.prog 23 #[.int .i64 p, .int .i64 k, .int .i64 l] w fun e w' => e = .returned (.tuple #[.int .i64 (conjR p k l), .int .i64 (leafErr p k l)]) ∧ Below w.heap.size w w' := by
  by_cases h0 : errOf p k = 0
  · obtain ⟨hp1, hp2, hk1, hk2, hk3⟩ := errOf_zero h0
    obtain ⟨c1, c2⟩ := cntk_bd p k hp1 hp2 hk1 hk2
    by_cases hh : hasB p k l = true
    · obtain ⟨l1, l2⟩ := hasB_true hh
      have he : leafErr p k l = 0 := by unfold leafErr; rw [if_pos h0, if_pos hh]
      have hc : conjR p k l = conj k l := by unfold conjR; rw [if_pos he]
      have HE := Lib.hid he; have HC := Lib.hid hc; have H0 := Lib.hid h0; have HH := Lib.hid hh
      clear he hc h0 hh hk3
      go_enter Try.func23, Try.ntmps23
      go_wp2_with (first | (go_at_call 37; refine (valid_any p k _ hp hp' hk hk').mono ?_; rintro e w1 ⟨rfl, hb1⟩; have q0 : w1.cell? ⟨w.heap.size, 0, none⟩ = some (.int .i64 p) := cell_bl hb1 (by simp); have q1 : w1.cell? ⟨w.heap.size, 1, none⟩ = some (.int .i64 k) := cell_bl hb1 (by simp); rw [H0.out]) | (go_at_call 40; refine (vhas_any p k l _ hp1 hp2 hk1 hk2).mono ?_; rintro e w2 ⟨rfl, hb2⟩; have r0 := cell_bl hb2 q0; have r1 := cell_bl hb2 q1; rw [HH.out]) | (go_at_call 41; refine (conjugate_any p k l _ hk1 hk2 l1 (by omega)).mono ?_; rintro e w3 ⟨rfl, hb3⟩))
      go_ret2
      exact ⟨by rw [HE.out, HC.out]; rfl, ((((Below.refl _ _).alloc (Nat.le_refl _) _).trans (hb1.mono (by simp))).trans (hb2.mono (by have := hb1.size; simp at this; omega))).trans (hb3.mono (by have := hb1.size; have := hb2.size; simp at *; omega))⟩
    · have he : leafErr p k l = 5 := by unfold leafErr; rw [if_pos h0, if_neg hh]
      have hc : conjR p k l = 0 := by unfold conjR; rw [if_neg (by rw [he]; decide)]
      have hh' : hasB p k l = false := by simpa using hh
      have HE := Lib.hid he; have HC := Lib.hid hc; have H0 := Lib.hid h0; have HH := Lib.hid hh'
      clear he hc h0 hh hh' hk3
      go_enter Try.func23, Try.ntmps23
      go_wp2_with (first | (go_at_call 37; refine (valid_any p k _ hp hp' hk hk').mono ?_; rintro e w1 ⟨rfl, hb1⟩; have q0 : w1.cell? ⟨w.heap.size, 0, none⟩ = some (.int .i64 p) := cell_bl hb1 (by simp); have q1 : w1.cell? ⟨w.heap.size, 1, none⟩ = some (.int .i64 k) := cell_bl hb1 (by simp); rw [H0.out]) | (go_at_call 40; refine (vhas_any p k l _ hp1 hp2 hk1 hk2).mono ?_; rintro e w2 ⟨rfl, hb2⟩; rw [HH.out]))
      go_ret2
      exact ⟨by rw [HE.out, HC.out]; rfl, (((Below.refl _ _).alloc (Nat.le_refl _) _).trans (hb1.mono (by simp))).trans (hb2.mono (by have := hb1.size; simp at this; omega))⟩
  · obtain ⟨he, hc⟩ := errOf_ne5 p k l h0
    have h0' : (errOf p k != 0) = true := by simpa using h0
    have HE := Lib.hid he; have HC := Lib.hid hc
    clear he hc h0
    go_enter Try.func23, Try.ntmps23
    go_wp2_with (first | (go_at_call 37; refine (valid_any p k _ hp hp' hk hk').mono ?_; rintro e w1 ⟨rfl, hb1⟩))
    go_ret2
    exact ⟨by rw [HE.out, HC.out]; rfl, ((Below.refl _ _).alloc (Nat.le_refl _) _).trans (hb1.mono (by simp))⟩

theorem conj_found (k l : Int) (q i : Int) (hk : 2 ≤ k) (hi : 0 ≤ i) (hi' : i < k) (h : q * k + 1 + i = l) : conj k l = q * k + k - i := by
  unfold conj
  have e : (l - 1) / k = q := by
    rw [← h, show q * k + 1 + i - 1 = i + q * k by omega, Int.add_mul_ediv_right _ _ (by omega), Int.ediv_eq_zero_of_lt (by omega) (by omega)]
    omega
  rw [e]; omega

theorem ret_ints {a b c d : Int} (h : a = b) (h' : c = d) : Ending.returned (.tuple #[.int .i64 a, .int .i64 c]) = .returned (.tuple #[.int .i64 b, .int .i64 d]) := by rw [h, h']

set_option maxHeartbeats 1000000 in
theorem rconjugate_any (p k l : Int) (w : World) (hp : -9223372036854775808 ≤ p) (hp' : p ≤ 9223372036854775807) (hk : -9223372036854775808 ≤ k) (hk' : k ≤ 9223372036854775807) :
    Calls Try.prog 24 #[.int .i64 p, .int .i64 k, .int .i64 l] w fun e w' => e = .returned (.tuple #[.int .i64 (conjR p k l), .int .i64 (leafErr p k l)]) ∧ w = w' := by
  by_cases h0 : errOf p k = 0
  · obtain ⟨hp1, hp2, hk1, hk2, hk3⟩ := errOf_zero h0
    obtain ⟨c1, c2⟩ := cntk_bd p k hp1 hp2 hk1 hk2
    obtain ⟨n1, n2, _, _⟩ := cnt_bd p k hp1 hp2 hk1 hk2
    by_cases hh : hasB p k l = true
    · obtain ⟨l1, l2⟩ := hasB_true hh
      have he : leafErr p k l = 0 := by unfold leafErr; rw [if_pos h0, if_pos hh]
      have hc : conjR p k l = conj k l := by unfold conjR; rw [if_pos he]
      have HE := Lib.hid he; have HC := Lib.hid hc; have H0 := Lib.hid h0; have HH := Lib.hid hh
      clear he hc h0 hh hk3
      go_enter Try.func24, Try.ntmps24
      go_wp2_with (first | (go_at_call 42; refine (error_any p k _ hp hp' hk hk').mono ?_; rintro e w1 ⟨rfl, rfl⟩; rw [H0.out]) | (go_at_call 43; refine (rhas_any p k l _ hp1 hp2 hk1 hk2).mono ?_; rintro e w2 ⟨rfl, rfl⟩; rw [HH.out]))
      go_loop [9] (fun i => ∃ q : Int, 0 ≤ q ∧ q ≤ cnt p k ∧ i = .int .i64 q ∧ q * k + 1 ≤ l) (fun i => (cnt p k - intOf i).toNat)
      case atStart => exact ⟨0, by omega, by omega, rfl, by omega⟩
      case round =>
        obtain ⟨q, hq0, hq, rfl, hql⟩ := hrel
        obtain ⟨_, m1, m2⟩ := cnt_step p k q hp1 hp2 hk1 hk2 hq0 hq
        by_cases hlt : q < cnt p k
        · go_wp2_with (first | (go_at_call 26; refine (count_any p k _ hp1 hp2 hk1 hk2).mono ?_; rintro e w1 ⟨rfl, rfl⟩))
          go_loop [10] (fun i => ∃ j : Int, 0 ≤ j ∧ j ≤ k ∧ i = .int .i64 j ∧ q * k + 1 + j ≤ l) (fun i => (k - intOf i).toNat)
          case atStart => exact ⟨0, by omega, by omega, rfl, by omega⟩
          case round =>
            obtain ⟨j, hj0, hj, rfl, hjl⟩ := hrel
            by_cases hlt2 : j < k
            · by_cases hf : q * k + 1 + j = l
              · have hfb : (q * k + 1 + j == l) = true := by simpa using hf
                have hcf := conj_found k l q j hk1 hj0 hlt2 hf
                have HCF := Lib.hid hcf; clear hcf hf
                go_wp2
                go_ret2
                exact ⟨ret_ints (by rw [HC.out, HCF.out]) (by rw [HE.out]), rfl⟩
              · have hfb : (q * k + 1 + j == l) = false := by simpa using hf
                go_wp2
                go_round
                case rel => exact ⟨j + 1, by omega, by omega, rfl, by omega⟩
                case measure => simp [intOf]; omega
            · have hs : (q + 1) * k = q * k + k := by rw [Int.add_mul, Int.one_mul]
              have HS := Lib.hid hs; clear hs
              go_wp2
              go_round
              case rel => exact ⟨q + 1, by omega, by omega, rfl, by rw [HS.out]; omega⟩
              case measure => simp [intOf]; omega
        · exfalso
          have : q = cnt p k := by omega
          subst this; omega
    · have he : leafErr p k l = 5 := by unfold leafErr; rw [if_pos h0, if_neg hh]
      have hc : conjR p k l = 0 := by unfold conjR; rw [if_neg (by rw [he]; decide)]
      have hh' : hasB p k l = false := by simpa using hh
      have HE := Lib.hid he; have HC := Lib.hid hc; have H0 := Lib.hid h0; have HH := Lib.hid hh'
      clear he hc h0 hh hh' hk3
      go_enter Try.func24, Try.ntmps24
      go_wp2_with (first | (go_at_call 42; refine (error_any p k _ hp hp' hk hk').mono ?_; rintro e w1 ⟨rfl, rfl⟩; rw [H0.out]) | (go_at_call 43; refine (rhas_any p k l _ hp1 hp2 hk1 hk2).mono ?_; rintro e w2 ⟨rfl, rfl⟩; rw [HH.out]))
      go_ret2
      exact ⟨ret_ints (by rw [HC.out]) (by rw [HE.out]), rfl⟩
  · obtain ⟨he, hc⟩ := errOf_ne5 p k l h0
    have h0' : (errOf p k != 0) = true := by simpa using h0
    have h0'' : (errOf p k == 0) = false := by simpa using h0
    have HE := Lib.hid he; have HC := Lib.hid hc
    clear he hc h0
    go_enter Try.func24, Try.ntmps24
    go_wp2_with (first | (go_at_call 42; refine (error_any p k _ hp hp' hk hk').mono ?_; rintro e w1 ⟨rfl, rfl⟩))
    go_ret2
    exact ⟨ret_ints (by rw [HC.out]) (by rw [HE.out]), rfl⟩

set_option maxHeartbeats 400000 in
theorem hasL_any (v : Value) (xs : List Int) (n : Int) (w : World) (h1 : RdI w v xs) :
    Calls Try.prog 28 #[v, .int .i64 n] w fun e w' => e = .returned (.bool (decide (n ∈ xs))) ∧ w = w' := by
  obtain ⟨a1, c1, rfl, l1, f1⟩ := h1.open
  clear h1
  have F1 := Lib.hid f1; clear f1
  go_enter Try.func28, Try.ntmps28
  go_wp2
  go_loop [5] (fun i => ∃ k : Nat, k ≤ xs.length ∧ i = .int .i64 k ∧ n ∉ xs.take k) (fun i => xs.length - (intOf i).toNat)
  case atStart => exact ⟨0, Nat.zero_le _, rfl, by simp⟩
  case round =>
    obtain ⟨k, hk, rfl, hn⟩ := hrel
    have HN := Lib.hid hn; clear hn
    by_cases hlt : k < xs.length
    · obtain ⟨x, hx⟩ := elem_at hlt
      obtain ⟨b1, o1, rfl, _, g1⟩ := F1.out k x hx
      have HX := Lib.hid hx; clear hx
      by_cases hxn : x = n
      · have hb : (x == n) = true := by simpa using hxn
        have hr : decide (n ∈ xs) = true := decide_eq_true (by rw [← hxn]; exact List.mem_of_getElem? HX.out)
        have HR := Lib.hid hr; clear hr hxn
        go_wp2
        go_ret
        exact ⟨ret_bool (by rw [HR.out]), rfl⟩
      · have hb : (x == n) = false := by simpa using hxn
        have ht : n ∉ xs.take (k + 1) := by
          rw [List.take_add_one, HX.out]
          simp only [Option.toList_some, List.mem_append, List.mem_singleton, not_or]
          exact ⟨HN.out, fun e => hxn e.symm⟩
        have HT := Lib.hid ht; clear ht hxn
        go_wp2
        go_round
        case rel => exact ⟨k + 1, by omega, by go_num, HT.out⟩
        case measure => simp [intOf]; omega
    · have hr : decide (n ∈ xs) = false := decide_eq_false (by have := HN.out; rwa [List.take_of_length_le (by omega)] at this)
      have HR := Lib.hid hr; clear hr
      go_wp2
      go_ret
      exact ⟨ret_bool (by rw [HR.out]), rfl⟩

set_option maxHeartbeats 1000000 in
theorem rcheck_any (p k : Int) (v : Value) (ys : List Sh) (w : World) (hp : -9223372036854775808 ≤ p) (hp' : p ≤ 9223372036854775807) (hk : -9223372036854775808 ≤ k) (hk' : k ≤ 9223372036854775807) (h1 : RdS w v ys) :
    Calls Try.prog 36 #[.int .i64 p, .int .i64 k, v] w fun e w' => e = .returned (.int .i64 (if errOf p k = 0 then (if fold p k = ys then 0 else 17) else errOf p k)) ∧ Below w.heap.size w w' := by
  by_cases h0 : errOf p k = 0
  · by_cases hf : fold p k = ys
    · have hr : (if errOf p k = 0 then (if fold p k = ys then (0 : Int) else 17) else errOf p k) = 0 := by rw [if_pos h0, if_pos hf]
      have hd : decide (fold p k = ys) = true := by simpa using hf
      rw [hr]
      have H0 := Lib.hid h0; have HD := Lib.hid hd
      clear h0 hf hr hd
      go_enter Try.func36, Try.ntmps36
      go_wp2_with (first | (go_at_call 32; refine (rfold_any p k _ hp hp' hk hk').mono ?_; rintro e w1 ⟨v1, rfl, hv1, hb1⟩; have hr1 := Rd_of_owns hv1; rw [H0.out]) | (go_at_call 34; refine (sameSheets_any _ _ _ _ _ hr1 (h1.below hb1)).mono ?_; rintro e w2 ⟨rfl, hb2⟩; rw [HD.out]))
      go_ret
      exact ⟨rfl, hb1.trans (hb2.mono hb1.size)⟩
    · have hr : (if errOf p k = 0 then (if fold p k = ys then (0 : Int) else 17) else errOf p k) = 17 := by rw [if_pos h0, if_neg hf]
      have hd : decide (fold p k = ys) = false := by simpa using hf
      rw [hr]
      have H0 := Lib.hid h0; have HD := Lib.hid hd
      clear h0 hf hr hd
      go_enter Try.func36, Try.ntmps36
      go_wp2_with (first | (go_at_call 32; refine (rfold_any p k _ hp hp' hk hk').mono ?_; rintro e w1 ⟨v1, rfl, hv1, hb1⟩; have hr1 := Rd_of_owns hv1; rw [H0.out]) | (go_at_call 34; refine (sameSheets_any _ _ _ _ _ hr1 (h1.below hb1)).mono ?_; rintro e w2 ⟨rfl, hb2⟩; rw [HD.out]))
      go_ret
      exact ⟨rfl, hb1.trans (hb2.mono hb1.size)⟩
  · have hr : (if errOf p k = 0 then (if fold p k = ys then (0 : Int) else 17) else errOf p k) = errOf p k := by rw [if_neg h0]
    have h0' : (errOf p k != 0) = true := by simpa using h0
    rw [hr]
    clear h0 hr
    go_enter Try.func36, Try.ntmps36
    go_wp2_with (first | (go_at_call 32; refine (rfold_any p k _ hp hp' hk hk').mono ?_; rintro e w1 ⟨v1, rfl, hv1, hb1⟩))
    go_ret
    exact ⟨rfl, hb1⟩
end Go.Proofs.Ythldekpbjfhmcaa
