import Derived.Test.YthldekpbjfhmcaaWh
namespace Go.Proofs.Ythldekpbjfhmcaa
open Go.RowKit

def mkS (p k : Int) (q i : Nat) : Sh := ⟨q, shw p (2 * ((q : Int) * k + k - i)), shw p (2 * ((q : Int) * k + 1 + i) - 1), shw p (2 * ((q : Int) * k + 1 + i)), shw p (2 * ((q : Int) * k + k - i) - 1)⟩
def rowS (p k : Int) (q : Nat) (i : Nat) : List Sh := (List.range i).map (mkS p k q)
def rowsS (p k : Int) (q : Nat) : List Sh := (List.range q).flatMap fun q => rowS p k q (k / 2).toNat
def fold (p k : Int) : List Sh := if errOf p k = 0 then rowsS p k (cnt p k).toNat else []

theorem rowsS_succ (p k : Int) (q : Nat) : rowsS p k (q + 1) = rowsS p k q ++ rowS p k q (k / 2).toNat := by
  unfold rowsS; rw [List.range_succ]; simp
theorem rowS_succ (p k : Int) (q i : Nat) : rowS p k q (i + 1) = rowS p k q i ++ [mkS p k q i] := range_snoc _ _
theorem rowS_len (p k : Int) (q i : Nat) : (rowS p k q i).length = i := by simp [rowS]
theorem rowsS_len (p k : Int) (q : Nat) : (rowsS p k q).length = q * (k / 2).toNat := by
  induction q with
  | zero => simp [rowsS]
  | succ q ih => rw [rowsS_succ, List.length_append, ih, rowS_len, Nat.succ_mul]

/-- a slice of the call's own that holds sheets -/
def OwnS (w : World) (B e : Nat) (v : Value) (L : List Sh) : Prop := w.ownsRow B e 5 v L.length (shs L)
theorem OwnS.nil (w : World) (B e : Nat) : OwnS w B e (.slice none 0 0) [] := by simpa [OwnS, shs] using World.ownsRow_nil w B e 5
theorem OwnS.snoc {w : World} {B e : Nat} {v : Value} {L : List Sh} {q a b c d : Int} (h : w.ownsRow B e 5 v (L.length + 1) (shs L ++ [.int .i64 q, .int .i64 a, .int .i64 b, .int .i64 c, .int .i64 d])) : OwnS w B e v (L ++ [⟨q, a, b, c, d⟩]) := by
  unfold OwnS; rw [List.length_append]; simpa [shs, sh] using h

theorem halves (k : Int) (hk : 2 ≤ k) (hk' : k ≤ 16) : 1 ≤ k / 2 ∧ k / 2 ≤ 8 ∧ ((k / 2).toNat : Int) = k / 2 := by omega

theorem nh_bd (p k : Int) (q i : Nat) (hp : 0 ≤ p) (hp' : p ≤ 999) (hk : 2 ≤ k) (hk' : k ≤ 16) (hq : (q : Int) ≤ cnt p k) (hi : i ≤ 8) : (rowsS p k q ++ rowS p k q i).length ≤ 600 := by
  obtain ⟨h1, h2, h3⟩ := halves k hk hk'
  obtain ⟨c1, c2⟩ := cntk_bd p k hp hp' hk hk'
  rw [List.length_append, rowsS_len, rowS_len]
  have : q * (k / 2).toNat ≤ 515 := by
    have e1 : ((q * (k / 2).toNat : Nat) : Int) = (q : Int) * (k / 2) := by rw [Int.natCast_mul, h3]
    have e2 : (q : Int) * (k / 2) ≤ cnt p k * (k / 2) := Int.mul_le_mul_of_nonneg_right hq (by omega)
    have e3 : cnt p k * (k / 2) ≤ cnt p k * k := Int.mul_le_mul_of_nonneg_left (by omega) (cnt_bd p k hp hp' hk hk').1
    omega
  omega

set_option maxRecDepth 100000 in
set_option maxHeartbeats 1000000 in
theorem rfold_any (p k : Int) (w : World) (hp : -9223372036854775808 ≤ p) (hp' : p ≤ 9223372036854775807) (hk : -9223372036854775808 ≤ k) (hk' : k ≤ 9223372036854775807) :
    Calls Try.prog 32 #[.int .i64 p, .int .i64 k] w fun e w' => ∃ v, e = .returned (.tuple #[v, .int .i64 (errOf p k)]) ∧ OwnS w' w.heap.size 76 v (fold p k) ∧ Below w.heap.size w w' := by
  by_cases h0 : errOf p k = 0
  · obtain ⟨hp1, hp2, hk1, hk2, hk3⟩ := errOf_zero h0
    have hq : fold p k = rowsS p k (cnt p k).toNat := by unfold fold; rw [if_pos h0]
    have HQ := Lib.hid hq; clear hq
    have H0 := Lib.hid h0
    obtain ⟨c1, c2, _, _⟩ := cnt_bd p k hp1 hp2 hk1 hk2
    obtain ⟨d1, d2, d3⟩ := halves k hk1 hk2
    have D3 := Lib.hid d3
    obtain ⟨i0, hi0, hz0, hz1, hz2⟩ := info_parts Try.info76
    have HI := Lib.hid hi0; have HZ0 := Lib.hid hz0; have HZ1 := Lib.hid hz1; have HZ2 := Lib.hid hz2
    clear hi0 hz0 hz1 hz2 hk3 h0 d3
    go_enter Try.func32, Try.ntmps32
    go_wp2_with (first | (go_at_call 42; refine (error_any p k _ hp hp' hk hk').mono ?_; rintro e w1 ⟨rfl, rfl⟩; rw [H0.out]))
    go_loopw [7, 8] (fun v i wr => ∃ q : Nat, (q : Int) ≤ cnt p k ∧ i = .int .i64 q ∧ OwnS wr w.heap.size 76 v (rowsS p k q) ∧ Below w.heap.size w wr) (fun _ i _ => (cnt p k).toNat - (intOf i).toNat)
    case atStart => exact ⟨0, by omega, rfl, by simpa [rowsS] using OwnS.nil _ _ _, Below.refl _ _⟩
    case round =>
      obtain ⟨q, hq, rfl, hown, hbl⟩ := hrel
      obtain ⟨_, m1, m2⟩ := cnt_step p k q hp1 hp2 hk1 hk2 (by omega) hq
      have HO := Lib.hid hown; have HB := Lib.hid hbl
      clear hown hbl
      obtain ⟨wo, rfl⟩ : ∃ wo : World, wo = wr := ⟨_, rfl⟩
      by_cases hlt : (q : Int) < cnt p k
      · go_wp2_with (first | (go_at_call 26; refine (count_any p k _ hp1 hp2 hk1 hk2).mono ?_; rintro e w1 ⟨rfl, rfl⟩))
        go_loopw [7, 9] (fun v i wr => ∃ j : Nat, (j : Int) ≤ k / 2 ∧ i = .int .i64 j ∧ OwnS wr w.heap.size 76 v (rowsS p k q ++ rowS p k q j) ∧ Below w.heap.size w wr) (fun _ i _ => (k / 2).toNat - (intOf i).toNat)
        case atStart => exact ⟨0, by omega, rfl, by simpa [rowS] using HO.out, HB.out⟩
        case round =>
          obtain ⟨j, hj, rfl, hown, hbl⟩ := hrel
          have HO' := Lib.hid hown; have HB' := Lib.hid hbl
          have hbs := hbl.size
          clear hown hbl
          by_cases hlt2 : (j : Int) < k / 2
          · have hln := nh_bd p k q j hp1 hp2 hk1 hk2 (by omega) (by omega)
            generalize hL : rowsS p k q ++ rowS p k q j = L at *
            have HL := Lib.hid hL; clear hL
            go_wp2_with (first | (go_at_call 45; refine (shown_any _ _ _).mono ?_; rintro e w1 ⟨rfl, rfl⟩) | (at_builtin; refine wpList_append_lies _ rfl _ _ _ rfl w.heap.size 76 i0 _ 5 40 Try.underlying31 HI.out HZ0.out HZ1.out HZ2.out rfl (by omega) _ L.length (shs L) rfl (HO'.out.alloc _) ⟨wr.heap.size, 0, none⟩ 1 1 [.int .i64 q, .int .i64 (shw p (2 * ((q : Int) * k + k - j))), .int .i64 (shw p (2 * ((q : Int) * k + 1 + j) - 1)), .int .i64 (shw p (2 * ((q : Int) * k + 1 + j))), .int .i64 (shw p (2 * ((q : Int) * k + k - j) - 1))] rfl rfl (World.news_of_block (cs := #[.int .i64 q, .int .i64 (shw p (2 * ((q : Int) * k + k - j))), .int .i64 (shw p (2 * ((q : Int) * k + 1 + j) - 1)), .int .i64 (shw p (2 * ((q : Int) * k + 1 + j))), .int .i64 (shw p (2 * ((q : Int) * k + k - j) - 1))]) (t := 76) (fr := (0, 0)) (heap_alloc_new wr _)) (by simp [Value.oneCell']) (by omega) (by unfold maxLen; omega) (by omega) (by simp; omega) (wr.heap.size + 1) (by simp) ?_; intro gg cap w3 hown1 hgrow hat hltg))
            have hown2 := OwnS.snoc hown1
            go_roundw
            case rel => exact ⟨j + 1, by omega, by go_num, by rw [rowS_succ, ← List.append_assoc, HL.out]; exact hown2, (HB'.out.alloc hbs _).grown hgrow (by simp; omega) (fun j e => (HO'.out.lt j e).1)⟩
            case measure => simp [intOf]; omega
          · have hjj : j = (k / 2).toNat := by omega
            have HJ := Lib.hid hjj; clear hjj
            go_wp2
            go_roundw
            case rel => exact ⟨q + 1, by omega, by go_num, by rw [rowsS_succ, ← HJ.out]; exact HO'.out, HB'.out⟩
            case measure => simp [intOf]; omega
      · have he : q = (cnt p k).toNat := by omega
        have HE := Lib.hid he
        clear he
        go_wp2_with (first | (go_at_call 26; refine (count_any p k _ hp1 hp2 hk1 hk2).mono ?_; rintro e w1 ⟨rfl, rfl⟩))
        go_ret2
        refine ⟨_, ret_vpair H0.out.symm, ?_, HB.out⟩
        rw [HQ.out, ← HE.out]; exact HO.out
  · have hq : fold p k = [] := by unfold fold; rw [if_neg h0]
    have HQ := Lib.hid hq; clear hq
    have h0' : (errOf p k != 0) = true := by simpa using h0
    go_enter Try.func32, Try.ntmps32
    go_wp2_with (first | (go_at_call 42; refine (error_any p k _ hp hp' hk hk').mono ?_; rintro e w1 ⟨rfl, rfl⟩))
    go_ret2
    refine ⟨_, rfl, ?_, Below.refl _ _⟩
    rw [HQ.out]; exact OwnS.nil _ _ _
end Go.Proofs.Ythldekpbjfhmcaa
