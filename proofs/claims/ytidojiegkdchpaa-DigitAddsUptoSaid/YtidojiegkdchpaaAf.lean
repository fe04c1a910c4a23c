/- Total, Sum (both). -/
import Derived.Test.YtidojiegkdchpaaAe
namespace Go.Proofs.Ytidojiegkdchpaa
open Go.RowKit Go.Maps

def prods (ws vs : List Int) : List Int := List.zipWith (· * ·) ws vs
def dotF (ws vs : List Int) : Int := (prods ws vs).sum
theorem prods_len (ws vs : List Int) : (prods ws vs).length = min ws.length vs.length := List.length_zipWith ..
theorem prods_at {ws vs : List Int} {k : Nat} {x y : Int} (hx : ws[k]? = some x) (hy : vs[k]? = some y) : (prods ws vs)[k]? = some (x * y) := by
  unfold prods; rw [List.getElem?_zipWith, hx, hy]
theorem sum_snoc (l : List Int) (x : Int) : (l ++ [x]).sum = l.sum + x := by simp [List.sum_append]
def mid (b : Int) (ws : List Int) : Prop := ∀ x, x ∈ ws → 0 ≤ x ∧ x ≤ b
theorem mul_bd {x y : Int} (h1 : 0 ≤ x) (h2 : x ≤ 1024) (h3 : 0 ≤ y) (h4 : y ≤ 1024) : 0 ≤ x * y ∧ x * y ≤ 1048576 := by
  refine ⟨Int.mul_nonneg h1 h3, ?_⟩
  have := Int.mul_le_mul h2 h4 h3 (by omega : (0:Int) ≤ 1024)
  omega
theorem prods_bd {ws vs : List Int} (h1 : mid 1024 ws) (h2 : mid 1024 vs) : mid 1048576 (prods ws vs) := by
  intro p hp
  obtain ⟨k, hk⟩ := List.mem_iff_getElem?.1 hp
  have hl := (List.getElem?_eq_some_iff.1 hk).1
  rw [prods_len] at hl
  obtain ⟨x, hx⟩ := elem_at (l := ws) (k := k) (by omega)
  obtain ⟨y, hy⟩ := elem_at (l := vs) (k := k) (by omega)
  rw [prods_at hx hy] at hk
  have a := h1 x (List.mem_of_getElem? hx)
  have b := h2 y (List.mem_of_getElem? hy)
  rw [← Option.some.inj hk]
  exact mul_bd a.1 a.2 b.1 b.2
theorem sum_bd {l : List Int} (h : mid 1048576 l) (k : Nat) : 0 ≤ (l.take k).sum ∧ (l.take k).sum ≤ 1048576 * k := by
  induction k with
  | zero => simp
  | succ k ih =>
    rcases Nat.lt_or_ge k l.length with hk | hk
    · obtain ⟨x, hx⟩ := elem_at hk
      rw [take_succ_at hx, sum_snoc]
      have := h x (List.mem_of_getElem? hx)
      omega
    · rw [List.take_of_length_le (by omega)]
      rw [List.take_of_length_le (by omega)] at ih
      omega

set_option maxHeartbeats 1000000 in
theorem rtotal_any (v1 v2 : Value) (ws vs : List Int) (m : Int) (w : World) (h1 : RdI w v1 ws) (h2 : RdI w v2 vs) (hm : 2 ≤ m) (hm' : m ≤ 1024) (b1 : mid 1024 ws) (b2 : mid 1024 vs) (hl : ws.length ≤ 1000) :
    Calls Try.prog 12 #[v1, .int .i64 m, v2] w fun e w' => e = .returned (.int .i64 (dotF ws vs % m)) ∧ Below w.heap.size w w' := by
  obtain ⟨a1, c1, rfl, l1, f1⟩ := h1.open
  obtain ⟨a2, c2, rfl, l2, f2⟩ := h2.open
  clear h1 h2
  have PB := Lib.hid (prods_bd b1 b2)
  have F1 := Lib.hid f1; have F2 := Lib.hid f2; have B1 := Lib.hid b1; have B2 := Lib.hid b2
  clear f1 f2 b1 b2
  go_enter Try.func12, Try.ntmps12
  go_wp2_with fail
  go_loopw [7, 8] (fun s i wr => ∃ k : Nat, k ≤ ws.length ∧ k ≤ vs.length ∧ i = .int .i64 k ∧ s = .int .i64 ((prods ws vs).take k).sum ∧ ∃ nq, wr = w.drewN nq) (fun _ i _ => ws.length - (intOf i).toNat)
  case atStart => exact ⟨0, Nat.zero_le _, Nat.zero_le _, rfl, rfl, 0, rfl⟩
  case round =>
    obtain ⟨k, hk1, hk2, rfl, rfl, nq, rfl⟩ := hrel
    by_cases hlt : k < ws.length
    · have q1 : (k : Int) < (ws.length : Int) := by omega
      by_cases hlt2 : k < vs.length
      · have q2 : (k : Int) < (vs.length : Int) := by omega
        obtain ⟨x, hx⟩ := elem_at hlt
        obtain ⟨y, hy⟩ := elem_at hlt2
        obtain ⟨d1, o1, rfl, _, g1⟩ := F1.out k x hx
        obtain ⟨d2, o2, rfl, _, g2⟩ := F2.out k y hy
        have xb := B1.out x (List.mem_of_getElem? hx)
        have yb := B2.out y (List.mem_of_getElem? hy)
        obtain ⟨p1, p2⟩ := mul_bd xb.1 xb.2 yb.1 yb.2
        obtain ⟨s1, s2⟩ := sum_bd PB.out k
        have hsn : ((prods ws vs).take (k + 1)).sum = ((prods ws vs).take k).sum + x * y := by rw [take_succ_at (prods_at hx hy), sum_snoc]
        have HS := Lib.hid hsn
        clear hsn hx hy xb yb
        generalize hT : ((prods ws vs).take k).sum = T at *
        have HT := Lib.hid hT; clear hT
        go_wp2_with fail
        go_quiet (fail)
        go_wp2_with fail
        go_roundw
        case rel => exact ⟨k + 1, by omega, by omega, by go_num, by rw [HS.out], _, rfl⟩
        case measure => simp [intOf]; omega
      · have q2 : ¬ (k : Int) < (vs.length : Int) := by omega
        obtain ⟨s1, s2⟩ := sum_bd PB.out k
        have he : (prods ws vs).take k = prods ws vs := List.take_of_length_le (by rw [prods_len]; omega)
        have he2 : ((prods ws vs).take k).sum = dotF ws vs := by rw [he]; rfl
        rw [he2] at s1 s2 ⊢
        clear he he2
        go_wp2_with fail
        all_goals first | (go_quiet (fail); go_wp2_with fail) | skip
        go_ret
        exact ⟨rfl, by repeat (first | exact Below.refl _ _ | refine Below.dn ?_ _)⟩
    · have q1 : ¬ (k : Int) < (ws.length : Int) := by omega
      obtain ⟨s1, s2⟩ := sum_bd PB.out k
      have he : (prods ws vs).take k = prods ws vs := List.take_of_length_le (by rw [prods_len]; omega)
      have he2 : ((prods ws vs).take k).sum = dotF ws vs := by rw [he]; rfl
      rw [he2] at s1 s2 ⊢
      clear he he2
      go_wp2_with fail
      all_goals first | (go_quiet (fail); go_wp2_with fail) | skip
      go_ret
      exact ⟨rfl, by repeat (first | exact Below.refl _ _ | refine Below.dn ?_ _)⟩

def sumE (ws : List Int) (m : Int) (vs : List Int) : Int := if errF ws m ≠ 0 then errF ws m else if vs.length ≠ ws.length then 1 else if vs.any (badW m) then 1 else 0
def sumV (ws : List Int) (m : Int) (vs : List Int) : Int := if errF ws m ≠ 0 then 0 else if vs.length ≠ ws.length then 0 else if vs.any (badW m) then 0 else dotF ws vs % m
theorem sum_cases (ws : List Int) (m : Int) (vs : List Int) : (errF ws m ≠ 0 ∧ sumV ws m vs = 0 ∧ sumE ws m vs = errF ws m) ∨ (errF ws m = 0 ∧ vs.length ≠ ws.length ∧ sumV ws m vs = 0 ∧ sumE ws m vs = 1) ∨
    (errF ws m = 0 ∧ vs.length = ws.length ∧ sumV ws m vs = (if vs.any (badW m) then 0 else dotF ws vs % m) ∧ sumE ws m vs = if vs.any (badW m) then 1 else 0) := by
  unfold sumE sumV
  by_cases h : errF ws m = 0
  · by_cases h2 : vs.length = ws.length
    · exact .inr (.inr (by simp [h, h2]))
    · exact .inr (.inl (by simp [h, h2]))
  · exact .inl (by simp [h])
theorem ret_ii {a b c d : Int} (h : a = b) (h' : c = d) : Ending.returned (.tuple #[.int .i64 a, .int .i64 c]) = .returned (.tuple #[.int .i64 b, .int .i64 d]) := by rw [h, h']
theorem mid_of {m b : Int} {ws : List Int} (h : ws.any (badW m) = false) (hb : m ≤ b) : mid b ws := by
  intro x hx
  rw [List.any_eq_false] at h
  have := badW_false (by simpa using h x hx : badW m x = false)
  omega

set_option maxHeartbeats 1000000 in
theorem rsum_any (v1 v2 : Value) (ws vs : List Int) (m : Int) (w : World) (h1 : RdI w v1 ws) (h2 : RdI w v2 vs) :
    Calls Try.prog 13 #[v1, .int .i64 m, v2] w fun e w' => e = .returned (.tuple #[.int .i64 (sumV ws m vs), .int .i64 (sumE ws m vs)]) ∧ Below w.heap.size w w' := by
  have ER := error_any v1 ws m w h1
  have R1 := Lib.hid h1; have R2 := Lib.hid h2
  obtain ⟨a1, c1, rfl, l1, f1⟩ := h1.open
  obtain ⟨a2, c2, rfl, l2, f2⟩ := h2.open
  clear h1 h2 f1
  have F2 := Lib.hid f2; clear f2
  rcases sum_cases ws m vs with ⟨e0, e1, e2⟩ | ⟨e0, e1, e2, e3⟩ | ⟨e0, e1, e2, e3⟩
  · have E1 := Lib.hid e1; have E2 := Lib.hid e2
    have hb : (errF ws m != 0) = true := by simpa using e0
    clear e0 e1 e2
    go_enter Try.func13, Try.ntmps13
    go_wp2_with fail
    refine ER.mono ?_
    rintro e w1 ⟨rfl, hb1⟩
    go_wp2_with fail
    go_ret2
    exact ⟨ret_ii E1.out.symm E2.out.symm, hb1⟩
  · have E1 := Lib.hid e2; have E2 := Lib.hid e3
    rw [e0] at ER
    have hb : (((vs.length : Nat) : Int) != ((ws.length : Nat) : Int)) = true := by simp; omega
    clear e0 e1 e2 e3
    go_enter Try.func13, Try.ntmps13
    go_wp2_with fail
    refine ER.mono ?_
    rintro e w1 ⟨rfl, hb1⟩
    go_wp2_with fail
    go_ret2
    exact ⟨ret_ii E1.out.symm E2.out.symm, hb1⟩
  · have E1 := Lib.hid e2; have E2 := Lib.hid e3
    rw [e0] at ER
    obtain ⟨z1, z2, z3, z4⟩ := errF_0 e0
    have Z4 := Lib.hid z4
    have hb : (((vs.length : Nat) : Int) != ((ws.length : Nat) : Int)) = false := by simp; omega
    have EL := Lib.hid e1
    clear e0 e1 e2 e3 z4
    go_enter Try.func13, Try.ntmps13
    go_wp2_with fail
    refine ER.mono ?_
    rintro e w1 ⟨rfl, hb1⟩
    clear ER
    go_wp2_with fail
    go_loopw [9] (fun i wr => ∃ k : Nat, k ≤ vs.length ∧ i = .int .i64 k ∧ (∀ j x, j < k → vs[j]? = some x → badW m x = false) ∧ Below w.heap.size w wr) (fun i _ => vs.length - (intOf i).toNat)
    case atStart => exact ⟨0, Nat.zero_le _, rfl, by omega, hb1⟩
    case round =>
      obtain ⟨k, hk, rfl, hno, hbl⟩ := hrel
      by_cases hlt : k < vs.length
      · obtain ⟨x, hx⟩ := elem_at hlt
        obtain ⟨b, o, rfl, hbs, g⟩ := F2.out k x hx
        have gr := (hbl.cell (p := ⟨b, o + k, none⟩) hbs).trans g
        have hlt' : (k : Int) < (vs.length : Int) := by omega
        have HN := Lib.hid hno; have HX := Lib.hid hx; have HB := Lib.hid hbl
        clear hno hx g hbl hb1
        cases hb : badW m x
        · obtain ⟨b1, b2⟩ := badW_false hb
          have HBF := Lib.hid hb; clear hb
          go_wp2_with fail
          all_goals first | (go_quiet (fail); go_wp2_with fail) | skip
          go_roundw
          case rel =>
            refine ⟨k + 1, by omega, by go_num, fun j y hj hy => ?_, by first | exact HB.out | exact HB.out.dn _⟩
            rcases Nat.lt_or_ge j k with h | h
            · exact HN.out j y h hy
            · obtain rfl : j = k := by omega
              rw [HX.out] at hy
              exact Option.some.inj hy ▸ HBF.out
          case measure => simp [intOf]; omega
        · have hr := any_yes HX.out hb
          have hr1 := E1.out
          have hr2 := E2.out
          rw [hr, if_pos rfl] at hr2 hr1
          have HR1 := Lib.hid hr1; have HR := Lib.hid hr2
          rcases badW_true hb with b1 | ⟨b1, b2⟩
          · clear hr hr1 hr2 hb
            go_wp2_with fail
            all_goals first | (go_quiet (fail); go_wp2_with fail) | skip
            go_ret2
            exact ⟨ret_ii HR1.out.symm HR.out.symm, by first | exact HB.out | exact HB.out.dn _⟩
          · clear hr hr1 hr2 hb
            go_wp2_with fail
            all_goals first | (go_quiet (fail); go_wp2_with fail) | skip
            go_ret2
            exact ⟨ret_ii HR1.out.symm HR.out.symm, by first | exact HB.out | exact HB.out.dn _⟩
      · have hr := any_no (k := k) (by omega) hno
        have hr1 := E1.out
        have hr2 := E2.out
        rw [hr, if_neg (by simp)] at hr2 hr1
        have HR1 := Lib.hid hr1; have HR := Lib.hid hr2; have HB := Lib.hid hbl
        have TT := rtotal_any _ _ ws vs m wr (R1.out.below hbl) (R2.out.below hbl) z2 z3 (fun x hx => by have := Z4.out x hx; omega) (mid_of hr z3) (by omega)
        clear hr hr1 hr2 hno hbl hb1
        have hlt' : ¬ (k : Int) < (vs.length : Int) := by omega
        go_wp2_with fail
        refine TT.mono ?_
        rintro e w2 ⟨rfl, hb2⟩
        clear TT
        go_wp2_with fail
        go_ret2
        exact ⟨ret_ii HR1.out.symm HR.out.symm, HB.out.trans (hb2.mono HB.out.size)⟩

set_option maxHeartbeats 1000000 in
theorem sum_any (v1 v2 : Value) (ws vs : List Int) (m : Int) (w : World) (h1 : RdI w v1 ws) (h2 : RdI w v2 vs) :
    Calls Try.prog 11 #[v1, .int .i64 m, v2] w fun e w' => e = .returned (.tuple #[.int .i64 (sumV ws m vs), .int .i64 (sumE ws m vs)]) ∧ Below w.heap.size w w' := by
  have ER := proper_any v1 ws m w h1
  obtain ⟨a1, c1, rfl, l1, f1⟩ := h1.open
  obtain ⟨a2, c2, rfl, l2, f2⟩ := h2.open
  clear h1 h2
  have F1 := Lib.hid f1; have F2 := Lib.hid f2; clear f1 f2
  rcases sum_cases ws m vs with ⟨e0, e1, e2⟩ | ⟨e0, e1, e2, e3⟩ | ⟨e0, e1, e2, e3⟩
  · have E1 := Lib.hid e1; have E2 := Lib.hid e2
    have hb : (errF ws m != 0) = true := by simpa using e0
    clear e0 e1 e2
    go_enter Try.func11, Try.ntmps11
    go_wp2_with fail
    refine ER.mono ?_
    rintro e w1 ⟨rfl, hb1⟩
    go_wp2_with fail
    go_ret2
    exact ⟨ret_ii E1.out.symm E2.out.symm, hb1⟩
  · have E1 := Lib.hid e2; have E2 := Lib.hid e3
    rw [e0] at ER
    have hb : (((vs.length : Nat) : Int) != ((ws.length : Nat) : Int)) = true := by simp; omega
    clear e0 e1 e2 e3
    go_enter Try.func11, Try.ntmps11
    go_wp2_with fail
    refine ER.mono ?_
    rintro e w1 ⟨rfl, hb1⟩
    go_wp2_with fail
    go_ret2
    exact ⟨ret_ii E1.out.symm E2.out.symm, hb1⟩
  · have E1 := Lib.hid e2; have E2 := Lib.hid e3
    rw [e0] at ER
    obtain ⟨z1, z2, z3, z4⟩ := errF_0 e0
    have Z4 := Lib.hid z4
    have hb : (((vs.length : Nat) : Int) != ((ws.length : Nat) : Int)) = false := by simp; omega
    have EL := Lib.hid e1
    clear e0 e1 e2 e3 z4
    go_enter Try.func11, Try.ntmps11
    go_wp2_with fail
    refine ER.mono ?_
    rintro e w1 ⟨rfl, hb1⟩
    clear ER
    go_wp2_with fail
    go_loopw [9, 25] (fun s i wr => ∃ k : Nat, k ≤ vs.length ∧ i = .int .i64 k ∧ s = .int .i64 (((prods ws vs).take k).sum % m) ∧ (∀ j x, j < k → vs[j]? = some x → badW m x = false) ∧ Below w.heap.size w wr) (fun _ i _ => vs.length - (intOf i).toNat)
    case atStart => exact ⟨0, Nat.zero_le _, rfl, by simp, by omega, hb1⟩
    case round =>
      obtain ⟨k, hk, rfl, rfl, hno, hbl⟩ := hrel
      have u0 := Int.emod_nonneg ((prods ws vs).take k).sum (show m ≠ 0 by omega)
      have u1 := Int.emod_lt_of_pos ((prods ws vs).take k).sum (show 0 < m by omega)
      by_cases hlt : k < vs.length
      · obtain ⟨x, hx⟩ := elem_at hlt
        obtain ⟨y, hy⟩ := elem_at (l := ws) (k := k) (by have := EL.out; omega)
        obtain ⟨b, o, rfl, hbs, g⟩ := F2.out k x hx
        obtain ⟨b', o', rfl, hbs', g'⟩ := F1.out k y hy
        have gr := (hbl.cell (p := ⟨b, o + k, none⟩) hbs).trans g
        have gr' := (hbl.cell (p := ⟨b', o' + k, none⟩) hbs').trans g'
        have hlt' : (k : Int) < (vs.length : Int) := by omega
        have hlt2 : (k : Int) < (ws.length : Int) := by have := EL.out; omega
        have hlt3 : k < ws.length := by omega
        have hyb := Z4.out y (List.mem_of_getElem? hy)
        have hsn : ((prods ws vs).take (k + 1)).sum = ((prods ws vs).take k).sum + y * x := by rw [take_succ_at (prods_at hy hx), sum_snoc]
        have HN := Lib.hid hno; have HX := Lib.hid hx; have HB := Lib.hid hbl; have HS := Lib.hid hsn
        clear hno hx hy g g' hbl hb1 hsn
        generalize hT : ((prods ws vs).take k).sum = T at *
        have HT := Lib.hid hT; clear hT
        cases hb : badW m x
        · obtain ⟨b1, b2⟩ := badW_false hb
          obtain ⟨p1, p2⟩ := mul_bd hyb.1 (by omega) b1 (by omega)
          have HBF := Lib.hid hb; clear hb
          go_wp2_with fail
          all_goals first | (go_quiet (fail); go_wp2_with fail) | skip
          go_roundw
          case rel =>
            refine ⟨k + 1, by omega, by go_num, ?_, fun j y hj hy => ?_, by first | exact HB.out | exact HB.out.dn _⟩
            · rw [HS.out]
              have : (T % m + y * x) % m = (T + y * x) % m := Int.emod_add_emod ..
              rw [← this]
            · rcases Nat.lt_or_ge j k with h | h
              · exact HN.out j y h hy
              · obtain rfl : j = k := by omega
                rw [HX.out] at hy
                exact Option.some.inj hy ▸ HBF.out
          case measure => simp [intOf]; omega
        · have hr := any_yes HX.out hb
          have hr1 := E1.out
          have hr2 := E2.out
          rw [hr, if_pos rfl] at hr2 hr1
          have HR1 := Lib.hid hr1; have HR := Lib.hid hr2
          rcases badW_true hb with b1 | ⟨b1, b2⟩
          · clear hr hr1 hr2 hb
            go_wp2_with fail
            all_goals first | (go_quiet (fail); go_wp2_with fail) | skip
            go_ret2
            exact ⟨ret_ii HR1.out.symm HR.out.symm, by first | exact HB.out | exact HB.out.dn _⟩
          · clear hr hr1 hr2 hb
            go_wp2_with fail
            all_goals first | (go_quiet (fail); go_wp2_with fail) | skip
            go_ret2
            exact ⟨ret_ii HR1.out.symm HR.out.symm, by first | exact HB.out | exact HB.out.dn _⟩
      · have hr := any_no (k := k) (by omega) hno
        have hr1 := E1.out
        have hr2 := E2.out
        rw [hr, if_neg (by simp)] at hr2 hr1
        have he : ((prods ws vs).take k).sum = dotF ws vs := by rw [List.take_of_length_le (by rw [prods_len]; omega)]; rfl
        rw [he] at u0 u1 ⊢
        have HR1 := Lib.hid hr1; have HR := Lib.hid hr2; have HB := Lib.hid hbl
        clear hr hr1 hr2 hno hbl hb1 he
        have hlt' : ¬ (k : Int) < (vs.length : Int) := by omega
        go_wp2_with fail
        go_ret2
        exact ⟨ret_ii HR1.out.symm HR.out.symm, HB.out⟩
end Go.Proofs.Ytidojiegkdchpaa
