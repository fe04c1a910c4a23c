/- Error, proper: the errors of a scheme. -/
import Derived.Test.YtidojiegkdchpaaAd
namespace Go.Proofs.Ytidojiegkdchpaa
open Go.RowKit Go.Maps

def badW (m x : Int) : Bool := decide (x < 0) || decide (m ≤ x)
def errF (ws : List Int) (m : Int) : Int := if 256 < ws.length then 4 else if m < 2 ∨ 1024 < m then 1 else if ws.any (badW m) then 1 else 0
theorem any_no {ws : List Int} {m : Int} {k : Nat} (h : k = ws.length) (ha : ∀ j x, j < k → ws[j]? = some x → badW m x = false) : ws.any (badW m) = false := by
  rw [List.any_eq_false]
  intro x hx
  obtain ⟨j, hj⟩ := List.mem_iff_getElem?.1 hx
  have := ha j x (by rw [h]; exact (List.getElem?_eq_some_iff.1 hj).1) hj
  simp [this]
theorem any_yes {ws : List Int} {m : Int} {k : Nat} {x : Int} (h : ws[k]? = some x) (hb : badW m x = true) : ws.any (badW m) = true := by
  rw [List.any_eq_true]
  exact ⟨x, List.mem_of_getElem? h, hb⟩
theorem badW_true {m x : Int} (h : badW m x = true) : x < 0 ∨ (0 ≤ x ∧ m ≤ x) := by unfold badW at h; simp at h; omega
theorem badW_false {m x : Int} (h : badW m x = false) : 0 ≤ x ∧ x < m := by unfold badW at h; simp at h; omega
theorem errF_0 {ws : List Int} {m : Int} (h : errF ws m = 0) : ws.length ≤ 256 ∧ 2 ≤ m ∧ m ≤ 1024 ∧ ∀ x, x ∈ ws → 0 ≤ x ∧ x < m := by
  unfold errF at h
  split at h
  · cases h
  · split at h
    · cases h
    · split at h
      · cases h
      · rename_i h3
        refine ⟨by omega, by omega, by omega, fun x hx => badW_false ?_⟩
        have h3' : ws.any (badW m) = false := by simpa using h3
        rw [List.any_eq_false] at h3'
        simpa using h3' x hx
theorem errF_cases (ws : List Int) (m : Int) : (256 < ws.length ∧ errF ws m = 4) ∨ (ws.length ≤ 256 ∧ m < 2 ∧ errF ws m = 1) ∨ (ws.length ≤ 256 ∧ 2 ≤ m ∧ 1024 < m ∧ errF ws m = 1) ∨ (ws.length ≤ 256 ∧ 2 ≤ m ∧ m ≤ 1024 ∧ errF ws m = if ws.any (badW m) then 1 else 0) := by
  unfold errF
  split
  · exact .inl ⟨by omega, rfl⟩
  · split
    · rename_i h
      rcases Int.lt_or_le m 2 with h2 | h2
      · exact .inr (.inl ⟨by omega, h2, rfl⟩)
      · exact .inr (.inr (.inl ⟨by omega, h2, by omega, rfl⟩))
    · exact .inr (.inr (.inr ⟨by omega, by omega, by omega, rfl⟩))
theorem errF_vals (ws : List Int) (m : Int) : 0 ≤ errF ws m ∧ errF ws m ≤ 4 := by
  unfold errF
  repeat' split
  all_goals omega

set_option maxHeartbeats 1000000 in
theorem error_any (v : Value) (ws : List Int) (m : Int) (w : World) (h : RdI w v ws) :
    Calls Try.prog 35 #[v, .int .i64 m] w fun e w' => e = .returned (.int .i64 (errF ws m)) ∧ Below w.heap.size w w' := by
  obtain ⟨a, c, rfl, l1, f1⟩ := h.open
  clear h
  have F1 := Lib.hid f1; clear f1
  rcases errF_cases ws m with ⟨h1, h⟩ | ⟨h1, h2, h⟩ | ⟨h1, h2, h3, h⟩ | ⟨h1, h2, h3, h⟩
  · have H := Lib.hid h; clear h
    have g1 : (256 : Int) < (ws.length : Int) := by omega
    go_enter Try.func35, Try.ntmps35
    go_wp2_with fail
    go_ret
    exact ⟨ret_int H.out.symm, Below.refl _ _⟩
  · have H := Lib.hid h; clear h
    have g1 : ¬ (256 : Int) < (ws.length : Int) := by omega
    go_enter Try.func35, Try.ntmps35
    go_wp2_with fail
    go_ret
    exact ⟨ret_int H.out.symm, Below.refl _ _⟩
  · have H := Lib.hid h; clear h
    have g1 : ¬ (256 : Int) < (ws.length : Int) := by omega
    go_enter Try.func35, Try.ntmps35
    go_wp2_with fail
    go_ret
    exact ⟨ret_int H.out.symm, Below.refl _ _⟩
  · have H := Lib.hid h; clear h
    have g1 : ¬ (256 : Int) < (ws.length : Int) := by omega
    go_enter Try.func35, Try.ntmps35
    go_wp2_with fail
    go_loopw [5] (fun i wr => ∃ k : Nat, k ≤ ws.length ∧ i = .int .i64 k ∧ (∀ j x, j < k → ws[j]? = some x → badW m x = false) ∧ Below w.heap.size w wr) (fun i _ => ws.length - (intOf i).toNat)
    case atStart => exact ⟨0, Nat.zero_le _, rfl, by omega, Below.refl _ _⟩
    case round =>
      obtain ⟨k, hk, rfl, hno, hbl⟩ := hrel
      by_cases hlt : k < ws.length
      · obtain ⟨x, hx⟩ := elem_at hlt
        obtain ⟨b, o, rfl, hbs, g⟩ := F1.out k x hx
        have gr := (hbl.cell (p := ⟨b, o + k, none⟩) hbs).trans g
        have hlt' : (k : Int) < (ws.length : Int) := by omega
        have HN := Lib.hid hno; have HX := Lib.hid hx; have HB := Lib.hid hbl
        clear hno hx g hbl
        cases hb : badW m x
        · obtain ⟨b1, b2⟩ := badW_false hb
          have HBF := Lib.hid hb; clear hb
          go_wp2_with fail
          all_goals first | (go_quiet (fail); go_wp2_with fail) | skip
          go_roundw
          case rel =>
            refine ⟨k + 1, by omega, by go_num, fun j y hj hy => ?_, by first | exact HB.out | exact HB.out.dn _⟩
            rcases Nat.lt_or_ge j k with h | h
            · exact HN.out j y h hy
            · obtain rfl : j = k := by omega
              rw [HX.out] at hy
              exact Option.some.inj hy ▸ HBF.out
          case measure => simp [intOf]; omega
        · have hr := any_yes HX.out hb
          have hr2 := H.out
          rw [hr, if_pos rfl] at hr2
          have HR := Lib.hid hr2
          rcases badW_true hb with b1 | ⟨b1, b2⟩
          · clear hr hr2 hb
            go_wp2_with fail
            all_goals first | (go_quiet (fail); go_wp2_with fail) | skip
            go_ret
            exact ⟨ret_int HR.out.symm, by first | exact HB.out | exact HB.out.dn _⟩
          · clear hr hr2 hb
            go_wp2_with fail
            all_goals first | (go_quiet (fail); go_wp2_with fail) | skip
            go_ret
            exact ⟨ret_int HR.out.symm, by first | exact HB.out | exact HB.out.dn _⟩
      · have hr := any_no (k := k) (by omega) hno
        have hr2 := H.out
        rw [hr] at hr2
        have hr3 : errF ws m = 0 := hr2
        have HR := Lib.hid hr3; have HB := Lib.hid hbl
        clear hr hr2 hr3 hno hbl
        have hlt' : ¬ (k : Int) < (ws.length : Int) := by omega
        go_wp2_with fail
        go_ret
        exact ⟨ret_int HR.out.symm, HB.out⟩

set_option maxHeartbeats 1000000 in
theorem proper1_any (x m : Int) (b : Nat) (w : World) (hc : w.cell? ⟨b, 0, none⟩ = some (.int .i64 m)) :
    Calls Try.prog 48 #[.int .i64 x, .pointer (some ⟨b, 0, none⟩)] w fun e w' => e = .returned (.bool (badW m x)) ∧ Below w.heap.size w w' := by
  go_enter Try.func48, Try.ntmps48
  go_wp2_with fail
  all_goals first | (go_quiet (fail); go_wp2_with fail) | skip
  all_goals go_ret
  all_goals exact ⟨ret_bool (by unfold badW; simp [*]), by first | exact Below.refl _ _ | exact (Below.refl _ _).dn _⟩

set_option maxHeartbeats 1000000 in
theorem index_any (v : Value) (ws : List Int) (m : Int) (b : Nat) (w : World) (h : RdI w v ws) (hbw : b < w.heap.size) (hc : w.cell? ⟨b, 0, none⟩ = some (.int .i64 m)) :
    Calls Try.prog 53 #[v, .func (.func 48) #[] #[.pointer (some ⟨b, 0, none⟩)]] w fun e w' => (∃ i : Int, e = .returned (.int .i64 i) ∧ ((0 ≤ i ∧ ws.any (badW m) = true) ∨ (i < 0 ∧ ws.any (badW m) = false))) ∧ Below w.heap.size w w' := by
  obtain ⟨a, c, rfl, l1, f1⟩ := h.open
  clear h
  have F1 := Lib.hid f1; clear f1
  go_enter Try.func53, Try.ntmps53
  go_wp2_with fail
  go_loopw [8] (fun i wr => ∃ k : Nat, k ≤ ws.length ∧ i = .int .i64 k ∧ (∀ j x, j < k → ws[j]? = some x → badW m x = false) ∧ Below w.heap.size w wr) (fun i _ => ws.length - (intOf i).toNat)
  case atStart => exact ⟨0, Nat.zero_le _, rfl, by omega, Below.refl _ _⟩
  case round =>
    obtain ⟨k, hk, rfl, hno, hbl⟩ := hrel
    by_cases hlt : k < ws.length
    · obtain ⟨x, hx⟩ := elem_at hlt
      obtain ⟨b', o, rfl, hbs, g⟩ := F1.out k x hx
      have gr := (hbl.cell (p := ⟨b', o + k, none⟩) hbs).trans g
      have PC := proper1_any x m b wr ((hbl.cell (p := ⟨b, 0, none⟩) hbw).trans hc)
      have hlt' : (k : Int) < (ws.length : Int) := by omega
      have HN := Lib.hid hno; have HX := Lib.hid hx; have HB := Lib.hid hbl
      clear hno hx g hbl hc
      cases hb : badW m x
      · rw [hb] at PC
        have HBF := Lib.hid hb; clear hb
        go_wp2_with fail
        refine PC.mono ?_
        rintro e w1 ⟨rfl, hb1⟩
        go_wp2_with fail
        have HB1 := Lib.hid hb1
        clear hb1 PC
        go_roundw
        case rel =>
          refine ⟨k + 1, by omega, by go_num, fun j y hj hy => ?_, HB.out.trans (HB1.out.mono HB.out.size)⟩
          rcases Nat.lt_or_ge j k with h | h
          · exact HN.out j y h hy
          · obtain rfl : j = k := by omega
            rw [HX.out] at hy
            exact Option.some.inj hy ▸ HBF.out
        case measure => simp [intOf]; omega
      · rw [hb] at PC
        have hr := any_yes HX.out hb
        have HR := Lib.hid hr
        clear hr hb
        go_wp2_with fail
        refine PC.mono ?_
        rintro e w1 ⟨rfl, hb1⟩
        go_wp2_with fail
        go_ret
        exact ⟨⟨_, rfl, .inl ⟨by omega, HR.out⟩⟩, HB.out.trans (hb1.mono HB.out.size)⟩
    · have hr := any_no (k := k) (by omega) hno
      have HR := Lib.hid hr; have HB := Lib.hid hbl
      clear hr hno hbl
      go_wp2_with fail
      go_ret
      exact ⟨⟨_, rfl, .inr ⟨by omega, HR.out⟩⟩, HB.out⟩

set_option maxHeartbeats 1000000 in
theorem contains_any (v : Value) (ws : List Int) (m : Int) (b : Nat) (w : World) (h : RdI w v ws) (hbw : b < w.heap.size) (hc : w.cell? ⟨b, 0, none⟩ = some (.int .i64 m)) :
    Calls Try.prog 47 #[v, .func (.func 48) #[] #[.pointer (some ⟨b, 0, none⟩)]] w fun e w' => e = .returned (.bool (ws.any (badW m))) ∧ Below w.heap.size w w' := by
  have IX := index_any v ws m b w h hbw hc
  obtain ⟨a, c, rfl, l1, f1⟩ := h.open
  clear f1 h hc
  go_enter Try.func47, Try.ntmps47
  go_wp2_with fail
  refine IX.mono ?_
  rintro e w1 ⟨⟨i, rfl, hi⟩, hb⟩
  clear IX
  rcases hi with ⟨h1, h2⟩ | ⟨h1, h2⟩
  · go_wp2_with fail
    go_ret
    exact ⟨ret_bool (by rw [h2]), hb⟩
  · go_wp2_with fail
    go_ret
    exact ⟨ret_bool (by rw [h2]; simp; omega), hb⟩

set_option maxHeartbeats 1000000 in
theorem proper_any (v : Value) (ws : List Int) (m : Int) (w : World) (h : RdI w v ws) :
    Calls Try.prog 34 #[v, .int .i64 m] w fun e w' => e = .returned (.int .i64 (errF ws m)) ∧ Below w.heap.size w w' := by
  have hmf : ∀ (fn : Fn) (first cap : Array Value) (w : World), (Instr.makeFunc fn first cap).run Try.prog w = .ok (.func fn first cap) w := fun _ _ _ _ => rfl
  have h' := h.below ((Below.refl w.heap.size w).alloc (Nat.le_refl _) (.cells #[.int .i64 m] 3))
  have hbx : (w.alloc (.cells #[.int .i64 m] 3)).cell? ⟨w.heap.size, 0, none⟩ = some (.int .i64 m) := by
    rw [(Boxs.new w 3 #[.int .i64 m]).cell]; rfl
  have CT := contains_any v ws m w.heap.size _ h' (by simp) hbx
  obtain ⟨a, c, rfl, l1, f1⟩ := h.open
  clear f1 h h' hbx
  have HB0 := Lib.hid ((Below.refl w.heap.size w).alloc (Nat.le_refl _) (.cells #[.int .i64 m] 3))
  rcases errF_cases ws m with ⟨h1, h⟩ | ⟨h1, h2, h⟩ | ⟨h1, h2, h3, h⟩ | ⟨h1, h2, h3, h⟩
  · have H := Lib.hid h; clear h CT
    have g1 : (256 : Int) < (ws.length : Int) := by omega
    go_enter Try.func34, Try.ntmps34
    go_wp2_with fail
    go_ret
    exact ⟨ret_int H.out.symm, HB0.out⟩
  · have H := Lib.hid h; clear h CT
    have g1 : ¬ (256 : Int) < (ws.length : Int) := by omega
    go_enter Try.func34, Try.ntmps34
    go_wp2_with fail
    all_goals first | (go_quiet (fail); go_wp2_with fail) | skip
    go_ret
    exact ⟨ret_int H.out.symm, by first | exact HB0.out | exact HB0.out.dn _⟩
  · have H := Lib.hid h; clear h CT
    have g1 : ¬ (256 : Int) < (ws.length : Int) := by omega
    go_enter Try.func34, Try.ntmps34
    go_wp2_with fail
    all_goals first | (go_quiet (fail); go_wp2_with fail) | skip
    go_ret
    exact ⟨ret_int H.out.symm, by first | exact HB0.out | exact HB0.out.dn _⟩
  · have g1 : ¬ (256 : Int) < (ws.length : Int) := by omega
    cases ha : ws.any (badW m) <;> rw [ha] at CT h <;> have H := Lib.hid h <;> clear h ha
    · go_enter Try.func34, Try.ntmps34
      go_wp2_with fail
      all_goals first | (go_quiet (fail); go_wp2_with fail) | skip
      refine CT.mono ?_
      rintro e w1 ⟨rfl, hb⟩
      go_wp2_with fail
      go_ret
      exact ⟨ret_int H.out.symm, HB0.out.trans (hb.mono HB0.out.size)⟩
    · go_enter Try.func34, Try.ntmps34
      go_wp2_with fail
      all_goals first | (go_quiet (fail); go_wp2_with fail) | skip
      refine CT.mono ?_
      rintro e w1 ⟨rfl, hb⟩
      go_wp2_with fail
      go_ret
      exact ⟨ret_int H.out.symm, HB0.out.trans (hb.mono HB0.out.size)⟩
end Go.Proofs.Ytidojiegkdchpaa
