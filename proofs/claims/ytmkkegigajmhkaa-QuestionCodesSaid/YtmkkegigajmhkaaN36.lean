/- Decode (program). -/
import Derived.Test.YtmkkegigajmhkaaN29
import Derived.Test.YtmkkegigajmhkaaN13
set_option linter.unusedVariables false
namespace Go.Proofs.Ytmkkegigajmhkaa
open Go.RowKit Go.Maps

/-- the tree with a code -/
def decO (l : List Int) : Option Tr := match readF l.length l with
  | some (t, []) => if isT t = true then some t else none
  | _ => none
def decT (l : List Int) : Tr := if 4096 < l.length then .nil else (decO l).getD .nil
def decE (l : List Int) : Int := if 4096 < l.length then 4 else if (decO l).isSome then 0 else 2
theorem decT_long {l : List Int} (h : 4096 < l.length) : decT l = .nil ∧ decE l = 4 := ⟨if_pos h, if_pos h⟩
theorem decO_none {l : List Int} (h : readF l.length l = none) : decO l = none := by unfold decO; rw [h]
theorem decO_more {l : List Int} {t : Tr} {r : List Int} (h : readF l.length l = some (t, r)) (hr : r ≠ []) : decO l = none := by
  unfold decO; rw [h]
  match r, hr with
  | x :: s, _ => rfl
theorem decO_not {l : List Int} {t : Tr} (h : readF l.length l = some (t, [])) (ht : isT t = false) : decO l = none := by
  unfold decO; rw [h]; simp [ht]
theorem decO_ok {l : List Int} {t : Tr} (h : readF l.length l = some (t, [])) (ht : isT t = true) : decO l = some t := by
  unfold decO; rw [h]; simp [ht]
theorem dec_none {l : List Int} (h : ¬ 4096 < l.length) (hn : decO l = none) : decT l = .nil ∧ decE l = 2 := by
  unfold decT decE; rw [if_neg h, if_neg h, hn]; exact ⟨rfl, rfl⟩
theorem dec_some {l : List Int} {t : Tr} (h : ¬ 4096 < l.length) (hn : decO l = some t) : decT l = t ∧ decE l = 0 := by
  unfold decT decE; rw [if_neg h, if_neg h, hn]; exact ⟨rfl, rfl⟩
def DecodeOut (τ : TypeId) (n : Nat) (l : List Int) (e : Ending) (w' : World) : Prop := ∃ p, e = .returned (.tuple #[.pointer p, .int .i64 (decE l)]) ∧ TreeIn τ (n ≤ ·) w' (.pointer p) (decT l)
set_option maxRecDepth 100000 in
set_option maxHeartbeats 4000000 in
theorem decode_any (v : Value) (l : List Int) (w : World) (h : RdI w v l) (hl : l.length ≤ 5000) :
    Calls Try.prog 40 #[v] w fun e w' => DecodeOut 108 w.heap.size l e w' ∧ Below w.heap.size w w' := by
  obtain ⟨a, c, rfl⟩ := h.form
  obtain ⟨bL, hL⟩ : ∃ b, w.heap.size = b := ⟨_, rfl⟩
  obtain ⟨bF, hF⟩ : ∃ b, bL + 1 = b := ⟨_, rfl⟩
  have h1 := alloc_below w (.cells #[.slice a l.length c] 22)
  have e1 : (w.alloc (.cells #[.slice a l.length c] 22)).heap.size = bF := by rw [World.size_alloc]; omega
  have h2 := alloc_below (w.alloc (.cells #[.slice a l.length c] 22)) (.cells #[.func (.func 72) #[] #[.pointer (some ⟨bL, 0, none⟩), .pointer (some ⟨bF, 0, none⟩)]] 111)
  have x1 := Boxs.new w 22 #[.slice a l.length c]
  rw [hL] at x1
  have x2 := Boxs.new (w.alloc (.cells #[.slice a l.length c] 22)) 111 #[.func (.func 72) #[] #[.pointer (some ⟨bL, 0, none⟩), .pointer (some ⟨bF, 0, none⟩)]]
  rw [e1] at x2
  have h12 := h1.trans (h2.mono h1.size)
  have I := Lib.hid (show DecI w bL bF l ((w.alloc (.cells #[.slice a l.length c] 22)).alloc (.cells #[.func (.func 72) #[] #[.pointer (some ⟨bL, 0, none⟩), .pointer (some ⟨bF, 0, none⟩)]] 111)) from ⟨h12, by omega, by omega, by omega, x2, a, c, Boxs.below x1 h2, h⟩)
  have c1 := x1.cell 0
  simp only [List.getElem?_toArray, List.getElem?_cons_zero] at c1
  have hl1 := x1.lt
  by_cases hlong : 4096 < l.length
  · obtain ⟨e2, e3⟩ := decT_long hlong
    have hli : (4096 : Int) < (l.length : Int) := by omega
    have HB := Lib.hid h1
    have HE2 := Lib.hid e2; have HE3 := Lib.hid e3; clear e2 e3
    clear h1 h2 x1 x2 h12 I h e1 hF
    go_enter Try.func40, Try.ntmps40
    go_wp2_with fail
    go_ret2
    exact ⟨⟨none, congrArg (fun x => Ending.returned (.tuple #[.pointer none, .int .i64 x])) HE3.out.symm, by rw [HE2.out]; exact .nil⟩, HB.out⟩
  · have hli : ¬ (4096 : Int) < (l.length : Int) := by omega
    have DE := dec_any l.length l _ (Nat.le_refl _) hl I.out
    unfold DecOut at DE
    have cF := I.out.bf.cell 0
    simp only [List.getElem?_toArray, List.getElem?_cons_zero] at cF
    have HLN := Lib.hid hlong
    have HIB := Lib.hid I.out.bel
    clear h1 h2 x1 x2 h12 h I hlong
    go_enter Try.func40, Try.ntmps40
    go_wp2_with fail
    with_reducible refine DE.mono ?_
    rintro e w5 ⟨p, l', rfl, hI5, hl5, hk, hR⟩
    obtain ⟨a5, c5, hb5, _⟩ := hI5.out
    have cL := hb5.cell 0
    simp only [List.getElem?_toArray, List.getElem?_cons_zero] at cL
    have HB5 := Lib.hid hI5.bel
    have hsz : w.heap.size ≤ ((w.alloc (.cells #[.slice a l.length c] 22)).alloc (.cells #[.func (.func 72) #[] #[.pointer (some ⟨bL, 0, none⟩), .pointer (some ⟨bF, 0, none⟩)]] 111)).heap.size := HIB.out.size
    generalize (w.alloc (.cells #[.slice a l.length c] 22)).alloc (.cells #[.func (.func 72) #[] #[.pointer (some ⟨bL, 0, none⟩), .pointer (some ⟨bF, 0, none⟩)]] 111) = w4 at *
    have HR := Lib.hid hR
    clear DE hI5 hb5 hk hR cF c1
    by_cases hl0 : l' = []
    · subst hl0
      have hl0 : ¬ (0 : Int) < ((([] : List Int).length : Nat) : Int) := by simp
      have hl0' : ¬ 0 < ([] : List Int).length := by simp
      cases hrf : readF l.length l with
      | none =>
        have hR := HR.out
        rw [hrf] at hR
        obtain rfl : p = none := hR
        have IS := is_any (TreeIn.nil (τ := 108) (F := fun _ => True) (W := w5)) w5 (Below.refl _ _)
        rw [isT] at IS
        obtain ⟨e2, e3⟩ := dec_none HLN.out (decO_none hrf)
        have HE2 := Lib.hid e2; have HE3 := Lib.hid e3; clear e2 e3
        go_wp2_with fail
        refine IS.mono ?_
        rintro e w6 ⟨rfl, hb6⟩
        have HB6 := Lib.hid (HB5.out.trans (hb6.mono HB5.out.size))
        clear hb6 IS
        go_wp2_with fail
        go_ret2
        exact ⟨⟨none, congrArg (fun x => Ending.returned (.tuple #[.pointer none, .int .i64 x])) HE3.out.symm, by rw [HE2.out]; exact .nil⟩, HB6.out⟩
      | some tr =>
        obtain ⟨t, r⟩ := tr
        have hR := HR.out
        rw [hrf] at hR
        obtain ⟨hr, htr, hpn⟩ := hR
        subst hr
        have HT := Lib.hid (htr.le hsz)
        have IS := is_any HT.out w5 (Below.refl _ _)
        clear htr hpn
        cases hit : isT t with
        | false =>
          obtain ⟨e2, e3⟩ := dec_none HLN.out (decO_not hrf hit)
          have HE2 := Lib.hid e2; have HE3 := Lib.hid e3; clear e2 e3
          rw [hit] at IS
          go_wp2_with fail
          refine IS.mono ?_
          rintro e w6 ⟨rfl, hb6⟩
          have HB6 := Lib.hid (HB5.out.trans (hb6.mono HB5.out.size))
          clear hb6 IS
          go_wp2_with fail
          go_ret2
          exact ⟨⟨none, congrArg (fun x => Ending.returned (.tuple #[.pointer none, .int .i64 x])) HE3.out.symm, by rw [HE2.out]; exact .nil⟩, HB6.out⟩
        | true =>
          obtain ⟨e2, e3⟩ := dec_some HLN.out (decO_ok hrf hit)
          have HE2 := Lib.hid e2; have HE3 := Lib.hid e3; clear e2 e3
          rw [hit] at IS
          go_wp2_with fail
          refine IS.mono ?_
          rintro e w6 ⟨rfl, hb6⟩
          have HB6 := Lib.hid (HB5.out.trans (hb6.mono HB5.out.size))
          have HT := Lib.hid (HT.out.under hb6)
          clear hb6 IS
          go_wp2_with fail
          go_ret2
          exact ⟨⟨p, congrArg (fun x => Ending.returned (.tuple #[.pointer p, .int .i64 x])) HE3.out.symm, by rw [HE2.out]; exact HT.out⟩, HB6.out⟩
    · have hpos : 0 < l'.length := List.length_pos_iff.2 hl0
      have hposi : (0 : Int) < (l'.length : Int) := by omega
      have hno : decO l = none := by
        cases hrf : readF l.length l with
        | none => exact decO_none hrf
        | some tr =>
          obtain ⟨t, r⟩ := tr
          have hR := HR.out
          rw [hrf] at hR
          exact decO_more hrf (by rw [← hR.1]; exact hl0)
      obtain ⟨e2, e3⟩ := dec_none HLN.out hno
      have HE2 := Lib.hid e2; have HE3 := Lib.hid e3; clear e2 e3
      clear hl0
      go_wp2_with fail
      go_ret2
      exact ⟨⟨none, congrArg (fun x => Ending.returned (.tuple #[.pointer none, .int .i64 x])) HE3.out.symm, by rw [HE2.out]; exact .nil⟩, HB5.out⟩
end Go.Proofs.Ytmkkegigajmhkaa

