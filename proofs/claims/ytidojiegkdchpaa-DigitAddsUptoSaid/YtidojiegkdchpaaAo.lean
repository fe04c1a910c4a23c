/- put: a string goes into a sorted list. -/
import Derived.Test.YtidojiegkdchpaaAn
namespace Go.Proofs.Ytidojiegkdchpaa
open Go.RowKit Go.Maps

theorem hasB_no {l : List ByteArray} {t : ByteArray} {k : Nat} (hk : l.length ≤ k) (h : ∀ j x, j < k → l[j]? = some x → x ≠ t) : hasB l t = false := by
  cases hh : hasB l t with
  | false => rfl
  | true =>
    rw [hasB_iff] at hh
    obtain ⟨j, hj⟩ := List.mem_iff_getElem?.1 hh
    exact absurd rfl (h j t (by have := (List.getElem?_eq_some_iff.1 hj).1; omega) hj)
theorem filt_yes {l : List ByteArray} {p : ByteArray → Bool} {k : Nat} {x : ByteArray} (h : l[k]? = some x) (hp : p x = true) : (l.take (k + 1)).filter p = (l.take k).filter p ++ [x] := by
  rw [take_succ_at h, List.filter_append]; simp [hp]
theorem filt_no {l : List ByteArray} {p : ByteArray → Bool} {k : Nat} {x : ByteArray} (h : l[k]? = some x) (hp : p x = false) : (l.take (k + 1)).filter p = (l.take k).filter p := by
  rw [take_succ_at h, List.filter_append]; simp [hp]
theorem filt_len (l : List ByteArray) (p : ByteArray → Bool) (k : Nat) : ((l.take k).filter p).length ≤ l.length := by
  have := List.length_filter_le p (l.take k)
  rw [List.length_take] at this
  omega
theorem strs_app (a : List ByteArray) (x : ByteArray) : strs (a ++ [x]) = strs a ++ [.string x] := by unfold strs; rw [List.map_append]; rfl
theorem bytes_eq (x : ByteArray) : (x.toList == x.toList) = true := by simp

set_option maxRecDepth 100000 in
set_option maxHeartbeats 4000000 in
theorem put_any (v : Value) (l : List ByteArray) (t : ByteArray) (w : World) (h : RdS w v l) (hl : l.length ≤ 1000000) :
    Calls Try.prog 46 #[v, .string t] w fun e w' => ∃ u, e = .returned u ∧ RdS w' u (putB l t) ∧ Below w.heap.size w w' := by
  obtain ⟨i0, hi0, hz0, hz1, hz2⟩ := info_parts Try.info9i
  have HI := Lib.hid hi0; have HZ0 := Lib.hid hz0; have HZ1 := Lib.hid hz1; have HZ2 := Lib.hid hz2
  clear hi0 hz0 hz1 hz2
  have HH := Lib.hid h
  obtain ⟨a, c, rfl, _, f⟩ := h.open
  have F := Lib.hid f
  clear h f
  go_enter Try.func46, Try.ntmps46
  go_wp2_with fail
  go_loopw [5, 6] (fun v i wr => ∃ k : Nat, k ≤ l.length ∧ i = .int .i64 k ∧ (∀ j x, j < k → l[j]? = some x → x ≠ t) ∧ wr.ownsRow w.heap.size 9 1 v ((l.take k).filter (ltB · t)).length (strs ((l.take k).filter (ltB · t))) ∧ Below w.heap.size w wr) (fun _ i _ => l.length - (intOf i).toNat)
  case atStart => exact ⟨0, Nat.zero_le _, rfl, by omega, by simpa [strs] using World.ownsRow_nil _ _ _ _, Below.refl _ _⟩
  case round =>
    obtain ⟨k, hk, rfl, hno, hown, hbl⟩ := hrel
    have HN := Lib.hid hno; have HO := Lib.hid hown; have HB := Lib.hid hbl
    have hbs := hbl.size
    by_cases hlt : k < l.length
    · have q1 : (k : Int) < (l.length : Int) := by omega
      obtain ⟨x, hx⟩ := elem_at hlt
      obtain ⟨b, o, rfl, hbw, g⟩ := F.out k x hx
      have gr := (hbl.cell (p := ⟨b, o + k, none⟩) hbw).trans g
      have HX := Lib.hid hx
      have hfl := filt_len l (ltB · t) k
      clear hno hown hbl g hx
      rcases ltB_tri x t with hc | hc | hc
      · have e1 : (x.toList == t.toList) = false := bytes_ne (ltB_ne hc)
        have e2 : Op.bytesLess x.toList t.toList = true := by rw [bless]; exact hc
        have hS := filt_yes (p := (ltB · t)) HX.out hc
        have HS := Lib.hid hS; have HNE := Lib.hid (ltB_ne hc)
        clear hS hc
        generalize hL : (l.take k).filter (ltB · t) = L at *
        have HL := Lib.hid hL; clear hL
        go_wp2_with (at_builtin; refine wpList_append_lies _ rfl _ _ _ rfl w.heap.size 9 i0 _ 1 16 Try.underlying49 HI.out HZ0.out HZ1.out HZ2.out rfl (by omega) _ L.length (strs L) rfl (HO.out.alloc _) ⟨wr.heap.size, 0, none⟩ 1 1 [.string x] rfl rfl (cell_one_new _ _ _) (by simp [Value.oneCell']) (by omega) (by unfold maxLen; omega) (by omega) (by simp; omega) (wr.heap.size + 1) (by simp) ?_; intro gg cap w3 hown1 hgrow hat hltg)
        have HO2 := Lib.hid hown1
        clear hown1
        go_roundw
        case rel =>
          refine ⟨k + 1, by omega, by go_num, fun j y hj hy => ?_, by rw [HS.out, List.length_append, strs_app]; exact HO2.out, (HB.out.alloc hbs _).grown hgrow (by simp; omega) (fun j e => (HO.out.lt j e).1)⟩
          rcases Nat.lt_or_ge j k with h | h
          · exact HN.out j y h hy
          · obtain rfl : j = k := by omega
            rw [HX.out] at hy
            exact Option.some.inj hy ▸ HNE.out
        case measure => simp [intOf]; omega
      · subst hc
        have e1 := bytes_eq x
        have hr : putB l x = l := if_pos ((hasB_iff l x).2 (List.mem_of_getElem? HX.out))
        have HR := Lib.hid hr
        clear hr
        go_wp2_with fail
        go_ret
        exact ⟨_, rfl, by rw [HR.out]; exact HH.out.below HB.out, HB.out⟩
      · have e1 : (x.toList == t.toList) = false := bytes_ne (Ne.symm (ltB_ne hc))
        have hz : ltB x t = false := by
          cases hz : ltB x t with
          | false => rfl
          | true => have := ltB_trans hc hz; rw [ltB_irr] at this; cases this
        have e2 : Op.bytesLess x.toList t.toList = false := by rw [bless]; exact hz
        have hS := filt_no (p := (ltB · t)) HX.out hz
        have HS := Lib.hid hS; have HNE := Lib.hid (Ne.symm (ltB_ne hc))
        clear hS hc hz
        go_wp2_with fail
        go_roundw
        case rel =>
          refine ⟨k + 1, by omega, by go_num, fun j y hj hy => ?_, by rw [HS.out]; exact HO.out, HB.out⟩
          rcases Nat.lt_or_ge j k with h | h
          · exact HN.out j y h hy
          · obtain rfl : j = k := by omega
            rw [HX.out] at hy
            exact Option.some.inj hy ▸ HNE.out
        case measure => simp [intOf]; omega
    · have q1 : ¬ (k : Int) < (l.length : Int) := by omega
      have hhas := hasB_no (t := t) (k := k) (by omega) hno
      have hr : putB l t = l.filter (ltB · t) ++ [t] ++ l.filter (ltB t ·) := if_neg (by rw [hhas]; simp)
      have HR := Lib.hid hr
      have htk : l.take k = l := List.take_of_length_le (by omega)
      rw [htk] at hown
      have HO := Lib.hid hown
      have hfl := filt_len l (ltB · t) k
      rw [htk] at hfl
      clear hno hown hbl hr hhas htk
      generalize hL : l.filter (ltB · t) = L at *
      have HL := Lib.hid hL; clear hL
      go_wp2_with (at_builtin; refine wpList_append_lies _ rfl _ _ _ rfl w.heap.size 9 i0 _ 1 16 Try.underlying49 HI.out HZ0.out HZ1.out HZ2.out rfl (by omega) _ L.length (strs L) rfl (HO.out.alloc _) ⟨wr.heap.size, 0, none⟩ 1 1 [.string t] rfl rfl (cell_one_new _ _ _) (by simp [Value.oneCell']) (by omega) (by unfold maxLen; omega) (by omega) (by simp; omega) (wr.heap.size + 1) (by simp) ?_; intro gg cap w3 hown1 hgrow hat hltg)
      have HO2 := Lib.hid hown1
      have HB2 := Lib.hid ((HB.out.alloc hbs _).grown hgrow (by simp; omega) (fun j e => (HO.out.lt j e).1))
      clear hown1 hgrow hat hltg
      go_loopw [5, 7] (fun v i wr => ∃ m : Nat, m ≤ l.length ∧ i = .int .i64 m ∧ wr.ownsRow w.heap.size 9 1 v (L ++ [t] ++ (l.take m).filter (ltB t ·)).length (strs (L ++ [t] ++ (l.take m).filter (ltB t ·))) ∧ Below w.heap.size w wr) (fun _ i _ => l.length - (intOf i).toNat)
      case atStart => exact ⟨0, Nat.zero_le _, rfl, by rw [List.take_zero, List.filter_nil, List.append_nil, List.length_append, strs_app]; exact HO2.out, HB2.out⟩
      case round =>
        obtain ⟨m, hm, rfl, hown, hbl⟩ := hrel
        have HO := Lib.hid hown; have HB := Lib.hid hbl
        have hbs := hbl.size
        by_cases hlt2 : m < l.length
        · have q2 : (m : Int) < (l.length : Int) := by omega
          obtain ⟨x, hx⟩ := elem_at hlt2
          obtain ⟨b, o, rfl, hbw, g⟩ := F.out m x hx
          have gr := (hbl.cell (p := ⟨b, o + m, none⟩) hbw).trans g
          have HX := Lib.hid hx
          have hfl2 := filt_len l (ltB t ·) m
          clear hown hbl g hx
          have hnt : x ≠ t := HN.out m x (by omega) HX.out
          have e1 : (x.toList == t.toList) = false := bytes_ne hnt
          rcases ltB_tri x t with hc | hc | hc
          · have e2 : Op.bytesLess x.toList t.toList = true := by rw [bless]; exact hc
            have hz : ltB t x = false := by
              cases hz : ltB t x with
              | false => rfl
              | true => have := ltB_trans hc hz; rw [ltB_irr] at this; cases this
            have hS := filt_no (p := (ltB t ·)) HX.out hz
            have HS := Lib.hid hS
            clear hS hc hz hnt
            go_wp2_with fail
            go_roundw
            case rel => exact ⟨m + 1, by omega, by go_num, by rw [HS.out]; exact HO.out, HB.out⟩
            case measure => simp [intOf]; omega
          · exact absurd hc hnt
          · have hz : ltB x t = false := by
              cases hz : ltB x t with
              | false => rfl
              | true => have := ltB_trans hc hz; rw [ltB_irr] at this; cases this
            have e2 : Op.bytesLess x.toList t.toList = false := by rw [bless]; exact hz
            have hS := filt_yes (p := (ltB t ·)) HX.out hc
            have HS := Lib.hid hS
            have hll : (L ++ [t] ++ (l.take m).filter (ltB t ·)).length ≤ 3000000 := by rw [List.length_append, List.length_append]; simp only [List.length_cons, List.length_nil]; omega
            have hap : L ++ [t] ++ ((l.take m).filter (ltB t ·) ++ [x]) = (L ++ [t] ++ (l.take m).filter (ltB t ·)) ++ [x] := by simp
            have HAP := Lib.hid hap
            clear hS hc hz hnt hfl2 hap
            generalize hM : L ++ [t] ++ (l.take m).filter (ltB t ·) = M at *
            have HM := Lib.hid hM; clear hM
            go_wp2_with (at_builtin; refine wpList_append_lies _ rfl _ _ _ rfl w.heap.size 9 i0 _ 1 16 Try.underlying49 HI.out HZ0.out HZ1.out HZ2.out rfl (by omega) _ M.length (strs M) rfl (HO.out.alloc _) ⟨wr.heap.size, 0, none⟩ 1 1 [.string x] rfl rfl (cell_one_new _ _ _) (by simp [Value.oneCell']) (by omega) (by unfold maxLen; omega) (by omega) (by simp; omega) (wr.heap.size + 1) (by simp) ?_; intro gg cap w4 hown1 hgrow hat hltg)
            have HO3 := Lib.hid hown1
            clear hown1
            go_roundw
            case rel => exact ⟨m + 1, by omega, by go_num, by rw [HS.out, HAP.out, List.length_append, strs_app]; exact HO3.out, (HB.out.alloc hbs _).grown hgrow (by simp; omega) (fun j e => (HO.out.lt j e).1)⟩
            case measure => simp [intOf]; omega
        · have q2 : ¬ (m : Int) < (l.length : Int) := by omega
          have htk : l.take m = l := List.take_of_length_le (by omega)
          rw [htk] at hown
          have HO := Lib.hid hown
          clear hown hbl htk
          go_wp2_with fail
          go_ret
          exact ⟨_, rfl, by rw [HR.out]; exact Rd_of_owns HO.out, HB.out⟩
end Go.Proofs.Ytidojiegkdchpaa
