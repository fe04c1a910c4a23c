/- read and Values: a string's values. -/
import Derived.Test.YtidojiegkdchpaaAc
namespace Go.Proofs.Ytidojiegkdchpaa
open Go.RowKit Go.Maps

theorem owns_below {w w' : World} {base : Nat} {e : TypeId} {size : Nat} {v : Value} {n : Nat} {xs : List Value} (h : w.ownsRow base e size v n xs) (hb : Below w.heap.size w w') : w'.ownsRow base e size v n xs :=
  h.kept (row := none) ⟨hb.os, hb.tape, hb.output, hb.size, fun i hi _ => hb.block i hi⟩ (by by_cases h : v.ownBlock = none; exact .inl h; exact .inr h)
theorem Try.info3i : (Try.prog.info? 3).map (fun i => (i.zero, i.size, i.bytes)) = some (some (.int .i64 0), 1, 8) := by kernel_rfl
theorem Try.info9i : (Try.prog.info? 9).map (fun i => (i.zero, i.size, i.bytes)) = some (some (.string ⟨#[]⟩), 1, 16) := by kernel_rfl

def valsF (s : ByteArray) : List Int := s.data.toList.map valF
def okF (s : ByteArray) : Bool := (valsF s).all (fun x => decide (0 ≤ x))
theorem valsF_len (s : ByteArray) : (valsF s).length = s.size := by
  unfold valsF; rw [List.length_map, Array.length_toList]; rfl
theorem valsF_at (s : ByteArray) (k : Nat) (h : k < s.size) : (valsF s)[k]? = some (valF (s[k]'h)) := by
  unfold valsF
  have h' : k < s.data.size := h
  rw [List.getElem?_map, Array.getElem?_toList, Array.getElem?_eq_getElem h']
  rfl
theorem okF_yes {s : ByteArray} (h : ∀ j (hj : j < s.size), 0 ≤ valF (s[j]'hj)) : okF s = true := by
  unfold okF
  rw [List.all_eq_true]
  intro x hx
  obtain ⟨k, hk⟩ := List.mem_iff_getElem?.1 hx
  have hlt : k < s.size := by have := (List.getElem?_eq_some_iff.1 hk).1; rw [valsF_len] at this; exact this
  rw [valsF_at s k hlt] at hk
  have := h k hlt
  rw [Option.some.inj hk] at this
  simpa using this
theorem okF_no {s : ByteArray} {j : Nat} (hj : j < s.size) (h : valF (s[j]'hj) < 0) : okF s = false := by
  cases hh : okF s with
  | false => rfl
  | true =>
    unfold okF at hh
    rw [List.all_eq_true] at hh
    have := hh _ (List.mem_of_getElem? (valsF_at s j hj))
    simp at this; omega
theorem ints_snoc {l : List Int} {j : Nat} {x : Int} (h : l[j]? = some x) : ints (l.take (j + 1)) = ints (l.take j) ++ [.int .i64 x] := by
  rw [take_succ_at h]; unfold ints; rw [List.map_append]; rfl
/-- what a reading returns -/
def RdOut (w w' : World) (s : ByteArray) (e : Ending) : Prop := ∃ v, e = .returned (.tuple #[v, .bool (okF s)]) ∧ (okF s = true → RdI w' v (valsF s)) ∧ Below w.heap.size w w'
theorem rdOut_mk {w w' : World} {s : ByteArray} {v : Value} {b : Bool} (h : okF s = b) (h1 : okF s = true → RdI w' v (valsF s)) (h2 : Below w.heap.size w w') : RdOut w w' s (.returned (.tuple #[v, .bool b])) := ⟨v, by rw [h], h1, h2⟩

set_option maxRecDepth 100000 in
set_option maxHeartbeats 2000000 in
theorem read_any (s : ByteArray) (hs : s.size ≤ 1099511627776) (w : World) : Calls Try.prog 39 #[.string s] w fun e w' => RdOut w w' s e := by
  obtain ⟨i0, hi0, hz0, hz1, hz2⟩ := info_parts Try.info3i
  have HI := Lib.hid hi0; have HZ0 := Lib.hid hz0; have HZ1 := Lib.hid hz1; have HZ2 := Lib.hid hz2
  clear hi0 hz0 hz1 hz2
  go_enter Try.func39, Try.ntmps39
  go_wp2_with fail
  go_loopw [9, 4] (fun i v wr => ∃ j : Nat, j ≤ s.size ∧ i = .int .i64 j ∧ (∀ k (hk : k < s.size), k < j → 0 ≤ valF (s[k]'hk)) ∧ wr.ownsRow w.heap.size 3 1 v j (ints ((valsF s).take j)) ∧ Below w.heap.size w wr) (fun i _ _ => s.size - (intOf i).toNat)
  case atStart => exact ⟨0, Nat.zero_le _, rfl, by omega, by simpa [ints] using World.ownsRow_nil _ _ _ _, Below.refl _ _⟩
  case round =>
    obtain ⟨j, hj, rfl, hall, hown, hbl⟩ := hrel
    have HA := Lib.hid hall; have HO := Lib.hid hown; have HB := Lib.hid hbl
    clear hall hown hbl
    by_cases hlt : j < s.size
    · have VA := value_any (s[j]'hlt) wr
      have hv := valsF_at s j hlt
      have hlt' : (j : Int) < (s.size : Int) := by omega
      have HV := Lib.hid hv
      clear hv
      by_cases hneg : valF (s[j]'hlt) < 0
      · have hr := okF_no hlt hneg
        have HR := Lib.hid hr
        clear hr
        generalize valF (s[j]'hlt) = x at *
        go_wp2_with fail
        refine VA.mono ?_
        rintro e w1 ⟨rfl, hb1⟩
        have HB1 := Lib.hid hb1
        clear hb1 VA
        go_wp2_with fail
        go_ret2
        exact rdOut_mk HR.out (fun h => by rw [HR.out] at h; cases h) (HB.out.trans (HB1.out.mono HB.out.size))
      · have h0 : ∀ k (hk : k < s.size), k < j + 1 → 0 ≤ valF (s[k]'hk) := by
          intro k hk hk1
          rcases Nat.lt_or_ge k j with h | h
          · exact HA.out k hk h
          · obtain rfl : k = j := by omega
            omega
        have hsn := ints_snoc HV.out
        have HSN := Lib.hid hsn; have H0 := Lib.hid h0
        clear h0 hsn
        generalize valF (s[j]'hlt) = x at *
        have hlen : (ints ((valsF s).take j)).length = j := by rw [ints_len, List.length_take, valsF_len]; omega
        generalize hL : ints ((valsF s).take j) = L at *
        have HL := Lib.hid hlen
        clear hL hlen
        go_wp2_with fail
        refine VA.mono ?_
        rintro e w1 ⟨rfl, hb1⟩
        have HO1 := Lib.hid (owns_below HO.out hb1)
        have HB1 := Lib.hid (HB.out.trans (hb1.mono HB.out.size))
        have hbs := HB1.out.size
        clear hb1 VA
        go_wp2_with (at_builtin; refine wpList_append_lies _ rfl _ _ _ rfl w.heap.size 3 i0 _ 1 8 Try.underlying22 HI.out HZ0.out HZ1.out HZ2.out rfl (by omega) _ j L rfl (HO1.out.alloc _) ⟨w1.heap.size, 0, none⟩ 1 1 [.int .i64 x] rfl rfl (cell_one_new _ _ _) (by simp [Value.oneCell']) (by omega) (by unfold maxLen; omega) (by omega) (by simp; omega) (w1.heap.size + 1) (by simp) ?_; intro gg cap w3 hown1 hgrow hat hltg)
        have HO2 := Lib.hid hown1
        clear hown1
        go_roundw
        case rel => exact ⟨j + 1, by omega, by go_num, H0.out, by rw [HSN.out]; exact HO2.out, (HB1.out.alloc hbs _).grown hgrow (by simp; omega) (fun j e => (HO1.out.lt j e).1)⟩
        case measure => simp [intOf]; omega
    · have he : j = s.size := by omega
      subst he
      have hr := okF_yes (s := s) fun k hk => HA.out k hk hk
      have HR := Lib.hid hr
      clear hr
      go_wp2_with fail
      go_ret2
      refine rdOut_mk HR.out (fun _ => ?_) HB.out
      have := Rd_of_owns HO.out
      rw [List.take_of_length_le (by rw [valsF_len]; omega)] at this
      exact this

set_option maxRecDepth 100000 in
set_option maxHeartbeats 2000000 in
theorem rvalues_any (s : ByteArray) (hs : s.size ≤ 1099511627776) (w : World) : Calls Try.prog 41 #[.string s] w fun e w' => RdOut w w' s e := by
  obtain ⟨i0, hi0, hz0, hz1, hz2⟩ := info_parts Try.info3i
  have HI := Lib.hid hi0; have HZ0 := Lib.hid hz0; have HZ1 := Lib.hid hz1; have HZ2 := Lib.hid hz2
  clear hi0 hz0 hz1 hz2
  go_enter Try.func41, Try.ntmps41
  go_wp2_with fail
  go_loopw [5, 4] (fun i v wr => ∃ j : Nat, j ≤ s.size ∧ i = .int .i64 j ∧ (∀ k (hk : k < s.size), k < j → 0 ≤ valF (s[k]'hk)) ∧ wr.ownsRow w.heap.size 3 1 v j (ints ((valsF s).take j)) ∧ Below w.heap.size w wr) (fun i _ _ => s.size - (intOf i).toNat)
  case atStart => exact ⟨0, Nat.zero_le _, rfl, by omega, by simpa [ints] using World.ownsRow_nil _ _ _ _, Below.refl _ _⟩
  case round =>
    obtain ⟨j, hj, rfl, hall, hown, hbl⟩ := hrel
    have HA := Lib.hid hall; have HO := Lib.hid hown; have HB := Lib.hid hbl
    clear hall hown hbl
    by_cases hlt : j < s.size
    · have VA := rvalue_any (s[j]'hlt) wr
      have hv := valsF_at s j hlt
      have hlt' : (j : Int) < (s.size : Int) := by omega
      have HV := Lib.hid hv
      clear hv
      by_cases hneg : valF (s[j]'hlt) < 0
      · have hr := okF_no hlt hneg
        have HR := Lib.hid hr
        clear hr
        generalize valF (s[j]'hlt) = x at *
        go_wp2_with fail
        refine VA.mono ?_
        rintro e w1 ⟨rfl, hb1⟩
        have HB1 := Lib.hid hb1
        clear hb1 VA
        go_wp2_with fail
        go_ret2
        exact rdOut_mk HR.out (fun h => by rw [HR.out] at h; cases h) (HB.out.trans (HB1.out.mono HB.out.size))
      · have h0 : ∀ k (hk : k < s.size), k < j + 1 → 0 ≤ valF (s[k]'hk) := by
          intro k hk hk1
          rcases Nat.lt_or_ge k j with h | h
          · exact HA.out k hk h
          · obtain rfl : k = j := by omega
            omega
        have hsn := ints_snoc HV.out
        have HSN := Lib.hid hsn; have H0 := Lib.hid h0
        clear h0 hsn
        generalize valF (s[j]'hlt) = x at *
        have hlen : (ints ((valsF s).take j)).length = j := by rw [ints_len, List.length_take, valsF_len]; omega
        generalize hL : ints ((valsF s).take j) = L at *
        have HL := Lib.hid hlen
        clear hL hlen
        go_wp2_with fail
        refine VA.mono ?_
        rintro e w1 ⟨rfl, hb1⟩
        have HO1 := Lib.hid (owns_below HO.out hb1)
        have HB1 := Lib.hid (HB.out.trans (hb1.mono HB.out.size))
        have hbs := HB1.out.size
        clear hb1 VA
        go_wp2_with (at_builtin; refine wpList_append_lies _ rfl _ _ _ rfl w.heap.size 3 i0 _ 1 8 Try.underlying22 HI.out HZ0.out HZ1.out HZ2.out rfl (by omega) _ j L rfl (HO1.out.alloc _) ⟨w1.heap.size, 0, none⟩ 1 1 [.int .i64 x] rfl rfl (cell_one_new _ _ _) (by simp [Value.oneCell']) (by omega) (by unfold maxLen; omega) (by omega) (by simp; omega) (w1.heap.size + 1) (by simp) ?_; intro gg cap w3 hown1 hgrow hat hltg)
        have HO2 := Lib.hid hown1
        clear hown1
        go_roundw
        case rel => exact ⟨j + 1, by omega, by go_num, H0.out, by rw [HSN.out]; exact HO2.out, (HB1.out.alloc hbs _).grown hgrow (by simp; omega) (fun j e => (HO1.out.lt j e).1)⟩
        case measure => simp [intOf]; omega
    · have he : j = s.size := by omega
      subst he
      have hr := okF_yes (s := s) fun k hk => HA.out k hk hk
      have HR := Lib.hid hr
      clear hr
      go_wp2_with fail
      go_ret2
      refine rdOut_mk HR.out (fun _ => ?_) HB.out
      have := Rd_of_owns HO.out
      rw [List.take_of_length_le (by rw [valsF_len]; omega)] at this
      exact this

end Go.Proofs.Ytidojiegkdchpaa
