/- The reference disk: Image, Pending, Worn. -/
import Derived.Test.YtdanhfanepmhkaaEe
import Derived.Deep.AppendLies
namespace Go.Proofs.Ytdanhfanepmhkaa
open Go.RowKit Go.Maps Go.Sort Go.Shelf

theorem Try.info3i : (Try.prog.info? 3).map (fun i => (i.zero, i.size, i.bytes)) = some (some (.int .i64 0), 1, 8) := by kernel_rfl
theorem keysOf_no {f : Nat → Option (DataW Unit)} {j : Nat} (h : (f j).isSome = false) : keysOf (j + 1) f = keysOf j f := by
  unfold keysOf
  rw [List.range_succ, List.filter_append]
  simp [h]
theorem keysOf_yes {f : Nat → Option (DataW Unit)} {j : Nat} (h : (f j).isSome = true) : keysOf (j + 1) f = keysOf j f ++ [(j : Int)] := by
  unfold keysOf
  rw [List.range_succ, List.filter_append]
  simp [h]

set_option maxRecDepth 100000 in
set_option maxHeartbeats 2000000 in
theorem rpending_any (B : RAt) (D : Dk) (w : World) (h : RefAt w B D) :
    Calls Try.prog 42 #[.pointer (some ⟨B.d, 0, none⟩)] w fun e w' => ∃ v, e = .returned v ∧ w'.ownsRow w.heap.size 3 1 v (keysOf D.S.length (pendD D.P)).length (ints (keysOf D.S.length (pendD D.P))) ∧ Below w.heap.size w w' := by
  obtain ⟨i0, hi0, hz0, hz1, hz2⟩ := info_parts Try.info3i
  have HI := Lib.hid hi0; have HZ0 := Lib.hid hz0; have HZ1 := Lib.hid hz1; have HZ2 := Lib.hid hz2
  have hlen := h.ok.len
  have H := Lib.hid h
  clear hi0 hz0 hz1 hz2 h
  go_enter Try.func42, Try.ntmps42
  go_wp2_with fail
  go_loopw [3, 4] (fun v i wr => ∃ j : Nat, j ≤ D.S.length ∧ i = .int .i64 j ∧ wr.ownsRow w.heap.size 3 1 v (keysOf j (pendD D.P)).length (ints (keysOf j (pendD D.P))) ∧ Below w.heap.size w wr) (fun _ i _ => D.S.length - (intOf i).toNat)
  case atStart => exact ⟨0, Nat.zero_le _, rfl, by simpa [ints, keysOf] using World.ownsRow_nil _ _ _ _, Below.refl _ _⟩
  case round =>
    obtain ⟨j, hj, rfl, hown, hbl⟩ := hrel
    have hd := H.out.keeps (Keeps.of_below (F := fun _ => False) hbl) (fun _ _ h => h)
    have c0 := hd.box0
    by_cases hlt : j < D.S.length
    · have q2 := hd.row (k := j) hlt 2 (by omega)
      have hkl := keysOf_len j (pendD D.P)
      have hbs := hbl.size
      have hj0 : (0 : Int) ≤ (j : Int) := Int.natCast_nonneg _
      have hj1 : (j : Int) < (D.S.length : Int) := by omega
      have he : ((pendD D.P) j).isSome = (row D j).d := by
        unfold pendD row; simp
      cases hb : (row D j).d
      · rw [hb] at he
        simp [sc, hb] at q2
        have hT := keysOf_no he
        have HT := Lib.hid hT; have HO := Lib.hid hown; have HB := Lib.hid hbl
        clear hd he hT hown hbl hb
        go_wp2_with fail
        go_roundw
        case rel => exact ⟨j + 1, by omega, by go_num, by rw [HT.out]; exact HO.out, HB.out⟩
        case measure => simp [intOf]; omega
      · rw [hb] at he
        simp [sc, hb] at q2
        have hT := keysOf_yes he
        have HT := Lib.hid hT; have HO := Lib.hid hown; have HB := Lib.hid hbl
        clear hd he hT hown hbl hb
        generalize hL : keysOf j (pendD D.P) = L at *
        have HLL := Lib.hid hL
        clear hL
        go_wp2_with (at_builtin; refine wpList_append_lies _ rfl _ _ _ rfl w.heap.size 3 i0 _ 1 8 Try.underlying31 HI.out HZ0.out HZ1.out HZ2.out rfl (by omega) _ L.length (ints L) rfl (HO.out.alloc _) ⟨wr.heap.size, 0, none⟩ 1 1 [.int .i64 j] rfl rfl (cell_one_new _ _ _) (by simp [Value.oneCell']) (by omega) (by unfold maxLen; omega) (by omega) (by simp; omega) (wr.heap.size + 1) (by simp) ?_; intro gg cap w3 hown1 hgrow hat hltg)
        have HO2 := Lib.hid hown1
        clear hown1
        go_roundw
        case rel => exact ⟨j + 1, by omega, by go_num, by rw [HT.out, List.length_append]; simpa [ints] using HO2.out, (HB.out.alloc hbs _).grown hgrow (by simp; omega) (fun j e => (HO.out.lt j e).1)⟩
        case measure => simp [intOf]; omega
    · have he : j = D.S.length := by omega
      subst he
      have HO := Lib.hid hown; have HB := Lib.hid hbl
      clear hd hown hbl
      go_wp2_with fail
      go_ret
      exact ⟨_, rfl, HO.out, HB.out⟩

set_option maxRecDepth 100000 in
set_option maxHeartbeats 2000000 in
theorem rworn_any (B : RAt) (D : Dk) (w : World) (h : RefAt w B D) :
    Calls Try.prog 43 #[.pointer (some ⟨B.d, 0, none⟩)] w fun e w' => ∃ v, e = .returned v ∧ w'.ownsRow w.heap.size 3 1 v (keysOf D.S.length (wornD D.W)).length (ints (keysOf D.S.length (wornD D.W))) ∧ Below w.heap.size w w' := by
  obtain ⟨i0, hi0, hz0, hz1, hz2⟩ := info_parts Try.info3i
  have HI := Lib.hid hi0; have HZ0 := Lib.hid hz0; have HZ1 := Lib.hid hz1; have HZ2 := Lib.hid hz2
  have hlen := h.ok.len
  have H := Lib.hid h
  clear hi0 hz0 hz1 hz2 h
  go_enter Try.func43, Try.ntmps43
  go_wp2_with fail
  go_loopw [3, 4] (fun v i wr => ∃ j : Nat, j ≤ D.S.length ∧ i = .int .i64 j ∧ wr.ownsRow w.heap.size 3 1 v (keysOf j (wornD D.W)).length (ints (keysOf j (wornD D.W))) ∧ Below w.heap.size w wr) (fun _ i _ => D.S.length - (intOf i).toNat)
  case atStart => exact ⟨0, Nat.zero_le _, rfl, by simpa [ints, keysOf] using World.ownsRow_nil _ _ _ _, Below.refl _ _⟩
  case round =>
    obtain ⟨j, hj, rfl, hown, hbl⟩ := hrel
    have hd := H.out.keeps (Keeps.of_below (F := fun _ => False) hbl) (fun _ _ h => h)
    have c0 := hd.box0
    by_cases hlt : j < D.S.length
    · have q2 := hd.row (k := j) hlt 3 (by omega)
      have hkl := keysOf_len j (wornD D.W)
      have hbs := hbl.size
      have hj0 : (0 : Int) ≤ (j : Int) := Int.natCast_nonneg _
      have hj1 : (j : Int) < (D.S.length : Int) := by omega
      have he : ((wornD D.W) j).isSome = (row D j).w := by
        unfold wornD row; cases D.W j <;> rfl
      cases hb : (row D j).w
      · rw [hb] at he
        simp [sc, hb] at q2
        have hT := keysOf_no he
        have HT := Lib.hid hT; have HO := Lib.hid hown; have HB := Lib.hid hbl
        clear hd he hT hown hbl hb
        go_wp2_with fail
        go_roundw
        case rel => exact ⟨j + 1, by omega, by go_num, by rw [HT.out]; exact HO.out, HB.out⟩
        case measure => simp [intOf]; omega
      · rw [hb] at he
        simp [sc, hb] at q2
        have hT := keysOf_yes he
        have HT := Lib.hid hT; have HO := Lib.hid hown; have HB := Lib.hid hbl
        clear hd he hT hown hbl hb
        generalize hL : keysOf j (wornD D.W) = L at *
        have HLL := Lib.hid hL
        clear hL
        go_wp2_with (at_builtin; refine wpList_append_lies _ rfl _ _ _ rfl w.heap.size 3 i0 _ 1 8 Try.underlying31 HI.out HZ0.out HZ1.out HZ2.out rfl (by omega) _ L.length (ints L) rfl (HO.out.alloc _) ⟨wr.heap.size, 0, none⟩ 1 1 [.int .i64 j] rfl rfl (cell_one_new _ _ _) (by simp [Value.oneCell']) (by omega) (by unfold maxLen; omega) (by omega) (by simp; omega) (wr.heap.size + 1) (by simp) ?_; intro gg cap w3 hown1 hgrow hat hltg)
        have HO2 := Lib.hid hown1
        clear hown1
        go_roundw
        case rel => exact ⟨j + 1, by omega, by go_num, by rw [HT.out, List.length_append]; simpa [ints] using HO2.out, (HB.out.alloc hbs _).grown hgrow (by simp; omega) (fun j e => (HO.out.lt j e).1)⟩
        case measure => simp [intOf]; omega
    · have he : j = D.S.length := by omega
      subst he
      have HO := Lib.hid hown; have HB := Lib.hid hbl
      clear hd hown hbl
      go_wp2_with fail
      go_ret
      exact ⟨_, rfl, HO.out, HB.out⟩

theorem take_strs {l : List ByteArray} {j : Nat} {s : ByteArray} (h : l[j]? = some s) : strs (l.take (j + 1)) = strs (l.take j) ++ [.string s] := by
  rw [take_succ_at h]; unfold strs; rw [List.map_append]; rfl

set_option maxRecDepth 100000 in
set_option maxHeartbeats 2000000 in
theorem rimage_any (B : RAt) (D : Dk) (w : World) (h : RefAt w B D) :
    Calls Try.prog 40 #[.pointer (some ⟨B.d, 0, none⟩)] w fun e w' => ∃ v, e = .returned v ∧ w'.ownsRow w.heap.size 9 1 v D.S.length (strs D.S) ∧ Below w.heap.size w w' := by
  obtain ⟨i0, hi0, hz0, hz1, hz2⟩ := info_parts Try.info9i
  have HI := Lib.hid hi0; have HZ0 := Lib.hid hz0; have HZ1 := Lib.hid hz1; have HZ2 := Lib.hid hz2
  have hlen := h.ok.len
  have H := Lib.hid h
  clear hi0 hz0 hz1 hz2 h
  go_enter Try.func40, Try.ntmps40
  go_wp2_with fail
  go_loopw [3, 4] (fun v i wr => ∃ j : Nat, j ≤ D.S.length ∧ i = .int .i64 j ∧ wr.ownsRow w.heap.size 9 1 v j (strs (D.S.take j)) ∧ Below w.heap.size w wr) (fun _ i _ => D.S.length - (intOf i).toNat)
  case atStart => exact ⟨0, Nat.zero_le _, rfl, by simpa [strs] using World.ownsRow_nil _ _ _ _, Below.refl _ _⟩
  case round =>
    obtain ⟨j, hj, rfl, hown, hbl⟩ := hrel
    have hd := H.out.keeps (Keeps.of_below (F := fun _ => False) hbl) (fun _ _ h => h)
    have c0 := hd.box0
    by_cases hlt : j < D.S.length
    · have q2 := hd.row (k := j) hlt 0 (by omega)
      obtain ⟨s, hs⟩ := elem_at hlt
      simp [sc, row, hs] at q2
      have hbs := hbl.size
      have hj0 : (0 : Int) ≤ (j : Int) := Int.natCast_nonneg _
      have hj1 : (j : Int) < (D.S.length : Int) := by omega
      have hT := take_strs hs
      have HT := Lib.hid hT; have HO := Lib.hid hown; have HB := Lib.hid hbl
      clear hd hT hown hbl hs
      go_wp2_with (at_builtin; refine wpList_append_lies _ rfl _ _ _ rfl w.heap.size 9 i0 _ 1 16 Try.underlying39 HI.out HZ0.out HZ1.out HZ2.out rfl (by omega) _ j (strs (D.S.take j)) rfl (HO.out.alloc _) ⟨wr.heap.size, 0, none⟩ 1 1 [.string s] rfl rfl (cell_one_new _ _ _) (by simp [Value.oneCell']) (by omega) (by unfold maxLen; omega) (by omega) (by simp; omega) (wr.heap.size + 1) (by simp) ?_; intro gg cap w3 hown1 hgrow hat hltg)
      have HO2 := Lib.hid hown1
      clear hown1
      go_roundw
      case rel => exact ⟨j + 1, by omega, by go_num, by rw [HT.out]; exact HO2.out, (HB.out.alloc hbs _).grown hgrow (by simp; omega) (fun j e => (HO.out.lt j e).1)⟩
      case measure => simp [intOf]; omega
    · have he : j = D.S.length := by omega
      subst he
      rw [List.take_length] at hown
      have HO := Lib.hid hown; have HB := Lib.hid hbl
      clear hd hown hbl
      go_wp2_with fail
      go_ret
      exact ⟨_, rfl, HO.out, HB.out⟩
end Go.Proofs.Ytdanhfanepmhkaa
