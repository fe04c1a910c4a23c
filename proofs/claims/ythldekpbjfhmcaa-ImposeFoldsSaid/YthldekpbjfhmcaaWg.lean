import Derived.Test.YthldekpbjfhmcaaWf
import Derived.Deep.AppendLies
namespace Go.Proofs.Ythldekpbjfhmcaa
open Go.RowKit

/-- what a call makes is read like any slice -/
theorem Rd_of_owns {w : World} {base : Nat} {e : TypeId} {sz : Nat} {v : Value} {n : Nat} {cs : List Value} (h : w.ownsRow base e sz v n cs) : Rd w sz v n cs := by
  refine ⟨h.1, ?_⟩
  rcases h.2 with ⟨rfl, rfl⟩ | ⟨g, cap, cur, rfl, hb, hg, hn, hc, hs, ht⟩
  · exact ⟨none, 0, rfl, Nat.le_refl _, by omega, .inl ⟨rfl, rfl⟩⟩
  · refine ⟨_, cap, rfl, hn, by unfold maxLen at hc; omega, .inr ⟨g, 0, rfl, (Array.getElem?_eq_some_iff.1 hg).1, fun j u hu => ?_⟩⟩
    have := World.ownsRow.cells h (g := g) rfl j u hu
    have hadd : (⟨g, 0, none⟩ : Addr).add j = ⟨g, j, none⟩ := by unfold Addr.add; split <;> simp_all
    rw [hadd] at this
    rw [Nat.zero_add]; exact this

theorem own_ne {w : World} {base : Nat} {e : TypeId} {sz : Nat} {v : Value} {n : Nat} {cs : List Value} (h : w.ownsRow base e sz v n cs) {b : Nat} (hb : b < base) : v.ownBlock ≠ some b := fun hh => by
  have := (h.lt b hh).1; omega

theorem take_flat {α β : Type} (f : α → List β) (xs : List α) (k : Nat) (x : α) (hx : xs[k]? = some x) : (xs.take (k + 1)).flatMap f = (xs.take k).flatMap f ++ f x := by
  rw [List.take_add_one, hx]; simp

theorem Try.info76 : (Try.prog.info? 76).map (fun i => (i.zero, i.size, i.bytes)) = some (some (.agg #[.int .i64 0, .int .i64 0, .int .i64 0, .int .i64 0, .int .i64 0]), 5, 40) := by kernel_rfl
theorem Try.info54 : (Try.prog.info? 54).map (fun i => (i.zero, i.size, i.bytes)) = some (some (.agg #[.int .i64 0, .int .i64 0, .int .i64 0, .int .i64 0, .int .i64 0]), 5, 40) := by kernel_rfl

set_option maxRecDepth 100000 in
set_option maxHeartbeats 3200000 in
theorem plain_any (v1 : Value) (xs : List Sh) (w : World) (h1 : RdS w v1 xs) (hn : xs.length * 40 ≤ 140737488351232) :
    Calls Try.prog 13 #[v1] w fun e w' => ∃ v, e = .returned v ∧ w'.ownsRow w.heap.size 76 5 v xs.length (shs xs) ∧ Below w.heap.size w w' := by
  obtain ⟨a1, c1, rfl, l1, f1⟩ := h1.open
  clear h1
  have F1 := Lib.hid f1; clear f1
  obtain ⟨i0, hi0, hz0, hz1, hz2⟩ := info_parts Try.info76
  have HI := Lib.hid hi0; have HZ0 := Lib.hid hz0; have HZ1 := Lib.hid hz1; have HZ2 := Lib.hid hz2
  clear hi0 hz0 hz1 hz2
  go_enter Try.func13, Try.ntmps13
  go_wp2
  go_loopw [3, 4] (fun v i wr => ∃ k : Nat, k ≤ xs.length ∧ i = .int .i64 k ∧ wr.ownsRow w.heap.size 76 5 v k (shs (xs.take k)) ∧ Below w.heap.size w wr) (fun _ i _ => xs.length - (intOf i).toNat)
  case atStart => exact ⟨0, Nat.zero_le _, rfl, by simpa [shs] using World.ownsRow_nil w _ _ _, Below.refl _ _⟩
  case round =>
    obtain ⟨k, hk, rfl, hown, hbl⟩ := hrel
    by_cases hlt : k < xs.length
    · obtain ⟨⟨x0, x1, x2, x3, x4⟩, hx⟩ := elem_at hlt
      obtain ⟨b1, o1, rfl, hb1, q0, q1, q2, q3, q4⟩ := F1.out k _ hx
      have g0 := (hbl.cell (p := ⟨b1, o1 + k * 5, none⟩) hb1).trans q0
      have g1 := (hbl.cell (p := ⟨b1, o1 + k * 5 + 1, none⟩) hb1).trans q1
      have g2 := (hbl.cell (p := ⟨b1, o1 + k * 5 + 2, none⟩) hb1).trans q2
      have g3 := (hbl.cell (p := ⟨b1, o1 + k * 5 + 3, none⟩) hb1).trans q3
      have g4 := (hbl.cell (p := ⟨b1, o1 + k * 5 + 4, none⟩) hb1).trans q4
      have hbsz := hbl.size
      have hbr : b1 < wr.heap.size := by omega
      have ag := own_ne hown hb1
      have HX := Lib.hid hx; have HO := Lib.hid hown; have HB := Lib.hid hbl
      clear hx hown hbl q0 q1 q2 q3 q4
      have hk0 : (0 : Int) ≤ (k : Int) := Int.natCast_nonneg _
      have hk1 : (k : Int) < (xs.length : Int) := by omega
      go_wp2_with fail
      go_region_held3 (fun w' => w'.cell? ⟨b1, o1 + k * 5, none⟩ = some (.int .i64 x0) ∧ w'.cell? ⟨b1, o1 + k * 5 + 1, none⟩ = some (.int .i64 x1) ∧ w'.cell? ⟨b1, o1 + k * 5 + 2, none⟩ = some (.int .i64 x2) ∧ w'.cell? ⟨b1, o1 + k * 5 + 3, none⟩ = some (.int .i64 x3) ∧ w'.cell? ⟨b1, o1 + k * 5 + 4, none⟩ = some (.int .i64 x4))
        (first
          | go_keep
          | (go_split_ands
             refine ⟨?_, ?_, ?_, ?_, ?_⟩ <;> (rw [hgrow.cell_far _ (by simp; omega) (Ne.symm ag)]; assumption)))
        ((refine step_append_lies _ (by rfl) _ _ _ (by rfl) w.heap.size 76 i0 _ 5 40 Try.underlying31 HI.out HZ0.out HZ1.out HZ2.out rfl (by omega) _ k (shs (xs.take k)) (by rfl) ((HO.out.alloc _).drew)
            ⟨wr.heap.size, 0, none⟩ 1 1 [.int .i64 x0, .int .i64 x1, .int .i64 x2, .int .i64 x3, .int .i64 x4] (by rfl) (by rfl) (World.news_of_block (cs := #[.int .i64 x0, .int .i64 x1, .int .i64 x2, .int .i64 x3, .int .i64 x4]) (t := 76) (fr := (0, 0)) (heap_alloc_new wr _)) (by simp [Value.oneCell'])
            (by omega) (by unfold maxLen; omega) (by omega) (by simp; omega) (wr.heap.size + 1) (by simp) ?_; intro gg cap w1 hown1 hgrow hat hltg))
      have hT : shs (xs.take (k + 1)) = shs (xs.take k) ++ [.int .i64 x0, .int .i64 x1, .int .i64 x2, .int .i64 x3, .int .i64 x4] := take_flat sh xs k _ HX.out
      have HT := Lib.hid hT; clear hT
      go_wp2
      go_roundw
      case rel => exact ⟨k + 1, by omega, by go_num, by rw [HT.out]; exact hown1, ((HB.out.alloc hbsz _).drew).grown hgrow (by simp; omega) (fun j e => (HO.out.lt j e).1)⟩
      case measure => simp [intOf]; omega
    · have he : k = xs.length := by omega
      subst he
      have HO := Lib.hid hown; clear hown
      go_wp2
      go_ret
      exact ⟨_, rfl, by have := HO.out; rwa [List.take_length] at this, by assumption⟩
set_option maxRecDepth 100000 in
set_option maxHeartbeats 3200000 in
theorem own_any (v1 : Value) (xs : List Sh) (w : World) (h1 : RdS w v1 xs) (hn : xs.length * 40 ≤ 140737488351232) :
    Calls Try.prog 14 #[v1] w fun e w' => ∃ v, e = .returned v ∧ w'.ownsRow w.heap.size 54 5 v xs.length (shs xs) ∧ Below w.heap.size w w' := by
  obtain ⟨a1, c1, rfl, l1, f1⟩ := h1.open
  clear h1
  have F1 := Lib.hid f1; clear f1
  obtain ⟨i0, hi0, hz0, hz1, hz2⟩ := info_parts Try.info54
  have HI := Lib.hid hi0; have HZ0 := Lib.hid hz0; have HZ1 := Lib.hid hz1; have HZ2 := Lib.hid hz2
  clear hi0 hz0 hz1 hz2
  go_enter Try.func14, Try.ntmps14
  go_wp2
  go_loopw [3, 4] (fun v i wr => ∃ k : Nat, k ≤ xs.length ∧ i = .int .i64 k ∧ wr.ownsRow w.heap.size 54 5 v k (shs (xs.take k)) ∧ Below w.heap.size w wr) (fun _ i _ => xs.length - (intOf i).toNat)
  case atStart => exact ⟨0, Nat.zero_le _, rfl, by simpa [shs] using World.ownsRow_nil w _ _ _, Below.refl _ _⟩
  case round =>
    obtain ⟨k, hk, rfl, hown, hbl⟩ := hrel
    by_cases hlt : k < xs.length
    · obtain ⟨⟨x0, x1, x2, x3, x4⟩, hx⟩ := elem_at hlt
      obtain ⟨b1, o1, rfl, hb1, q0, q1, q2, q3, q4⟩ := F1.out k _ hx
      have g0 := (hbl.cell (p := ⟨b1, o1 + k * 5, none⟩) hb1).trans q0
      have g1 := (hbl.cell (p := ⟨b1, o1 + k * 5 + 1, none⟩) hb1).trans q1
      have g2 := (hbl.cell (p := ⟨b1, o1 + k * 5 + 2, none⟩) hb1).trans q2
      have g3 := (hbl.cell (p := ⟨b1, o1 + k * 5 + 3, none⟩) hb1).trans q3
      have g4 := (hbl.cell (p := ⟨b1, o1 + k * 5 + 4, none⟩) hb1).trans q4
      have hbsz := hbl.size
      have hbr : b1 < wr.heap.size := by omega
      have ag := own_ne hown hb1
      have HX := Lib.hid hx; have HO := Lib.hid hown; have HB := Lib.hid hbl
      clear hx hown hbl q0 q1 q2 q3 q4
      have hk0 : (0 : Int) ≤ (k : Int) := Int.natCast_nonneg _
      have hk1 : (k : Int) < (xs.length : Int) := by omega
      go_wp2_with fail
      go_region_held3 (fun w' => w'.cell? ⟨b1, o1 + k * 5, none⟩ = some (.int .i64 x0) ∧ w'.cell? ⟨b1, o1 + k * 5 + 1, none⟩ = some (.int .i64 x1) ∧ w'.cell? ⟨b1, o1 + k * 5 + 2, none⟩ = some (.int .i64 x2) ∧ w'.cell? ⟨b1, o1 + k * 5 + 3, none⟩ = some (.int .i64 x3) ∧ w'.cell? ⟨b1, o1 + k * 5 + 4, none⟩ = some (.int .i64 x4))
        (first
          | go_keep
          | (go_split_ands
             refine ⟨?_, ?_, ?_, ?_, ?_⟩ <;> (rw [hgrow.cell_far _ (by simp; omega) (Ne.symm ag)]; assumption)))
        ((refine step_append_lies _ (by rfl) _ _ _ (by rfl) w.heap.size 54 i0 _ 5 40 Try.underlying22 HI.out HZ0.out HZ1.out HZ2.out rfl (by omega) _ k (shs (xs.take k)) (by rfl) ((HO.out.alloc _).drew)
            ⟨wr.heap.size, 0, none⟩ 1 1 [.int .i64 x0, .int .i64 x1, .int .i64 x2, .int .i64 x3, .int .i64 x4] (by rfl) (by rfl) (World.news_of_block (cs := #[.int .i64 x0, .int .i64 x1, .int .i64 x2, .int .i64 x3, .int .i64 x4]) (t := 54) (fr := (0, 0)) (heap_alloc_new wr _)) (by simp [Value.oneCell'])
            (by omega) (by unfold maxLen; omega) (by omega) (by simp; omega) (wr.heap.size + 1) (by simp) ?_; intro gg cap w1 hown1 hgrow hat hltg))
      have hT : shs (xs.take (k + 1)) = shs (xs.take k) ++ [.int .i64 x0, .int .i64 x1, .int .i64 x2, .int .i64 x3, .int .i64 x4] := take_flat sh xs k _ HX.out
      have HT := Lib.hid hT; clear hT
      go_wp2
      go_roundw
      case rel => exact ⟨k + 1, by omega, by go_num, by rw [HT.out]; exact hown1, ((HB.out.alloc hbsz _).drew).grown hgrow (by simp; omega) (fun j e => (HO.out.lt j e).1)⟩
      case measure => simp [intOf]; omega
    · have he : k = xs.length := by omega
      subst he
      have HO := Lib.hid hown; clear hown
      go_wp2
      go_ret
      exact ⟨_, rfl, by have := HO.out; rwa [List.take_length] at this, by assumption⟩
end Go.Proofs.Ythldekpbjfhmcaa
