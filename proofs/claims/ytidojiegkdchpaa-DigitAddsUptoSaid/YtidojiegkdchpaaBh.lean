/- The walk of DigitFlaws. -/
import Derived.Test.YtidojiegkdchpaaBg
namespace Go.Proofs.Ytidojiegkdchpaa
open Go.RowKit Go.Maps

theorem own_set {W : World} {base g n c : Nat} {L : List Int} (h : W.ownsRow base 3 1 (.slice (some ⟨g, 0, none⟩) n c) n (ints L)) (k : Nat) (v : Int) : (W.setCell ⟨g, k, none⟩ (.int .i64 v)).ownsRow base 3 1 (.slice (some ⟨g, 0, none⟩) n c) n (ints (L.set k v)) := by
  obtain ⟨h1, h2⟩ := h
  refine ⟨by rw [ints_set, List.length_set]; exact h1, ?_⟩
  rcases h2 with ⟨h3, _⟩ | ⟨g', cap, cur, he, hb, hg, hnc, hcm, hcs, ht⟩
  · cases h3
  · cases he
    refine .inr ⟨g, c, cur.setIfInBounds k (.int .i64 v), rfl, hb, (show Boxs W g 3 cur from hg).put k _, hnc, hcm, by rw [Array.size_setIfInBounds]; exact hcs, ?_⟩
    rw [Array.toList_setIfInBounds, List.take_set, ht, ints_set]
theorem own_box {W : World} {base g n c : Nat} {L : List Int} (h : W.ownsRow base 3 1 (.slice (some ⟨g, 0, none⟩) n c) n (ints L)) : ∃ C, Boxs W g 3 C ∧ base ≤ g := by
  rcases h.2 with ⟨h3, _⟩ | ⟨g', cap, cur, he, hb, hg, _⟩
  · cases h3
  · cases he; exact ⟨cur, hg, hb⟩
/-- the slip and the two lists -/
structure FS (base : Nat) (W : World) (bf : Nat) (f0 f1 f2 f3 : Int) (ga gb ca cb n : Nat) (A B : List Int) : Prop where
  a : W.ownsRow base 3 1 (.slice (some ⟨ga, 0, none⟩) n ca) n (ints A)
  b : W.ownsRow base 3 1 (.slice (some ⟨gb, 0, none⟩) n cb) n (ints B)
  ne : ga ≠ gb
  box : Boxs W bf 35 #[.int .i64 f0, .int .i64 f1, .int .i64 f2, .int .i64 f3]
  lt : bf < base
theorem FS.below {base bf ga gb ca cb n : Nat} {W W' : World} {f0 f1 f2 f3 : Int} {A B : List Int} (h : FS base W bf f0 f1 f2 f3 ga gb ca cb n A B) (hb : Below W.heap.size W W') : FS base W' bf f0 f1 f2 f3 ga gb ca cb n A B :=
  ⟨owns_below h.a hb, owns_below h.b hb, h.ne, (hb.block _ h.box.lt).trans h.box, h.lt⟩
theorem Boxs.far {W : World} {B b k : Nat} {t : TypeId} {cs : Array Value} {v : Value} (h : Boxs W B t cs) (hn : b ≠ B) : Boxs (W.setCell ⟨b, k, none⟩ v) B t cs :=
  (Below.heap_setCell _ _ _ _ (fun e => hn e.symm)).trans h
theorem FS.setA {base bf ga gb ca cb n : Nat} {W : World} {f0 f1 f2 f3 : Int} {A B : List Int} (h : FS base W bf f0 f1 f2 f3 ga gb ca cb n A B) (k : Nat) (v : Int) : FS base (W.setCell ⟨ga, k, none⟩ (.int .i64 v)) bf f0 f1 f2 f3 ga gb ca cb n (A.set k v) B := by
  obtain ⟨C, hC, hg⟩ := own_box h.a
  refine ⟨own_set h.a k v, ownsRow_setCell_other h.b (by simp [Value.ownBlock]; exact fun e => h.ne e.symm) _, h.ne, h.box.far (by have := h.lt; omega), h.lt⟩
theorem FS.setB {base bf ga gb ca cb n : Nat} {W : World} {f0 f1 f2 f3 : Int} {A B : List Int} (h : FS base W bf f0 f1 f2 f3 ga gb ca cb n A B) (k : Nat) (v : Int) : FS base (W.setCell ⟨gb, k, none⟩ (.int .i64 v)) bf f0 f1 f2 f3 ga gb ca cb n A (B.set k v) := by
  obtain ⟨C, hC, hg⟩ := own_box h.b
  refine ⟨ownsRow_setCell_other h.a (by simp [Value.ownBlock]; exact h.ne) _, own_set h.b k v, h.ne, h.box.far (by have := h.lt; omega), h.lt⟩
theorem FS.cells {base bf ga gb ca cb n : Nat} {W : World} {f0 f1 f2 f3 : Int} {A B : List Int} (h : FS base W bf f0 f1 f2 f3 ga gb ca cb n A B) : W.cell? ⟨bf, 0, none⟩ = some (.int .i64 f0) ∧ W.cell? ⟨bf, 1, none⟩ = some (.int .i64 f1) ∧ W.cell? ⟨bf, 2, none⟩ = some (.int .i64 f2) ∧ W.cell? ⟨bf, 3, none⟩ = some (.int .i64 f3) :=
  ⟨h.box.cell 0, h.box.cell 1, h.box.cell 2, h.box.cell 3⟩
theorem FS.cellA {base bf ga gb ca cb n k : Nat} {W : World} {f0 f1 f2 f3 : Int} {A B : List Int} (h : FS base W bf f0 f1 f2 f3 ga gb ca cb n A B) {x : Int} (hx : A[k]? = some x) : W.cell? ⟨ga, k, none⟩ = some (.int .i64 x) ∧ W.frozen? ⟨ga, k, none⟩ = false := by
  obtain ⟨C, hC, hg⟩ := own_box h.a
  exact ⟨own_cell h.a hx, hC.frozen k⟩
theorem FS.cellB {base bf ga gb ca cb n k : Nat} {W : World} {f0 f1 f2 f3 : Int} {A B : List Int} (h : FS base W bf f0 f1 f2 f3 ga gb ca cb n A B) {x : Int} (hx : B[k]? = some x) : W.cell? ⟨gb, k, none⟩ = some (.int .i64 x) ∧ W.frozen? ⟨gb, k, none⟩ = false := by
  obtain ⟨C, hC, hg⟩ := own_box h.b
  exact ⟨own_cell h.b hx, hC.frozen k⟩
theorem FS.belowSet {base bf ga gb ca cb n : Nat} {W : World} {f0 f1 f2 f3 : Int} {A B : List Int} (h : FS base W bf f0 f1 f2 f3 ga gb ca cb n A B) {w0 : World} {m : Nat} (hm : m ≤ base) (hb : Below m w0 W) (k : Nat) (v : Value) : Below m w0 (W.setCell ⟨ga, k, none⟩ v) ∧ Below m w0 (W.setCell ⟨gb, k, none⟩ v) := by
  obtain ⟨C, _, hg⟩ := own_box h.a
  obtain ⟨D, _, hd⟩ := own_box h.b
  exact ⟨hb.setCell (p := ⟨ga, k, none⟩) (by show m ≤ ga; omega) v, hb.setCell (p := ⟨gb, k, none⟩) (by show m ≤ gb; omega) v⟩
theorem anyC_snoc (m : Int) (a b : List Slip) : anyC m (a ++ b) = (anyC m a || anyC m b) := by unfold anyC; rw [List.any_append]
theorem anyC_A {ws : List Int} {m : Int} {k : Nat} {x : Int} (h : ws[k]? = some x) : anyC m (spA ws k) = comF x m := by rw [spA_at h]; simp [anyC]
theorem anyC_B {ws : List Int} {m : Int} {k : Nat} {x y : Int} (h : ws[k]? = some x) (h2 : ws[k + 1]? = some y) : anyC m (spB ws k) = comF (x - y) m := by rw [spB_at h h2]; simp [anyC]
theorem anyC_no {ws : List Int} {m : Int} {k : Nat} (h : ws.length ≤ k + 1) : anyC m (spB ws k) = false := by rw [spB_no h]; simp [anyC]
theorem anyC_succ (ws : List Int) (m : Int) (k : Nat) : anyC m (spN ws (k + 1)) = (anyC m (spN ws k) || (anyC m (spA ws k) || anyC m (spB ws k))) := by rw [spN_succ, anyC_snoc, anyC_snoc]
theorem own_open {W : World} {base n : Nat} {v : Value} {L : List Int} (h : W.ownsRow base 3 1 v n (ints L)) (hn : 0 < n) : ∃ g c, v = .slice (some ⟨g, 0, none⟩) n c := by
  rcases h.2 with ⟨_, h3⟩ | ⟨g', cap, cur, he, _⟩
  · omega
  · exact ⟨g', cap, he⟩
theorem ints_one (L : List Int) : ∀ u, u ∈ ints L → u.oneCell' = true := by
  intro u hu
  obtain ⟨x, _, rfl⟩ := List.mem_map.1 hu
  rfl
theorem set_bd {A : List Int} {M : Int} (h : ∀ x, x ∈ A → 0 ≤ x ∧ x < M) (k : Nat) {c : Int} (c0 : 0 ≤ c) (c1 : c < M) : ∀ x, x ∈ A.set k c → 0 ≤ x ∧ x < M := by
  intro x hx
  rcases List.mem_or_eq_of_mem_set hx with e | e
  · exact h x e
  · rw [e]; exact ⟨c0, c1⟩
theorem tmod2 (v : Int) : ∃ r : Int, Int.tmod v 2 = r ∧ -1 ≤ r ∧ r ≤ 1 := by
  by_cases h : 0 ≤ v
  · exact ⟨v % 2, Int.tmod_eq_emod_of_nonneg h, by omega, by omega⟩
  · refine ⟨-((-v) % 2), ?_, by omega, by omega⟩
    rw [← Int.tmod_eq_emod_of_nonneg (show 0 ≤ -v by omega), Int.neg_tmod, Int.neg_neg]
theorem weakV_sch {ws : List Int} {m : Int} (h : errF ws m = 0) : weakV ws m = weakR ws m := by unfold weakV; rw [h]; simp

set_option maxRecDepth 100000 in
set_option maxHeartbeats 8000000 in
theorem digitFlaws_any (v1 v2 : Value) (l vl : List Int) (n at' value : Int) (w : World) (h1 : RdI w v1 l) (h2 : RdI w v2 vl) (i1 : inI l) (i2 : inI vl) (hn : -9223372036854775808 ≤ n) (hn' : n ≤ 9223372036854775807) (ha : -9223372036854775808 ≤ at') (ha' : at' ≤ 9223372036854775807) (hv : -9223372036854775808 ≤ value) (hv' : value ≤ 9223372036854775807) :
    Calls Try.prog 5 #[v1, .int .i64 n, v2, .int .i64 at', .int .i64 value] w fun e w' => e = .returned (.bool true) ∧ Below w.heap.size w w' := by
  obtain ⟨i0, hi0, hz0, hz1, hz2⟩ := info_parts Try.info3i
  have HI0 := Lib.hid hi0; have HZ0 := Lib.hid hz0; have HZ1 := Lib.hid hz1; have HZ2 := Lib.hid hz2
  clear hi0 hz0 hz1 hz2
  have SC := scheme_any v1 l n w h1 i1 hn hn'
  have LV := Lib.hid lives_any
  have H2 := Lib.hid h2
  have I2 := Lib.hid i2
  obtain ⟨a1, c1, rfl, _, _⟩ := h1.open
  obtain ⟨a2, c2, rfl, _, _⟩ := h2.open
  have HE := Lib.hid (errF_sch l n)
  have hM := modF_bd n
  have hlw := schF_len l n
  have HW := Lib.hid (schF_bd l n)
  clear h1 h2 i2 hn hn' i1
  go_enter Try.func5, Try.ntmps5
  go_wp2_with fail
  refine SC.mono ?_
  rintro e w1 ⟨u, rfl, hru, hb1⟩
  have HU := Lib.hid hru
  have HB1 := Lib.hid hb1
  obtain ⟨au, cu, rfl, _, fu⟩ := hru.open
  have FU := Lib.hid fu
  generalize schF l n = ws at *
  generalize modF n = M at *
  obtain ⟨hM1, hM2⟩ := hM
  obtain ⟨fA, hfA⟩ : ∃ f : Nat → Int, f = fun k : Nat => atF vl k M := ⟨_, rfl⟩
  have bA : ∀ k, 0 ≤ fA k ∧ fA k < M := fun k => by rw [hfA]; exact atF_bd _ _ _ (by omega)
  have HbA := Lib.hid bA
  have ATA : ∀ (k : Nat) (W : World), k ≤ 8 → Below w.heap.size w W → Calls Try.prog 10 #[.slice a2 vl.length c2, .int .i64 k, .int .i64 M] W fun e w' => e = .returned (.int .i64 (fA k)) ∧ Below W.heap.size W w' := fun k W hk hb => by
    rw [hfA]; exact at_any _ vl k M W (H2.out.below hb) I2.out (by omega) (by omega) (by omega) (by omega)
  have HATA := Lib.hid ATA
  have WK := weak_any (.slice au ws.length cu) ws M w1 hru
  rw [weakV_sch HE.out, HE.out] at WK
  have HCW := Lib.hid (weak_any_com (ws := ws) hM1)
  have HSL := Lib.hid (fun a o d => weak_slip (ws := ws) (m := M) (a := a) (o := o) (d := d))
  have HNC := Lib.hid (fun (h : weakR ws M = none) (k : Nat) (x : Int) => none_com (ws := ws) hM1 h (k := k) (x := x))
  clear hru hb1 SC bA ATA hfA fu
  go_wp2_with fail
  refine WK.mono ?_
  rintro e w2 ⟨rfl, hb2⟩
  have HB2 := Lib.hid hb2
  clear hb2 WK
  obtain ⟨f0, f1, f2, f3, hfl⟩ := fl_agg (weakR ws M)
  have HFL := Lib.hid hfl
  rw [hfl]
  clear hfl
  obtain ⟨s0, hs0⟩ : ∃ s, s = (weakR ws M).isSome := ⟨_, rfl⟩
  rw [← hs0]
  have HS0 := Lib.hid hs0
  clear hs0
  go_upto_region 3 with fail
  have HX3 := Lib.hid (Boxs.new w2 35 #[.int .i64 f0, .int .i64 f1, .int .i64 f2, .int .i64 f3])
  have hb3 := HB2.out.alloc HB2.out.size (.cells #[.int .i64 f0, .int .i64 f1, .int .i64 f2, .int .i64 f3] 35)
  have HU3 := Lib.hid (HU.out.below hb3)
  have FU3 := Lib.hid (show ∀ k x, ws[k]? = some x → ∃ b o, au = some ⟨b, o, none⟩ ∧ b < w1.heap.size ∧ (w2.alloc (.cells #[.int .i64 f0, .int .i64 f1, .int .i64 f2, .int .i64 f3] 35)).cell? ⟨b, o + k, none⟩ = some (.int .i64 x) from fun k x hx => by
    obtain ⟨b, o, e, hb, g⟩ := FU.out k x hx
    exact ⟨b, o, e, hb, (hb3.cell (p := ⟨b, o + k, none⟩) hb).trans g⟩)
  have HB3 := Lib.hid (HB1.out.trans (hb3.mono HB1.out.size))
  have hs3 : (w2.alloc (.cells #[.int .i64 f0, .int .i64 f1, .int .i64 f2, .int .i64 f3] 35)).heap.size = w2.heap.size + 1 := by simp
  have HS3 := Lib.hid hs3
  have hs12 := Nat.lt_of_lt_of_le (Nat.lt_succ_of_le HB2.out.size) (Nat.le_of_eq hs3.symm)
  clear hb3 hs3
  generalize w2.alloc (.cells #[.int .i64 f0, .int .i64 f1, .int .i64 f2, .int .i64 f3] 35) = w3 at *
  generalize w2.heap.size = bf at *
  go_wp2_with fail
  go_loopw [16, 17] (fun v i wr => ∃ k : Nat, k ≤ ws.length ∧ i = .int .i64 k ∧ v = .bool (anyC M (spN ws k)) ∧ ∃ nq, wr = w3.drewN nq) (fun _ i _ => ws.length - (intOf i).toNat)
  case atStart => exact ⟨0, Nat.zero_le _, rfl, rfl, 0, rfl⟩
  case round =>
    obtain ⟨k, hk, rfl, rfl, nq, rfl⟩ := hrel
    by_cases hlt : k < ws.length
    · have q1 : (k : Int) < (ws.length : Int) := by omega
      obtain ⟨x, hx⟩ := elem_at hlt
      obtain ⟨b, o, rfl, hbw, g0⟩ := FU3.out k x hx
      have g : (w3.drewN nq).cell? ⟨b, o + k, none⟩ = some (.int .i64 x) := g0
      obtain ⟨x0, x1⟩ := HW.out x (List.mem_of_getElem? hx)
      have CX := common_any x M (by omega) (by omega) (by omega) (by omega) (w3.drewN nq)
      have HSU := Lib.hid (anyC_succ ws M k)
      have hA := anyC_A (m := M) hx
      have HA := Lib.hid hA
      have HX := Lib.hid hx
      clear hA hx g0
      by_cases hnx : k + 1 < ws.length
      · have q2 : (k : Int) + 1 < (ws.length : Int) := by omega
        obtain ⟨y, hy⟩ := elem_at hnx
        obtain ⟨b', o', he, hbw', g1⟩ := FU3.out (k + 1) y hy
        cases he
        have g2 : (w3.drewN nq).cell? ⟨b, o + (k + 1), none⟩ = some (.int .i64 y) := g1
        obtain ⟨y0, y1⟩ := HW.out y (List.mem_of_getElem? hy)
        have HBk := Lib.hid (anyC_B (m := M) HX.out hy)
        clear hy g1
        cases hf : anyC M (spN ws k)
        · go_wp2_with fail
          refine CX.mono ?_
          rintro e w4 ⟨rfl, rfl⟩
          cases hc : comF x M
          · go_upto_region 9 with fail
            refine wp_region_held (S := fun W' => W'.cell? ⟨b, o + k, none⟩ = some (.int .i64 x) ∧ W'.cell? ⟨b, o + (k + 1), none⟩ = some (.int .i64 y)) (by kernel_rfl) ?_
            have hdr : ((w3.drewN nq)).drew = { (w3.drewN nq) with drawn := ((w3.drewN nq)).drawn + 1 } := rfl
            rw [← hdr]
            clear hdr
            have HC := Lib.hid (show ((w3.drewN nq).drewN 1).cell? ⟨b, o + k, none⟩ = some (.int .i64 x) ∧ ((w3.drewN nq).drewN 1).cell? ⟨b, o + (k + 1), none⟩ = some (.int .i64 y) from ⟨g, g2⟩)
            change wpAnyH _ _ _ _ _ _ _ _ ((w3.drewN nq).drewN 1)
            have wr0 : IntKind.i64.wrap ((k : Int) + 1) = (k : Int) + 1 := by rw [IntKind.wrap_i64]; omega
            have wr1 : IntKind.i64.wrap (x - y) = x - y := by rw [IntKind.wrap_i64]; omega
            clear g g2
            refine wpAnyHTake 0 (some 60) (.bool false) rfl rfl (by kernel_rfl) (by kernel_rfl) (by kernel_rfl) (fun _ _ _ h => h) (by rfl) (fun _ _ => by rfl) (HC.out) ?_
            simp only [Act.put, List.setIfInBounds_toArray, List.set_cons_zero, List.set_cons_succ]
            refine wpAnyHTake 1 (some 61) (.bool false) rfl rfl (by kernel_rfl) (by kernel_rfl) (by kernel_rfl) (fun _ _ _ h => h) (by rfl) (fun _ _ => by rfl) (HC.out) ?_
            simp only [Act.put, List.setIfInBounds_toArray, List.set_cons_zero, List.set_cons_succ]
            refine wpAnyHTake 2 (some 62) (.slice (some ⟨b, o, none⟩) ws.length cu) rfl rfl (by kernel_rfl) (by kernel_rfl) (by kernel_rfl) (fun _ _ _ h => h) (by rfl) (fun _ _ => by rfl) (HC.out) ?_
            simp only [Act.put, List.setIfInBounds_toArray, List.set_cons_zero, List.set_cons_succ]
            refine wpAnyHTake 3 (some 63) (.int .i64 k) rfl rfl (by kernel_rfl) (by kernel_rfl) (by kernel_rfl) (fun _ _ _ h => h) (by rfl) (fun _ _ => by rfl) (HC.out) ?_
            simp only [Act.put, List.setIfInBounds_toArray, List.set_cons_zero, List.set_cons_succ]
            refine wpAnyHTake 4 (some 64) (.pointer (some ⟨b, o + k, none⟩)) rfl rfl (by kernel_rfl) (by kernel_rfl) (by kernel_rfl) (fun _ _ _ h => h) (by rfl) (fun _ _ => by go_simp) (HC.out) ?_
            simp only [Act.put, List.setIfInBounds_toArray, List.set_cons_zero, List.set_cons_succ]
            refine wpAnyHTake 5 (some 65) (.int .i64 x) rfl rfl (by kernel_rfl) (by kernel_rfl) (by kernel_rfl) (fun _ _ _ h => h) (by rfl) (fun W hW => by have g1 := hW.1; go_simp) (HC.out) ?_
            simp only [Act.put, List.setIfInBounds_toArray, List.set_cons_zero, List.set_cons_succ]
            refine wpAnyHTake 6 (some 66) (.slice (some ⟨b, o, none⟩) ws.length cu) rfl rfl (by kernel_rfl) (by kernel_rfl) (by kernel_rfl) (fun _ _ _ h => h) (by rfl) (fun _ _ => by rfl) (HC.out) ?_
            simp only [Act.put, List.setIfInBounds_toArray, List.set_cons_zero, List.set_cons_succ]
            refine wpAnyHTake 7 (some 67) (.int .i64 k) rfl rfl (by kernel_rfl) (by kernel_rfl) (by kernel_rfl) (fun _ _ _ h => h) (by rfl) (fun _ _ => by rfl) (HC.out) ?_
            simp only [Act.put, List.setIfInBounds_toArray, List.set_cons_zero, List.set_cons_succ]
            refine wpAnyHTake 8 (some 68) (.int .i64 ((k : Int) + 1)) rfl rfl (by kernel_rfl) (by kernel_rfl) (by kernel_rfl) (fun _ _ _ h => h) (by rfl) (fun _ _ => by go_simp) (HC.out) ?_
            simp only [Act.put, List.setIfInBounds_toArray, List.set_cons_zero, List.set_cons_succ]
            refine wpAnyHTake 9 (some 69) (.pointer (some ⟨b, o + (k + 1), none⟩)) rfl rfl (by kernel_rfl) (by kernel_rfl) (by kernel_rfl) (fun _ _ _ h => h) (by rfl) (fun _ _ => by go_simp; intro h; omega) (HC.out) ?_
            simp only [Act.put, List.setIfInBounds_toArray, List.set_cons_zero, List.set_cons_succ]
            refine wpAnyHTake 10 (some 70) (.int .i64 y) rfl rfl (by kernel_rfl) (by kernel_rfl) (by kernel_rfl) (fun _ _ _ h => h) (by rfl) (fun W hW => by have g1 := hW.2; go_simp) (HC.out) ?_
            simp only [Act.put, List.setIfInBounds_toArray, List.set_cons_zero, List.set_cons_succ]
            refine wpAnyHTake 11 (some 71) (.int .i64 (x - y)) rfl rfl (by kernel_rfl) (by kernel_rfl) (by kernel_rfl) (fun _ _ _ h => h) (by rfl) (fun _ _ => by go_simp) (HC.out) ?_
            simp only [Act.put, List.setIfInBounds_toArray, List.set_cons_zero, List.set_cons_succ]
            refine wpAnyHTake 12 (some 72) (.int .i64 M) rfl rfl (by kernel_rfl) (by kernel_rfl) (by kernel_rfl) (fun _ _ _ h => h) (by rfl) (fun _ _ => by rfl) (HC.out) ?_
            simp only [Act.put, List.setIfInBounds_toArray, List.set_cons_zero, List.set_cons_succ]
            refine wpAnyHCall 13 (some 73) 20 #[.int .i64 (x - y), .int .i64 M] (by kernel_rfl) rfl rfl (by rfl) (by go_simp) (common_any (x - y) M (by omega) (by omega) (by omega) (by omega) _) ?_
            rintro e w5 ⟨rfl, rfl⟩
            refine ⟨_, rfl, HC.out, ?_⟩
            simp only [Act.put, List.setIfInBounds_toArray, List.set_cons_zero, List.set_cons_succ]
            refine wpAnyHTake 14 (some 74) (.bool (comF (x - y) M)) rfl rfl (by kernel_rfl) (by kernel_rfl) (by kernel_rfl) (fun _ _ _ h => h) (by rfl) (fun _ _ => by go_simp) (HC.out) ?_
            simp only [Act.put, List.setIfInBounds_toArray, List.set_cons_zero, List.set_cons_succ]
            refine wpAnyHTake 15 (some 16) (.bool (comF (x - y) M)) rfl rfl (by kernel_rfl) (by kernel_rfl) (by kernel_rfl) (fun _ _ _ h => h) (by rfl) (fun _ _ => by rfl) (HC.out) ?_
            simp only [Act.put, List.setIfInBounds_toArray, List.set_cons_zero, List.set_cons_succ]
            refine wpAnyH_done (by kernel_rfl) ?_ _
            rename_i K hK
            refine hK _ _ ?_
            clear hK
            go_wp2_with fail
            go_roundw
            case rel => exact ⟨k + 1, by omega, by go_num, by rw [HSU.out, HA.out, HBk.out, hf, hc]; simp, _, rfl⟩
            case measure => simp [intOf]; omega
          · go_wp2_with fail
            all_goals first | (go_quiet (fail); go_wp2_with fail) | skip
            go_roundw
            case rel => exact ⟨k + 1, by omega, by go_num, by rw [HSU.out, HA.out, hf, hc]; simp, _, rfl⟩
            case measure => simp [intOf]; omega
        · go_wp2_with fail
          all_goals first | (go_quiet (fail); go_wp2_with fail) | skip
          go_roundw
          case rel => exact ⟨k + 1, by omega, by go_num, by rw [HSU.out, hf]; simp, _, rfl⟩
          case measure => simp [intOf]; omega
      · have q2 : ¬ (k : Int) + 1 < (ws.length : Int) := by omega
        have HBk := Lib.hid (anyC_no (ws := ws) (m := M) (k := k) (by omega))
        cases hf : anyC M (spN ws k)
        · go_wp2_with fail
          refine CX.mono ?_
          rintro e w4 ⟨rfl, rfl⟩
          cases hc : comF x M
          · go_wp2_with fail
            go_roundw
            case rel => exact ⟨k + 1, by omega, by go_num, by rw [HSU.out, HA.out, HBk.out, hf, hc]; simp, _, rfl⟩
            case measure => simp [intOf]; omega
          · go_wp2_with fail
            go_roundw
            case rel => exact ⟨k + 1, by omega, by go_num, by rw [HSU.out, HA.out, HBk.out, hf, hc]; simp, _, rfl⟩
            case measure => simp [intOf]; omega
        · go_wp2_with fail
          go_roundw
          case rel => exact ⟨k + 1, by omega, by go_num, by rw [HSU.out, hf]; simp, _, rfl⟩
          case measure => simp [intOf]; omega
    · have q1 : ¬ (k : Int) < (ws.length : Int) := by omega
      obtain rfl : k = ws.length := by omega
      have hsa : anyC M (spN ws ws.length) = s0 := by rw [HS0.out, HCW.out]; rfl
      rw [hsa]
      have hbn := Below.dn (Below.refl w3.heap.size w3) nq
      have HX4 := Lib.hid (show Boxs (w3.drewN nq) bf 35 #[.int .i64 f0, .int .i64 f1, .int .i64 f2, .int .i64 f3] from HX3.out)
      have HU4 := Lib.hid (HU3.out.below hbn)
      have HB4 := Lib.hid (HB3.out.trans (hbn.mono HB3.out.size))
      have HS4 := Lib.hid (show (w3.drewN nq).heap.size = bf + 1 from HS3.out)
      clear hsa hbn HX3 HU3 FU3 HB3 HS3 hs12
      generalize w3.drewN nq = w4 at *
      by_cases hw0 : ws.length = 0
      · have q0 : ((ws.length : Int) == 0) = true := by simp [hw0]
        have HQ0 := Lib.hid q0
        go_wp2_with fail
        refine (LV.out _).mono ?_
        rintro e w8 ⟨rfl, hb8⟩
        go_wp2_with fail
        go_ret
        exact ⟨rfl, HB4.out.trans (hb8.mono HB4.out.size)⟩
      · have q0 : ((ws.length : Int) == 0) = false := beq_eq_false_iff_ne.2 (by omega)
        have hs4 := HS4.out
        rw [← hs4] at *
        go_wp2_with fail
        go_loopw [18, 19] (fun v i wr => ∃ k : Nat, k ≤ ws.length ∧ i = .int .i64 k ∧ wr.ownsRow w4.heap.size 3 1 v k (ints (lsF fA k)) ∧ Below w4.heap.size w4 wr) (fun _ i _ => ws.length - (intOf i).toNat)
        case atStart => exact ⟨0, Nat.zero_le _, rfl, World.ownsRow_nil _ _ _ _, Below.refl _ _⟩
        case round =>
          obtain ⟨k, hk, rfl, hown, hbl⟩ := hrel
          have HO := Lib.hid hown; have HB := Lib.hid hbl
          have hbs := hbl.size
          by_cases hlt : k < ws.length
          · have q1 : (k : Int) < (ws.length : Int) := by omega
            have TA := HATA.out k wr (by omega) (HB4.out.trans (hbl.mono HB4.out.size))
            clear hown hbl
            go_wp2_with fail
            refine TA.mono ?_
            rintro e w5 ⟨rfl, hb5⟩
            have HO5 := Lib.hid (owns_below HO.out hb5)
            have HB5 := Lib.hid (HB.out.trans (hb5.mono hbs))
            have hbs5 := HB5.out.size
            clear TA hb5
            go_wp2_with (at_builtin; refine wpList_append_lies _ rfl _ _ _ rfl w4.heap.size 3 i0 _ 1 8 Try.underlying22 HI0.out HZ0.out HZ1.out HZ2.out rfl (by omega) u18 k _ rfl (HO5.out.alloc _) ⟨w5.heap.size, 0, none⟩ 1 1 [.int .i64 (fA k)] rfl rfl (cell_one_new _ _ _) (by simp [Value.oneCell']) (by omega) (by unfold maxLen; omega) (by omega) (by simp; omega) (w5.heap.size + 1) (by simp) ?_; intro ga capa w6 hown1 hgrow hat hltg3)
            have HB6 := Lib.hid ((HB5.out.alloc hbs5 _).grown hgrow (by simp; omega) (fun j e => (HO5.out.lt j e).1))
            have HO6 := Lib.hid (show w6.ownsRow w4.heap.size 3 1 _ (k + 1) (ints (lsF fA (k + 1))) by rw [lsF_succ, show ints (lsF fA k ++ [fA k]) = ints (lsF fA k) ++ [.int .i64 (fA k)] by simp [ints]]; exact hown1)
            clear hown1 hgrow hat
            go_roundw
            case rel => exact ⟨k + 1, by omega, by go_num, HO6.out, HB6.out⟩
            case measure => simp [intOf]; omega
          · have q1 : ¬ (k : Int) < (ws.length : Int) := by omega
            obtain rfl : k = ws.length := by omega
            obtain ⟨ga, ca, rfl⟩ := own_open HO.out (by omega)
            have hAl : (lsF fA ws.length).length = ws.length := lsF_len _ _
            have hAb : ∀ x, x ∈ lsF fA ws.length → 0 ≤ x ∧ x < M := fun x hx => by obtain ⟨j, _, rfl⟩ := lsF_mem hx; exact HbA.out j
            have HAL := Lib.hid hAl; have HAB := Lib.hid hAb
            clear hAl hAb hown hbl
            generalize lsF fA ws.length = A at *
            generalize hN : ws.length = N at *
            have HN := Lib.hid hN
            clear hN
            have hil : (ints A).length = N := by unfold ints; rw [List.length_map]; exact HAL.out
            have HIL := Lib.hid hil
            clear hil
            go_upto_region 20 with (at_builtin; refine wpList_append_lies _ rfl _ _ _ rfl w4.heap.size 3 i0 _ 1 8 Try.underlying22 HI0.out HZ0.out HZ1.out HZ2.out rfl (by omega) (.slice (some ⟨wr.heap.size, 0, none⟩) 0 0) 0 [] rfl (World.ownsRow_made wr #[] 0 hbs (Nat.zero_le _) (by simp)) ⟨ga, 0, none⟩ N ca (ints A) rfl (by rw [HIL.out]; omega) (fun j u hu => World.ownsRow.cells (HO.out.alloc (.cells #[] 3)) (g := ga) rfl j u hu) (ints_one A) (by omega) (by unfold maxLen; omega) (by omega) (by simp; omega) (wr.heap.size + 1) (by simp) ?_; intro gb cb w6 hown1 hgrow hat hltg3)
            have hga := (HO.out.lt ga rfl)
            rw [Nat.zero_add, List.nil_append] at hown1
            have hgb : gb = wr.heap.size ∨ gb = wr.heap.size + 1 := by
              rcases hat with e | e
              · left; simpa [Value.ownBlock] using e.symm
              · exact .inr e
            have HB6 := Lib.hid ((HB.out.alloc hbs (.cells #[] 3)).grown hgrow (by simp; omega) (fun j e => by simp [Value.ownBlock] at e; omega))
            have HFS := Lib.hid (show FS w4.heap.size w6 bf f0 f1 f2 f3 ga gb ca cb N A A from ⟨owns_grown (HO.out.alloc (.cells #[] 3)) hgrow (fun g e f => by simp [Value.ownBlock] at e f; omega), hown1, by omega, (HB6.out.block bf HX4.out.lt).trans HX4.out, HX4.out.lt⟩)
            clear hown1 hgrow hat hltg3 hgb hga HO HB hbs HX4
            cases s0
            · have h0 := HS0.out
              have hnone : weakR ws M = none := by
                cases hw : weakR ws M with
                | none => rfl
                | some z => rw [hw] at h0; cases h0
              clear h0
              obtain ⟨r0, r1⟩ := around_bd at' N (by omega)
              obtain ⟨k, hk⟩ : ∃ k : Nat, around at' N = k := ⟨(around at' N).toNat, by omega⟩
              obtain ⟨u0, u1⟩ := around_bd value M (by omega)
              have AR1 := fun W => around_any at' N W ha ha' (by omega) (by omega)
              have AR2 := fun W => around_any value M W hv hv' (by omega) (by omega)
              rw [hk] at AR1 r0 r1
              have HA1 := Lib.hid AR1; have HA2 := Lib.hid AR2
              clear hk AR1 AR2
              generalize around value M = c at *
              have hkN : k < N := by omega
              obtain ⟨v, hvk⟩ := elem_at (l := A) (k := k) (by rw [HAL.out]; exact hkN)
              obtain ⟨x, hx⟩ := elem_at (l := ws) (k := k) (by rw [HN.out]; exact hkN)
              obtain ⟨hcx, hcy⟩ := HNC.out hnone k x hx
              have HCX := Lib.hid hcx; have HCY := Lib.hid hcy
              obtain ⟨rr, hrr, rr0, rr1⟩ := tmod2 value
              have HRR := Lib.hid hrr
              have hal2 : A.length = ws.length := HAL.out.trans HN.out.symm
              obtain ⟨vb0, vb1⟩ := HAB.out v (List.mem_of_getElem? hvk)
              have HVK := Lib.hid hvk; have HX := Lib.hid hx; have HAL2 := Lib.hid hal2
              clear hcx hcy hnone hrr hal2 hvk hx
              go_wp2_with fail
              refine (HA1.out _).mono ?_
              rintro e w7 ⟨rfl, rfl⟩
              go_wp2_with fail
              refine (HA2.out _).mono ?_
              rintro e w7 ⟨rfl, rfl⟩
              obtain ⟨gA, zA⟩ := HFS.out.cellB HVK.out
              go_upto_region 30 with fail
              have F1 := HFS.out.setB (k) (c)
              have B1 := (HFS.out.belowSet (Nat.le_refl _) HB6.out (k) (.int .i64 (c))).2
              clear HFS HB6 gA zA
              have HFS := Lib.hid F1
              have HB6 := Lib.hid B1
              clear F1 B1
              generalize World.setCell _ ⟨gb, k, none⟩ (.int .i64 (c)) = w7 at *
              have q3 : IntKind.i64.wrap ((k : Int) + 1) = (k : Int) + 1 := by rw [IntKind.wrap_i64]; omega
              have q4 : IntKind.i64.wrap rr = rr := by rw [IntKind.wrap_i64]; omega
              have hrr := HRR.out
              by_cases hr0 : rr = 0
              · have z0 : (rr == 0) = true := by simp [hr0]
                by_cases hn1 : k + 1 < N
                · have z1 : (k : Int) + 1 < (N : Int) := by omega
                  obtain ⟨u, huk⟩ := elem_at (l := A) (k := k + 1) (by rw [HAL.out]; exact hn1)
                  obtain ⟨y, hy⟩ := elem_at (l := ws) (k := k + 1) (by rw [HN.out]; exact hn1)
                  obtain ⟨ub0, ub1⟩ := HAB.out u (List.mem_of_getElem? huk)
                  have HUK := Lib.hid huk; have HY := Lib.hid hy
                  clear huk hy hr0
                  go_upto_region 31 with fail
                  clear hrr z0
                  obtain ⟨gA, zA⟩ := HFS.out.cellA HUK.out
                  obtain ⟨gB, zB⟩ := HFS.out.cellB (k := k) (x := c) (by rw [List.getElem?_set_self (by rw [HAL.out]; exact hkN)])
                  go_upto_region 32 with fail
                  have F1 := HFS.out.setB (k) (u)
                  have B1 := (HFS.out.belowSet (Nat.le_refl _) HB6.out (k) (.int .i64 (u))).2
                  clear HFS HB6 gA zA gB zB
                  have HFS := Lib.hid F1
                  have HB6 := Lib.hid B1
                  clear F1 B1
                  generalize World.setCell _ ⟨gb, k, none⟩ (.int .i64 (u)) = w8 at *
                  obtain ⟨gA, zA⟩ := HFS.out.cellA HVK.out
                  obtain ⟨gB, zB⟩ := HFS.out.cellB (k := k + 1) (x := u) (by rw [List.getElem?_set_ne (by omega), List.getElem?_set_ne (by omega)]; exact HUK.out)
                  go_upto_region 33 with fail
                  have F1 := HFS.out.setB (k + 1) (v)
                  have B1 := (HFS.out.belowSet (Nat.le_refl _) HB6.out (k + 1) (.int .i64 (v))).2
                  clear HFS HB6 gA zA gB zB
                  have HFS := Lib.hid F1
                  have HB6 := Lib.hid B1
                  clear F1 B1
                  generalize World.setCell _ ⟨gb, k + 1, none⟩ (.int .i64 (v)) = w9 at *
                  have HFS2 := HFS.out
                  rw [List.set_set] at HFS2
                  clear HFS
                  have HFS := Lib.hid HFS2
                  clear HFS2
                  have hfin := exch_same HX.out HY.out HVK.out HUK.out (HCY.out y HY.out) vb0 vb1 ub0 ub1
                  have hlA := HAL2.out
                  have hlB : ((A.set k u).set (k + 1) v).length = ws.length := by rw [List.length_set, List.length_set]; exact HAL2.out
                  have hbA := HAB.out
                  have hbB := set_bd (set_bd HAB.out k (c := u) ub0 ub1) (k + 1) (c := v) vb0 vb1
                  generalize (A.set k u).set (k + 1) v = B1 at *
                  have R1 := Lib.hid (HU4.out.below HB6.out)
                  have Ra := Lib.hid (Rd_of_owns HFS.out.a)
                  have Rb := Lib.hid (Rd_of_owns HFS.out.b)
                  obtain ⟨xa, ea⟩ := sum_good (ws := ws) (vs := A) (m := M) HE.out hlA hbA
                  obtain ⟨xb, eb⟩ := sum_good (ws := ws) (vs := B1) (m := M) HE.out hlB hbB
                  clear hlA hbA hlB hbB
                  have S1 := sum_any _ _ ws A M w9 R1.out Ra.out
                  rw [xa, ea] at S1
                  have S2 := fun (W : World) (h : Below w9.heap.size w9 W) => sum_any _ _ ws B1 M W (R1.out.below h) (RdI.below Rb.out h)
                  rw [xb, eb] at S2
                  have S3 := Lib.hid (fun (W : World) (h : Below w9.heap.size w9 W) => sameInts_any _ _ A B1 W (RdI.below Ra.out h) (RdI.below Rb.out h))
                  have HS2 := Lib.hid S2
                  have HB7 := Lib.hid (HB4.out.trans (HB6.out.mono HB4.out.size))
                  clear S2 xa ea xb eb R1 Ra Rb HFS
                  generalize dotF ws A % M = X at *
                  generalize dotF ws B1 % M = Y at *
                  go_wp2_with fail
                  refine S1.mono ?_
                  rintro e w2 ⟨rfl, hb2⟩
                  have T2 := HS2.out w2 hb2
                  have HC2 := Lib.hid hb2
                  clear hb2 S1
                  go_wp2_with fail
                  refine T2.mono ?_
                  rintro e w3 ⟨rfl, hb3⟩
                  have HC3 := Lib.hid (HC2.out.trans (hb3.mono HC2.out.size))
                  have T3 := S3.out w3 HC3.out
                  clear hb3 T2
                  go_wp2_with fail
                  refine T3.mono ?_
                  rintro e w5 ⟨rfl, hb5⟩
                  have HC5 := Lib.hid (HC3.out.trans (hb5.mono HC3.out.size))
                  have HC6 := Lib.hid (HB7.out.trans (HC5.out.mono HB7.out.size))
                  clear hb5 T3
                  generalize decide (A = B1) = sb at *
                  cases sb
                  · go_wp2_with fail
                    refine (LV.out _).mono ?_
                    rintro e w8 ⟨rfl, hb8⟩
                    go_wp2_with fail
                    go_ret
                    exact ⟨rfl, HC6.out.trans (hb8.mono HC6.out.size)⟩
                  · go_wp2_with fail
                    refine (LV.out _).mono ?_
                    rintro e w8 ⟨rfl, hb8⟩
                    go_wp2_with fail
                    go_ret
                    exact ⟨rfl, HC6.out.trans (hb8.mono HC6.out.size)⟩
                · have z1 : ¬ (k : Int) + 1 < (N : Int) := by omega
                  clear hr0
                  go_upto_region 33 with fail
                  clear hrr z0
                  have hfin := sub_same HX.out HVK.out HCX.out vb0 vb1 u0 u1
                  have hlA := HAL2.out
                  have hlB : (A.set k c).length = ws.length := by rw [List.length_set]; exact HAL2.out
                  have hbA := HAB.out
                  have hbB := set_bd HAB.out k u0 u1
                  generalize A.set k c = B1 at *
                  have R1 := Lib.hid (HU4.out.below HB6.out)
                  have Ra := Lib.hid (Rd_of_owns HFS.out.a)
                  have Rb := Lib.hid (Rd_of_owns HFS.out.b)
                  obtain ⟨xa, ea⟩ := sum_good (ws := ws) (vs := A) (m := M) HE.out hlA hbA
                  obtain ⟨xb, eb⟩ := sum_good (ws := ws) (vs := B1) (m := M) HE.out hlB hbB
                  clear hlA hbA hlB hbB
                  have S1 := sum_any _ _ ws A M w7 R1.out Ra.out
                  rw [xa, ea] at S1
                  have S2 := fun (W : World) (h : Below w7.heap.size w7 W) => sum_any _ _ ws B1 M W (R1.out.below h) (RdI.below Rb.out h)
                  rw [xb, eb] at S2
                  have S3 := Lib.hid (fun (W : World) (h : Below w7.heap.size w7 W) => sameInts_any _ _ A B1 W (RdI.below Ra.out h) (RdI.below Rb.out h))
                  have HS2 := Lib.hid S2
                  have HB7 := Lib.hid (HB4.out.trans (HB6.out.mono HB4.out.size))
                  clear S2 xa ea xb eb R1 Ra Rb HFS
                  generalize dotF ws A % M = X at *
                  generalize dotF ws B1 % M = Y at *
                  go_wp2_with fail
                  refine S1.mono ?_
                  rintro e w2 ⟨rfl, hb2⟩
                  have T2 := HS2.out w2 hb2
                  have HC2 := Lib.hid hb2
                  clear hb2 S1
                  go_wp2_with fail
                  refine T2.mono ?_
                  rintro e w3 ⟨rfl, hb3⟩
                  have HC3 := Lib.hid (HC2.out.trans (hb3.mono HC2.out.size))
                  have T3 := S3.out w3 HC3.out
                  clear hb3 T2
                  go_wp2_with fail
                  refine T3.mono ?_
                  rintro e w5 ⟨rfl, hb5⟩
                  have HC5 := Lib.hid (HC3.out.trans (hb5.mono HC3.out.size))
                  have HC6 := Lib.hid (HB7.out.trans (HC5.out.mono HB7.out.size))
                  clear hb5 T3
                  generalize decide (A = B1) = sb at *
                  cases sb
                  · go_wp2_with fail
                    refine (LV.out _).mono ?_
                    rintro e w8 ⟨rfl, hb8⟩
                    go_wp2_with fail
                    go_ret
                    exact ⟨rfl, HC6.out.trans (hb8.mono HC6.out.size)⟩
                  · go_wp2_with fail
                    refine (LV.out _).mono ?_
                    rintro e w8 ⟨rfl, hb8⟩
                    go_wp2_with fail
                    go_ret
                    exact ⟨rfl, HC6.out.trans (hb8.mono HC6.out.size)⟩
              · have z0 : (rr == 0) = false := beq_eq_false_iff_ne.2 hr0
                clear hr0
                go_upto_region 33 with fail
                clear hrr z0
                have hfin := sub_same HX.out HVK.out HCX.out vb0 vb1 u0 u1
                have hlA := HAL2.out
                have hlB : (A.set k c).length = ws.length := by rw [List.length_set]; exact HAL2.out
                have hbA := HAB.out
                have hbB := set_bd HAB.out k u0 u1
                generalize A.set k c = B1 at *
                have R1 := Lib.hid (HU4.out.below HB6.out)
                have Ra := Lib.hid (Rd_of_owns HFS.out.a)
                have Rb := Lib.hid (Rd_of_owns HFS.out.b)
                obtain ⟨xa, ea⟩ := sum_good (ws := ws) (vs := A) (m := M) HE.out hlA hbA
                obtain ⟨xb, eb⟩ := sum_good (ws := ws) (vs := B1) (m := M) HE.out hlB hbB
                clear hlA hbA hlB hbB
                have S1 := sum_any _ _ ws A M w7 R1.out Ra.out
                rw [xa, ea] at S1
                have S2 := fun (W : World) (h : Below w7.heap.size w7 W) => sum_any _ _ ws B1 M W (R1.out.below h) (RdI.below Rb.out h)
                rw [xb, eb] at S2
                have S3 := Lib.hid (fun (W : World) (h : Below w7.heap.size w7 W) => sameInts_any _ _ A B1 W (RdI.below Ra.out h) (RdI.below Rb.out h))
                have HS2 := Lib.hid S2
                have HB7 := Lib.hid (HB4.out.trans (HB6.out.mono HB4.out.size))
                clear S2 xa ea xb eb R1 Ra Rb HFS
                generalize dotF ws A % M = X at *
                generalize dotF ws B1 % M = Y at *
                go_wp2_with fail
                refine S1.mono ?_
                rintro e w2 ⟨rfl, hb2⟩
                have T2 := HS2.out w2 hb2
                have HC2 := Lib.hid hb2
                clear hb2 S1
                go_wp2_with fail
                refine T2.mono ?_
                rintro e w3 ⟨rfl, hb3⟩
                have HC3 := Lib.hid (HC2.out.trans (hb3.mono HC2.out.size))
                have T3 := S3.out w3 HC3.out
                clear hb3 T2
                go_wp2_with fail
                refine T3.mono ?_
                rintro e w5 ⟨rfl, hb5⟩
                have HC5 := Lib.hid (HC3.out.trans (hb5.mono HC3.out.size))
                have HC6 := Lib.hid (HB7.out.trans (HC5.out.mono HB7.out.size))
                clear hb5 T3
                generalize decide (A = B1) = sb at *
                cases sb
                · go_wp2_with fail
                  refine (LV.out _).mono ?_
                  rintro e w8 ⟨rfl, hb8⟩
                  go_wp2_with fail
                  go_ret
                  exact ⟨rfl, HC6.out.trans (hb8.mono HC6.out.size)⟩
                · go_wp2_with fail
                  refine (LV.out _).mono ?_
                  rintro e w8 ⟨rfl, hb8⟩
                  go_wp2_with fail
                  go_ret
                  exact ⟨rfl, HC6.out.trans (hb8.mono HC6.out.size)⟩
            · obtain ⟨⟨a, o, d⟩, hsl⟩ : ∃ x, weakR ws M = some x := Option.isSome_iff_exists.1 HS0.out.symm
              have hfe := HFL.out
              rw [hsl] at hfe
              simp only [flV, Value.agg.injEq, Array.mk.injEq, List.cons.injEq, Value.int.injEq, true_and, and_true] at hfe
              obtain ⟨rfl, rfl, rfl, rfl⟩ := hfe
              obtain ⟨d1, d2, x, hx, hcs⟩ := HSL.out a o d hsl
              have hal : a < N := by have := (List.getElem?_eq_some_iff.1 hx).1; rw [HN.out] at this; exact this
              clear hsl
              have dz : ((0 : Int) == (d : Int)) = false := beq_eq_false_iff_ne.2 (by omega)
              have z1 : (a : Int) < (N : Int) := by omega
              obtain ⟨va, hva⟩ := elem_at (l := A) (k := a) (by rw [HAL.out]; exact hal)
              obtain ⟨gA, zA⟩ := HFS.out.cellA hva
              have HX := Lib.hid hx
              have HDZ := Lib.hid dz
              clear hx
              rcases hcs with ⟨rfl, hmod⟩ | ⟨y, rfl, hy, hmod⟩
              · obtain ⟨e0, e1, e2, e3⟩ := HFS.out.cells
                have z2 : (-1 : Int) < (N : Int) := by omega
                go_upto_region 23 with fail
                clear dz
                go_upto_region 24 with fail
                have F1 := HFS.out.setA (a) (0)
                have B1 := (HFS.out.belowSet (Nat.le_refl _) HB6.out (a) (.int .i64 (0))).1
                clear HFS HB6 gA zA e0 e1 e2 e3
                have HFS := Lib.hid F1
                have HB6 := Lib.hid B1
                clear F1 B1
                generalize World.setCell _ ⟨ga, a, none⟩ (.int .i64 (0)) = w7 at *
                obtain ⟨gA, zA⟩ := HFS.out.cellB hva
                obtain ⟨e0, e1, e2, e3⟩ := HFS.out.cells
                go_upto_region 25 with fail
                have F1 := HFS.out.setB (a) (d)
                have B1 := (HFS.out.belowSet (Nat.le_refl _) HB6.out (a) (.int .i64 (d))).2
                clear HFS HB6 gA zA e0 e1 e2 e3
                have HFS := Lib.hid F1
                have HB6 := Lib.hid B1
                clear F1 B1
                generalize World.setCell _ ⟨gb, a, none⟩ (.int .i64 (d)) = w8 at *
                obtain ⟨e0, e1, e2, e3⟩ := HFS.out.cells
                go_upto_region 33 with fail
                clear e0 e1 e2 e3
                have hal2 : A.length = ws.length := HAL.out.trans HN.out.symm
                have hfin := slip_one hal2 HX.out hmod
                have hlA : (A.set a 0).length = ws.length := by rw [List.length_set]; exact hal2
                have hlB : (A.set a d).length = ws.length := by rw [List.length_set]; exact hal2
                have hbA := set_bd HAB.out a (c := 0) (by omega) (by omega)
                have hbB := set_bd HAB.out a (c := (d : Int)) (by omega) (by omega)
                clear hal2 hmod hva
                generalize A.set a 0 = A1 at *
                generalize A.set a (d : Int) = B1 at *
                have R1 := Lib.hid (HU4.out.below HB6.out)
                have Ra := Lib.hid (Rd_of_owns HFS.out.a)
                have Rb := Lib.hid (Rd_of_owns HFS.out.b)
                obtain ⟨xa, ea⟩ := sum_good (ws := ws) (vs := A1) (m := M) HE.out hlA hbA
                obtain ⟨xb, eb⟩ := sum_good (ws := ws) (vs := B1) (m := M) HE.out hlB hbB
                clear hlA hbA hlB hbB
                have S1 := sum_any _ _ ws A1 M w8 R1.out Ra.out
                rw [xa, ea] at S1
                have S2 := fun (W : World) (h : Below w8.heap.size w8 W) => sum_any _ _ ws B1 M W (R1.out.below h) (RdI.below Rb.out h)
                rw [xb, eb] at S2
                have S3 := Lib.hid (fun (W : World) (h : Below w8.heap.size w8 W) => sameInts_any _ _ A1 B1 W (RdI.below Ra.out h) (RdI.below Rb.out h))
                have HS2 := Lib.hid S2
                have HB7 := Lib.hid (HB4.out.trans (HB6.out.mono HB4.out.size))
                clear S2 xa ea xb eb R1 Ra Rb HFS
                generalize dotF ws A1 % M = X at *
                generalize dotF ws B1 % M = Y at *
                go_wp2_with fail
                refine S1.mono ?_
                rintro e w2 ⟨rfl, hb2⟩
                have T2 := HS2.out w2 hb2
                have HC2 := Lib.hid hb2
                clear hb2 S1
                go_wp2_with fail
                refine T2.mono ?_
                rintro e w3 ⟨rfl, hb3⟩
                have HC3 := Lib.hid (HC2.out.trans (hb3.mono HC2.out.size))
                have T3 := S3.out w3 HC3.out
                clear hb3 T2
                go_wp2_with fail
                refine T3.mono ?_
                rintro e w5 ⟨rfl, hb5⟩
                have HC5 := Lib.hid (HC3.out.trans (hb5.mono HC3.out.size))
                have HC6 := Lib.hid (HB7.out.trans (HC5.out.mono HB7.out.size))
                clear hb5 T3
                have hxy : (X == Y) = true := by rw [hfin]; simp
                clear hfin
                go_wp2_with fail
                refine (LV.out _).mono ?_
                rintro e w8 ⟨rfl, hb8⟩
                go_wp2_with fail
                go_ret
                exact ⟨rfl, HC6.out.trans (hb8.mono HC6.out.size)⟩
              · obtain ⟨e0, e1, e2, e3⟩ := HFS.out.cells
                have hal3 : a + 1 < N := by have := (List.getElem?_eq_some_iff.1 hy).1; rw [HN.out] at this; exact this
                have z2 : (a : Int) + 1 < (N : Int) := by omega
                have HY := Lib.hid hy
                clear hy
                obtain ⟨ub, hub⟩ := elem_at (l := A) (k := a + 1) (by rw [HAL.out]; exact hal3)
                go_upto_region 23 with fail
                clear dz
                go_upto_region 24 with fail
                have F1 := HFS.out.setA (a) (0)
                have B1 := (HFS.out.belowSet (Nat.le_refl _) HB6.out (a) (.int .i64 (0))).1
                clear HFS HB6 gA zA e0 e1 e2 e3
                have HFS := Lib.hid F1
                have HB6 := Lib.hid B1
                clear F1 B1
                generalize World.setCell _ ⟨ga, a, none⟩ (.int .i64 (0)) = w7 at *
                obtain ⟨gA, zA⟩ := HFS.out.cellB hva
                obtain ⟨e0, e1, e2, e3⟩ := HFS.out.cells
                go_upto_region 25 with fail
                have F1 := HFS.out.setB (a) (d)
                have B1 := (HFS.out.belowSet (Nat.le_refl _) HB6.out (a) (.int .i64 (d))).2
                clear HFS HB6 gA zA e0 e1 e2 e3
                have HFS := Lib.hid F1
                have HB6 := Lib.hid B1
                clear F1 B1
                generalize World.setCell _ ⟨gb, a, none⟩ (.int .i64 (d)) = w8 at *
                obtain ⟨e0, e1, e2, e3⟩ := HFS.out.cells
                go_upto_region 26 with fail
                obtain ⟨gA, zA⟩ := HFS.out.cellA (k := a + 1) (x := ub) (by rw [List.getElem?_set_ne (by omega)]; exact hub)
                go_upto_region 27 with fail
                have F1 := HFS.out.setA (a + 1) (d)
                have B1 := (HFS.out.belowSet (Nat.le_refl _) HB6.out (a + 1) (.int .i64 (d))).1
                clear HFS HB6 gA zA e0 e1 e2 e3
                have HFS := Lib.hid F1
                have HB6 := Lib.hid B1
                clear F1 B1
                generalize World.setCell _ ⟨ga, a + 1, none⟩ (.int .i64 (d)) = w9 at *
                obtain ⟨e0, e1, e2, e3⟩ := HFS.out.cells
                obtain ⟨gA, zA⟩ := HFS.out.cellB (k := a + 1) (x := ub) (by rw [List.getElem?_set_ne (by omega)]; exact hub)
                go_upto_region 33 with fail
                have F1 := HFS.out.setB (a + 1) (0)
                have B1 := (HFS.out.belowSet (Nat.le_refl _) HB6.out (a + 1) (.int .i64 (0))).2
                clear HFS HB6 gA zA e0 e1 e2 e3
                have HFS := Lib.hid F1
                have HB6 := Lib.hid B1
                clear F1 B1
                generalize World.setCell _ ⟨gb, a + 1, none⟩ (.int .i64 (0)) = w10 at *
                have hal2 : A.length = ws.length := HAL.out.trans HN.out.symm
                have hfin := slip_two hal2 HX.out HY.out hmod
                have hlA : ((A.set a 0).set (a + 1) d).length = ws.length := by rw [List.length_set, List.length_set]; exact hal2
                have hlB : ((A.set a d).set (a + 1) 0).length = ws.length := by rw [List.length_set, List.length_set]; exact hal2
                have hbA := set_bd (set_bd HAB.out a (c := 0) (by omega) (by omega)) (a + 1) (c := (d : Int)) (by omega) (by omega)
                have hbB := set_bd (set_bd HAB.out a (c := (d : Int)) (by omega) (by omega)) (a + 1) (c := 0) (by omega) (by omega)
                clear hal2 hmod hva hub
                generalize (A.set a 0).set (a + 1) (d : Int) = A1 at *
                generalize (A.set a (d : Int)).set (a + 1) 0 = B1 at *
                have R1 := Lib.hid (HU4.out.below HB6.out)
                have Ra := Lib.hid (Rd_of_owns HFS.out.a)
                have Rb := Lib.hid (Rd_of_owns HFS.out.b)
                obtain ⟨xa, ea⟩ := sum_good (ws := ws) (vs := A1) (m := M) HE.out hlA hbA
                obtain ⟨xb, eb⟩ := sum_good (ws := ws) (vs := B1) (m := M) HE.out hlB hbB
                clear hlA hbA hlB hbB
                have S1 := sum_any _ _ ws A1 M w10 R1.out Ra.out
                rw [xa, ea] at S1
                have S2 := fun (W : World) (h : Below w10.heap.size w10 W) => sum_any _ _ ws B1 M W (R1.out.below h) (RdI.below Rb.out h)
                rw [xb, eb] at S2
                have S3 := Lib.hid (fun (W : World) (h : Below w10.heap.size w10 W) => sameInts_any _ _ A1 B1 W (RdI.below Ra.out h) (RdI.below Rb.out h))
                have HS2 := Lib.hid S2
                have HB7 := Lib.hid (HB4.out.trans (HB6.out.mono HB4.out.size))
                clear S2 xa ea xb eb R1 Ra Rb HFS
                generalize dotF ws A1 % M = X at *
                generalize dotF ws B1 % M = Y at *
                go_wp2_with fail
                refine S1.mono ?_
                rintro e w2 ⟨rfl, hb2⟩
                have T2 := HS2.out w2 hb2
                have HC2 := Lib.hid hb2
                clear hb2 S1
                go_wp2_with fail
                refine T2.mono ?_
                rintro e w3 ⟨rfl, hb3⟩
                have HC3 := Lib.hid (HC2.out.trans (hb3.mono HC2.out.size))
                have T3 := S3.out w3 HC3.out
                clear hb3 T2
                go_wp2_with fail
                refine T3.mono ?_
                rintro e w5 ⟨rfl, hb5⟩
                have HC5 := Lib.hid (HC3.out.trans (hb5.mono HC3.out.size))
                have HC6 := Lib.hid (HB7.out.trans (HC5.out.mono HB7.out.size))
                clear hb5 T3
                have hxy : (X == Y) = true := by rw [hfin]; simp
                clear hfin
                go_wp2_with fail
                refine (LV.out _).mono ?_
                rintro e w8 ⟨rfl, hb8⟩
                go_wp2_with fail
                go_ret
                exact ⟨rfl, HC6.out.trans (hb8.mono HC6.out.size)⟩
end Go.Proofs.Ytidojiegkdchpaa
