/- Made. Odd. Torn. -/
import Derived.Test.YtecdkpcapalifaaDoorM01
import Derived.BigQuiet
set_option linter.unusedVariables false
namespace Go.Proofs.YtecdkpcapalifaaDoor
open Go.RowKit Go.Maps

/-- the condition of a drawn region may be made stronger on the way -/
theorem wpAnyH_strong {P : Program} {md : Region.Mode} {ops : Array Oper} {Q : Exit → Act → World → Prop} {S : World → Prop} (S' : World → Prop) (h : ∀ w, S' w → S w) :
    ∀ (fuel : Nat) (listed : Array Bool) (a : Act) (w : World), wpAnyH P md ops Q S' fuel listed a w → wpAnyH P md ops Q S fuel listed a w
  | 0, _, _, _, H => H
  | fuel + 1, _, _, _, H => ⟨H.1, fun i hi => wpOp_mono (fun a' w' h' => ⟨h _ h'.1, wpAnyH_strong S' h fuel _ a' w' h'.2⟩) (H.2 i hi)⟩
theorem tbl_in {W : World} {B : Nat} {t : TypeId} {L : List Int} {cs : Array Value} (h : Boxs W B t cs) (hcs : cs = (ints L).toArray) (i : Nat) (h1 : i < L.length) :
    ∃ y, W.cell? ⟨B, i, none⟩ = some (.int .i64 y) ∧ y ∈ L := by
  subst hcs
  refine ⟨L[i], ?_, List.getElem_mem h1⟩
  rw [h.cell, List.getElem?_toArray]
  unfold ints
  rw [List.getElem?_map, List.getElem?_eq_getElem h1]; rfl
theorem cell_set {W : World} {B B' : Nat} (h : B ≠ B') (o o' : Nat) (u : Value) : (W.setCell ⟨B, o, none⟩ u).cell? ⟨B', o', none⟩ = W.cell? ⟨B', o', none⟩ := by
  have e : (W.setCell ⟨B, o, none⟩ u).heap[B']? = W.heap[B']? := Below.heap_setCell _ _ _ _ (fun e => h (show B' = B from e).symm)
  unfold World.cell?
  rw [e]
theorem cell_set4 {W : World} {B B' : Nat} (h : B ≠ B') (o' : Nat) (a b c d : Value) : ((((W.setCell ⟨B, 0, none⟩ a).setCell ⟨B, 1, none⟩ b).setCell ⟨B, 2, none⟩ c).setCell ⟨B, 3, none⟩ d).cell? ⟨B', o', none⟩ = W.cell? ⟨B', o', none⟩ := by
  rw [cell_set h, cell_set h, cell_set h, cell_set h]

def styV (s : Sty) : Value := .agg #[.int .i64 s.k, .bool s.nx, .int .i64 s.row, .int .i64 s.pas]
def MadeS (s : Sty) : Prop := okSty s ∧ s.row ∈ [0, 2, 3, 4, 7] ∧ s.pas ∈ [0, 2, 3, 4, 5]

set_option maxRecDepth 100000 in
set_option maxHeartbeats 4000000 in
theorem made_any (n : Int) (w : World) (h1 : -9223372036854775808 ≤ n) (h2 : n ≤ 9223372036854775807) :
    Calls Tryd.prog 11 #[.int .i64 n] w fun e w' => ∃ s, MadeS s ∧ e = .returned (styV s) ∧ Below w.heap.size w w' := by
  obtain ⟨m, hm, hm9⟩ : ∃ m : Nat, around n 252 = m ∧ m < 252 := ⟨(around n 252).toNat, by have := around_bd n 252 (by omega); omega, by have := around_bd n 252 (by omega); omega⟩
  have AR := fun W => around_any n 252 W h1 h2 (by omega) (by omega)
  rw [hm] at AR
  clear hm
  go_enter Tryd.func11, Tryd.ntmps11
  go_wp2_with fail
  refine (AR _).mono ?_
  rintro e w1 ⟨rfl, rfl⟩
  have hr3 : (m : Int).tmod 3 = ((m % 3 : Nat) : Int) := by rw [Int.tmod_eq_emod_of_nonneg (by omega)]; omega
  have hq3 : (m : Int).tdiv 3 = ((m / 3 : Nat) : Int) := by rw [Int.tdiv_eq_ediv_of_nonneg (by omega)]; omega
  have hq6 : (m : Int).tdiv 6 = ((m / 6 : Nat) : Int) := by rw [Int.tdiv_eq_ediv_of_nonneg (by omega)]; omega
  have hq36 : (m : Int).tdiv 36 = ((m / 36 : Nat) : Int) := by rw [Int.tdiv_eq_ediv_of_nonneg (by omega)]; omega
  have hr2 : ((m / 3 : Nat) : Int).tmod 2 = ((m / 3 % 2 : Nat) : Int) := by rw [Int.tmod_eq_emod_of_nonneg (by omega)]; omega
  have hr6 : ((m / 6 : Nat) : Int).tmod 6 = ((m / 6 % 6 : Nat) : Int) := by rw [Int.tmod_eq_emod_of_nonneg (by omega)]; omega
  obtain ⟨a, ha, ha3⟩ : ∃ a : Nat, m % 3 = a ∧ a < 3 := ⟨m % 3, rfl, by omega⟩
  obtain ⟨b3, hb3, hb39⟩ : ∃ b : Nat, m / 3 = b ∧ b < 84 := ⟨m / 3, rfl, by omega⟩
  obtain ⟨b6, hb6, hb69⟩ : ∃ b : Nat, m / 6 = b ∧ b < 42 := ⟨m / 6, rfl, by omega⟩
  obtain ⟨b36, hb36, hb369⟩ : ∃ b : Nat, m / 36 = b ∧ b < 7 := ⟨m / 36, rfl, by omega⟩
  obtain ⟨c6, hc6, hc69⟩ : ∃ b : Nat, b6 % 6 = b ∧ b < 6 := ⟨b6 % 6, rfl, by omega⟩
  obtain ⟨c3, hc3, hc39⟩ : ∃ b : Nat, b3 % 2 = b ∧ b < 2 := ⟨b3 % 2, rfl, by omega⟩
  rw [ha] at hr3
  rw [hb3] at hq3 hr2
  rw [hb6] at hq6 hr6
  rw [hb36] at hq36
  rw [hc6] at hr6
  rw [hc3] at hr2
  clear ha hb3 hb6 hb36 hc6 hc3
  have bR := Boxs.new w 24 #[.int .i64 0, .bool false, .int .i64 0, .int .i64 0]
  have hbel := (Below.refl w.heap.size w).alloc (Nat.le_refl _) (.cells #[.int .i64 0, .bool false, .int .i64 0, .int .i64 0] 24)
  have hsz : (w.alloc (.cells #[.int .i64 0, .bool false, .int .i64 0, .int .i64 0] 24)).heap.size = w.heap.size + 1 := by simp
  have BR := Lib.hid bR; have HB := Lib.hid hbel
  clear bR hbel
  go_wp2_with fail
  have hc6i : (c6 : Int) < 6 := by omega
  have hb36i : (b36 : Int) < 7 := by omega
  refine wp_region_held (S := fun _ => True) (by kernel_rfl) ?_
  have hdr : ((w.alloc (.cells #[.int .i64 0, .bool false, .int .i64 0, .int .i64 0] 24))).drew = { (w.alloc (.cells #[.int .i64 0, .bool false, .int .i64 0, .int .i64 0] 24)) with drawn := ((w.alloc (.cells #[.int .i64 0, .bool false, .int .i64 0, .int .i64 0] 24))).drawn + 1 } := rfl
  rw [← hdr]
  clear hdr
  refine wpAnyHTake 0 (some 6) (.int .i64 (m : Int)) rfl rfl (by kernel_rfl) (by kernel_rfl) (by kernel_rfl) (fun _ _ _ h => h) (by rfl) (fun _ _ => by rfl) (trivial) ?_
  simp only [Act.put, List.setIfInBounds_toArray, List.set_cons_zero, List.set_cons_succ]
  refine wpAnyHTake 1 (some 7) (.int .i64 (a : Int)) rfl rfl (by kernel_rfl) (by kernel_rfl) (by kernel_rfl) (fun _ _ _ h => h) (by rfl) (fun _ _ => by go_simp) (trivial) ?_
  simp only [Act.put, List.setIfInBounds_toArray, List.set_cons_zero, List.set_cons_succ]
  refine wpAnyHTake 2 (some 8) (.int .i64 (1 + (a : Int))) rfl rfl (by kernel_rfl) (by kernel_rfl) (by kernel_rfl) (fun _ _ _ h => h) (by rfl) (fun _ _ => by go_simp <;> (try simp only [IntKind.wrap_i64]) <;> omega) (trivial) ?_
  simp only [Act.put, List.setIfInBounds_toArray, List.set_cons_zero, List.set_cons_succ]
  refine wpAnyHTake 3 (some 9) (.int .i64 (m : Int)) rfl rfl (by kernel_rfl) (by kernel_rfl) (by kernel_rfl) (fun _ _ _ h => h) (by rfl) (fun _ _ => by rfl) (trivial) ?_
  simp only [Act.put, List.setIfInBounds_toArray, List.set_cons_zero, List.set_cons_succ]
  refine wpAnyHTake 4 (some 10) (.int .i64 (b3 : Int)) rfl rfl (by kernel_rfl) (by kernel_rfl) (by kernel_rfl) (fun _ _ _ h => h) (by rfl) (fun _ _ => by go_simp <;> (try simp only [IntKind.wrap_i64]) <;> omega) (trivial) ?_
  simp only [Act.put, List.setIfInBounds_toArray, List.set_cons_zero, List.set_cons_succ]
  refine wpAnyHTake 5 (some 11) (.int .i64 (c3 : Int)) rfl rfl (by kernel_rfl) (by kernel_rfl) (by kernel_rfl) (fun _ _ _ h => h) (by rfl) (fun _ _ => by go_simp) (trivial) ?_
  simp only [Act.put, List.setIfInBounds_toArray, List.set_cons_zero, List.set_cons_succ]
  refine wpAnyHTake 6 (some 12) (.bool ((c3 : Int) == 1)) rfl rfl (by kernel_rfl) (by kernel_rfl) (by kernel_rfl) (fun _ _ _ h => h) (by rfl) (fun _ _ => by go_simp) (trivial) ?_
  simp only [Act.put, List.setIfInBounds_toArray, List.set_cons_zero, List.set_cons_succ]
  refine wpAnyHTake 8 (some 14) (.int .i64 (m : Int)) rfl rfl (by kernel_rfl) (by kernel_rfl) (by kernel_rfl) (fun _ _ _ h => h) (by rfl) (fun _ _ => by rfl) (trivial) ?_
  simp only [Act.put, List.setIfInBounds_toArray, List.set_cons_zero, List.set_cons_succ]
  refine wpAnyHTake 9 (some 15) (.int .i64 (b6 : Int)) rfl rfl (by kernel_rfl) (by kernel_rfl) (by kernel_rfl) (fun _ _ _ h => h) (by rfl) (fun _ _ => by go_simp <;> (try simp only [IntKind.wrap_i64]) <;> omega) (trivial) ?_
  simp only [Act.put, List.setIfInBounds_toArray, List.set_cons_zero, List.set_cons_succ]
  refine wpAnyHTake 10 (some 16) (.int .i64 (c6 : Int)) rfl rfl (by kernel_rfl) (by kernel_rfl) (by kernel_rfl) (fun _ _ _ h => h) (by rfl) (fun _ _ => by go_simp) (trivial) ?_
  simp only [Act.put, List.setIfInBounds_toArray, List.set_cons_zero, List.set_cons_succ]
  refine wpAnyHTake 14 (some 20) (.int .i64 (m : Int)) rfl rfl (by kernel_rfl) (by kernel_rfl) (by kernel_rfl) (fun _ _ _ h => h) (by rfl) (fun _ _ => by rfl) (trivial) ?_
  simp only [Act.put, List.setIfInBounds_toArray, List.set_cons_zero, List.set_cons_succ]
  refine wpAnyHTake 15 (some 21) (.int .i64 (b36 : Int)) rfl rfl (by kernel_rfl) (by kernel_rfl) (by kernel_rfl) (fun _ _ _ h => h) (by rfl) (fun _ _ => by go_simp <;> (try simp only [IntKind.wrap_i64]) <;> omega) (trivial) ?_
  simp only [Act.put, List.setIfInBounds_toArray, List.set_cons_zero, List.set_cons_succ]
  refine wpAnyHBoth 7 13 (by kernel_rfl) ?_ ?_
  · refine wpOpRun' (w' := (((w.alloc (.cells #[.int .i64 0, .bool false, .int .i64 0, .int .i64 0] 24)).drewN 1).alloc (.cells #[.int .i64 0, .int .i64 2, .int .i64 3, .int .i64 4, .int .i64 7, .int .i64 0] 3))) (v := .slice (some ⟨w.heap.size + 1, 0, none⟩) 6 6) (some 13) rfl rfl (by rfl) (by first | rfl | (go_simp; done) | (go_simp <;> rfl)) ⟨trivial, ?_⟩
    simp only [Act.put, List.setIfInBounds_toArray, List.set_cons_zero, List.set_cons_succ]
    have hs0 : ((w.alloc (.cells #[.int .i64 0, .bool false, .int .i64 0, .int .i64 0] 24)).drewN 1).heap.size = w.heap.size + 1 := by simp
    have bx1 : Boxs (((w.alloc (.cells #[.int .i64 0, .bool false, .int .i64 0, .int .i64 0] 24)).drewN 1).alloc (.cells #[.int .i64 0, .int .i64 2, .int .i64 3, .int .i64 4, .int .i64 7, .int .i64 0] 3)) (w.heap.size + 1) 3 #[.int .i64 0, .int .i64 2, .int .i64 3, .int .i64 4, .int .i64 7, .int .i64 0] := by have h := Boxs.new ((w.alloc (.cells #[.int .i64 0, .bool false, .int .i64 0, .int .i64 0] 24)).drewN 1) 3 #[.int .i64 0, .int .i64 2, .int .i64 3, .int .i64 4, .int .i64 7, .int .i64 0]; rw [hs0] at h; exact h
    obtain ⟨y1, hy1, hin1⟩ := tbl_in bx1 (L := [0, 2, 3, 4, 7, 0]) rfl c6 hc69
    have Gy1 := Lib.hid hy1
    have hs1 : (((w.alloc (.cells #[.int .i64 0, .bool false, .int .i64 0, .int .i64 0] 24)).drewN 1).alloc (.cells #[.int .i64 0, .int .i64 2, .int .i64 3, .int .i64 4, .int .i64 7, .int .i64 0] 3)).heap.size = w.heap.size + 2 := by simp
    refine wpAnyH_strong (fun W => W.cell? ⟨(w.heap.size + 1), c6, none⟩ = some (.int .i64 y1)) (fun _ _ => trivial) _ _ _ _ ?_
    refine wpAnyHTake 11 (some 17) (.pointer (some ⟨(w.heap.size + 1), c6, none⟩)) rfl rfl (by kernel_rfl) (by kernel_rfl) (by kernel_rfl) (fun _ _ _ h => h) (by rfl) (fun _ _ => by go_simp) (Gy1.out) ?_
    simp only [Act.put, List.setIfInBounds_toArray, List.set_cons_zero, List.set_cons_succ]
    refine wpAnyHTake 12 (some 18) (.int .i64 y1) rfl rfl (by kernel_rfl) (by kernel_rfl) (by kernel_rfl) (fun _ _ _ h => h) (by rfl) (fun W hW => by go_simp) (Gy1.out) ?_
    simp only [Act.put, List.setIfInBounds_toArray, List.set_cons_zero, List.set_cons_succ]
    have bx2 : Boxs ((((w.alloc (.cells #[.int .i64 0, .bool false, .int .i64 0, .int .i64 0] 24)).drewN 1).alloc (.cells #[.int .i64 0, .int .i64 2, .int .i64 3, .int .i64 4, .int .i64 7, .int .i64 0] 3)).alloc (.cells #[.int .i64 0, .int .i64 0, .int .i64 2, .int .i64 3, .int .i64 4, .int .i64 5, .int .i64 0] 3)) (w.heap.size + 2) 3 #[.int .i64 0, .int .i64 0, .int .i64 2, .int .i64 3, .int .i64 4, .int .i64 5, .int .i64 0] := by have h := Boxs.new (((w.alloc (.cells #[.int .i64 0, .bool false, .int .i64 0, .int .i64 0] 24)).drewN 1).alloc (.cells #[.int .i64 0, .int .i64 2, .int .i64 3, .int .i64 4, .int .i64 7, .int .i64 0] 3)) 3 #[.int .i64 0, .int .i64 0, .int .i64 2, .int .i64 3, .int .i64 4, .int .i64 5, .int .i64 0]; rw [hs1] at h; exact h
    obtain ⟨y2, hy2, hin2⟩ := tbl_in bx2 (L := [0, 0, 2, 3, 4, 5, 0]) rfl b36 hb369
    have Gy2 := Lib.hid hy2
    have hB2 := Lib.hid (((bx1.below ((Below.refl _ _).alloc (Nat.le_refl _) (.cells #[.int .i64 0, .int .i64 0, .int .i64 2, .int .i64 3, .int .i64 4, .int .i64 5, .int .i64 0] 3)) bx1.lt).cell c6).trans ((bx1.cell c6).symm.trans hy1))
    refine wpAnyHOne 13 (some 19) (w' := ((((w.alloc (.cells #[.int .i64 0, .bool false, .int .i64 0, .int .i64 0] 24)).drewN 1).alloc (.cells #[.int .i64 0, .int .i64 2, .int .i64 3, .int .i64 4, .int .i64 7, .int .i64 0] 3)).alloc (.cells #[.int .i64 0, .int .i64 0, .int .i64 2, .int .i64 3, .int .i64 4, .int .i64 5, .int .i64 0] 3))) (v := .slice (some ⟨w.heap.size + 2, 0, none⟩) 7 7) (by kernel_rfl) rfl rfl (by rfl) (by first | rfl | (go_simp; done) | (go_simp <;> rfl)) (hB2.out) ?_
    simp only [Act.put, List.setIfInBounds_toArray, List.set_cons_zero, List.set_cons_succ]
    refine wpAnyH_strong (fun W => W.cell? ⟨(w.heap.size + 1), c6, none⟩ = some (.int .i64 y1) ∧ W.cell? ⟨(w.heap.size + 2), b36, none⟩ = some (.int .i64 y2)) (fun _ h => h.1) _ _ _ _ ?_
    refine wpAnyHTake 16 (some 22) (.pointer (some ⟨(w.heap.size + 2), b36, none⟩)) rfl rfl (by kernel_rfl) (by kernel_rfl) (by kernel_rfl) (fun _ _ _ h => h) (by rfl) (fun _ _ => by go_simp) (⟨hB2.out, Gy2.out⟩) ?_
    simp only [Act.put, List.setIfInBounds_toArray, List.set_cons_zero, List.set_cons_succ]
    refine wpAnyHTake 17 (some 23) (.int .i64 y2) rfl rfl (by kernel_rfl) (by kernel_rfl) (by kernel_rfl) (fun _ _ _ h => h) (by rfl) (fun W hW => by obtain ⟨_, hW⟩ := hW; go_simp) (⟨hB2.out, Gy2.out⟩) ?_
    simp only [Act.put, List.setIfInBounds_toArray, List.set_cons_zero, List.set_cons_succ]
    refine wpAnyHOne 18 (some 24) (v := .agg #[.int .i64 (1 + (a : Int)), .bool ((c3 : Int) == 1), .int .i64 y1, .int .i64 y2]) (by kernel_rfl) rfl rfl (by rfl) (by go_simp) ⟨hB2.out, Gy2.out⟩ ?_
    simp only [Act.put, List.setIfInBounds_toArray, List.set_cons_zero, List.set_cons_succ]
    refine wpAnyHSkip 19 none (by kernel_rfl) rfl rfl (by rfl) (w' := (((((((w.alloc (.cells #[.int .i64 0, .bool false, .int .i64 0, .int .i64 0] 24)).drewN 1).alloc (.cells #[.int .i64 0, .int .i64 2, .int .i64 3, .int .i64 4, .int .i64 7, .int .i64 0] 3)).alloc (.cells #[.int .i64 0, .int .i64 0, .int .i64 2, .int .i64 3, .int .i64 4, .int .i64 5, .int .i64 0] 3)).setCell ⟨w.heap.size, 0, none⟩ (.int .i64 (1 + (a : Int)))).setCell ⟨w.heap.size, 1, none⟩ (.bool ((c3 : Int) == 1))).setCell ⟨w.heap.size, 2, none⟩ (.int .i64 y1)).setCell ⟨w.heap.size, 3, none⟩ (.int .i64 y2)) (execOp_store 24 (.tmp 2) (.tmp 24) rfl rfl rfl (by go_simp <;> rfl)) ⟨(cell_set4 (by omega) _ _ _ _ _).trans hB2.out, (cell_set4 (by omega) _ _ _ _ _).trans Gy2.out⟩ ?_
    simp only [Act.put]
    refine wpAnyH_done (by kernel_rfl) ?_ _
    go_wp2_with fail
    have hk : okSty ⟨1 + (a : Int), (c3 : Int) == 1, y1, y2⟩ := by
      simp only [List.mem_cons, List.not_mem_nil, or_false] at hin1 hin2
      unfold okSty
      dsimp only
      omega
    (try simp only [Exit.inBlock, Exit.then])
    refine bodyPost_ret (v := styV ⟨1 + (a : Int), (c3 : Int) == 1, y1, y2⟩) ?_ rfl ⟨_, ⟨hk, ?_, ?_⟩, rfl, ?_⟩
    · simp only [results, Tryd.results11]
      simp [go_sem, styV]
    · simp only [List.mem_cons, List.not_mem_nil, or_false] at hin1 ⊢; omega
    · simp only [List.mem_cons, List.not_mem_nil, or_false] at hin2 ⊢; omega
    · refine Below.setCell (Below.setCell (Below.setCell (Below.setCell ?_ ?_ _) ?_ _) ?_ _) ?_ _ <;> first | exact Nat.le_refl _ | skip
      exact ((Below.dn HB.out 1).alloc (by simp) _).alloc (by simp; omega) _
  · refine wpOpRun' (w' := (((w.alloc (.cells #[.int .i64 0, .bool false, .int .i64 0, .int .i64 0] 24)).drewN 1).alloc (.cells #[.int .i64 0, .int .i64 0, .int .i64 2, .int .i64 3, .int .i64 4, .int .i64 5, .int .i64 0] 3))) (v := .slice (some ⟨w.heap.size + 1, 0, none⟩) 7 7) (some 19) rfl rfl (by rfl) (by first | rfl | (go_simp; done) | (go_simp <;> rfl)) ⟨trivial, ?_⟩
    simp only [Act.put, List.setIfInBounds_toArray, List.set_cons_zero, List.set_cons_succ]
    have hs0 : ((w.alloc (.cells #[.int .i64 0, .bool false, .int .i64 0, .int .i64 0] 24)).drewN 1).heap.size = w.heap.size + 1 := by simp
    have bx2 : Boxs (((w.alloc (.cells #[.int .i64 0, .bool false, .int .i64 0, .int .i64 0] 24)).drewN 1).alloc (.cells #[.int .i64 0, .int .i64 0, .int .i64 2, .int .i64 3, .int .i64 4, .int .i64 5, .int .i64 0] 3)) (w.heap.size + 1) 3 #[.int .i64 0, .int .i64 0, .int .i64 2, .int .i64 3, .int .i64 4, .int .i64 5, .int .i64 0] := by have h := Boxs.new ((w.alloc (.cells #[.int .i64 0, .bool false, .int .i64 0, .int .i64 0] 24)).drewN 1) 3 #[.int .i64 0, .int .i64 0, .int .i64 2, .int .i64 3, .int .i64 4, .int .i64 5, .int .i64 0]; rw [hs0] at h; exact h
    obtain ⟨y2, hy2, hin2⟩ := tbl_in bx2 (L := [0, 0, 2, 3, 4, 5, 0]) rfl b36 hb369
    have Gy2 := Lib.hid hy2
    have hs1 : (((w.alloc (.cells #[.int .i64 0, .bool false, .int .i64 0, .int .i64 0] 24)).drewN 1).alloc (.cells #[.int .i64 0, .int .i64 0, .int .i64 2, .int .i64 3, .int .i64 4, .int .i64 5, .int .i64 0] 3)).heap.size = w.heap.size + 2 := by simp
    refine wpAnyH_strong (fun W => W.cell? ⟨(w.heap.size + 1), b36, none⟩ = some (.int .i64 y2)) (fun _ _ => trivial) _ _ _ _ ?_
    refine wpAnyHTake 16 (some 22) (.pointer (some ⟨(w.heap.size + 1), b36, none⟩)) rfl rfl (by kernel_rfl) (by kernel_rfl) (by kernel_rfl) (fun _ _ _ h => h) (by rfl) (fun _ _ => by go_simp) (Gy2.out) ?_
    simp only [Act.put, List.setIfInBounds_toArray, List.set_cons_zero, List.set_cons_succ]
    refine wpAnyHTake 17 (some 23) (.int .i64 y2) rfl rfl (by kernel_rfl) (by kernel_rfl) (by kernel_rfl) (fun _ _ _ h => h) (by rfl) (fun W hW => by go_simp) (Gy2.out) ?_
    simp only [Act.put, List.setIfInBounds_toArray, List.set_cons_zero, List.set_cons_succ]
    have bx1 : Boxs ((((w.alloc (.cells #[.int .i64 0, .bool false, .int .i64 0, .int .i64 0] 24)).drewN 1).alloc (.cells #[.int .i64 0, .int .i64 0, .int .i64 2, .int .i64 3, .int .i64 4, .int .i64 5, .int .i64 0] 3)).alloc (.cells #[.int .i64 0, .int .i64 2, .int .i64 3, .int .i64 4, .int .i64 7, .int .i64 0] 3)) (w.heap.size + 2) 3 #[.int .i64 0, .int .i64 2, .int .i64 3, .int .i64 4, .int .i64 7, .int .i64 0] := by have h := Boxs.new (((w.alloc (.cells #[.int .i64 0, .bool false, .int .i64 0, .int .i64 0] 24)).drewN 1).alloc (.cells #[.int .i64 0, .int .i64 0, .int .i64 2, .int .i64 3, .int .i64 4, .int .i64 5, .int .i64 0] 3)) 3 #[.int .i64 0, .int .i64 2, .int .i64 3, .int .i64 4, .int .i64 7, .int .i64 0]; rw [hs1] at h; exact h
    obtain ⟨y1, hy1, hin1⟩ := tbl_in bx1 (L := [0, 2, 3, 4, 7, 0]) rfl c6 hc69
    have Gy1 := Lib.hid hy1
    have hB2 := Lib.hid (((bx2.below ((Below.refl _ _).alloc (Nat.le_refl _) (.cells #[.int .i64 0, .int .i64 2, .int .i64 3, .int .i64 4, .int .i64 7, .int .i64 0] 3)) bx2.lt).cell b36).trans ((bx2.cell b36).symm.trans hy2))
    refine wpAnyHOne 7 (some 13) (w' := ((((w.alloc (.cells #[.int .i64 0, .bool false, .int .i64 0, .int .i64 0] 24)).drewN 1).alloc (.cells #[.int .i64 0, .int .i64 0, .int .i64 2, .int .i64 3, .int .i64 4, .int .i64 5, .int .i64 0] 3)).alloc (.cells #[.int .i64 0, .int .i64 2, .int .i64 3, .int .i64 4, .int .i64 7, .int .i64 0] 3))) (v := .slice (some ⟨w.heap.size + 2, 0, none⟩) 6 6) (by kernel_rfl) rfl rfl (by rfl) (by first | rfl | (go_simp; done) | (go_simp <;> rfl)) (hB2.out) ?_
    simp only [Act.put, List.setIfInBounds_toArray, List.set_cons_zero, List.set_cons_succ]
    refine wpAnyH_strong (fun W => W.cell? ⟨(w.heap.size + 1), b36, none⟩ = some (.int .i64 y2) ∧ W.cell? ⟨(w.heap.size + 2), c6, none⟩ = some (.int .i64 y1)) (fun _ h => h.1) _ _ _ _ ?_
    refine wpAnyHTake 11 (some 17) (.pointer (some ⟨(w.heap.size + 2), c6, none⟩)) rfl rfl (by kernel_rfl) (by kernel_rfl) (by kernel_rfl) (fun _ _ _ h => h) (by rfl) (fun _ _ => by go_simp) (⟨hB2.out, Gy1.out⟩) ?_
    simp only [Act.put, List.setIfInBounds_toArray, List.set_cons_zero, List.set_cons_succ]
    refine wpAnyHTake 12 (some 18) (.int .i64 y1) rfl rfl (by kernel_rfl) (by kernel_rfl) (by kernel_rfl) (fun _ _ _ h => h) (by rfl) (fun W hW => by obtain ⟨_, hW⟩ := hW; go_simp) (⟨hB2.out, Gy1.out⟩) ?_
    simp only [Act.put, List.setIfInBounds_toArray, List.set_cons_zero, List.set_cons_succ]
    refine wpAnyHOne 18 (some 24) (v := .agg #[.int .i64 (1 + (a : Int)), .bool ((c3 : Int) == 1), .int .i64 y1, .int .i64 y2]) (by kernel_rfl) rfl rfl (by rfl) (by go_simp) ⟨hB2.out, Gy1.out⟩ ?_
    simp only [Act.put, List.setIfInBounds_toArray, List.set_cons_zero, List.set_cons_succ]
    refine wpAnyHSkip 19 none (by kernel_rfl) rfl rfl (by rfl) (w' := (((((((w.alloc (.cells #[.int .i64 0, .bool false, .int .i64 0, .int .i64 0] 24)).drewN 1).alloc (.cells #[.int .i64 0, .int .i64 0, .int .i64 2, .int .i64 3, .int .i64 4, .int .i64 5, .int .i64 0] 3)).alloc (.cells #[.int .i64 0, .int .i64 2, .int .i64 3, .int .i64 4, .int .i64 7, .int .i64 0] 3)).setCell ⟨w.heap.size, 0, none⟩ (.int .i64 (1 + (a : Int)))).setCell ⟨w.heap.size, 1, none⟩ (.bool ((c3 : Int) == 1))).setCell ⟨w.heap.size, 2, none⟩ (.int .i64 y1)).setCell ⟨w.heap.size, 3, none⟩ (.int .i64 y2)) (execOp_store 24 (.tmp 2) (.tmp 24) rfl rfl rfl (by go_simp <;> rfl)) ⟨(cell_set4 (by omega) _ _ _ _ _).trans hB2.out, (cell_set4 (by omega) _ _ _ _ _).trans Gy1.out⟩ ?_
    simp only [Act.put]
    refine wpAnyH_done (by kernel_rfl) ?_ _
    go_wp2_with fail
    have hk : okSty ⟨1 + (a : Int), (c3 : Int) == 1, y1, y2⟩ := by
      simp only [List.mem_cons, List.not_mem_nil, or_false] at hin1 hin2
      unfold okSty
      dsimp only
      omega
    (try simp only [Exit.inBlock, Exit.then])
    refine bodyPost_ret (v := styV ⟨1 + (a : Int), (c3 : Int) == 1, y1, y2⟩) ?_ rfl ⟨_, ⟨hk, ?_, ?_⟩, rfl, ?_⟩
    · simp only [results, Tryd.results11]
      simp [go_sem, styV]
    · simp only [List.mem_cons, List.not_mem_nil, or_false] at hin1 ⊢; omega
    · simp only [List.mem_cons, List.not_mem_nil, or_false] at hin2 ⊢; omega
    · refine Below.setCell (Below.setCell (Below.setCell (Below.setCell ?_ ?_ _) ?_ _) ?_ _) ?_ _ <;> first | exact Nat.le_refl _ | skip
      exact ((Below.dn HB.out 1).alloc (by simp) _).alloc (by simp; omega) _
end Go.Proofs.YtecdkpcapalifaaDoor

namespace Go.Proofs.YtecdkpcapalifaaDoor
open Go.RowKit Go.Maps

def BdS (s : Sty) : Prop := -1 ≤ s.k ∧ s.k ≤ 1000 ∧ -1 ≤ s.row ∧ s.row ≤ 1000 ∧ -1 ≤ s.pas ∧ s.pas ≤ 1000
theorem MadeS.bd {s : Sty} (h : MadeS s) : BdS s := by
  obtain ⟨⟨_, _, _, _, _, _, _, _⟩, _, _⟩ := h
  refine ⟨?_, ?_, ?_, ?_, ?_, ?_⟩ <;> omega

set_option maxRecDepth 100000 in
set_option maxHeartbeats 4000000 in
theorem odd_any (s : Sty) (how n : Int) (w : World) (hs : BdS s) (h1 : -9223372036854775808 ≤ how) (h2 : how ≤ 9223372036854775807) (h3 : -9223372036854775808 ≤ n) (h4 : n ≤ 9223372036854775807) :
    Calls Tryd.prog 12 #[styV s, .int .i64 how, .int .i64 n] w fun e w' => ∃ s', BdS s' ∧ e = .returned (styV s') ∧ Below w.heap.size w w' := by
  obtain ⟨k, nx, row, pas⟩ := s
  obtain ⟨hk1, hk2, hr1, hr2, hp1, hp2⟩ := hs
  dsimp only at hk1 hk2 hr1 hr2 hp1 hp2
  show Calls Tryd.prog 12 #[.agg #[.int .i64 k, .bool nx, .int .i64 row, .int .i64 pas], .int .i64 how, .int .i64 n] w _
  obtain ⟨m, hm, hm9⟩ : ∃ m : Nat, around n 10 = m ∧ m < 10 := ⟨(around n 10).toNat, by have := around_bd n 10 (by omega); omega, by have := around_bd n 10 (by omega); omega⟩
  have AR := fun W => around_any n 10 W h3 h4 (by omega) (by omega)
  rw [hm] at AR
  obtain ⟨r, hr, hr9⟩ : ∃ r : Nat, around how 4 = r ∧ r < 4 := ⟨(around how 4).toNat, by have := around_bd how 4 (by omega); omega, by have := around_bd how 4 (by omega); omega⟩
  have AH := fun W => around_any how 4 W h1 h2 (by omega) (by omega)
  rw [hr] at AH
  have hm9i : (m : Int) < 10 := by omega
  clear hm hr
  go_enter Tryd.func12, Tryd.ntmps12
  go_wp2_with fail
  refine (AR _).mono ?_
  rintro e w1 ⟨rfl, rfl⟩
  have bx := Boxs.new ((w.alloc (.cells #[.int .i64 k, .bool nx, .int .i64 row, .int .i64 pas] 24)).alloc (.cells #[.int .i64 0, .bool false, .int .i64 0, .int .i64 0] 24)) 3 #[.int .i64 (-1), .int .i64 0, .int .i64 1, .int .i64 2, .int .i64 3, .int .i64 4, .int .i64 500, .int .i64 501, .int .i64 999, .int .i64 1000]
  obtain ⟨y, hy, hin⟩ := tbl_in bx (L := [-1, 0, 1, 2, 3, 4, 500, 501, 999, 1000]) rfl m hm9
  have hy1 : -1 ≤ y ∧ y ≤ 1000 := by
    simp only [List.mem_cons, List.not_mem_nil, or_false] at hin
    omega
  rw [show ((w.alloc (.cells #[.int .i64 k, .bool nx, .int .i64 row, .int .i64 pas] 24)).alloc (.cells #[.int .i64 0, .bool false, .int .i64 0, .int .i64 0] 24)).heap.size = w.heap.size + 2 by simp] at hy
  clear bx
  go_wp2_with fail
  refine (AH _).mono ?_
  rintro e w1 ⟨rfl, rfl⟩
  have hr4 : r = 0 ∨ r = 1 ∨ r = 2 ∨ r = 3 := by omega
  rcases hr4 with rfl | rfl | rfl | rfl
  · go_wp2_with fail
    (try simp only [Exit.inBlock, Exit.then])
    refine bodyPost_ret (v := styV ⟨y, nx, row, pas⟩) ?_ rfl ⟨⟨y, nx, row, pas⟩, ?_, rfl, ?_⟩
    · simp only [results, Tryd.results12]
      simp [go_sem, styV]
    · refine ⟨?_, ?_, ?_, ?_, ?_, ?_⟩ <;> dsimp only <;> omega
    · exact (((Below.refl _ w).alloc (Nat.le_refl _) _).alloc (by simp) _).alloc (by simp; omega) _
  · go_wp2_with fail
    (try simp only [Exit.inBlock, Exit.then])
    refine bodyPost_ret (v := styV ⟨k, nx, y, pas⟩) ?_ rfl ⟨⟨k, nx, y, pas⟩, ?_, rfl, ?_⟩
    · simp only [results, Tryd.results12]
      simp [go_sem, styV]
    · refine ⟨?_, ?_, ?_, ?_, ?_, ?_⟩ <;> dsimp only <;> omega
    · exact (((Below.refl _ w).alloc (Nat.le_refl _) _).alloc (by simp) _).alloc (by simp; omega) _
  · go_wp2_with fail
    (try simp only [Exit.inBlock, Exit.then])
    refine bodyPost_ret (v := styV ⟨k, nx, row, y⟩) ?_ rfl ⟨⟨k, nx, row, y⟩, ?_, rfl, ?_⟩
    · simp only [results, Tryd.results12]
      simp [go_sem, styV]
    · refine ⟨?_, ?_, ?_, ?_, ?_, ?_⟩ <;> dsimp only <;> omega
    · exact (((Below.refl _ w).alloc (Nat.le_refl _) _).alloc (by simp) _).alloc (by simp; omega) _
  · go_wp2_with fail
    (try simp only [Exit.inBlock, Exit.then])
    refine bodyPost_ret (v := styV ⟨k, !nx, row, pas⟩) ?_ rfl ⟨⟨k, !nx, row, pas⟩, ?_, rfl, ?_⟩
    · simp only [results, Tryd.results12]
      simp [go_sem, styV]
    · refine ⟨?_, ?_, ?_, ?_, ?_, ?_⟩ <;> dsimp only <;> omega
    · exact (((Below.refl _ w).alloc (Nat.le_refl _) _).alloc (by simp) _).alloc (by simp; omega) _
end Go.Proofs.YtecdkpcapalifaaDoor

namespace Go.Proofs.YtecdkpcapalifaaDoor
open Go.RowKit Go.Maps

theorem torn_tbl {W : World} {B : Nat} {t : TypeId} (h : Boxs W B t #[.string ⟨#[48]⟩, .string ⟨#[49]⟩, .string ⟨#[57]⟩, .string ⟨#[102]⟩, .string ⟨#[45]⟩, .string ⟨#[44, 32]⟩, .string ⟨#[32, 112, 97, 115, 115, 105, 109]⟩, .string ⟨#[44]⟩]) (m : Nat) (hm : m < 8) : ∃ C : ByteArray, W.cell? ⟨B, m, none⟩ = some (.string C) ∧ C.size ≤ 7 := by
  rw [h.cell]
  match m, hm with
  | 0, _ => exact ⟨_, rfl, by decide⟩
  | 1, _ => exact ⟨_, rfl, by decide⟩
  | 2, _ => exact ⟨_, rfl, by decide⟩
  | 3, _ => exact ⟨_, rfl, by decide⟩
  | 4, _ => exact ⟨_, rfl, by decide⟩
  | 5, _ => exact ⟨_, rfl, by decide⟩
  | 6, _ => exact ⟨_, rfl, by decide⟩
  | 7, _ => exact ⟨_, rfl, by decide⟩

set_option maxRecDepth 100000 in
set_option maxHeartbeats 4000000 in
theorem torn_any (S : ByteArray) (how n : Int) (w : World) (hS : S.size ≤ 100000) (h1 : -9223372036854775808 ≤ how) (h2 : how ≤ 9223372036854775807) (h3 : -9223372036854775808 ≤ n) (h4 : n ≤ 9223372036854775807) :
    Calls Tryd.prog 22 #[.string S, .int .i64 how, .int .i64 n] w fun e w' => ∃ T : ByteArray, e = .returned (.string T) ∧ T.size ≤ S.size + 7 ∧ Below w.heap.size w w' := by
  obtain ⟨k, hk, hk9⟩ : ∃ k : Nat, around n ((S.size : Int) + 1) = k ∧ k < S.size + 1 := ⟨(around n ((S.size : Int) + 1)).toNat, by have := around_bd n ((S.size : Int) + 1) (by omega); omega, by have := around_bd n ((S.size : Int) + 1) (by omega); omega⟩
  have AR := fun W => around_any n ((S.size : Int) + 1) W h3 h4 (by omega) (by omega)
  rw [hk] at AR
  obtain ⟨m, hm, hm9⟩ : ∃ m : Nat, around n 8 = m ∧ m < 8 := ⟨(around n 8).toNat, by have := around_bd n 8 (by omega); omega, by have := around_bd n 8 (by omega); omega⟩
  have AM := fun W => around_any n 8 W h3 h4 (by omega) (by omega)
  rw [hm] at AM
  obtain ⟨r, hr, hr9⟩ : ∃ r : Nat, around how 4 = r ∧ r < 4 := ⟨(around how 4).toNat, by have := around_bd how 4 (by omega); omega, by have := around_bd how 4 (by omega); omega⟩
  have AH := fun W => around_any how 4 W h1 h2 (by omega) (by omega)
  rw [hr] at AH
  clear hk hm hr
  have hm9i : (m : Int) < 8 := by omega
  have hk9i : (k : Int) ≤ (S.size : Int) := by omega
  have hk0 : (0 : Int) ≤ (k : Int) := by omega
  have hwS : IntKind.i64.wrap ((S.size : Int) + 1) = (S.size : Int) + 1 := by rw [IntKind.wrap_i64]; omega
  have hwk : IntKind.i64.wrap ((k : Int) + 1) = (k : Int) + 1 := by rw [IntKind.wrap_i64]; omega
  have hsi : (S.size : Int) ≤ 100000 := by omega
  obtain ⟨C, hC, hC7⟩ := torn_tbl (Boxs.new w 9 #[.string ⟨#[48]⟩, .string ⟨#[49]⟩, .string ⟨#[57]⟩, .string ⟨#[102]⟩, .string ⟨#[45]⟩, .string ⟨#[44, 32]⟩, .string ⟨#[32, 112, 97, 115, 115, 105, 109]⟩, .string ⟨#[44]⟩]) m hm9
  have hb := (Below.refl w.heap.size w).alloc (Nat.le_refl _) (.cells #[.string ⟨#[48]⟩, .string ⟨#[49]⟩, .string ⟨#[57]⟩, .string ⟨#[102]⟩, .string ⟨#[45]⟩, .string ⟨#[44, 32]⟩, .string ⟨#[32, 112, 97, 115, 115, 105, 109]⟩, .string ⟨#[44]⟩] 9)
  have HB := Lib.hid hb
  clear hb
  go_enter Tryd.func22, Tryd.ntmps22
  go_wp2_with fail
  refine (AR _).mono ?_
  rintro e w1 ⟨rfl, rfl⟩
  go_wp2_with fail
  refine (AM _).mono ?_
  rintro e w1 ⟨rfl, rfl⟩
  go_wp2_with fail
  refine (AH _).mono ?_
  rintro e w1 ⟨rfl, rfl⟩
  have hr4 : r = 0 ∨ r = 1 ∨ r = 2 ∨ r = 3 := by omega
  rcases hr4 with rfl | rfl | rfl | rfl
  · go_wp2_with fail
    go_quiet (fail)
    go_wp2_with fail
    go_ret
    exact ⟨_, rfl, by simp [ByteArray.size_append, ByteArray.size_extract] <;> omega, by first | exact HB.out | exact Below.dn HB.out _⟩
  · obtain ⟨j, hj⟩ : ∃ j, min (k + 1) S.size = j := ⟨_, rfl⟩
    have hj9 : (j : Int) ≤ (S.size : Int) := by omega
    have hj0 : (0 : Int) ≤ (j : Int) := by omega
    have HJ := Lib.hid hj
    clear hj
    go_wp2_with fail
    refine wp_region_held (S := fun _ => True) (by kernel_rfl) ?_
    have hdr : ((w.alloc (.cells #[.string ⟨#[48]⟩, .string ⟨#[49]⟩, .string ⟨#[57]⟩, .string ⟨#[102]⟩, .string ⟨#[45]⟩, .string ⟨#[44, 32]⟩, .string ⟨#[32, 112, 97, 115, 115, 105, 109]⟩, .string ⟨#[44]⟩] 9))).drew = { (w.alloc (.cells #[.string ⟨#[48]⟩, .string ⟨#[49]⟩, .string ⟨#[57]⟩, .string ⟨#[102]⟩, .string ⟨#[45]⟩, .string ⟨#[44, 32]⟩, .string ⟨#[32, 112, 97, 115, 115, 105, 109]⟩, .string ⟨#[44]⟩] 9)) with drawn := ((w.alloc (.cells #[.string ⟨#[48]⟩, .string ⟨#[49]⟩, .string ⟨#[57]⟩, .string ⟨#[102]⟩, .string ⟨#[45]⟩, .string ⟨#[44, 32]⟩, .string ⟨#[32, 112, 97, 115, 115, 105, 109]⟩, .string ⟨#[44]⟩] 9))).drawn + 1 } := rfl
    rw [← hdr]
    clear hdr
    refine wpAnyHTake 0 (some 34) (.string S) rfl rfl (by kernel_rfl) (by kernel_rfl) (by kernel_rfl) (fun _ _ _ h => h) (by rfl) (fun _ _ => by rfl) (trivial) ?_
    simp only [Act.put, List.setIfInBounds_toArray, List.set_cons_zero, List.set_cons_succ]
    refine wpAnyHTake 1 (some 35) (.int .i64 (k : Int)) rfl rfl (by kernel_rfl) (by kernel_rfl) (by kernel_rfl) (fun _ _ _ h => h) (by rfl) (fun _ _ => by rfl) (trivial) ?_
    simp only [Act.put, List.setIfInBounds_toArray, List.set_cons_zero, List.set_cons_succ]
    refine wpAnyHTake 2 (some 36) (.string (S.extract 0 k)) rfl rfl (by kernel_rfl) (by kernel_rfl) (by kernel_rfl) (fun _ _ _ h => h) (by rfl) (fun _ _ => by go_simp) (trivial) ?_
    simp only [Act.put, List.setIfInBounds_toArray, List.set_cons_zero, List.set_cons_succ]
    refine wpAnyHTake 3 (some 37) (.string S) rfl rfl (by kernel_rfl) (by kernel_rfl) (by kernel_rfl) (fun _ _ _ h => h) (by rfl) (fun _ _ => by rfl) (trivial) ?_
    simp only [Act.put, List.setIfInBounds_toArray, List.set_cons_zero, List.set_cons_succ]
    refine wpAnyHTake 4 (some 38) (.int .i64 (k : Int)) rfl rfl (by kernel_rfl) (by kernel_rfl) (by kernel_rfl) (fun _ _ _ h => h) (by rfl) (fun _ _ => by rfl) (trivial) ?_
    simp only [Act.put, List.setIfInBounds_toArray, List.set_cons_zero, List.set_cons_succ]
    refine wpAnyHTake 5 (some 39) (.int .i64 ((k : Int) + 1)) rfl rfl (by kernel_rfl) (by kernel_rfl) (by kernel_rfl) (fun _ _ _ h => h) (by rfl) (fun _ _ => by go_simp) (trivial) ?_
    simp only [Act.put, List.setIfInBounds_toArray, List.set_cons_zero, List.set_cons_succ]
    refine wpAnyHTake 6 (some 40) (.string S) rfl rfl (by kernel_rfl) (by kernel_rfl) (by kernel_rfl) (fun _ _ _ h => h) (by rfl) (fun _ _ => by rfl) (trivial) ?_
    simp only [Act.put, List.setIfInBounds_toArray, List.set_cons_zero, List.set_cons_succ]
    refine wpAnyHTake 7 (some 41) (.int .i64 (S.size : Int)) rfl rfl (by kernel_rfl) (by kernel_rfl) (by kernel_rfl) (fun _ _ _ h => h) (by rfl) (fun _ _ => by go_simp) (trivial) ?_
    simp only [Act.put, List.setIfInBounds_toArray, List.set_cons_zero, List.set_cons_succ]
    refine wpAnyHTake 8 (some 42) (.int .i64 (j : Int)) rfl rfl (by kernel_rfl) (by kernel_rfl) (by kernel_rfl) (fun _ _ _ h => h) (by rfl) (fun _ _ => by go_simp; have := HJ.out; split <;> omega) (trivial) ?_
    simp only [Act.put, List.setIfInBounds_toArray, List.set_cons_zero, List.set_cons_succ]
    refine wpAnyHTake 9 (some 43) (.string (S.extract j S.size)) rfl rfl (by kernel_rfl) (by kernel_rfl) (by kernel_rfl) (fun _ _ _ h => h) (by rfl) (fun _ _ => by go_simp) (trivial) ?_
    simp only [Act.put, List.setIfInBounds_toArray, List.set_cons_zero, List.set_cons_succ]
    refine wpAnyHTake 10 (some 44) (.string (S.extract 0 k ++ S.extract j S.size)) rfl rfl (by kernel_rfl) (by kernel_rfl) (by kernel_rfl) (fun _ _ _ h => h) (by rfl) (fun _ _ => by go_simp; omega) (trivial) ?_
    simp only [Act.put, List.setIfInBounds_toArray, List.set_cons_zero, List.set_cons_succ]
    refine wpAnyHTake 11 (some 6) (.string (S.extract 0 k ++ S.extract j S.size)) rfl rfl (by kernel_rfl) (by kernel_rfl) (by kernel_rfl) (fun _ _ _ h => h) (by rfl) (fun _ _ => by rfl) (trivial) ?_
    simp only [Act.put, List.setIfInBounds_toArray, List.set_cons_zero, List.set_cons_succ]
    refine wpAnyH_done (by kernel_rfl) ?_ _
    go_wp2_with fail
    go_ret
    exact ⟨_, rfl, by simp [ByteArray.size_append, ByteArray.size_extract] <;> (have := HJ.out; omega), by first | exact HB.out | exact Below.dn HB.out _⟩
  · go_wp2_with fail
    go_ret
    exact ⟨_, rfl, by simp [ByteArray.size_extract] <;> omega, by first | exact HB.out | exact Below.dn HB.out _⟩
  · go_wp2_with fail
    go_ret
    exact ⟨_, rfl, by simp [ByteArray.size_append] <;> omega, by first | exact HB.out | exact Below.dn HB.out _⟩
end Go.Proofs.YtecdkpcapalifaaDoor

