/- Unique (program): the whole. lives: the constants. lives. -/
import Derived.Test.YtecdkpcapalifaaDoorM10
import Derived.Test.YtecdkpcapalifaaDoorM11
import Derived.Test.YtecdkpcapalifaaDoorM12
import Derived.Test.YtecdkpcapalifaaDoorM08
set_option linter.unusedVariables false
namespace Go.Proofs.YtecdkpcapalifaaDoor
open Go.RowKit Go.Maps

def uniqA (s : Sty) (most : Int) : List Sp := match uniqueS s most with | some (a, _) => a | none => []
def uniqB (s : Sty) (most : Int) : List Sp := match uniqueS s most with | some (_, b) => b | none => []
def uniqIs (s : Sty) (most : Int) : Bool := (uniqueS s most).isNone
theorem uniq_some {s : Sty} {most : Int} {a b : List Sp} (h : uniqueS s most = some (a, b)) : uniqA s most = a ∧ uniqB s most = b ∧ uniqIs s most = false := by
  unfold uniqA uniqB uniqIs
  rw [h]
  exact ⟨rfl, rfl, rfl⟩
theorem uniq_none {s : Sty} {most : Int} (h : uniqueS s most = none) : uniqA s most = [] ∧ uniqB s most = [] ∧ uniqIs s most = true := by
  unfold uniqA uniqB uniqIs
  rw [h]
  exact ⟨rfl, rfl, rfl⟩
theorem uniq_pas {s : Sty} {most : Int} (h : 0 < s.pas ∧ 2 * s.pas ≤ most ∧ (s.row = 0 ∨ 2 * s.pas ≤ s.row + 1)) : uniqA s most = pasX s.pas.toNat ∧ uniqB s most = pasY s.pas.toNat ∧ uniqIs s most = false := uniq_some (if_pos h)
theorem uniq_ff {s : Sty} {most : Int} (h : ¬ (0 < s.pas ∧ 2 * s.pas ≤ most ∧ (s.row = 0 ∨ 2 * s.pas ≤ s.row + 1))) (h2 : 0 < s.row ∧ s.row + 1 ≤ most) : uniqA s most = [(1, s.row)] ∧ uniqB s most = [(1, s.row + 1)] ∧ uniqIs s most = false :=
  uniq_some ((if_neg h).trans (if_pos h2))
theorem uniq_no {s : Sty} {most : Int} (h : ¬ (0 < s.pas ∧ 2 * s.pas ≤ most ∧ (s.row = 0 ∨ 2 * s.pas ≤ s.row + 1))) (h2 : ¬ (0 < s.row ∧ s.row + 1 ≤ most)) : uniqA s most = [] ∧ uniqB s most = [] ∧ uniqIs s most = true :=
  uniq_none ((if_neg h).trans (if_neg h2))

theorem unique_any (s : Sty) (most : Int) (w : World) (hs : okSty s) (h1 : 1 ≤ most) (h9 : most ≤ 999) :
    Calls Tryd.prog 29 #[styV s, .int .i64 most] w (UniqueOut (uniqA s most) (uniqB s most) (uniqIs s most) w) := by
  obtain ⟨k, nx, row, pas⟩ := s
  have hs' := hs
  obtain ⟨_, _, hr0, _, _, hp0, _, hp9⟩ := hs'
  dsimp only at hr0 hp0 hp9
  obtain ⟨N, rfl⟩ : ∃ N : Nat, pas = (N : Int) := ⟨pas.toNat, by omega⟩
  by_cases hp : (N : Int) ≤ 0
  · by_cases hr : row ≤ 0
    · obtain ⟨e1, e2, e3⟩ := uniq_no (s := ⟨k, nx, row, N⟩) (most := most) (by dsimp only; omega) (by dsimp only; omega)
      rw [e1, e2, e3]; exact unique_none k row N most nx w hs h1 h9 hr hp
    · by_cases hm : row + 1 ≤ most
      · obtain ⟨e1, e2, e3⟩ := uniq_ff (s := ⟨k, nx, row, N⟩) (most := most) (by dsimp only; omega) (by dsimp only; omega)
        rw [e1, e2, e3]; exact unique_ff k row N most nx w hs h1 h9 (by omega) hm hp
      · obtain ⟨e1, e2, e3⟩ := uniq_no (s := ⟨k, nx, row, N⟩) (most := most) (by dsimp only; omega) (by dsimp only; omega)
        rw [e1, e2, e3]; exact unique_fflate k row N most nx w hs h1 h9 (by omega) (by omega) hp
  · by_cases hr : row ≤ 0
    · by_cases hm : 2 * (N : Int) ≤ most
      · obtain ⟨e1, e2, e3⟩ := uniq_pas (s := ⟨k, nx, row, N⟩) (most := most) (by dsimp only; omega)
        rw [e1, e2, e3]; exact unique_pas k row most N nx w hs h1 h9 hr hm (by omega)
      · obtain ⟨e1, e2, e3⟩ := uniq_no (s := ⟨k, nx, row, N⟩) (most := most) (by dsimp only; omega) (by dsimp only; omega)
        rw [e1, e2, e3]; exact unique_paslate k row most N nx w hs h1 h9 hr (by omega) (by omega)
    · by_cases hm : 2 * (N : Int) ≤ most
      · by_cases hf : row + 1 ≤ most
        · by_cases hl : row + 1 < 2 * (N : Int)
          · obtain ⟨e1, e2, e3⟩ := uniq_ff (s := ⟨k, nx, row, N⟩) (most := most) (by dsimp only; omega) (by dsimp only; omega)
            rw [e1, e2, e3]; exact unique_keep k row most N nx w hs h1 h9 (by omega) hf hm (by omega) hl
          · obtain ⟨e1, e2, e3⟩ := uniq_pas (s := ⟨k, nx, row, N⟩) (most := most) (by dsimp only; omega)
            rw [e1, e2, e3]; exact unique_swap k row most N nx w hs h1 h9 (by omega) hf hm (by omega) (by omega)
        · obtain ⟨e1, e2, e3⟩ := uniq_pas (s := ⟨k, nx, row, N⟩) (most := most) (by dsimp only; omega)
          rw [e1, e2, e3]; exact unique_ffl_pas k row most N nx w hs h1 h9 (by omega) (by omega) hm (by omega)
      · by_cases hf : row + 1 ≤ most
        · obtain ⟨e1, e2, e3⟩ := uniq_ff (s := ⟨k, nx, row, N⟩) (most := most) (by dsimp only; omega) (by dsimp only; omega)
          rw [e1, e2, e3]; exact unique_ff_pasl k row most N nx w hs h1 h9 (by omega) hf (by omega) (by omega)
        · obtain ⟨e1, e2, e3⟩ := uniq_no (s := ⟨k, nx, row, N⟩) (most := most) (by dsimp only; omega) (by dsimp only; omega)
          rw [e1, e2, e3]; exact unique_ffl_pasl k row most N nx w hs h1 h9 (by omega) (by omega) (by omega) (by omega)

def UniqueErr (c : Int) (w : World) (e : Ending) (w' : World) : Prop :=
  e = .returned (.tuple #[.slice none 0 0, .slice none 0 0, .bool false, .int .i64 c]) ∧ Below w.heap.size w w'

set_option maxRecDepth 100000 in
set_option maxHeartbeats 4000000 in
theorem unique_bad (s : Sty) (most : Int) (w : World) (hs : ¬ okSty s) :
    Calls Tryd.prog 29 #[styV s, .int .i64 most] w (UniqueErr 1 w) := by
  obtain ⟨k, nx, row, pas⟩ := s
  have hV : validS k row pas = 1 := by
    rcases validS_01 k row pas with h | h
    · exact absurd ((okSty_valid ⟨k, nx, row, pas⟩).1 h) hs
    · exact h
  have VA := valid_any k row pas nx ((w.alloc (.cells #[.int .i64 k, .bool nx, .int .i64 row, .int .i64 pas] 36)).alloc (.cells #[.int .i64 most] 3))
  rw [hV] at VA
  have hb0 := ((Below.refl w.heap.size w).alloc (Nat.le_refl _) (.cells #[.int .i64 k, .bool nx, .int .i64 row, .int .i64 pas] 36)).alloc (by simp) (.cells #[.int .i64 most] 3)
  have HB := Lib.hid hb0
  clear hb0 hV hs
  show Calls Tryd.prog 29 #[.agg #[.int .i64 k, .bool nx, .int .i64 row, .int .i64 pas], .int .i64 most] w _
  go_enter Tryd.func29, Tryd.ntmps29
  go_wp2_with fail
  refine VA.mono ?_
  rintro e w1 ⟨rfl, hb⟩
  have HB1 := Lib.hid (HB.out.trans (hb.mono (by simp; omega)))
  clear hb
  go_wp2_with fail
  (try simp only [Exit.inBlock, Exit.then]); refine bodyPost_ret (results_tmp4 rfl _ _ _) rfl ?_
  exact ⟨rfl, HB1.out⟩

set_option maxRecDepth 100000 in
set_option maxHeartbeats 4000000 in
theorem unique_range (s : Sty) (most : Int) (w : World) (hs : okSty s) (hm : most < 1 ∨ 999 < most) :
    Calls Tryd.prog 29 #[styV s, .int .i64 most] w (UniqueErr 5 w) := by
  obtain ⟨k, nx, row, pas⟩ := s
  have hV : validS k row pas = 0 := (okSty_valid ⟨k, nx, row, pas⟩).2 hs
  have VA := valid_any k row pas nx ((w.alloc (.cells #[.int .i64 k, .bool nx, .int .i64 row, .int .i64 pas] 36)).alloc (.cells #[.int .i64 most] 3))
  rw [hV] at VA
  have hb0 := ((Below.refl w.heap.size w).alloc (Nat.le_refl _) (.cells #[.int .i64 k, .bool nx, .int .i64 row, .int .i64 pas] 36)).alloc (by simp) (.cells #[.int .i64 most] 3)
  have hy0 := Boxs.new (w.alloc (.cells #[.int .i64 k, .bool nx, .int .i64 row, .int .i64 pas] 36)) 3 #[.int .i64 most]
  rw [World.size_alloc] at hy0
  have HY := Lib.hid hy0
  have HB := Lib.hid hb0
  clear hb0 hV hs hy0
  show Calls Tryd.prog 29 #[.agg #[.int .i64 k, .bool nx, .int .i64 row, .int .i64 pas], .int .i64 most] w _
  go_enter Tryd.func29, Tryd.ntmps29
  go_wp2_with fail
  refine VA.mono ?_
  rintro e w1 ⟨rfl, hb⟩
  have HB1 := Lib.hid (HB.out.trans (hb.mono (by simp; omega)))
  have hy1 := HY.out.below hb (by simp)
  have m0 := hy1.cell 0
  simp at m0
  clear hb hy1
  rcases hm with hm | hm
  · go_wp2_with fail
    (try simp only [Exit.inBlock, Exit.then]); refine bodyPost_ret (results_tmp4 rfl _ _ _) rfl ?_
    exact ⟨rfl, HB1.out⟩
  · have hm1 : ¬ most < 1 := by omega
    go_wp2_with fail
    (try simp only [Exit.inBlock, Exit.then]); refine bodyPost_ret (results_tmp4 rfl _ _ _) rfl ?_
    exact ⟨rfl, HB1.out⟩
end Go.Proofs.YtecdkpcapalifaaDoor

namespace Go.Proofs.YtecdkpcapalifaaDoor
open Go.RowKit Go.Maps

theorem lv_parse1 : parseS ⟨2, false, 0, 0⟩ [55, 44, 32, 49, 50, 45, 49, 56, 44, 32, 50, 49, 52, 45, 49, 56] = some [(7, 7), (12, 18), (214, 218)] := by rw [← parse_same]; decide +kernel
theorem lv_form1 : formL ⟨2, false, 0, 0⟩ [(7, 7), (12, 18), (214, 218)] = [55, 44, 32, 49, 50, 45, 49, 56, 44, 32, 50, 49, 52, 45, 49, 56] := by decide +kernel
theorem lv_1 : printE ⟨2, false, 0, 0⟩ [(7, 7), (12, 18), (214, 218)] = 0 ∧ printT ⟨2, false, 0, 0⟩ [(7, 7), (12, 18), (214, 218)] = [55, 44, 32, 49, 50, 45, 49, 56, 44, 32, 50, 49, 52, 45, 49, 56] := by
  have h := print_good (s := ⟨2, false, 0, 0⟩) (l := [(7, 7), (12, 18), (214, 218)]) (by unfold okSty; dsimp only; omega) (by decide +kernel) (by rw [lv_form1]; exact lv_parse1)
  rw [lv_form1] at h
  exact h
theorem lv_form2 : formL ⟨1, true, 0, 0⟩ [(12, 13), (98, 102), (214, 218)] = [49, 50, 102, 44, 32, 57, 56, 45, 49, 48, 50, 44, 32, 50, 49, 52, 45, 56] := by decide +kernel
theorem lv_2 : printE ⟨1, true, 0, 0⟩ [(12, 13), (98, 102), (214, 218)] = 0 ∧ printT ⟨1, true, 0, 0⟩ [(12, 13), (98, 102), (214, 218)] = [49, 50, 102, 44, 32, 57, 56, 45, 49, 48, 50, 44, 32, 50, 49, 52, 45, 56] := by
  have h := print_good (s := ⟨1, true, 0, 0⟩) (l := [(12, 13), (98, 102), (214, 218)]) (by unfold okSty; dsimp only; omega) (by decide +kernel) (by rw [← parse_same]; decide +kernel)
  rw [lv_form2] at h
  exact h
theorem lv_form3 : formL ⟨1, false, 3, 0⟩ [(4, 6)] = [52, 102, 102] := by decide +kernel
theorem lv_3 : printE ⟨1, false, 3, 0⟩ [(4, 6)] = 0 ∧ printT ⟨1, false, 3, 0⟩ [(4, 6)] = [52, 102, 102] := by
  have h := print_good (s := ⟨1, false, 3, 0⟩) (l := [(4, 6)]) (by unfold okSty; dsimp only; omega) (by decide +kernel) (by rw [← parse_same]; decide +kernel)
  rw [lv_form3] at h
  exact h
theorem lv_4 : printE ⟨1, false, 3, 0⟩ [(4, 9)] = 14 ∧ printT ⟨1, false, 3, 0⟩ [(4, 9)] = [] :=
  print_clash (s := ⟨1, false, 3, 0⟩) (l := [(4, 9)]) (by unfold okSty; dsimp only; omega) (by decide +kernel) (by rw [← parse_same]; decide +kernel)
theorem lv_form5 : formL ⟨1, false, 0, 3⟩ [(1, 1), (3, 3), (5, 5), (9, 9)] = [49, 45, 53, 32, 112, 97, 115, 115, 105, 109, 44, 32, 57] := by decide +kernel
theorem lv_5 : printE ⟨1, false, 0, 3⟩ [(1, 1), (3, 3), (5, 5), (9, 9)] = 0 ∧ printT ⟨1, false, 0, 3⟩ [(1, 1), (3, 3), (5, 5), (9, 9)] = [49, 45, 53, 32, 112, 97, 115, 115, 105, 109, 44, 32, 57] := by
  have h := print_good (s := ⟨1, false, 0, 3⟩) (l := [(1, 1), (3, 3), (5, 5), (9, 9)]) (by unfold okSty; dsimp only; omega) (by decide +kernel) (by rw [← parse_same]; decide +kernel)
  rw [lv_form5] at h
  exact h
theorem lv_6 : uniqA ⟨1, false, 3, 0⟩ 999 = [(1, 3)] ∧ uniqB ⟨1, false, 3, 0⟩ 999 = [(1, 4)] ∧ uniqIs ⟨1, false, 3, 0⟩ 999 = false := by decide +kernel
theorem lv_7 : uniqIs ⟨1, false, 0, 2⟩ 3 = true := by decide +kernel
theorem lv_8 : uniqA ⟨1, false, 0, 2⟩ 4 = [(1, 2), (4, 4)] ∧ uniqB ⟨1, false, 0, 2⟩ 4 = [(1, 1), (3, 4)] ∧ uniqIs ⟨1, false, 0, 2⟩ 4 = false := by decide +kernel
theorem lv_9 : parseE ⟨2, false, 0, 0⟩ [55, 44, 32, 49, 50, 45, 49, 56, 44, 32, 50, 49, 52, 45, 49, 56] = 0 ∧ parseV ⟨2, false, 0, 0⟩ [55, 44, 32, 49, 50, 45, 49, 56, 44, 32, 50, 49, 52, 45, 49, 56] = [(7, 7), (12, 18), (214, 218)] := by
  unfold parseE parseV
  rw [lv_parse1]
  exact ⟨rfl, rfl⟩
end Go.Proofs.YtecdkpcapalifaaDoor

namespace Go.Proofs.YtecdkpcapalifaaDoor
open Go.RowKit Go.Maps

set_option maxRecDepth 100000 in
set_option maxHeartbeats 8000000 in
theorem lives_any (w : World) (hml : ML w) : Calls Tryd.prog 20 #[] w fun e w' => e = .returned (.bool true) ∧ Below w.heap.size w w' := by
  have HML := Lib.hid hml
  have hlt := hml.lt
  have HB0 := Lib.hid (Below.refl w.heap.size w)
  have hs0 : w.heap.size ≤ w.heap.size := Nat.le_refl _
  clear hml
  have q1 := bs_toList [55, 44, 32, 49, 50, 45, 49, 56, 44, 32, 50, 49, 52, 45, 49, 56]
  have q2 := bs_toList [49, 50, 102, 44, 32, 57, 56, 45, 49, 48, 50, 44, 32, 50, 49, 52, 45, 56]
  have q3 := bs_toList [52, 102, 102]
  have q4 := bs_toList [49, 45, 53, 32, 112, 97, 115, 115, 105, 109, 44, 32, 57]
  have bx := Boxs.new w 81 #[.int .i64 7, .int .i64 7, .int .i64 12, .int .i64 18, .int .i64 214, .int .i64 218]
  have rd : RdP (w.alloc (.cells #[.int .i64 7, .int .i64 7, .int .i64 12, .int .i64 18, .int .i64 214, .int .i64 218] 81)) (.slice (some ⟨w.heap.size, 0, none⟩) 3 3) [(7, 7), (12, 18), (214, 218)] := RdP_block bx rfl rfl (by omega)
  have hba := HB0.out.alloc hs0 (.cells #[.int .i64 7, .int .i64 7, .int .i64 12, .int .i64 18, .int .i64 214, .int .i64 218] 81)
  have PR := print_any ⟨2, false, 0, 0⟩ _ [(7, 7), (12, 18), (214, 218)] _ rd (by simp) (fun _ _ => by decide +kernel) (HML.out.below hba hlt)
  rw [lv_1.1, lv_1.2] at PR
  have HBA := Lib.hid hba
  have HR0 := Lib.hid rd
  clear bx rd hba
  go_enter Tryd.func20, Tryd.ntmps20
  go_wp2_with fail
  refine PR.mono ?_
  rintro e w1 ⟨rfl, hb⟩
  have HB1 := Lib.hid (HBA.out.trans (hb.mono (by simp <;> omega)))
  have hs1 := HB1.out.size
  have HR1 := Lib.hid (HR0.out.below hb)
  clear hb PR HBA HB0 HR0
  have bx := Boxs.new w1 81 #[.int .i64 12, .int .i64 13, .int .i64 98, .int .i64 102, .int .i64 214, .int .i64 218]
  have rd : RdP (w1.alloc (.cells #[.int .i64 12, .int .i64 13, .int .i64 98, .int .i64 102, .int .i64 214, .int .i64 218] 81)) (.slice (some ⟨w1.heap.size, 0, none⟩) 3 3) [(12, 13), (98, 102), (214, 218)] := RdP_block bx rfl rfl (by omega)
  have hba := HB1.out.alloc hs1 (.cells #[.int .i64 12, .int .i64 13, .int .i64 98, .int .i64 102, .int .i64 214, .int .i64 218] 81)
  have PR := print_any ⟨1, true, 0, 0⟩ _ [(12, 13), (98, 102), (214, 218)] _ rd (by simp) (fun _ _ => by decide +kernel) (HML.out.below hba hlt)
  rw [lv_2.1, lv_2.2] at PR
  have HBA := Lib.hid hba
  clear bx rd hba
  go_wp2_with fail
  refine PR.mono ?_
  rintro e w2 ⟨rfl, hb⟩
  have HB2 := Lib.hid (HBA.out.trans (hb.mono (by simp <;> omega)))
  have hs2 := HB2.out.size
  have HR2 := Lib.hid (HR1.out.below (((Below.refl _ _).alloc (Nat.le_refl _) (.cells #[.int .i64 12, .int .i64 13, .int .i64 98, .int .i64 102, .int .i64 214, .int .i64 218] 81)).trans (hb.mono (by simp))))
  clear hb PR HBA HB1 HR1
  have bx := Boxs.new w2 81 #[.int .i64 4, .int .i64 6]
  have rd : RdP (w2.alloc (.cells #[.int .i64 4, .int .i64 6] 81)) (.slice (some ⟨w2.heap.size, 0, none⟩) 1 1) [(4, 6)] := RdP_block bx rfl rfl (by omega)
  have hba := HB2.out.alloc hs2 (.cells #[.int .i64 4, .int .i64 6] 81)
  have PR := print_any ⟨1, false, 3, 0⟩ _ [(4, 6)] _ rd (by simp) (fun _ _ => by decide +kernel) (HML.out.below hba hlt)
  rw [lv_3.1, lv_3.2] at PR
  have HBA := Lib.hid hba
  clear bx rd hba
  go_wp2_with fail
  refine PR.mono ?_
  rintro e w3 ⟨rfl, hb⟩
  have HB3 := Lib.hid (HBA.out.trans (hb.mono (by simp <;> omega)))
  have hs3 := HB3.out.size
  have HR3 := Lib.hid (HR2.out.below (((Below.refl _ _).alloc (Nat.le_refl _) (.cells #[.int .i64 4, .int .i64 6] 81)).trans (hb.mono (by simp))))
  clear hb PR HBA HB2 HR2
  have bx := Boxs.new w3 81 #[.int .i64 4, .int .i64 9]
  have rd : RdP (w3.alloc (.cells #[.int .i64 4, .int .i64 9] 81)) (.slice (some ⟨w3.heap.size, 0, none⟩) 1 1) [(4, 9)] := RdP_block bx rfl rfl (by omega)
  have hba := HB3.out.alloc hs3 (.cells #[.int .i64 4, .int .i64 9] 81)
  have PR := print_any ⟨1, false, 3, 0⟩ _ [(4, 9)] _ rd (by simp) (fun _ _ => by decide +kernel) (HML.out.below hba hlt)
  rw [lv_4.1, lv_4.2] at PR
  have HBA := Lib.hid hba
  clear bx rd hba
  go_wp2_with fail
  refine PR.mono ?_
  rintro e w4 ⟨rfl, hb⟩
  have HB4 := Lib.hid (HBA.out.trans (hb.mono (by simp <;> omega)))
  have hs4 := HB4.out.size
  have HR4 := Lib.hid (HR3.out.below (((Below.refl _ _).alloc (Nat.le_refl _) (.cells #[.int .i64 4, .int .i64 9] 81)).trans (hb.mono (by simp))))
  clear hb PR HBA HB3 HR3
  have bx := Boxs.new w4 81 #[.int .i64 1, .int .i64 1, .int .i64 3, .int .i64 3, .int .i64 5, .int .i64 5, .int .i64 9, .int .i64 9]
  have rd : RdP (w4.alloc (.cells #[.int .i64 1, .int .i64 1, .int .i64 3, .int .i64 3, .int .i64 5, .int .i64 5, .int .i64 9, .int .i64 9] 81)) (.slice (some ⟨w4.heap.size, 0, none⟩) 4 4) [(1, 1), (3, 3), (5, 5), (9, 9)] := RdP_block bx rfl rfl (by omega)
  have hba := HB4.out.alloc hs4 (.cells #[.int .i64 1, .int .i64 1, .int .i64 3, .int .i64 3, .int .i64 5, .int .i64 5, .int .i64 9, .int .i64 9] 81)
  have PR := print_any ⟨1, false, 0, 3⟩ _ [(1, 1), (3, 3), (5, 5), (9, 9)] _ rd (by simp) (fun _ _ => by decide +kernel) (HML.out.below hba hlt)
  rw [lv_5.1, lv_5.2] at PR
  have HBA := Lib.hid hba
  clear bx rd hba
  go_wp2_with fail
  refine PR.mono ?_
  rintro e w5 ⟨rfl, hb⟩
  have HB5 := Lib.hid (HBA.out.trans (hb.mono (by simp <;> omega)))
  have hs5 := HB5.out.size
  have HR5 := Lib.hid (HR4.out.below (((Below.refl _ _).alloc (Nat.le_refl _) (.cells #[.int .i64 1, .int .i64 1, .int .i64 3, .int .i64 3, .int .i64 5, .int .i64 5, .int .i64 9, .int .i64 9] 81)).trans (hb.mono (by simp))))
  clear hb PR HBA HB4 HR4
  have UN := unique_any ⟨1, false, 3, 0⟩ 999 w5 (by unfold okSty; dsimp only; omega) (by omega) (by omega)
  rw [lv_6.1, lv_6.2.1, lv_6.2.2] at UN
  go_wp2_with fail
  refine UN.mono ?_
  rintro e w6 ⟨u0, v0, rfl, ru, rv, hb⟩
  have HB6 := Lib.hid (HB5.out.trans (hb.mono hs5))
  have hs6 := HB6.out.size
  have HR6 := Lib.hid (HR5.out.below hb)
  have HU0 := Lib.hid ru; have HV0 := Lib.hid rv
  clear hb UN HB5 HR5 ru rv
  have UN := unique_any ⟨1, false, 0, 2⟩ 3 w6 (by unfold okSty; dsimp only; omega) (by omega) (by omega)
  rw [lv_7] at UN
  go_wp2_with fail
  refine UN.mono ?_
  rintro e w7 ⟨u1, v1, rfl, ru, rv, hb⟩
  have HB7 := Lib.hid (HB6.out.trans (hb.mono hs6))
  have hs7 := HB7.out.size
  have HR7 := Lib.hid (HR6.out.below hb)
  have HU0 := Lib.hid (HU0.out.below hb); have HV0 := Lib.hid (HV0.out.below hb)
  clear hb UN HB6 HR6 ru rv
  have UN := unique_any ⟨1, false, 0, 2⟩ 4 w7 (by unfold okSty; dsimp only; omega) (by omega) (by omega)
  rw [lv_8.1, lv_8.2.1, lv_8.2.2] at UN
  go_wp2_with fail
  refine UN.mono ?_
  rintro e w8 ⟨u2, v2, rfl, ru, rv, hb⟩
  have HB8 := Lib.hid (HB7.out.trans (hb.mono hs7))
  have hs8 := HB8.out.size
  have HR8 := Lib.hid (HR7.out.below hb)
  have HU2 := Lib.hid ru; have HV2 := Lib.hid rv
  have HU0 := Lib.hid (HU0.out.below hb); have HV0 := Lib.hid (HV0.out.below hb)
  clear hb UN HB7 HR7 ru rv
  have MD := model_any u0 [(1, 3)] w8 HU0.out (by simp)
  go_wp2_with fail
  refine MD.mono ?_
  rintro e w9 ⟨m8, rfl, hown, hb⟩
  have rm := RdP_of_owns hown
  have bx := Boxs.new w9 68 #[.int .i64 1, .int .i64 3]
  have rd : RdP (w9.alloc (.cells #[.int .i64 1, .int .i64 3] 68)) (.slice (some ⟨w9.heap.size, 0, none⟩) 1 1) [(1, 3)] := RdP_block bx rfl rfl (by omega)
  have SM := same_any m8 _ [(1, 3)] [(1, 3)] _ (rm.below ((Below.refl _ _).alloc (Nat.le_refl _) (.cells #[.int .i64 1, .int .i64 3] 68))) rd
  rw [show decide (([(1, 3)] : List Sp) = [(1, 3)]) = true from decide_eq_true rfl] at SM
  have HBb := Lib.hid hb
  clear MD hown bx rd rm hb
  go_wp2_with fail
  refine SM.mono ?_
  rintro e w10 ⟨rfl, hb2⟩
  have hc := (HBb.out.alloc HBb.out.size (.cells #[.int .i64 1, .int .i64 3] 68)).trans (hb2.mono (by have := HBb.out.size; simp; omega))
  have HB10 := Lib.hid (HB8.out.trans (hc.mono hs8))
  have hs10 := HB10.out.size
  have HV0 := Lib.hid (HV0.out.below hc)
  have HU2 := Lib.hid (HU2.out.below hc)
  have HV2 := Lib.hid (HV2.out.below hc)
  have HR8 := Lib.hid (HR8.out.below hc)
  clear hc hb2 SM HBb HB8
  have MD := model_any v0 [(1, 4)] w10 HV0.out (by simp)
  go_wp2_with fail
  refine MD.mono ?_
  rintro e w11 ⟨m10, rfl, hown, hb⟩
  have rm := RdP_of_owns hown
  have bx := Boxs.new w11 68 #[.int .i64 1, .int .i64 4]
  have rd : RdP (w11.alloc (.cells #[.int .i64 1, .int .i64 4] 68)) (.slice (some ⟨w11.heap.size, 0, none⟩) 1 1) [(1, 4)] := RdP_block bx rfl rfl (by omega)
  have SM := same_any m10 _ [(1, 4)] [(1, 4)] _ (rm.below ((Below.refl _ _).alloc (Nat.le_refl _) (.cells #[.int .i64 1, .int .i64 4] 68))) rd
  rw [show decide (([(1, 4)] : List Sp) = [(1, 4)]) = true from decide_eq_true rfl] at SM
  have HBb := Lib.hid hb
  clear MD hown bx rd rm hb
  go_wp2_with fail
  refine SM.mono ?_
  rintro e w12 ⟨rfl, hb2⟩
  have hc := (HBb.out.alloc HBb.out.size (.cells #[.int .i64 1, .int .i64 4] 68)).trans (hb2.mono (by have := HBb.out.size; simp; omega))
  have HB12 := Lib.hid (HB10.out.trans (hc.mono hs10))
  have hs12 := HB12.out.size
  have HU2 := Lib.hid (HU2.out.below hc)
  have HV2 := Lib.hid (HV2.out.below hc)
  have HR8 := Lib.hid (HR8.out.below hc)
  clear hc hb2 SM HBb HB10
  have PA := parse_any ⟨2, false, 0, 0⟩ [55, 44, 32, 49, 50, 45, 49, 56, 44, 32, 50, 49, 52, 45, 49, 56] w12 (by unfold okSty; dsimp only; omega) (by simp) (HML.out.below HB12.out hlt)
  unfold ParseOut at PA
  rw [lv_9.1, lv_9.2] at PA
  go_wp2_with fail
  refine PA.mono ?_
  rintro e w13 ⟨bk, rfl, rb, hc⟩
  have HB13 := Lib.hid (HB12.out.trans (hc.mono hs12))
  have hs13 := HB13.out.size
  have HK := Lib.hid rb
  have HU2 := Lib.hid (HU2.out.below hc)
  have HV2 := Lib.hid (HV2.out.below hc)
  have HR8 := Lib.hid (HR8.out.below hc)
  clear hc PA rb HB12
  have MD := model_any bk [(7, 7), (12, 18), (214, 218)] w13 HK.out (by simp)
  go_wp2_with fail
  refine MD.mono ?_
  rintro e w14 ⟨mb, rfl, hown, hc⟩
  have HM1 := Lib.hid (RdP_of_owns hown)
  have HB14 := Lib.hid (HB13.out.trans (hc.mono hs13))
  have hs14 := HB14.out.size
  have HU2 := Lib.hid (HU2.out.below hc)
  have HV2 := Lib.hid (HV2.out.below hc)
  have HR8 := Lib.hid (HR8.out.below hc)
  clear hc MD hown HB13
  have MD := model_any _ [(7, 7), (12, 18), (214, 218)] w14 HR8.out (by simp)
  go_wp2_with fail
  refine MD.mono ?_
  rintro e w15 ⟨ml, rfl, hown, hc⟩
  have rm := RdP_of_owns hown
  have HB15 := Lib.hid (HB14.out.trans (hc.mono hs14))
  have hs15 := HB15.out.size
  have SM := same_any mb ml [(7, 7), (12, 18), (214, 218)] [(7, 7), (12, 18), (214, 218)] _ (HM1.out.below hc) rm
  rw [show decide (([(7, 7), (12, 18), (214, 218)] : List Sp) = [(7, 7), (12, 18), (214, 218)]) = true from decide_eq_true rfl] at SM
  have HU2 := Lib.hid (HU2.out.below hc)
  have HV2 := Lib.hid (HV2.out.below hc)
  clear hc MD hown rm HB14
  go_wp2_with fail
  refine SM.mono ?_
  rintro e w16 ⟨rfl, hc⟩
  have HB16 := Lib.hid (HB15.out.trans (hc.mono hs15))
  have hs16 := HB16.out.size
  have HU2 := Lib.hid (HU2.out.below hc)
  have HV2 := Lib.hid (HV2.out.below hc)
  clear hc SM HB15
  have MD := model_any u2 [(1, 2), (4, 4)] w16 HU2.out (by simp)
  go_wp2_with fail
  refine MD.mono ?_
  rintro e w17 ⟨m16, rfl, hown, hb⟩
  have rm := RdP_of_owns hown
  have bx := Boxs.new w17 68 #[.int .i64 1, .int .i64 2, .int .i64 4, .int .i64 4]
  have rd : RdP (w17.alloc (.cells #[.int .i64 1, .int .i64 2, .int .i64 4, .int .i64 4] 68)) (.slice (some ⟨w17.heap.size, 0, none⟩) 2 2) [(1, 2), (4, 4)] := RdP_block bx rfl rfl (by omega)
  have SM := same_any m16 _ [(1, 2), (4, 4)] [(1, 2), (4, 4)] _ (rm.below ((Below.refl _ _).alloc (Nat.le_refl _) (.cells #[.int .i64 1, .int .i64 2, .int .i64 4, .int .i64 4] 68))) rd
  rw [show decide (([(1, 2), (4, 4)] : List Sp) = [(1, 2), (4, 4)]) = true from decide_eq_true rfl] at SM
  have HBb := Lib.hid hb
  clear MD hown bx rd rm hb
  go_wp2_with fail
  refine SM.mono ?_
  rintro e w18 ⟨rfl, hb2⟩
  have hc := (HBb.out.alloc HBb.out.size (.cells #[.int .i64 1, .int .i64 2, .int .i64 4, .int .i64 4] 68)).trans (hb2.mono (by have := HBb.out.size; simp; omega))
  have HB18 := Lib.hid (HB16.out.trans (hc.mono hs16))
  have hs18 := HB18.out.size
  have HV2 := Lib.hid (HV2.out.below hc)
  clear hc hb2 SM HBb HB16
  have MD := model_any v2 [(1, 1), (3, 4)] w18 HV2.out (by simp)
  go_wp2_with fail
  refine MD.mono ?_
  rintro e w19 ⟨m18, rfl, hown, hb⟩
  have rm := RdP_of_owns hown
  have bx := Boxs.new w19 68 #[.int .i64 1, .int .i64 1, .int .i64 3, .int .i64 4]
  have rd : RdP (w19.alloc (.cells #[.int .i64 1, .int .i64 1, .int .i64 3, .int .i64 4] 68)) (.slice (some ⟨w19.heap.size, 0, none⟩) 2 2) [(1, 1), (3, 4)] := RdP_block bx rfl rfl (by omega)
  have SM := same_any m18 _ [(1, 1), (3, 4)] [(1, 1), (3, 4)] _ (rm.below ((Below.refl _ _).alloc (Nat.le_refl _) (.cells #[.int .i64 1, .int .i64 1, .int .i64 3, .int .i64 4] 68))) rd
  rw [show decide (([(1, 1), (3, 4)] : List Sp) = [(1, 1), (3, 4)]) = true from decide_eq_true rfl] at SM
  have HBb := Lib.hid hb
  clear MD hown bx rd rm hb
  go_wp2_with fail
  refine SM.mono ?_
  rintro e w20 ⟨rfl, hb2⟩
  have hc := (HBb.out.alloc HBb.out.size (.cells #[.int .i64 1, .int .i64 1, .int .i64 3, .int .i64 4] 68)).trans (hb2.mono (by have := HBb.out.size; simp; omega))
  have HB20 := Lib.hid (HB18.out.trans (hc.mono hs18))
  have hs20 := HB20.out.size
  clear hc hb2 SM HBb HB18
  go_wp2_with fail
  go_ret
  exact ⟨rfl, HB20.out⟩
end Go.Proofs.YtecdkpcapalifaaDoor

