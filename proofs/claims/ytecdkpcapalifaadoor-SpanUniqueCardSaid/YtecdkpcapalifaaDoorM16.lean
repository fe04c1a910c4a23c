/- Unique (reference). Check (program). -/
import Derived.Test.YtecdkpcapalifaaDoorM13
import Derived.Test.YtecdkpcapalifaaDoorM05
import Derived.Test.YtecdkpcapalifaaDoorM15
set_option linter.unusedVariables false
namespace Go.Proofs.YtecdkpcapalifaaDoor
open Go.RowKit Go.Maps

def RUniqueOut (A B : List Sp) (is : Bool) (w : World) (e : Ending) (w' : World) : Prop :=
  ∃ va vb, e = .returned (.tuple #[va, vb, .bool is]) ∧ RdP w' va A ∧ RdP w' vb B ∧ Below w.heap.size w w'
def uX (k : Nat) : List Sp := (1, 2) :: (4, 4) :: (List.range k).map (fun i : Nat => (6 + 2 * (i : Int), 6 + 2 * (i : Int)))
def uY (k : Nat) : List Sp := (1, 1) :: (3, 4) :: (List.range k).map (fun i : Nat => (6 + 2 * (i : Int), 6 + 2 * (i : Int)))
theorem uX_succ (k : Nat) : uX (k + 1) = uX k ++ [(6 + 2 * (k : Int), 6 + 2 * (k : Int))] := by unfold uX; rw [List.range_succ, List.map_append]; rfl
theorem uY_succ (k : Nat) : uY (k + 1) = uY k ++ [(6 + 2 * (k : Int), 6 + 2 * (k : Int))] := by unfold uY; rw [List.range_succ, List.map_append]; rfl

set_option maxRecDepth 100000 in
set_option maxHeartbeats 4000000 in
theorem runique_none (k row most : Int) (N : Nat) (nx : Bool) (w : World) (h1 : 1 ≤ most) (h9 : most ≤ 999) (hr0 : 0 ≤ row) (hr9 : row ≤ 999) (hN9 : N ≤ 500) (hp : (N : Int) ≤ 0) (hr : row ≤ 0) :
    Calls Tryd.prog 31 #[.agg #[.int .i64 k, .bool nx, .int .i64 row, .int .i64 (N : Int)], .int .i64 most] w (RUniqueOut [] [] true w) := by
  have hw1 : IntKind.i64.wrap (row + 1) = row + 1 := by rw [IntKind.wrap_i64]; omega
  have hw2 : IntKind.i64.wrap (2 * (N : Int)) = 2 * (N : Int) := by rw [IntKind.wrap_i64]; omega
  have hN0 : (0 : Int) ≤ (N : Int) := by omega
  go_enter Tryd.func31, Tryd.ntmps31
  go_wp2_with fail
  go_ret3
  exact ⟨_, _, rfl, RdP.none _, RdP.none _, (Below.refl _ w).alloc (Nat.le_refl _) _⟩

set_option maxRecDepth 100000 in
set_option maxHeartbeats 4000000 in
theorem runique_late (k row most : Int) (N : Nat) (nx : Bool) (w : World) (h1 : 1 ≤ most) (h9 : most ≤ 999) (hr0 : 0 ≤ row) (hr9 : row ≤ 999) (hN9 : N ≤ 500) (hp : (N : Int) ≤ 0) (hr : 0 < row) (hm : most < row + 1) :
    Calls Tryd.prog 31 #[.agg #[.int .i64 k, .bool nx, .int .i64 row, .int .i64 (N : Int)], .int .i64 most] w (RUniqueOut [] [] true w) := by
  have hw1 : IntKind.i64.wrap (row + 1) = row + 1 := by rw [IntKind.wrap_i64]; omega
  have hw2 : IntKind.i64.wrap (2 * (N : Int)) = 2 * (N : Int) := by rw [IntKind.wrap_i64]; omega
  have hN0 : (0 : Int) ≤ (N : Int) := by omega
  go_enter Tryd.func31, Tryd.ntmps31
  go_wp2_with fail
  go_ret3
  exact ⟨_, _, rfl, RdP.none _, RdP.none _, (Below.refl _ w).alloc (Nat.le_refl _) _⟩

set_option maxRecDepth 100000 in
set_option maxHeartbeats 4000000 in
theorem runique_ff (k row most : Int) (N : Nat) (nx : Bool) (w : World) (h1 : 1 ≤ most) (h9 : most ≤ 999) (hr0 : 0 ≤ row) (hr9 : row ≤ 999) (hN9 : N ≤ 500) (hp : (N : Int) ≤ 0) (hr : 0 < row) (hm : row + 1 ≤ most) :
    Calls Tryd.prog 31 #[.agg #[.int .i64 k, .bool nx, .int .i64 row, .int .i64 (N : Int)], .int .i64 most] w (RUniqueOut [(1, row)] [(1, row + 1)] false w) := by
  have hw1 : IntKind.i64.wrap (row + 1) = row + 1 := by rw [IntKind.wrap_i64]; omega
  have hw2 : IntKind.i64.wrap (2 * (N : Int)) = 2 * (N : Int) := by rw [IntKind.wrap_i64]; omega
  have hN0 : (0 : Int) ≤ (N : Int) := by omega
  go_enter Tryd.func31, Tryd.ntmps31
  go_wp2_with fail
  go_ret3
  have bx1 := (Boxs.new (w.alloc (.cells #[.int .i64 k, .bool nx, .int .i64 row, .int .i64 (N : Int)] 24)) 68 #[.int .i64 1, .int .i64 row]).alloc (.cells #[.int .i64 1, .int .i64 (row + 1)] 68)
  have bx2 := Boxs.new ((w.alloc (.cells #[.int .i64 k, .bool nx, .int .i64 row, .int .i64 (N : Int)] 24)).alloc (.cells #[.int .i64 1, .int .i64 row] 68)) 68 #[.int .i64 1, .int .i64 (row + 1)]
  have z1 : (w.alloc (.cells #[.int .i64 k, .bool nx, .int .i64 row, .int .i64 (N : Int)] 24)).heap.size = w.heap.size + 1 := by simp
  have z2 : ((w.alloc (.cells #[.int .i64 k, .bool nx, .int .i64 row, .int .i64 (N : Int)] 24)).alloc (.cells #[.int .i64 1, .int .i64 row] 68)).heap.size = w.heap.size + 1 + 1 := by simp
  rw [z1] at bx1
  rw [z2] at bx2
  exact ⟨_, _, rfl, RdP_block (xs := [(1, row)]) bx1 rfl rfl (by omega), RdP_block (xs := [(1, row + 1)]) bx2 rfl rfl (by omega), (((Below.refl _ w).alloc (Nat.le_refl _) _).alloc (by simp) _).alloc (by simp; omega) _⟩

set_option maxRecDepth 100000 in
set_option maxHeartbeats 4000000 in
theorem runique_none2 (k row most : Int) (N : Nat) (nx : Bool) (w : World) (h1 : 1 ≤ most) (h9 : most ≤ 999) (hr0 : 0 ≤ row) (hr9 : row ≤ 999) (hN9 : N ≤ 500) (hp : 0 < (N : Int)) (hq : most < 2 * (N : Int)) (hr : row ≤ 0) :
    Calls Tryd.prog 31 #[.agg #[.int .i64 k, .bool nx, .int .i64 row, .int .i64 (N : Int)], .int .i64 most] w (RUniqueOut [] [] true w) := by
  have hw1 : IntKind.i64.wrap (row + 1) = row + 1 := by rw [IntKind.wrap_i64]; omega
  have hw2 : IntKind.i64.wrap (2 * (N : Int)) = 2 * (N : Int) := by rw [IntKind.wrap_i64]; omega
  have hN0 : (0 : Int) ≤ (N : Int) := by omega
  go_enter Tryd.func31, Tryd.ntmps31
  go_wp2_with fail
  go_ret3
  exact ⟨_, _, rfl, RdP.none _, RdP.none _, (Below.refl _ w).alloc (Nat.le_refl _) _⟩

set_option maxRecDepth 100000 in
set_option maxHeartbeats 4000000 in
theorem runique_late2 (k row most : Int) (N : Nat) (nx : Bool) (w : World) (h1 : 1 ≤ most) (h9 : most ≤ 999) (hr0 : 0 ≤ row) (hr9 : row ≤ 999) (hN9 : N ≤ 500) (hp : 0 < (N : Int)) (hq : most < 2 * (N : Int)) (hr : 0 < row) (hm : most < row + 1) :
    Calls Tryd.prog 31 #[.agg #[.int .i64 k, .bool nx, .int .i64 row, .int .i64 (N : Int)], .int .i64 most] w (RUniqueOut [] [] true w) := by
  have hw1 : IntKind.i64.wrap (row + 1) = row + 1 := by rw [IntKind.wrap_i64]; omega
  have hw2 : IntKind.i64.wrap (2 * (N : Int)) = 2 * (N : Int) := by rw [IntKind.wrap_i64]; omega
  have hN0 : (0 : Int) ≤ (N : Int) := by omega
  go_enter Tryd.func31, Tryd.ntmps31
  go_wp2_with fail
  go_ret3
  exact ⟨_, _, rfl, RdP.none _, RdP.none _, (Below.refl _ w).alloc (Nat.le_refl _) _⟩

set_option maxRecDepth 100000 in
set_option maxHeartbeats 4000000 in
theorem runique_ff2 (k row most : Int) (N : Nat) (nx : Bool) (w : World) (h1 : 1 ≤ most) (h9 : most ≤ 999) (hr0 : 0 ≤ row) (hr9 : row ≤ 999) (hN9 : N ≤ 500) (hp : 0 < (N : Int)) (hq : most < 2 * (N : Int)) (hr : 0 < row) (hm : row + 1 ≤ most) :
    Calls Tryd.prog 31 #[.agg #[.int .i64 k, .bool nx, .int .i64 row, .int .i64 (N : Int)], .int .i64 most] w (RUniqueOut [(1, row)] [(1, row + 1)] false w) := by
  have hw1 : IntKind.i64.wrap (row + 1) = row + 1 := by rw [IntKind.wrap_i64]; omega
  have hw2 : IntKind.i64.wrap (2 * (N : Int)) = 2 * (N : Int) := by rw [IntKind.wrap_i64]; omega
  have hN0 : (0 : Int) ≤ (N : Int) := by omega
  go_enter Tryd.func31, Tryd.ntmps31
  go_wp2_with fail
  go_ret3
  have bx1 := (Boxs.new (w.alloc (.cells #[.int .i64 k, .bool nx, .int .i64 row, .int .i64 (N : Int)] 24)) 68 #[.int .i64 1, .int .i64 row]).alloc (.cells #[.int .i64 1, .int .i64 (row + 1)] 68)
  have bx2 := Boxs.new ((w.alloc (.cells #[.int .i64 k, .bool nx, .int .i64 row, .int .i64 (N : Int)] 24)).alloc (.cells #[.int .i64 1, .int .i64 row] 68)) 68 #[.int .i64 1, .int .i64 (row + 1)]
  have z1 : (w.alloc (.cells #[.int .i64 k, .bool nx, .int .i64 row, .int .i64 (N : Int)] 24)).heap.size = w.heap.size + 1 := by simp
  have z2 : ((w.alloc (.cells #[.int .i64 k, .bool nx, .int .i64 row, .int .i64 (N : Int)] 24)).alloc (.cells #[.int .i64 1, .int .i64 row] 68)).heap.size = w.heap.size + 1 + 1 := by simp
  rw [z1] at bx1
  rw [z2] at bx2
  exact ⟨_, _, rfl, RdP_block (xs := [(1, row)]) bx1 rfl rfl (by omega), RdP_block (xs := [(1, row + 1)]) bx2 rfl rfl (by omega), (((Below.refl _ w).alloc (Nat.le_refl _) _).alloc (by simp) _).alloc (by simp; omega) _⟩

set_option maxRecDepth 100000 in
set_option maxHeartbeats 4000000 in
theorem runique_ff3 (k row most : Int) (N : Nat) (nx : Bool) (w : World) (h1 : 1 ≤ most) (h9 : most ≤ 999) (hr0 : 0 ≤ row) (hr9 : row ≤ 999) (hN9 : N ≤ 500) (hp : 0 < (N : Int)) (hq : 2 * (N : Int) ≤ most) (hr : 0 < row) (hm : row + 1 < 2 * (N : Int)) :
    Calls Tryd.prog 31 #[.agg #[.int .i64 k, .bool nx, .int .i64 row, .int .i64 (N : Int)], .int .i64 most] w (RUniqueOut [(1, row)] [(1, row + 1)] false w) := by
  have hw1 : IntKind.i64.wrap (row + 1) = row + 1 := by rw [IntKind.wrap_i64]; omega
  have hw2 : IntKind.i64.wrap (2 * (N : Int)) = 2 * (N : Int) := by rw [IntKind.wrap_i64]; omega
  have hN0 : (0 : Int) ≤ (N : Int) := by omega
  have hm2 : row + 1 ≤ most := by omega
  have hrb : (row == 0) = false := by rw [beq_eq_false_iff_ne]; omega
  have hm3 : ¬ 2 * (N : Int) ≤ row + 1 := by omega
  go_enter Tryd.func31, Tryd.ntmps31
  go_wp2_with fail
  go_ret3
  have bx1 := (Boxs.new (w.alloc (.cells #[.int .i64 k, .bool nx, .int .i64 row, .int .i64 (N : Int)] 24)) 68 #[.int .i64 1, .int .i64 row]).alloc (.cells #[.int .i64 1, .int .i64 (row + 1)] 68)
  have bx2 := Boxs.new ((w.alloc (.cells #[.int .i64 k, .bool nx, .int .i64 row, .int .i64 (N : Int)] 24)).alloc (.cells #[.int .i64 1, .int .i64 row] 68)) 68 #[.int .i64 1, .int .i64 (row + 1)]
  have z1 : (w.alloc (.cells #[.int .i64 k, .bool nx, .int .i64 row, .int .i64 (N : Int)] 24)).heap.size = w.heap.size + 1 := by simp
  have z2 : ((w.alloc (.cells #[.int .i64 k, .bool nx, .int .i64 row, .int .i64 (N : Int)] 24)).alloc (.cells #[.int .i64 1, .int .i64 row] 68)).heap.size = w.heap.size + 1 + 1 := by simp
  rw [z1] at bx1
  rw [z2] at bx2
  exact ⟨_, _, rfl, RdP_block (xs := [(1, row)]) bx1 rfl rfl (by omega), RdP_block (xs := [(1, row + 1)]) bx2 rfl rfl (by omega), (((Below.refl _ w).alloc (Nat.le_refl _) _).alloc (by simp) _).alloc (by simp; omega) _⟩

set_option maxRecDepth 100000 in
set_option maxHeartbeats 4000000 in
theorem runique_pas (k row most : Int) (N : Nat) (nx : Bool) (w : World) (h1 : 1 ≤ most) (h9 : most ≤ 999) (hr0 : 0 ≤ row) (hr9 : row ≤ 999) (hN9 : N ≤ 500) (hp : 2 ≤ N) (hq : 2 * (N : Int) ≤ most) (hr : row ≤ 0) :
    Calls Tryd.prog 31 #[.agg #[.int .i64 k, .bool nx, .int .i64 row, .int .i64 (N : Int)], .int .i64 most] w (RUniqueOut (pasX N) (pasY N) false w) := by
  have hw1 : IntKind.i64.wrap (row + 1) = row + 1 := by rw [IntKind.wrap_i64]; omega
  have hw2 : IntKind.i64.wrap (2 * (N : Int)) = 2 * (N : Int) := by rw [IntKind.wrap_i64]; omega
  have hN0 : (0 : Int) ≤ (N : Int) := by omega
  have hp0 : 0 < (N : Int) := by omega
  have hrb : (row == 0) = true := by rw [beq_iff_eq]; omega
  obtain ⟨i0, hi0, hz0, hz1, hz2⟩ := info_parts Tryd.info68
  have HI := Lib.hid hi0; have HZ0 := Lib.hid hz0; have HZ1 := Lib.hid hz1; have HZ2 := Lib.hid hz2
  clear hi0 hz0 hz1 hz2
  have z1 : (w.alloc (.cells #[.int .i64 k, .bool nx, .int .i64 row, .int .i64 (N : Int)] 24)).heap.size = w.heap.size + 1 := by simp
  have z2 : ((w.alloc (.cells #[.int .i64 k, .bool nx, .int .i64 row, .int .i64 (N : Int)] 24)).alloc (.cells #[.int .i64 1, .int .i64 2, .int .i64 4, .int .i64 4] 68)).heap.size = w.heap.size + 2 := by simp
  have OA : (((w.alloc (.cells #[.int .i64 k, .bool nx, .int .i64 row, .int .i64 (N : Int)] 24)).alloc (.cells #[.int .i64 1, .int .i64 2, .int .i64 4, .int .i64 4] 68)).alloc (.cells #[.int .i64 1, .int .i64 1, .int .i64 3, .int .i64 4] 68)).ownsRow w.heap.size 68 2 (.slice (some ⟨w.heap.size + 1, 0, none⟩) 2 2) 2 (prs (uX 0)) := by
    have bx := (Boxs.new (w.alloc (.cells #[.int .i64 k, .bool nx, .int .i64 row, .int .i64 (N : Int)] 24)) 68 #[.int .i64 1, .int .i64 2, .int .i64 4, .int .i64 4]).alloc (.cells #[.int .i64 1, .int .i64 1, .int .i64 3, .int .i64 4] 68)
    rw [z1] at bx
    exact owns_block bx (by omega) rfl rfl (by omega)
  have OB : (((w.alloc (.cells #[.int .i64 k, .bool nx, .int .i64 row, .int .i64 (N : Int)] 24)).alloc (.cells #[.int .i64 1, .int .i64 2, .int .i64 4, .int .i64 4] 68)).alloc (.cells #[.int .i64 1, .int .i64 1, .int .i64 3, .int .i64 4] 68)).ownsRow w.heap.size 68 2 (.slice (some ⟨w.heap.size + 2, 0, none⟩) 2 2) 2 (prs (uY 0)) := by
    have bx := Boxs.new ((w.alloc (.cells #[.int .i64 k, .bool nx, .int .i64 row, .int .i64 (N : Int)] 24)).alloc (.cells #[.int .i64 1, .int .i64 2, .int .i64 4, .int .i64 4] 68)) 68 #[.int .i64 1, .int .i64 1, .int .i64 3, .int .i64 4]
    rw [z2] at bx
    exact owns_block bx (by omega) rfl rfl (by omega)
  have bS : Boxs (((w.alloc (.cells #[.int .i64 k, .bool nx, .int .i64 row, .int .i64 (N : Int)] 24)).alloc (.cells #[.int .i64 1, .int .i64 2, .int .i64 4, .int .i64 4] 68)).alloc (.cells #[.int .i64 1, .int .i64 1, .int .i64 3, .int .i64 4] 68)) w.heap.size 24 #[.int .i64 k, .bool nx, .int .i64 row, .int .i64 (N : Int)] := ((Boxs.new w 24 #[.int .i64 k, .bool nx, .int .i64 row, .int .i64 (N : Int)]).alloc (.cells #[.int .i64 1, .int .i64 2, .int .i64 4, .int .i64 4] 68)).alloc (.cells #[.int .i64 1, .int .i64 1, .int .i64 3, .int .i64 4] 68)
  have HB := Lib.hid ((((Below.refl w.heap.size w).alloc (Nat.le_refl _) (.cells #[.int .i64 k, .bool nx, .int .i64 row, .int .i64 (N : Int)] 24)).alloc (by simp) (.cells #[.int .i64 1, .int .i64 2, .int .i64 4, .int .i64 4] 68)).alloc (by simp; omega) (.cells #[.int .i64 1, .int .i64 1, .int .i64 3, .int .i64 4] 68))
  have HOA := Lib.hid OA; have HOB := Lib.hid OB; have HBS := Lib.hid bS
  clear OA OB bS z1 z2
  go_enter Tryd.func31, Tryd.ntmps31
  go_wp2_with fail
  generalize ((w.alloc (.cells #[.int .i64 k, .bool nx, .int .i64 row, .int .i64 (N : Int)] 24)).alloc (.cells #[.int .i64 1, .int .i64 2, .int .i64 4, .int .i64 4] 68)).alloc (.cells #[.int .i64 1, .int .i64 1, .int .i64 3, .int .i64 4] 68) = w1 at *
  go_loopw [9, 10, 11] (fun va vb i wr => ∃ q ga ca gb cb : Nat, q + 2 ≤ N ∧ i = .int .i64 (3 + (q : Int)) ∧ va = .slice (some ⟨ga, 0, none⟩) (q + 2) ca ∧ vb = .slice (some ⟨gb, 0, none⟩) (q + 2) cb ∧ ga ≠ gb ∧ w.heap.size < ga ∧ w.heap.size < gb ∧ wr.ownsRow w.heap.size 68 2 va (q + 2) (prs (uX q)) ∧ wr.ownsRow w.heap.size 68 2 vb (q + 2) (prs (uY q)) ∧ Boxs wr w.heap.size 24 #[.int .i64 k, .bool nx, .int .i64 row, .int .i64 (N : Int)] ∧ Below w.heap.size w wr) (fun _ _ i _ => N + 1 - (intOf i).toNat)
  case atStart => exact ⟨0, _, _, _, _, by omega, rfl, rfl, rfl, by omega, by omega, by omega, HOA.out, HOB.out, HBS.out, HB.out⟩
  case round =>
    obtain ⟨q, ga, ca, gb, cb, hq, rfl, rfl, rfl, hab, hga, hgb, hoa, hob, hbs, hbl⟩ := hrel
    have hc3 := hbs.cell 3
    simp at hc3
    have hq0 : (0 : Int) ≤ (q : Int) := by omega
    have hq9 : (q : Int) ≤ 500 := by omega
    have HOA := Lib.hid hoa; have HOB := Lib.hid hob; have HBS := Lib.hid hbs; have HBL := Lib.hid hbl
    clear hoa hob hbs hbl
    by_cases hlt : q + 2 < N
    · have hlti : 3 + (q : Int) ≤ (N : Int) := by omega
      have hw3 : IntKind.i64.wrap (2 * (3 + (q : Int))) = 6 + 2 * (q : Int) := by rw [IntKind.wrap_i64]; omega
      have hlb := (HOB.out.lt gb rfl).2
      have hla := (HOA.out.lt ga rfl).2
      have hsw := HBL.out.size
      have HN1 := Lib.hid (show ∀ j u, ([.int .i64 (6 + 2 * (q : Int)), .int .i64 (6 + 2 * (q : Int))] : List Value)[j]? = some u → (wr.alloc (.cells #[.int .i64 (6 + 2 * (q : Int)), .int .i64 (6 + 2 * (q : Int))] 68)).cell? ((⟨wr.heap.size, 0, none⟩ : Addr).add j) = some u from World.news_of_block (cs := #[.int .i64 (6 + 2 * (q : Int)), .int .i64 (6 + 2 * (q : Int))]) (t := 68) (fr := (0, 0)) (heap_alloc_new _ _))
      go_wp2_with (at_builtin; first
        | (refine wpList_append_lies _ rfl _ _ _ rfl w.heap.size 68 i0 _ 2 16 Tryd.underlying28 HI.out HZ0.out HZ1.out HZ2.out rfl (by omega) _ (q + 2) (prs (uX q)) rfl (HOA.out.alloc _) ⟨wr.heap.size, 0, none⟩ 1 1 [.int .i64 (6 + 2 * (q : Int)), .int .i64 (6 + 2 * (q : Int))] rfl rfl HN1.out (by simp [Value.oneCell']) (by omega) (by unfold maxLen; omega) (by omega) (by simp; omega) (wr.heap.size + 1) (by simp) ?_
           intro gg cap2 w3 hown1 hgrow hat hltg
           have HOB3 := Lib.hid (owns_grown (HOB.out.alloc (.cells #[.int .i64 (6 + 2 * (q : Int)), .int .i64 (6 + 2 * (q : Int))] 68)) hgrow (fun g hg => by cases hg; intro e; exact hab (by cases e; rfl)))
           have HN2 := Lib.hid (show ∀ j u, ([.int .i64 (6 + 2 * (q : Int)), .int .i64 (6 + 2 * (q : Int))] : List Value)[j]? = some u → (w3.alloc (.cells #[.int .i64 (6 + 2 * (q : Int)), .int .i64 (6 + 2 * (q : Int))] 68)).cell? ((⟨w3.heap.size, 0, none⟩ : Addr).add j) = some u from World.news_of_block (cs := #[.int .i64 (6 + 2 * (q : Int)), .int .i64 (6 + 2 * (q : Int))]) (t := 68) (fr := (0, 0)) (heap_alloc_new _ _))
           have HS3 := Lib.hid hgrow.size)
        | (refine wpList_append_lies _ rfl _ _ _ rfl w.heap.size 68 i0 _ 2 16 Tryd.underlying28 HI.out HZ0.out HZ1.out HZ2.out rfl (by omega) _ (q + 2) (prs (uY q)) rfl (HOB3.out.alloc _) ⟨w3.heap.size, 0, none⟩ 1 1 [.int .i64 (6 + 2 * (q : Int)), .int .i64 (6 + 2 * (q : Int))] rfl rfl HN2.out (by simp [Value.oneCell']) (by omega) (by unfold maxLen; omega) (by omega) (by have := HS3.out; simp at this ⊢; omega) (w3.heap.size + 1) (by simp) ?_
           intro gg2 cap3 w4 hown2 hgrow2 hat2 hltg2))
      have hgg : gg = ga ∨ gg = wr.heap.size + 1 := hat.elim (fun e => .inl (by cases e; rfl)) .inr
      have hgg2 : gg2 = gb ∨ gg2 = w3.heap.size + 1 := hat2.elim (fun e => .inl (by cases e; rfl)) .inr
      have hs3 := HS3.out
      simp at hs3
      have hn1 : gg ≠ gb := by omega
      have hn2 : gg ≠ gg2 := by omega
      have HO1 := Lib.hid (owns_grown (hown1.alloc (.cells #[.int .i64 (6 + 2 * (q : Int)), .int .i64 (6 + 2 * (q : Int))] 68)) hgrow2 (fun g hg => by cases hg; intro e; exact hn1 (by cases e; rfl)))
      have HO2 := Lib.hid hown2
      have HBS4 := Lib.hid (((((HBS.out.alloc (.cells #[.int .i64 (6 + 2 * (q : Int)), .int .i64 (6 + 2 * (q : Int))] 68)).kept hgrow (by show some w.heap.size ≠ some ga; simp; omega)).alloc (.cells #[.int .i64 (6 + 2 * (q : Int)), .int .i64 (6 + 2 * (q : Int))] 68)).kept hgrow2 (by show some w.heap.size ≠ some gb; simp; omega)))
      have HBL4 := Lib.hid ((((HBL.out.alloc hsw (.cells #[.int .i64 (6 + 2 * (q : Int)), .int .i64 (6 + 2 * (q : Int))] 68)).grown hgrow (by simp; omega) (fun j e => by cases e; exact Nat.le_of_lt hga)).alloc (by omega) (.cells #[.int .i64 (6 + 2 * (q : Int)), .int .i64 (6 + 2 * (q : Int))] 68)).grown hgrow2 (by simp; omega) (fun j e => by cases e; exact Nat.le_of_lt hgb))
      clear hown1 hown2 hgrow hgrow2 hat hat2
      go_roundw
      case rel => exact ⟨q + 1, gg, cap2, gg2, cap3, by omega, by go_num, rfl, rfl, hn2, by omega, by omega, by rw [uX_succ, prs_snoc]; exact HO1.out, by rw [uY_succ, prs_snoc]; exact HO2.out, HBS4.out, HBL4.out⟩
      case measure => simp [intOf]; omega
    · have hlti : ¬ 3 + (q : Int) ≤ (N : Int) := by omega
      go_wp2_with fail
      go_ret3
      have e2 : N - 2 = q := by omega
      refine ⟨_, _, rfl, ?_, ?_, HBL.out⟩
      · rw [show pasX N = uX q by unfold pasX uX; rw [e2]]; exact RdP_of_owns HOA.out
      · rw [show pasY N = uY q by unfold pasY uY; rw [e2]]; exact RdP_of_owns HOB.out

set_option maxRecDepth 100000 in
set_option maxHeartbeats 4000000 in
theorem runique_pas2 (k row most : Int) (N : Nat) (nx : Bool) (w : World) (h1 : 1 ≤ most) (h9 : most ≤ 999) (hr0 : 0 ≤ row) (hr9 : row ≤ 999) (hN9 : N ≤ 500) (hp : 2 ≤ N) (hq : 2 * (N : Int) ≤ most) (hr : 0 < row) (hm : 2 * (N : Int) ≤ row + 1) :
    Calls Tryd.prog 31 #[.agg #[.int .i64 k, .bool nx, .int .i64 row, .int .i64 (N : Int)], .int .i64 most] w (RUniqueOut (pasX N) (pasY N) false w) := by
  have hw1 : IntKind.i64.wrap (row + 1) = row + 1 := by rw [IntKind.wrap_i64]; omega
  have hw2 : IntKind.i64.wrap (2 * (N : Int)) = 2 * (N : Int) := by rw [IntKind.wrap_i64]; omega
  have hN0 : (0 : Int) ≤ (N : Int) := by omega
  have hp0 : 0 < (N : Int) := by omega
  have hrb : (row == 0) = false := by rw [beq_eq_false_iff_ne]; omega
  obtain ⟨i0, hi0, hz0, hz1, hz2⟩ := info_parts Tryd.info68
  have HI := Lib.hid hi0; have HZ0 := Lib.hid hz0; have HZ1 := Lib.hid hz1; have HZ2 := Lib.hid hz2
  clear hi0 hz0 hz1 hz2
  have z1 : (w.alloc (.cells #[.int .i64 k, .bool nx, .int .i64 row, .int .i64 (N : Int)] 24)).heap.size = w.heap.size + 1 := by simp
  have z2 : ((w.alloc (.cells #[.int .i64 k, .bool nx, .int .i64 row, .int .i64 (N : Int)] 24)).alloc (.cells #[.int .i64 1, .int .i64 2, .int .i64 4, .int .i64 4] 68)).heap.size = w.heap.size + 2 := by simp
  have OA : (((w.alloc (.cells #[.int .i64 k, .bool nx, .int .i64 row, .int .i64 (N : Int)] 24)).alloc (.cells #[.int .i64 1, .int .i64 2, .int .i64 4, .int .i64 4] 68)).alloc (.cells #[.int .i64 1, .int .i64 1, .int .i64 3, .int .i64 4] 68)).ownsRow w.heap.size 68 2 (.slice (some ⟨w.heap.size + 1, 0, none⟩) 2 2) 2 (prs (uX 0)) := by
    have bx := (Boxs.new (w.alloc (.cells #[.int .i64 k, .bool nx, .int .i64 row, .int .i64 (N : Int)] 24)) 68 #[.int .i64 1, .int .i64 2, .int .i64 4, .int .i64 4]).alloc (.cells #[.int .i64 1, .int .i64 1, .int .i64 3, .int .i64 4] 68)
    rw [z1] at bx
    exact owns_block bx (by omega) rfl rfl (by omega)
  have OB : (((w.alloc (.cells #[.int .i64 k, .bool nx, .int .i64 row, .int .i64 (N : Int)] 24)).alloc (.cells #[.int .i64 1, .int .i64 2, .int .i64 4, .int .i64 4] 68)).alloc (.cells #[.int .i64 1, .int .i64 1, .int .i64 3, .int .i64 4] 68)).ownsRow w.heap.size 68 2 (.slice (some ⟨w.heap.size + 2, 0, none⟩) 2 2) 2 (prs (uY 0)) := by
    have bx := Boxs.new ((w.alloc (.cells #[.int .i64 k, .bool nx, .int .i64 row, .int .i64 (N : Int)] 24)).alloc (.cells #[.int .i64 1, .int .i64 2, .int .i64 4, .int .i64 4] 68)) 68 #[.int .i64 1, .int .i64 1, .int .i64 3, .int .i64 4]
    rw [z2] at bx
    exact owns_block bx (by omega) rfl rfl (by omega)
  have bS : Boxs (((w.alloc (.cells #[.int .i64 k, .bool nx, .int .i64 row, .int .i64 (N : Int)] 24)).alloc (.cells #[.int .i64 1, .int .i64 2, .int .i64 4, .int .i64 4] 68)).alloc (.cells #[.int .i64 1, .int .i64 1, .int .i64 3, .int .i64 4] 68)) w.heap.size 24 #[.int .i64 k, .bool nx, .int .i64 row, .int .i64 (N : Int)] := ((Boxs.new w 24 #[.int .i64 k, .bool nx, .int .i64 row, .int .i64 (N : Int)]).alloc (.cells #[.int .i64 1, .int .i64 2, .int .i64 4, .int .i64 4] 68)).alloc (.cells #[.int .i64 1, .int .i64 1, .int .i64 3, .int .i64 4] 68)
  have HB := Lib.hid ((((Below.refl w.heap.size w).alloc (Nat.le_refl _) (.cells #[.int .i64 k, .bool nx, .int .i64 row, .int .i64 (N : Int)] 24)).alloc (by simp) (.cells #[.int .i64 1, .int .i64 2, .int .i64 4, .int .i64 4] 68)).alloc (by simp; omega) (.cells #[.int .i64 1, .int .i64 1, .int .i64 3, .int .i64 4] 68))
  have HOA := Lib.hid OA; have HOB := Lib.hid OB; have HBS := Lib.hid bS
  clear OA OB bS z1 z2
  go_enter Tryd.func31, Tryd.ntmps31
  go_wp2_with fail
  generalize ((w.alloc (.cells #[.int .i64 k, .bool nx, .int .i64 row, .int .i64 (N : Int)] 24)).alloc (.cells #[.int .i64 1, .int .i64 2, .int .i64 4, .int .i64 4] 68)).alloc (.cells #[.int .i64 1, .int .i64 1, .int .i64 3, .int .i64 4] 68) = w1 at *
  go_loopw [9, 10, 11] (fun va vb i wr => ∃ q ga ca gb cb : Nat, q + 2 ≤ N ∧ i = .int .i64 (3 + (q : Int)) ∧ va = .slice (some ⟨ga, 0, none⟩) (q + 2) ca ∧ vb = .slice (some ⟨gb, 0, none⟩) (q + 2) cb ∧ ga ≠ gb ∧ w.heap.size < ga ∧ w.heap.size < gb ∧ wr.ownsRow w.heap.size 68 2 va (q + 2) (prs (uX q)) ∧ wr.ownsRow w.heap.size 68 2 vb (q + 2) (prs (uY q)) ∧ Boxs wr w.heap.size 24 #[.int .i64 k, .bool nx, .int .i64 row, .int .i64 (N : Int)] ∧ Below w.heap.size w wr) (fun _ _ i _ => N + 1 - (intOf i).toNat)
  case atStart => exact ⟨0, _, _, _, _, by omega, rfl, rfl, rfl, by omega, by omega, by omega, HOA.out, HOB.out, HBS.out, HB.out⟩
  case round =>
    obtain ⟨q, ga, ca, gb, cb, hq, rfl, rfl, rfl, hab, hga, hgb, hoa, hob, hbs, hbl⟩ := hrel
    have hc3 := hbs.cell 3
    simp at hc3
    have hq0 : (0 : Int) ≤ (q : Int) := by omega
    have hq9 : (q : Int) ≤ 500 := by omega
    have HOA := Lib.hid hoa; have HOB := Lib.hid hob; have HBS := Lib.hid hbs; have HBL := Lib.hid hbl
    clear hoa hob hbs hbl
    by_cases hlt : q + 2 < N
    · have hlti : 3 + (q : Int) ≤ (N : Int) := by omega
      have hw3 : IntKind.i64.wrap (2 * (3 + (q : Int))) = 6 + 2 * (q : Int) := by rw [IntKind.wrap_i64]; omega
      have hlb := (HOB.out.lt gb rfl).2
      have hla := (HOA.out.lt ga rfl).2
      have hsw := HBL.out.size
      have HN1 := Lib.hid (show ∀ j u, ([.int .i64 (6 + 2 * (q : Int)), .int .i64 (6 + 2 * (q : Int))] : List Value)[j]? = some u → (wr.alloc (.cells #[.int .i64 (6 + 2 * (q : Int)), .int .i64 (6 + 2 * (q : Int))] 68)).cell? ((⟨wr.heap.size, 0, none⟩ : Addr).add j) = some u from World.news_of_block (cs := #[.int .i64 (6 + 2 * (q : Int)), .int .i64 (6 + 2 * (q : Int))]) (t := 68) (fr := (0, 0)) (heap_alloc_new _ _))
      go_wp2_with (at_builtin; first
        | (refine wpList_append_lies _ rfl _ _ _ rfl w.heap.size 68 i0 _ 2 16 Tryd.underlying28 HI.out HZ0.out HZ1.out HZ2.out rfl (by omega) _ (q + 2) (prs (uX q)) rfl (HOA.out.alloc _) ⟨wr.heap.size, 0, none⟩ 1 1 [.int .i64 (6 + 2 * (q : Int)), .int .i64 (6 + 2 * (q : Int))] rfl rfl HN1.out (by simp [Value.oneCell']) (by omega) (by unfold maxLen; omega) (by omega) (by simp; omega) (wr.heap.size + 1) (by simp) ?_
           intro gg cap2 w3 hown1 hgrow hat hltg
           have HOB3 := Lib.hid (owns_grown (HOB.out.alloc (.cells #[.int .i64 (6 + 2 * (q : Int)), .int .i64 (6 + 2 * (q : Int))] 68)) hgrow (fun g hg => by cases hg; intro e; exact hab (by cases e; rfl)))
           have HN2 := Lib.hid (show ∀ j u, ([.int .i64 (6 + 2 * (q : Int)), .int .i64 (6 + 2 * (q : Int))] : List Value)[j]? = some u → (w3.alloc (.cells #[.int .i64 (6 + 2 * (q : Int)), .int .i64 (6 + 2 * (q : Int))] 68)).cell? ((⟨w3.heap.size, 0, none⟩ : Addr).add j) = some u from World.news_of_block (cs := #[.int .i64 (6 + 2 * (q : Int)), .int .i64 (6 + 2 * (q : Int))]) (t := 68) (fr := (0, 0)) (heap_alloc_new _ _))
           have HS3 := Lib.hid hgrow.size)
        | (refine wpList_append_lies _ rfl _ _ _ rfl w.heap.size 68 i0 _ 2 16 Tryd.underlying28 HI.out HZ0.out HZ1.out HZ2.out rfl (by omega) _ (q + 2) (prs (uY q)) rfl (HOB3.out.alloc _) ⟨w3.heap.size, 0, none⟩ 1 1 [.int .i64 (6 + 2 * (q : Int)), .int .i64 (6 + 2 * (q : Int))] rfl rfl HN2.out (by simp [Value.oneCell']) (by omega) (by unfold maxLen; omega) (by omega) (by have := HS3.out; simp at this ⊢; omega) (w3.heap.size + 1) (by simp) ?_
           intro gg2 cap3 w4 hown2 hgrow2 hat2 hltg2))
      have hgg : gg = ga ∨ gg = wr.heap.size + 1 := hat.elim (fun e => .inl (by cases e; rfl)) .inr
      have hgg2 : gg2 = gb ∨ gg2 = w3.heap.size + 1 := hat2.elim (fun e => .inl (by cases e; rfl)) .inr
      have hs3 := HS3.out
      simp at hs3
      have hn1 : gg ≠ gb := by omega
      have hn2 : gg ≠ gg2 := by omega
      have HO1 := Lib.hid (owns_grown (hown1.alloc (.cells #[.int .i64 (6 + 2 * (q : Int)), .int .i64 (6 + 2 * (q : Int))] 68)) hgrow2 (fun g hg => by cases hg; intro e; exact hn1 (by cases e; rfl)))
      have HO2 := Lib.hid hown2
      have HBS4 := Lib.hid (((((HBS.out.alloc (.cells #[.int .i64 (6 + 2 * (q : Int)), .int .i64 (6 + 2 * (q : Int))] 68)).kept hgrow (by show some w.heap.size ≠ some ga; simp; omega)).alloc (.cells #[.int .i64 (6 + 2 * (q : Int)), .int .i64 (6 + 2 * (q : Int))] 68)).kept hgrow2 (by show some w.heap.size ≠ some gb; simp; omega)))
      have HBL4 := Lib.hid ((((HBL.out.alloc hsw (.cells #[.int .i64 (6 + 2 * (q : Int)), .int .i64 (6 + 2 * (q : Int))] 68)).grown hgrow (by simp; omega) (fun j e => by cases e; exact Nat.le_of_lt hga)).alloc (by omega) (.cells #[.int .i64 (6 + 2 * (q : Int)), .int .i64 (6 + 2 * (q : Int))] 68)).grown hgrow2 (by simp; omega) (fun j e => by cases e; exact Nat.le_of_lt hgb))
      clear hown1 hown2 hgrow hgrow2 hat hat2
      go_roundw
      case rel => exact ⟨q + 1, gg, cap2, gg2, cap3, by omega, by go_num, rfl, rfl, hn2, by omega, by omega, by rw [uX_succ, prs_snoc]; exact HO1.out, by rw [uY_succ, prs_snoc]; exact HO2.out, HBS4.out, HBL4.out⟩
      case measure => simp [intOf]; omega
    · have hlti : ¬ 3 + (q : Int) ≤ (N : Int) := by omega
      go_wp2_with fail
      go_ret3
      have e2 : N - 2 = q := by omega
      refine ⟨_, _, rfl, ?_, ?_, HBL.out⟩
      · rw [show pasX N = uX q by unfold pasX uX; rw [e2]]; exact RdP_of_owns HOA.out
      · rw [show pasY N = uY q by unfold pasY uY; rw [e2]]; exact RdP_of_owns HOB.out

theorem runique_any (s : Sty) (most : Int) (w : World) (hs : okSty s) (h1 : 1 ≤ most) (h9 : most ≤ 999) :
    Calls Tryd.prog 31 #[styV s, .int .i64 most] w (RUniqueOut (uniqA s most) (uniqB s most) (uniqIs s most) w) := by
  obtain ⟨k, nx, row, pas⟩ := s
  have hs' := hs
  obtain ⟨_, _, hr0, _, hr9, hp0, hp1, hp9⟩ := hs'
  dsimp only at hr0 hr9 hp0 hp1 hp9
  obtain ⟨N, rfl⟩ : ∃ N : Nat, pas = (N : Int) := ⟨pas.toNat, by omega⟩
  have hN9 : N ≤ 500 := by omega
  by_cases hp : (N : Int) ≤ 0
  · by_cases hr : row ≤ 0
    · obtain ⟨e1, e2, e3⟩ := uniq_no (s := ⟨k, nx, row, N⟩) (most := most) (by dsimp only; omega) (by dsimp only; omega)
      rw [e1, e2, e3]; exact runique_none k row most N nx w h1 h9 hr0 hr9 hN9 hp hr
    · by_cases hm : row + 1 ≤ most
      · obtain ⟨e1, e2, e3⟩ := uniq_ff (s := ⟨k, nx, row, N⟩) (most := most) (by dsimp only; omega) (by dsimp only; omega)
        rw [e1, e2, e3]; exact runique_ff k row most N nx w h1 h9 hr0 hr9 hN9 hp (by omega) hm
      · obtain ⟨e1, e2, e3⟩ := uniq_no (s := ⟨k, nx, row, N⟩) (most := most) (by dsimp only; omega) (by dsimp only; omega)
        rw [e1, e2, e3]; exact runique_late k row most N nx w h1 h9 hr0 hr9 hN9 hp (by omega) (by omega)
  · by_cases hr : row ≤ 0
    · by_cases hm : 2 * (N : Int) ≤ most
      · obtain ⟨e1, e2, e3⟩ := uniq_pas (s := ⟨k, nx, row, N⟩) (most := most) (by dsimp only; omega)
        rw [e1, e2, e3]; exact runique_pas k row most N nx w h1 h9 hr0 hr9 hN9 (by omega) hm hr
      · obtain ⟨e1, e2, e3⟩ := uniq_no (s := ⟨k, nx, row, N⟩) (most := most) (by dsimp only; omega) (by dsimp only; omega)
        rw [e1, e2, e3]; exact runique_none2 k row most N nx w h1 h9 hr0 hr9 hN9 (by omega) (by omega) hr
    · by_cases hm : 2 * (N : Int) ≤ most
      · by_cases hl : row + 1 < 2 * (N : Int)
        · obtain ⟨e1, e2, e3⟩ := uniq_ff (s := ⟨k, nx, row, N⟩) (most := most) (by dsimp only; omega) (by dsimp only; omega)
          rw [e1, e2, e3]; exact runique_ff3 k row most N nx w h1 h9 hr0 hr9 hN9 (by omega) hm (by omega) hl
        · obtain ⟨e1, e2, e3⟩ := uniq_pas (s := ⟨k, nx, row, N⟩) (most := most) (by dsimp only; omega)
          rw [e1, e2, e3]; exact runique_pas2 k row most N nx w h1 h9 hr0 hr9 hN9 (by omega) hm (by omega) (by omega)
      · by_cases hf : row + 1 ≤ most
        · obtain ⟨e1, e2, e3⟩ := uniq_ff (s := ⟨k, nx, row, N⟩) (most := most) (by dsimp only; omega) (by dsimp only; omega)
          rw [e1, e2, e3]; exact runique_ff2 k row most N nx w h1 h9 hr0 hr9 hN9 (by omega) (by omega) (by omega) hf
        · obtain ⟨e1, e2, e3⟩ := uniq_no (s := ⟨k, nx, row, N⟩) (most := most) (by dsimp only; omega) (by dsimp only; omega)
          rw [e1, e2, e3]; exact runique_late2 k row most N nx w h1 h9 hr0 hr9 hN9 (by omega) (by omega) (by omega) (by omega)
end Go.Proofs.YtecdkpcapalifaaDoor

namespace Go.Proofs.YtecdkpcapalifaaDoor
open Go.RowKit Go.Maps

def lastOver (most : Int) (l : List Sp) : Bool := match l.getLast? with | some x => decide (most < x.2) | none => false
def lateS (most : Int) (l : List Sp) : Bool := !nrm l || lastOver most l
theorem lastOver_nil (most : Int) : lastOver most [] = false := rfl
theorem lastOver_snoc (most : Int) (M : List Sp) (x : Sp) : lastOver most (M ++ [x]) = decide (most < x.2) := by unfold lastOver; rw [List.getLast?_concat]

set_option maxRecDepth 100000 in
set_option maxHeartbeats 4000000 in
theorem late_any (v : Value) (l : List Sp) (Bm : Nat) (most : Int) (w : World) (h : RdP w v l) (hl : l.length ≤ 1000) (hm : Boxs w Bm 3 #[.int .i64 most]) :
    Calls Tryd.prog 55 #[v, .pointer (some ⟨Bm, 0, none⟩)] w fun e w' => e = .returned (.bool (lateS most l)) ∧ Below w.heap.size w w' := by
  have NM := normal_any v l (w.drewN 1) h (by omega)
  have HR := Lib.hid h
  have m0 := hm.cell 0
  have hml := hm.lt
  simp at m0
  cases hn : nrm l
  · have hr : lateS most l = true := by unfold lateS; rw [hn]; rfl
    rw [hn] at NM
    rw [hr]
    obtain ⟨a, c, rfl⟩ := h.form
    clear hn hr hm h HR
    go_enter Tryd.func55, Tryd.ntmps55
    go_wp2_with fail
    refine wp_region_held (S := fun _ => True) (by kernel_rfl) ?_
    have hdr : (w).drew = { w with drawn := (w).drawn + 1 } := rfl
    rw [← hdr]
    clear hdr
    refine wpAnyHTake 0 (some 4) (.slice a l.length c) rfl rfl (by kernel_rfl) (by kernel_rfl) (by kernel_rfl) (fun _ _ _ h => h) (by rfl) (fun _ _ => by rfl) (trivial) ?_
    simp only [Act.put, List.setIfInBounds_toArray, List.set_cons_zero, List.set_cons_succ]
    refine wpAnyHCall 1 (some 5) 41 #[.slice a l.length c] (by kernel_rfl) rfl rfl (by rfl) (by go_simp) (NM) ?_
    rintro e w2 ⟨rfl, hb2⟩
    have HB := Lib.hid ((Below.dn (Below.refl w.heap.size w) 1).trans hb2)
    clear hb2 NM
    refine ⟨_, rfl, trivial, ?_⟩
    simp only [Act.put, List.setIfInBounds_toArray, List.set_cons_zero, List.set_cons_succ]
    refine wpAnyHTake 2 (some 6) (.bool true) rfl rfl (by kernel_rfl) (by kernel_rfl) (by kernel_rfl) (fun _ _ _ h => h) (by rfl) (fun _ _ => by go_simp) (trivial) ?_
    simp only [Act.put, List.setIfInBounds_toArray, List.set_cons_zero, List.set_cons_succ]
    refine wpAnyHTake 3 (some 7) (.bool true) rfl rfl (by kernel_rfl) (by kernel_rfl) (by kernel_rfl) (fun _ _ _ h => h) (by rfl) (fun _ _ => by rfl) (trivial) ?_
    simp only [Act.put, List.setIfInBounds_toArray, List.set_cons_zero, List.set_cons_succ]
    refine wpAnyHPass 4 (some 8) rfl rfl (by kernel_rfl) (by kernel_rfl) (by kernel_rfl) (fun _ _ _ h => h) (by rfl) (trivial) ?_
    simp only [Act.put, List.setIfInBounds_toArray, List.set_cons_zero, List.set_cons_succ]
    refine wpAnyHPass 5 (some 9) rfl rfl (by kernel_rfl) (by kernel_rfl) (by kernel_rfl) (fun _ _ _ h => h) (by rfl) (trivial) ?_
    simp only [Act.put, List.setIfInBounds_toArray, List.set_cons_zero, List.set_cons_succ]
    refine wpAnyHPass 6 (some 10) rfl rfl (by kernel_rfl) (by kernel_rfl) (by kernel_rfl) (fun _ _ _ h => h) (by rfl) (trivial) ?_
    simp only [Act.put, List.setIfInBounds_toArray, List.set_cons_zero, List.set_cons_succ]
    refine wpAnyHPass 7 (some 11) rfl rfl (by kernel_rfl) (by kernel_rfl) (by kernel_rfl) (fun _ _ _ h => h) (by rfl) (trivial) ?_
    simp only [Act.put, List.setIfInBounds_toArray, List.set_cons_zero, List.set_cons_succ]
    refine wpAnyHPass 8 (some 12) rfl rfl (by kernel_rfl) (by kernel_rfl) (by kernel_rfl) (fun _ _ _ h => h) (by rfl) (trivial) ?_
    simp only [Act.put, List.setIfInBounds_toArray, List.set_cons_zero, List.set_cons_succ]
    refine wpAnyHPass 9 (some 13) rfl rfl (by kernel_rfl) (by kernel_rfl) (by kernel_rfl) (fun _ _ _ h => h) (by rfl) (trivial) ?_
    simp only [Act.put, List.setIfInBounds_toArray, List.set_cons_zero, List.set_cons_succ]
    refine wpAnyHPass 10 (some 14) rfl rfl (by kernel_rfl) (by kernel_rfl) (by kernel_rfl) (fun _ _ _ h => h) (by rfl) (trivial) ?_
    simp only [Act.put, List.setIfInBounds_toArray, List.set_cons_zero, List.set_cons_succ]
    refine wpAnyHPass 11 (some 15) rfl rfl (by kernel_rfl) (by kernel_rfl) (by kernel_rfl) (fun _ _ _ h => h) (by rfl) (trivial) ?_
    simp only [Act.put, List.setIfInBounds_toArray, List.set_cons_zero, List.set_cons_succ]
    refine wpAnyHPass 12 (some 16) rfl rfl (by kernel_rfl) (by kernel_rfl) (by kernel_rfl) (fun _ _ _ h => h) (by rfl) (trivial) ?_
    simp only [Act.put, List.setIfInBounds_toArray, List.set_cons_zero, List.set_cons_succ]
    refine wpAnyHPass 13 (some 17) rfl rfl (by kernel_rfl) (by kernel_rfl) (by kernel_rfl) (fun _ _ _ h => h) (by rfl) (trivial) ?_
    simp only [Act.put, List.setIfInBounds_toArray, List.set_cons_zero, List.set_cons_succ]
    refine wpAnyHPass 14 (some 18) rfl rfl (by kernel_rfl) (by kernel_rfl) (by kernel_rfl) (fun _ _ _ h => h) (by rfl) (trivial) ?_
    simp only [Act.put, List.setIfInBounds_toArray, List.set_cons_zero, List.set_cons_succ]
    refine wpAnyHPass 15 (some 19) rfl rfl (by kernel_rfl) (by kernel_rfl) (by kernel_rfl) (fun _ _ _ h => h) (by rfl) (trivial) ?_
    simp only [Act.put, List.setIfInBounds_toArray, List.set_cons_zero, List.set_cons_succ]
    refine wpAnyHPass 16 (some 20) rfl rfl (by kernel_rfl) (by kernel_rfl) (by kernel_rfl) (fun _ _ _ h => h) (by rfl) (trivial) ?_
    simp only [Act.put, List.setIfInBounds_toArray, List.set_cons_zero, List.set_cons_succ]
    refine wpAnyHPass 17 (some 21) rfl rfl (by kernel_rfl) (by kernel_rfl) (by kernel_rfl) (fun _ _ _ h => h) (by rfl) (trivial) ?_
    simp only [Act.put, List.setIfInBounds_toArray, List.set_cons_zero, List.set_cons_succ]
    refine wpAnyHTake 18 (some 22) (.bool true) rfl rfl (by kernel_rfl) (by kernel_rfl) (by kernel_rfl) (fun _ _ _ h => h) (by rfl) (fun _ _ => by go_simp) (trivial) ?_
    simp only [Act.put, List.setIfInBounds_toArray, List.set_cons_zero, List.set_cons_succ]
    refine wpAnyHTake 19 (some 3) (.bool true) rfl rfl (by kernel_rfl) (by kernel_rfl) (by kernel_rfl) (fun _ _ _ h => h) (by rfl) (fun _ _ => by rfl) (trivial) ?_
    simp only [Act.put, List.setIfInBounds_toArray, List.set_cons_zero, List.set_cons_succ]
    refine wpAnyH_done (by kernel_rfl) ?_ _
    go_wp2_with fail
    go_ret
    exact ⟨rfl, HB.out⟩
  · rcases snoc_cases l with h0 | ⟨M, x, h0⟩
    · subst h0
      have hr : lateS most [] = false := by unfold lateS; rw [hn]; rfl
      rw [hn] at NM
      rw [hr]
      obtain ⟨a, c, hv⟩ := h.form
      have hv2 : v = .slice a 0 c := hv
      subst hv2
      clear hn hr hm h HR hv
      go_enter Tryd.func55, Tryd.ntmps55
      go_wp2_with fail
      refine wp_region_held (S := fun _ => True) (by kernel_rfl) ?_
      have hdr : (w).drew = { w with drawn := (w).drawn + 1 } := rfl
      rw [← hdr]
      clear hdr
      refine wpAnyHTake 0 (some 4) (.slice a 0 c) rfl rfl (by kernel_rfl) (by kernel_rfl) (by kernel_rfl) (fun _ _ _ h => h) (by rfl) (fun _ _ => by rfl) (trivial) ?_
      simp only [Act.put, List.setIfInBounds_toArray, List.set_cons_zero, List.set_cons_succ]
      refine wpAnyHCall 1 (some 5) 41 #[.slice a 0 c] (by kernel_rfl) rfl rfl (by rfl) (by go_simp) (NM) ?_
      rintro e w2 ⟨rfl, hb2⟩
      have HB := Lib.hid ((Below.dn (Below.refl w.heap.size w) 1).trans hb2)
      clear hb2 NM
      refine ⟨_, rfl, trivial, ?_⟩
      simp only [Act.put, List.setIfInBounds_toArray, List.set_cons_zero, List.set_cons_succ]
      refine wpAnyHTake 2 (some 6) (.bool false) rfl rfl (by kernel_rfl) (by kernel_rfl) (by kernel_rfl) (fun _ _ _ h => h) (by rfl) (fun _ _ => by go_simp) (trivial) ?_
      simp only [Act.put, List.setIfInBounds_toArray, List.set_cons_zero, List.set_cons_succ]
      refine wpAnyHTake 3 (some 7) (.bool false) rfl rfl (by kernel_rfl) (by kernel_rfl) (by kernel_rfl) (fun _ _ _ h => h) (by rfl) (fun _ _ => by rfl) (trivial) ?_
      simp only [Act.put, List.setIfInBounds_toArray, List.set_cons_zero, List.set_cons_succ]
      refine wpAnyHTake 4 (some 8) (.slice a 0 c) rfl rfl (by kernel_rfl) (by kernel_rfl) (by kernel_rfl) (fun _ _ _ h => h) (by rfl) (fun _ _ => by rfl) (trivial) ?_
      simp only [Act.put, List.setIfInBounds_toArray, List.set_cons_zero, List.set_cons_succ]
      refine wpAnyHTake 5 (some 9) (.int .i64 0) rfl rfl (by kernel_rfl) (by kernel_rfl) (by kernel_rfl) (fun _ _ _ h => h) (by rfl) (fun _ _ => by go_simp) (trivial) ?_
      simp only [Act.put, List.setIfInBounds_toArray, List.set_cons_zero, List.set_cons_succ]
      refine wpAnyHTake 6 (some 10) (.bool false) rfl rfl (by kernel_rfl) (by kernel_rfl) (by kernel_rfl) (fun _ _ _ h => h) (by rfl) (fun _ _ => by go_simp) (trivial) ?_
      simp only [Act.put, List.setIfInBounds_toArray, List.set_cons_zero, List.set_cons_succ]
      refine wpAnyHTake 7 (some 11) (.bool false) rfl rfl (by kernel_rfl) (by kernel_rfl) (by kernel_rfl) (fun _ _ _ h => h) (by rfl) (fun _ _ => by rfl) (trivial) ?_
      simp only [Act.put, List.setIfInBounds_toArray, List.set_cons_zero, List.set_cons_succ]
      refine wpAnyHPass 8 (some 12) rfl rfl (by kernel_rfl) (by kernel_rfl) (by kernel_rfl) (fun _ _ _ h => h) (by rfl) (trivial) ?_
      simp only [Act.put, List.setIfInBounds_toArray, List.set_cons_zero, List.set_cons_succ]
      refine wpAnyHPass 9 (some 13) rfl rfl (by kernel_rfl) (by kernel_rfl) (by kernel_rfl) (fun _ _ _ h => h) (by rfl) (trivial) ?_
      simp only [Act.put, List.setIfInBounds_toArray, List.set_cons_zero, List.set_cons_succ]
      refine wpAnyHPass 10 (some 14) rfl rfl (by kernel_rfl) (by kernel_rfl) (by kernel_rfl) (fun _ _ _ h => h) (by rfl) (trivial) ?_
      simp only [Act.put, List.setIfInBounds_toArray, List.set_cons_zero, List.set_cons_succ]
      refine wpAnyHPass 11 (some 15) rfl rfl (by kernel_rfl) (by kernel_rfl) (by kernel_rfl) (fun _ _ _ h => h) (by rfl) (trivial) ?_
      simp only [Act.put, List.setIfInBounds_toArray, List.set_cons_zero, List.set_cons_succ]
      refine wpAnyHPass 12 (some 16) rfl rfl (by kernel_rfl) (by kernel_rfl) (by kernel_rfl) (fun _ _ _ h => h) (by rfl) (trivial) ?_
      simp only [Act.put, List.setIfInBounds_toArray, List.set_cons_zero, List.set_cons_succ]
      refine wpAnyHPass 13 (some 17) rfl rfl (by kernel_rfl) (by kernel_rfl) (by kernel_rfl) (fun _ _ _ h => h) (by rfl) (trivial) ?_
      simp only [Act.put, List.setIfInBounds_toArray, List.set_cons_zero, List.set_cons_succ]
      refine wpAnyHPass 14 (some 18) rfl rfl (by kernel_rfl) (by kernel_rfl) (by kernel_rfl) (fun _ _ _ h => h) (by rfl) (trivial) ?_
      simp only [Act.put, List.setIfInBounds_toArray, List.set_cons_zero, List.set_cons_succ]
      refine wpAnyHPass 15 (some 19) rfl rfl (by kernel_rfl) (by kernel_rfl) (by kernel_rfl) (fun _ _ _ h => h) (by rfl) (trivial) ?_
      simp only [Act.put, List.setIfInBounds_toArray, List.set_cons_zero, List.set_cons_succ]
      refine wpAnyHPass 16 (some 20) rfl rfl (by kernel_rfl) (by kernel_rfl) (by kernel_rfl) (fun _ _ _ h => h) (by rfl) (trivial) ?_
      simp only [Act.put, List.setIfInBounds_toArray, List.set_cons_zero, List.set_cons_succ]
      refine wpAnyHTake 17 (some 21) (.bool false) rfl rfl (by kernel_rfl) (by kernel_rfl) (by kernel_rfl) (fun _ _ _ h => h) (by rfl) (fun _ _ => by go_simp) (trivial) ?_
      simp only [Act.put, List.setIfInBounds_toArray, List.set_cons_zero, List.set_cons_succ]
      refine wpAnyHTake 18 (some 22) (.bool false) rfl rfl (by kernel_rfl) (by kernel_rfl) (by kernel_rfl) (fun _ _ _ h => h) (by rfl) (fun _ _ => by go_simp) (trivial) ?_
      simp only [Act.put, List.setIfInBounds_toArray, List.set_cons_zero, List.set_cons_succ]
      refine wpAnyHTake 19 (some 3) (.bool false) rfl rfl (by kernel_rfl) (by kernel_rfl) (by kernel_rfl) (fun _ _ _ h => h) (by rfl) (fun _ _ => by rfl) (trivial) ?_
      simp only [Act.put, List.setIfInBounds_toArray, List.set_cons_zero, List.set_cons_succ]
      refine wpAnyH_done (by kernel_rfl) ?_ _
      go_wp2_with fail
      go_ret
      exact ⟨rfl, HB.out⟩
    · subst h0
      have hr : lateS most (M ++ [x]) = decide (most < x.2) := by unfold lateS; rw [hn, lastOver_snoc]; rfl
      rw [hn] at NM
      rw [hr]
      obtain ⟨b, o, c, rfl, hbl, c0, c1⟩ := RdP_last h
      obtain ⟨x0, x1⟩ := x
      dsimp only at *
      obtain ⟨n, hnn⟩ : ∃ n, M.length = n := ⟨_, rfl⟩
      rw [hnn] at c0 c1 NM ⊢
      have hn9 : n ≤ 1000 := by simp at hl; omega
      have hn0 : (0 : Int) ≤ (n : Int) := by omega
      have hn91 : (n : Int) ≤ 1000 := by omega
      have hwn : IntKind.i64.wrap (n : Int) = (n : Int) := by rw [IntKind.wrap_i64]; omega
      have hn1 : (n : Int) < (n : Int) + 1 := by omega
      clear hn hr hm h HR hnn hl
      go_enter Tryd.func55, Tryd.ntmps55
      go_wp2_with fail
      refine wp_region_held (S := fun W => W.cell? ⟨b, o + n * 2 + 1, none⟩ = some (.int .i64 x1) ∧ W.cell? ⟨Bm, 0, none⟩ = some (.int .i64 most)) (by kernel_rfl) ?_
      have hdr : (w).drew = { w with drawn := (w).drawn + 1 } := rfl
      rw [← hdr]
      clear hdr
      have G1 := Lib.hid (show (w.drewN 1).cell? ⟨b, o + n * 2 + 1, none⟩ = some (.int .i64 x1) ∧ (w.drewN 1).cell? ⟨Bm, 0, none⟩ = some (.int .i64 most) from ⟨c1, m0⟩)
      refine wpAnyHTake 0 (some 4) (.slice (some ⟨b, o, none⟩) (n + 1) c) rfl rfl (by kernel_rfl) (by kernel_rfl) (by kernel_rfl) (fun _ _ _ h => h) (by rfl) (fun _ _ => by rfl) (G1.out) ?_
      simp only [Act.put, List.setIfInBounds_toArray, List.set_cons_zero, List.set_cons_succ]
      refine wpAnyHCall 1 (some 5) 41 #[.slice (some ⟨b, o, none⟩) (n + 1) c] (by kernel_rfl) rfl rfl (by rfl) (by go_simp) (NM) ?_
      rintro e w2 ⟨rfl, hb2⟩
      have HB := Lib.hid ((Below.dn (Below.refl w.heap.size w) 1).trans hb2)
      have G2 := Lib.hid (show w2.cell? ⟨b, o + n * 2 + 1, none⟩ = some (.int .i64 x1) ∧ w2.cell? ⟨Bm, 0, none⟩ = some (.int .i64 most) from ⟨(HB.out.cell (p := ⟨b, o + n * 2 + 1, none⟩) hbl).trans c1, (HB.out.cell (p := ⟨Bm, 0, none⟩) hml).trans m0⟩)
      clear hb2 NM
      refine ⟨_, rfl, G2.out, ?_⟩
      simp only [Act.put, List.setIfInBounds_toArray, List.set_cons_zero, List.set_cons_succ]
      refine wpAnyHTake 2 (some 6) (.bool false) rfl rfl (by kernel_rfl) (by kernel_rfl) (by kernel_rfl) (fun _ _ _ h => h) (by rfl) (fun _ _ => by go_simp) (G2.out) ?_
      simp only [Act.put, List.setIfInBounds_toArray, List.set_cons_zero, List.set_cons_succ]
      refine wpAnyHTake 3 (some 7) (.bool false) rfl rfl (by kernel_rfl) (by kernel_rfl) (by kernel_rfl) (fun _ _ _ h => h) (by rfl) (fun _ _ => by rfl) (G2.out) ?_
      simp only [Act.put, List.setIfInBounds_toArray, List.set_cons_zero, List.set_cons_succ]
      refine wpAnyHTake 4 (some 8) (.slice (some ⟨b, o, none⟩) (n + 1) c) rfl rfl (by kernel_rfl) (by kernel_rfl) (by kernel_rfl) (fun _ _ _ h => h) (by rfl) (fun _ _ => by rfl) (G2.out) ?_
      simp only [Act.put, List.setIfInBounds_toArray, List.set_cons_zero, List.set_cons_succ]
      refine wpAnyHTake 5 (some 9) (.int .i64 ((n : Int) + 1)) rfl rfl (by kernel_rfl) (by kernel_rfl) (by kernel_rfl) (fun _ _ _ h => h) (by rfl) (fun _ _ => by go_simp) (G2.out) ?_
      simp only [Act.put, List.setIfInBounds_toArray, List.set_cons_zero, List.set_cons_succ]
      refine wpAnyHTake 6 (some 10) (.bool true) rfl rfl (by kernel_rfl) (by kernel_rfl) (by kernel_rfl) (fun _ _ _ h => h) (by rfl) (fun _ _ => by go_simp) (G2.out) ?_
      simp only [Act.put, List.setIfInBounds_toArray, List.set_cons_zero, List.set_cons_succ]
      refine wpAnyHTake 7 (some 11) (.bool true) rfl rfl (by kernel_rfl) (by kernel_rfl) (by kernel_rfl) (fun _ _ _ h => h) (by rfl) (fun _ _ => by rfl) (G2.out) ?_
      simp only [Act.put, List.setIfInBounds_toArray, List.set_cons_zero, List.set_cons_succ]
      refine wpAnyHTake 8 (some 12) (.slice (some ⟨b, o, none⟩) (n + 1) c) rfl rfl (by kernel_rfl) (by kernel_rfl) (by kernel_rfl) (fun _ _ _ h => h) (by rfl) (fun _ _ => by rfl) (G2.out) ?_
      simp only [Act.put, List.setIfInBounds_toArray, List.set_cons_zero, List.set_cons_succ]
      refine wpAnyHTake 9 (some 13) (.slice (some ⟨b, o, none⟩) (n + 1) c) rfl rfl (by kernel_rfl) (by kernel_rfl) (by kernel_rfl) (fun _ _ _ h => h) (by rfl) (fun _ _ => by rfl) (G2.out) ?_
      simp only [Act.put, List.setIfInBounds_toArray, List.set_cons_zero, List.set_cons_succ]
      refine wpAnyHTake 10 (some 14) (.int .i64 ((n : Int) + 1)) rfl rfl (by kernel_rfl) (by kernel_rfl) (by kernel_rfl) (fun _ _ _ h => h) (by rfl) (fun _ _ => by go_simp) (G2.out) ?_
      simp only [Act.put, List.setIfInBounds_toArray, List.set_cons_zero, List.set_cons_succ]
      refine wpAnyHTake 11 (some 15) (.int .i64 (n : Int)) rfl rfl (by kernel_rfl) (by kernel_rfl) (by kernel_rfl) (fun _ _ _ h => h) (by rfl) (fun _ _ => by go_simp; try omega) (G2.out) ?_
      simp only [Act.put, List.setIfInBounds_toArray, List.set_cons_zero, List.set_cons_succ]
      refine wpAnyHTake 12 (some 16) (.pointer (some ⟨b, o + n * 2, none⟩)) rfl rfl (by kernel_rfl) (by kernel_rfl) (by kernel_rfl) (fun _ _ _ h => h) (by rfl) (fun _ _ => by go_simp) (G2.out) ?_
      simp only [Act.put, List.setIfInBounds_toArray, List.set_cons_zero, List.set_cons_succ]
      refine wpAnyHTake 13 (some 17) (.pointer (some ⟨b, o + n * 2 + 1, none⟩)) rfl rfl (by kernel_rfl) (by kernel_rfl) (by kernel_rfl) (fun _ _ _ h => h) (by rfl) (fun _ _ => by go_simp) (G2.out) ?_
      simp only [Act.put, List.setIfInBounds_toArray, List.set_cons_zero, List.set_cons_succ]
      refine wpAnyHTake 14 (some 18) (.int .i64 x1) rfl rfl (by kernel_rfl) (by kernel_rfl) (by kernel_rfl) (fun _ _ _ h => h) (by rfl) (fun W hW => by obtain ⟨h1, h2⟩ := hW; go_simp) (G2.out) ?_
      simp only [Act.put, List.setIfInBounds_toArray, List.set_cons_zero, List.set_cons_succ]
      refine wpAnyHTake 15 (some 19) (.int .i64 most) rfl rfl (by kernel_rfl) (by kernel_rfl) (by kernel_rfl) (fun _ _ _ h => h) (by rfl) (fun W hW => by obtain ⟨h1, h2⟩ := hW; go_simp) (G2.out) ?_
      simp only [Act.put, List.setIfInBounds_toArray, List.set_cons_zero, List.set_cons_succ]
      refine wpAnyHTake 16 (some 20) (.bool (decide (most < x1))) rfl rfl (by kernel_rfl) (by kernel_rfl) (by kernel_rfl) (fun _ _ _ h => h) (by rfl) (fun _ _ => by go_simp) (G2.out) ?_
      simp only [Act.put, List.setIfInBounds_toArray, List.set_cons_zero, List.set_cons_succ]
      refine wpAnyHTake 17 (some 21) (.bool (decide (most < x1))) rfl rfl (by kernel_rfl) (by kernel_rfl) (by kernel_rfl) (fun _ _ _ h => h) (by rfl) (fun _ _ => by go_simp) (G2.out) ?_
      simp only [Act.put, List.setIfInBounds_toArray, List.set_cons_zero, List.set_cons_succ]
      refine wpAnyHTake 18 (some 22) (.bool (decide (most < x1))) rfl rfl (by kernel_rfl) (by kernel_rfl) (by kernel_rfl) (fun _ _ _ h => h) (by rfl) (fun _ _ => by go_simp) (G2.out) ?_
      simp only [Act.put, List.setIfInBounds_toArray, List.set_cons_zero, List.set_cons_succ]
      refine wpAnyHTake 19 (some 3) (.bool (decide (most < x1))) rfl rfl (by kernel_rfl) (by kernel_rfl) (by kernel_rfl) (fun _ _ _ h => h) (by rfl) (fun _ _ => by rfl) (G2.out) ?_
      simp only [Act.put, List.setIfInBounds_toArray, List.set_cons_zero, List.set_cons_succ]
      refine wpAnyH_done (by kernel_rfl) ?_ _
      go_wp2_with fail
      go_ret
      exact ⟨rfl, HB.out⟩
end Go.Proofs.YtecdkpcapalifaaDoor

