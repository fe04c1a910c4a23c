import Derived.Test.YthldekpbjfhmcaaWt
import Derived.Test.YthldekpbjfhmcaaWl
import Derived.Test.YthldekpbjfhmcaaWn
import Derived.Test.YthldekpbjfhmcaaWp
namespace Go.Proofs.Ythldekpbjfhmcaa
open Go.RowKit

theorem Rd_block {W : World} {B : Nat} {cs : Array Value} {t : TypeId} {n sz : Nat} (h : W.heap[B]? = some (.cells cs t (0, 0))) (hn : cs.size = n * sz) (hm : n ≤ 9223372036854775807) : Rd W sz (.slice (some ⟨B, 0, none⟩) n n) n cs.toList := by
  refine ⟨by simpa using hn, _, n, rfl, Nat.le_refl _, hm, .inr ⟨B, 0, rfl, (Array.getElem?_eq_some_iff.1 h).1, fun j u hu => ?_⟩⟩
  simp only [World.cell?, h, Nat.zero_add]
  simpa using hu

theorem new2 (w : World) (o1 o2 : Obj) : ((w.alloc o1).alloc o2).heap[w.heap.size + 1]? = some o2 := by simpa using heap_alloc_new (w.alloc o1) o2
theorem new1 (w : World) (o1 o2 : Obj) : ((w.alloc o1).alloc o2).heap[w.heap.size]? = some o1 := by
  rw [Below.heap_alloc _ _ _ (by simp)]; exact heap_alloc_new w o1

def fold104 : List Sh := [⟨0, 8, 1, 2, 7⟩, ⟨0, 6, 3, 4, 5⟩, ⟨1, 0, 9, 10, 0⟩, ⟨1, 0, 0, 0, 0⟩]
theorem fold104_eq : fold 10 4 = fold104 := by decide
theorem quires104_eq : quires 10 4 = [(1, 4), (5, 8)] := by decide
theorem read104_eq : (readL fold104).2 = 0 ∧ (readL fold104).1.length = 16 := by decide
theorem sheets104_eq : sheetsL 10 4 [4, 6, 1] = ([0, 3], 0) := by decide
theorem err104 : errOf 10 4 = 0 := by decide
theorem conj104 : conjR 10 4 4 = 1 ∧ leafErr 10 4 4 = 0 ∧ conjR 10 4 6 = 7 ∧ leafErr 10 4 6 = 0 ∧ leafErr 10 4 9 = 5 := by decide
theorem leaf7 : leafOf 7 = 4 ∧ frontOf 7 = true := by decide

theorem q10 (w : World) : Calls Try.prog 30 #[.int .i64 10, .int .i64 4] w fun e w' => ∃ v, e = .returned (.tuple #[v, .int .i64 0]) ∧ RdP w' v [(1, 4), (5, 8)] ∧ Below w.heap.size w w' :=
  (quiresL_any 10 4 w (by omega) (by omega) (by omega) (by omega)).mono fun _ _ ⟨v, he, ho, hb⟩ => ⟨v, by rw [he, err104], by rw [quires104_eq] at ho; exact Rd_of_owns ho, hb⟩
theorem f10 (w : World) : Calls Try.prog 10 #[.int .i64 10, .int .i64 4] w fun e w' => ∃ v, e = .returned (.tuple #[v, .int .i64 0]) ∧ RdS w' v fold104 ∧ Below w.heap.size w w' :=
  (fold_any 10 4 w (by omega) (by omega) (by omega) (by omega)).mono fun _ _ ⟨v, he, ho, hb⟩ => ⟨v, by rw [he, err104], by rw [fold104_eq] at ho; exact Rd_of_owns ho, hb⟩
theorem r10 (v : Value) (w : World) (h : RdS w v fold104) : Calls Try.prog 11 #[v] w fun e w' => ∃ a c, e = .returned (.tuple #[.slice a 16 c, .int .i64 0]) ∧ Below w.heap.size w w' :=
  (read_any v fold104 w h (by decide)).mono fun _ _ ⟨v', he, ho, hb⟩ => by
    obtain ⟨_, a, c, hv, _⟩ := Rd_of_owns ho
    rw [read104_eq.2] at hv
    exact ⟨a, c, by rw [he, hv, read104_eq.1], hb⟩
theorem c10_4 (w : World) : Calls Try.prog 23 #[.int .i64 10, .int .i64 4, .int .i64 4] w fun e w' => e = .returned (.tuple #[.int .i64 1, .int .i64 0]) ∧ Below w.heap.size w w' :=
  (conjugateL_any 10 4 4 w (by omega) (by omega) (by omega) (by omega)).mono fun _ _ ⟨he, hb⟩ => ⟨by rw [he, conj104.1, conj104.2.1], hb⟩
theorem c10_6 (w : World) : Calls Try.prog 23 #[.int .i64 10, .int .i64 4, .int .i64 6] w fun e w' => e = .returned (.tuple #[.int .i64 7, .int .i64 0]) ∧ Below w.heap.size w w' :=
  (conjugateL_any 10 4 6 w (by omega) (by omega) (by omega) (by omega)).mono fun _ _ ⟨he, hb⟩ => ⟨by rw [he, conj104.2.2.1, conj104.2.2.2.1], hb⟩
theorem c10_9 (w : World) : Calls Try.prog 23 #[.int .i64 10, .int .i64 4, .int .i64 9] w fun e w' => (∃ n, e = .returned (.tuple #[.int .i64 n, .int .i64 5])) ∧ Below w.heap.size w w' :=
  (conjugateL_any 10 4 9 w (by omega) (by omega) (by omega) (by omega)).mono fun _ _ ⟨he, hb⟩ => ⟨⟨conjR 10 4 9, by rw [he, conj104.2.2.2.2]⟩, hb⟩
theorem s10 (v : Value) (w : World) (h : RdI w v [4, 6, 1]) : Calls Try.prog 25 #[.int .i64 10, .int .i64 4, v] w fun e w' => ∃ v', e = .returned (.tuple #[v', .int .i64 0]) ∧ RdI w' v' [0, 3] ∧ Below w.heap.size w w' :=
  (sheetsB_any 10 4 v _ w (by omega) (by omega) (by omega) (by omega) h).mono fun _ _ ⟨v', he, ho, hb⟩ => ⟨v', by rw [he, sheets104_eq], by rw [sheets104_eq] at ho; exact RdI_of_own ho, hb⟩
theorem l7 (w : World) : Calls Try.prog 19 #[.int .i64 7] w fun e w' => e = .returned (.tuple #[.int .i64 4, .bool true]) ∧ w = w' :=
  (leaf_any 7 w).mono fun _ _ ⟨he, hw⟩ => ⟨by rw [he, leaf7.1, leaf7.2], hw⟩

set_option maxRecDepth 100000 in
set_option maxHeartbeats 2000000 in
theorem lives_any (w : World) : Calls Try.prog 17 #[] w fun e w' => e = .returned (.bool true) ∧ Below w.heap.size w w' := by
  go_enter Try.func17, Try.ntmps17
  go_wp2_with fail
  refine (q10 _).mono ?_
  rintro e w1 ⟨v1, rfl, R1, b1⟩
  go_wp2_with fail
  refine (f10 _).mono ?_
  rintro e w2 ⟨v2, rfl, R2, b2⟩
  have R1 := R1.below b2
  have BB := b1.trans (b2.mono b1.size)
  clear b1 b2
  go_wp2_with fail
  refine (r10 _ _ R2).mono ?_
  rintro e w3 ⟨a3, c3, rfl, b3⟩
  have R1 := R1.below b3
  have R2 := R2.below b3
  have BB := BB.trans (b3.mono BB.size)
  clear b3
  go_wp2_with fail
  refine (l7 _).mono ?_
  rintro e w' ⟨rfl, rfl⟩
  go_wp2_with fail
  refine (c10_4 _).mono ?_
  rintro e w4 ⟨rfl, b3⟩
  have R1 := R1.below b3
  have R2 := R2.below b3
  have BB := BB.trans (b3.mono BB.size)
  clear b3
  go_wp2_with fail
  refine (c10_6 _).mono ?_
  rintro e w5 ⟨rfl, b3⟩
  have R1 := R1.below b3
  have R2 := R2.below b3
  have BB := BB.trans (b3.mono BB.size)
  clear b3
  go_wp2_with fail
  refine (c10_9 _).mono ?_
  rintro e w6 ⟨⟨n6, rfl⟩, b3⟩
  have R1 := R1.below b3
  have R2 := R2.below b3
  have BB := BB.trans (b3.mono BB.size)
  clear b3
  go_wp2_with fail
  refine (s10 _ _ (Rd_block (cs := #[.int .i64 4, .int .i64 6, .int .i64 1]) (t := 3) (n := 3) (sz := 1) (heap_alloc_new w6 _) rfl (by omega))).mono ?_
  rintro e w7 ⟨v7, rfl, R7, b3⟩
  have b3 := ((Below.refl w6.heap.size w6).alloc (Nat.le_refl _) _).trans (b3.mono (by simp))
  have R1 := R1.below b3
  have R2 := R2.below b3
  have BB := BB.trans (b3.mono BB.size)
  clear b3
  go_wp2_with fail
  refine (samePairs_any _ _ [(1, 4), (5, 8)] [(1, 4), (5, 8)] _ ?_ ?_).mono ?_
  · exact R1.below (((Below.refl w7.heap.size w7).alloc (Nat.le_refl _) _).alloc (by simp) _)
  · exact Rd_block (cs := #[.int .i64 1, .int .i64 4, .int .i64 5, .int .i64 8]) (t := 43) (n := 2) (sz := 2) (new2 w7 _ _) rfl (by omega)
  rintro e w8 ⟨rfl, b4⟩
  have b5 := (((Below.refl w7.heap.size w7).alloc (Nat.le_refl _) _).alloc (by simp) _).trans (b4.mono (by simp; omega))
  have R3 : RdS w8 (.slice (some ⟨w7.heap.size, 0, none⟩) 4 4) fold104 := Rd.below (Rd_block (cs := #[.int .i64 0, .int .i64 8, .int .i64 1, .int .i64 2, .int .i64 7, .int .i64 0, .int .i64 6, .int .i64 3, .int .i64 4, .int .i64 5, .int .i64 1, .int .i64 0, .int .i64 9, .int .i64 10, .int .i64 0, .int .i64 1, .int .i64 0, .int .i64 0, .int .i64 0, .int .i64 0]) (t := 76) (n := 4) (sz := 5) (new1 w7 _ _) rfl (by omega)) b4
  have R2 := R2.below b5
  have R7 := R7.below b5
  have BB := BB.trans (b5.mono BB.size)
  clear b4 b5 R1
  rw [decide_eq_true (rfl : [((1:Int), (4:Int)), (5, 8)] = [(1, 4), (5, 8)])]
  go_wp2_with fail
  refine (plain_any _ _ _ R2 (by decide)).mono ?_
  rintro e w9 ⟨v9, rfl, o9, b4⟩
  have R9 : RdS w9 v9 fold104 := Rd_of_owns o9
  have R3 := R3.below b4
  have R7 := R7.below b4
  have BB := BB.trans (b4.mono BB.size)
  clear b4 R2 o9
  go_wp2_with fail
  refine (sameSheets_any _ _ _ _ _ R9 R3).mono ?_
  rintro e w10 ⟨rfl, b4⟩
  have R7 := R7.below b4
  have BB := BB.trans (b4.mono BB.size)
  clear b4 R3 R9
  rw [decide_eq_true (rfl : fold104 = fold104)]
  go_wp2_with fail
  refine (sameInts_any _ _ [0, 3] [0, 3] _ (R7.below ((Below.refl w10.heap.size w10).alloc (Nat.le_refl _) _)) (Rd_block (cs := #[.int .i64 0, .int .i64 3]) (t := 3) (n := 2) (sz := 1) (heap_alloc_new w10 _) rfl (by omega))).mono ?_
  rintro e w11 ⟨rfl, b4⟩
  have b5 := ((Below.refl w10.heap.size w10).alloc (Nat.le_refl _) _).trans (b4.mono (by simp))
  have BB := BB.trans (b5.mono BB.size)
  clear b4 b5 R7
  rw [decide_eq_true (rfl : [(0:Int), 3] = [0, 3])]
  go_wp2_with fail
  go_ret
  exact ⟨rfl, BB⟩
end Go.Proofs.Ythldekpbjfhmcaa
