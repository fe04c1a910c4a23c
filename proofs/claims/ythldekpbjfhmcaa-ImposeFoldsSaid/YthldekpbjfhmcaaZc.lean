import Derived.Test.YthldekpbjfhmcaaZb
import Derived.Deep.CutRange
import Derived.Deep.CutBlock
import Derived.Outline
import Derived.RegionTactic
import Derived.ChangeAlike
import Derived.BigRegion
import Derived.Deep.RegionLaw
import Derived.Laws.IdiomCopy
namespace Go.Proofs.Ythldekpbjfhmcaa
open Go.RowKit

theorem tdiv8 (b : Int) (h1 : -9223372036854775808 ≤ b) (h2 : b ≤ 9223372036854775807) : -9223372036854775808 ≤ b.tdiv 8 ∧ b.tdiv 8 ≤ 9223372036854775807 := by
  by_cases h : 0 ≤ b
  · rw [Int.tdiv_eq_ediv_of_nonneg h]; omega
  · obtain ⟨c, rfl⟩ : ∃ c, b = -c := ⟨-b, by omega⟩
    rw [Int.neg_tdiv, Int.tdiv_eq_ediv_of_nonneg (by omega)]; omega

theorem AllI.setCells {g N : Nat} : ∀ (zs : List Int) (o : Nat) {w : World}, AllI w g N → AllI (w.setCells g o (ints zs)) g N
  | [], _, _, h => h
  | z :: r, o, _, h => AllI.setCells r (o + 1) (h.set o z)
theorem below_cells {B g : Nat} (hg : B ≤ g) : ∀ (vs : List Value) (o : Nat) {w w' : World}, Below B w w' → Below B w (w'.setCells g o vs)
  | [], _, _, _, h => h
  | v :: r, o, _, _, h => below_cells hg r (o + 1) (h.setCell (p := ⟨g, o, none⟩) hg v)
theorem AllI.news {w : World} {g N : Nat} (h : AllI w g N) (o m : Nat) (hm : o + m ≤ N) : ∃ zs : List Int, zs.length = m ∧ ∀ j u, (ints zs)[j]? = some u → w.cell? ⟨g, o + j, none⟩ = some u := by
  obtain ⟨zs, h1, h2⟩ := choose_ints (fun j z => w.cell? ⟨g, o + j, none⟩ = some (.int .i64 z)) m (fun j hj => h.cell (o + j) (by omega))
  refine ⟨zs, h1, fun j u hu => ?_⟩
  unfold ints at hu
  rw [List.getElem?_map] at hu
  obtain ⟨y, hy, rfl⟩ := Option.map_eq_some_iff.1 hu
  exact h2 j y hy
theorem ints_one (zs : List Int) : ∀ u, u ∈ ints zs → u.oneCell' = true := by
  intro u hu
  obtain ⟨z, _, rfl⟩ := List.mem_map.1 hu
  rfl
theorem AllI.drew {w : World} {g N : Nat} (h : AllI w g N) : AllI w.drew g N := h
theorem bent_end {w W : World} {g n cap N : Nat} (hA : AllI W g (n * 5)) (hc : n ≤ cap) (hm : cap ≤ maxLen) (hN : n ≤ N) (hb : Below w.heap.size w W) :
    (∃ v ys, Ending.returned (.slice (some ⟨g, 0, none⟩) n cap) = .returned v ∧ RdS W v ys ∧ ys.length ≤ N) ∧ Below w.heap.size w W := by
  obtain ⟨ys, h1, h2⟩ := hA.rd hc (by unfold maxLen at hm; omega)
  exact ⟨⟨_, ys, rfl, h2, by omega⟩, hb⟩

set_option maxRecDepth 100000 in
set_option maxHeartbeats 4000000 in
theorem bent_c0 (v1 : Value) (xs : List Sh) (how bb : Int) (w : World) (hw1 : -9223372036854775808 ≤ how) (hw2 : how ≤ 9223372036854775807) (hb1 : -9223372036854775808 ≤ bb) (hb2 : bb ≤ 9223372036854775807) (R : RdS w v1 xs) (hx1 : 1 ≤ xs.length) (hx2 : xs.length ≤ 100000) (hsw : around how 7 = 0) :
    Calls Try.prog 12 #[v1, .int .i64 how, .int .i64 bb] w fun e w' => (∃ v ys, e = .returned v ∧ RdS w' v ys ∧ ys.length ≤ xs.length + 1) ∧ Below w.heap.size w w' := by
  obtain ⟨i0, hi0, hz0, hz1, hz2⟩ := info_parts Try.info76
  have HI := Lib.hid hi0; have HZ0 := Lib.hid hz0; have HZ1 := Lib.hid hz1; have HZ2 := Lib.hid hz2
  clear hi0 hz0 hz1 hz2
  have HR := Lib.hid R; have HSW := Lib.hid hsw
  clear R hsw
  obtain ⟨t1, t2⟩ := tdiv8 bb hb1 hb2
  go_enter Try.func12, Try.ntmps12
  go_wp2_with (at_builtin; go_must (refine wpList_append_rd rfl _ _ _ rfl w.heap.size 76 i0 _ 5 40 Try.underlying31 HI.out HZ0.out HZ1.out HZ2.out rfl (by omega) (.slice (some ⟨w.heap.size, 0, none⟩) 0 0) 0 [] rfl (own_newS w _ (Nat.le_refl _)) v1 xs.length (shs xs) rfl (Rd.below HR.out ((Below.refl _ _).alloc (Nat.le_refl _) _)) (shs_one xs) (by unfold maxLen; omega) (by omega) (by simp) ?_); intro v6 w6 hown6 hgrow6 _; have B6 : Below w.heap.size w w6 := ((Below.refl _ _).alloc (Nat.le_refl _) _).grown hgrow6 (by simp) (fun j e => by simp [Value.ownBlock] at e; omega); rw [List.nil_append, Nat.zero_add] at hown6; obtain ⟨_, a6, c6, hv6, _⟩ := Rd_of_owns hown6; subst hv6; have HB6 := Lib.hid B6; have HO6 := Lib.hid hown6; clear hown6 hgrow6 B6)
  refine (around_any bb xs.length _ hb1 hb2 (by omega) (by omega)).mono ?_
  rintro e w1 ⟨rfl, rfl⟩
  obtain ⟨k, hk, hkn⟩ : ∃ k : Nat, around bb xs.length = k ∧ k < xs.length := by
    obtain ⟨q1, q2⟩ := around_bd bb xs.length (by omega)
    exact ⟨(around bb xs.length).toNat, by omega, by omega⟩
  rw [hk]
  clear hk
  go_wp2_with fail
  refine (around_any (bb.tdiv 8) 9 _ t1 t2 (by omega) (by omega)).mono ?_
  rintro e w1 ⟨rfl, rfl⟩
  obtain ⟨q1, q2⟩ := around_bd (bb.tdiv 8) 9 (by omega)
  generalize around (bb.tdiv 8) 9 = nn at q1 q2 ⊢
  go_wp2_with fail
  refine (around_any how 7 _ hw1 hw2 (by omega) (by omega)).mono ?_
  rintro e w1 ⟨rfl, rfl⟩
  rw [HSW.out]
  have hO := HO6.out
  rcases hO.2 with ⟨h2, h3⟩ | ⟨g, cap, cur, he, hbg, hg, hnc, hcm, hcs, ht⟩
  · exfalso; have := hO.1; rw [h3] at this; simp at this; omega
  cases he
  obtain ⟨_, _, _, hA⟩ := all_own hO
  have HA := Lib.hid hA
  clear hg ht hcs cur hO hA
  have hkx : (k : Int) < (xs.length : Int) := by omega
  obtain ⟨y0, g0⟩ := HA.out.cell (k * 5) (by omega)
  obtain ⟨y1, g1⟩ := HA.out.cell (k * 5 + 1) (by omega)
  obtain ⟨y2, g2⟩ := HA.out.cell (k * 5 + 2) (by omega)
  obtain ⟨y3, g3⟩ := HA.out.cell (k * 5 + 3) (by omega)
  obtain ⟨y4, g4⟩ := HA.out.cell (k * 5 + 4) (by omega)
  have e0 := HA.out.frozen (k * 5)
  have e1 := HA.out.frozen (k * 5 + 1)
  have e2 := HA.out.frozen (k * 5 + 2)
  have e3 := HA.out.frozen (k * 5 + 3)
  have e4 := HA.out.frozen (k * 5 + 4)
  go_wp2_with fail
  go_ret
  exact bent_end (HA.out.set _ _) hnc hcm (by omega) (HB6.out.setCell (p := ⟨g, k * 5, none⟩) hbg _)

set_option maxRecDepth 100000 in
set_option maxHeartbeats 4000000 in
theorem bent_c1 (v1 : Value) (xs : List Sh) (how bb : Int) (w : World) (hw1 : -9223372036854775808 ≤ how) (hw2 : how ≤ 9223372036854775807) (hb1 : -9223372036854775808 ≤ bb) (hb2 : bb ≤ 9223372036854775807) (R : RdS w v1 xs) (hx1 : 1 ≤ xs.length) (hx2 : xs.length ≤ 100000) (hsw : around how 7 = 1) :
    Calls Try.prog 12 #[v1, .int .i64 how, .int .i64 bb] w fun e w' => (∃ v ys, e = .returned v ∧ RdS w' v ys ∧ ys.length ≤ xs.length + 1) ∧ Below w.heap.size w w' := by
  obtain ⟨i0, hi0, hz0, hz1, hz2⟩ := info_parts Try.info76
  have HI := Lib.hid hi0; have HZ0 := Lib.hid hz0; have HZ1 := Lib.hid hz1; have HZ2 := Lib.hid hz2
  clear hi0 hz0 hz1 hz2
  have HR := Lib.hid R; have HSW := Lib.hid hsw
  clear R hsw
  obtain ⟨t1, t2⟩ := tdiv8 bb hb1 hb2
  go_enter Try.func12, Try.ntmps12
  go_wp2_with (at_builtin; go_must (refine wpList_append_rd rfl _ _ _ rfl w.heap.size 76 i0 _ 5 40 Try.underlying31 HI.out HZ0.out HZ1.out HZ2.out rfl (by omega) (.slice (some ⟨w.heap.size, 0, none⟩) 0 0) 0 [] rfl (own_newS w _ (Nat.le_refl _)) v1 xs.length (shs xs) rfl (Rd.below HR.out ((Below.refl _ _).alloc (Nat.le_refl _) _)) (shs_one xs) (by unfold maxLen; omega) (by omega) (by simp) ?_); intro v6 w6 hown6 hgrow6 _; have B6 : Below w.heap.size w w6 := ((Below.refl _ _).alloc (Nat.le_refl _) _).grown hgrow6 (by simp) (fun j e => by simp [Value.ownBlock] at e; omega); rw [List.nil_append, Nat.zero_add] at hown6; obtain ⟨_, a6, c6, hv6, _⟩ := Rd_of_owns hown6; subst hv6; have HB6 := Lib.hid B6; have HO6 := Lib.hid hown6; clear hown6 hgrow6 B6)
  refine (around_any bb xs.length _ hb1 hb2 (by omega) (by omega)).mono ?_
  rintro e w1 ⟨rfl, rfl⟩
  obtain ⟨k, hk, hkn⟩ : ∃ k : Nat, around bb xs.length = k ∧ k < xs.length := by
    obtain ⟨q1, q2⟩ := around_bd bb xs.length (by omega)
    exact ⟨(around bb xs.length).toNat, by omega, by omega⟩
  rw [hk]
  clear hk
  go_wp2_with fail
  refine (around_any (bb.tdiv 8) 9 _ t1 t2 (by omega) (by omega)).mono ?_
  rintro e w1 ⟨rfl, rfl⟩
  obtain ⟨q1, q2⟩ := around_bd (bb.tdiv 8) 9 (by omega)
  generalize around (bb.tdiv 8) 9 = nn at q1 q2 ⊢
  go_wp2_with fail
  refine (around_any how 7 _ hw1 hw2 (by omega) (by omega)).mono ?_
  rintro e w1 ⟨rfl, rfl⟩
  rw [HSW.out]
  have hO := HO6.out
  rcases hO.2 with ⟨h2, h3⟩ | ⟨g, cap, cur, he, hbg, hg, hnc, hcm, hcs, ht⟩
  · exfalso; have := hO.1; rw [h3] at this; simp at this; omega
  cases he
  obtain ⟨_, _, _, hA⟩ := all_own hO
  have HA := Lib.hid hA
  clear hg ht hcs cur hO hA
  have hkx : (k : Int) < (xs.length : Int) := by omega
  obtain ⟨y0, g0⟩ := HA.out.cell (k * 5) (by omega)
  obtain ⟨y1, g1⟩ := HA.out.cell (k * 5 + 1) (by omega)
  obtain ⟨y2, g2⟩ := HA.out.cell (k * 5 + 2) (by omega)
  obtain ⟨y3, g3⟩ := HA.out.cell (k * 5 + 3) (by omega)
  obtain ⟨y4, g4⟩ := HA.out.cell (k * 5 + 4) (by omega)
  have e0 := HA.out.frozen (k * 5)
  have e1 := HA.out.frozen (k * 5 + 1)
  have e2 := HA.out.frozen (k * 5 + 2)
  have e3 := HA.out.frozen (k * 5 + 3)
  have e4 := HA.out.frozen (k * 5 + 4)
  go_wp2_with fail
  go_ret
  exact bent_end ((HA.out.set _ _).set _ _) hnc hcm (by omega) ((HB6.out.setCell (p := ⟨g, k * 5 + 1, none⟩) hbg _).setCell (p := ⟨g, k * 5 + 1 + 1, none⟩) hbg _)

set_option maxRecDepth 100000 in
set_option maxHeartbeats 4000000 in
theorem bent_c2 (v1 : Value) (xs : List Sh) (how bb : Int) (w : World) (hw1 : -9223372036854775808 ≤ how) (hw2 : how ≤ 9223372036854775807) (hb1 : -9223372036854775808 ≤ bb) (hb2 : bb ≤ 9223372036854775807) (R : RdS w v1 xs) (hx1 : 1 ≤ xs.length) (hx2 : xs.length ≤ 100000) (hsw : around how 7 = 2) :
    Calls Try.prog 12 #[v1, .int .i64 how, .int .i64 bb] w fun e w' => (∃ v ys, e = .returned v ∧ RdS w' v ys ∧ ys.length ≤ xs.length + 1) ∧ Below w.heap.size w w' := by
  obtain ⟨i0, hi0, hz0, hz1, hz2⟩ := info_parts Try.info76
  have HI := Lib.hid hi0; have HZ0 := Lib.hid hz0; have HZ1 := Lib.hid hz1; have HZ2 := Lib.hid hz2
  clear hi0 hz0 hz1 hz2
  have HR := Lib.hid R; have HSW := Lib.hid hsw
  clear R hsw
  obtain ⟨t1, t2⟩ := tdiv8 bb hb1 hb2
  go_enter Try.func12, Try.ntmps12
  go_wp2_with (at_builtin; go_must (refine wpList_append_rd rfl _ _ _ rfl w.heap.size 76 i0 _ 5 40 Try.underlying31 HI.out HZ0.out HZ1.out HZ2.out rfl (by omega) (.slice (some ⟨w.heap.size, 0, none⟩) 0 0) 0 [] rfl (own_newS w _ (Nat.le_refl _)) v1 xs.length (shs xs) rfl (Rd.below HR.out ((Below.refl _ _).alloc (Nat.le_refl _) _)) (shs_one xs) (by unfold maxLen; omega) (by omega) (by simp) ?_); intro v6 w6 hown6 hgrow6 _; have B6 : Below w.heap.size w w6 := ((Below.refl _ _).alloc (Nat.le_refl _) _).grown hgrow6 (by simp) (fun j e => by simp [Value.ownBlock] at e; omega); rw [List.nil_append, Nat.zero_add] at hown6; obtain ⟨_, a6, c6, hv6, _⟩ := Rd_of_owns hown6; subst hv6; have HB6 := Lib.hid B6; have HO6 := Lib.hid hown6; clear hown6 hgrow6 B6)
  refine (around_any bb xs.length _ hb1 hb2 (by omega) (by omega)).mono ?_
  rintro e w1 ⟨rfl, rfl⟩
  obtain ⟨k, hk, hkn⟩ : ∃ k : Nat, around bb xs.length = k ∧ k < xs.length := by
    obtain ⟨q1, q2⟩ := around_bd bb xs.length (by omega)
    exact ⟨(around bb xs.length).toNat, by omega, by omega⟩
  rw [hk]
  clear hk
  go_wp2_with fail
  refine (around_any (bb.tdiv 8) 9 _ t1 t2 (by omega) (by omega)).mono ?_
  rintro e w1 ⟨rfl, rfl⟩
  obtain ⟨q1, q2⟩ := around_bd (bb.tdiv 8) 9 (by omega)
  generalize around (bb.tdiv 8) 9 = nn at q1 q2 ⊢
  go_wp2_with fail
  refine (around_any how 7 _ hw1 hw2 (by omega) (by omega)).mono ?_
  rintro e w1 ⟨rfl, rfl⟩
  rw [HSW.out]
  have hO := HO6.out
  rcases hO.2 with ⟨h2, h3⟩ | ⟨g, cap, cur, he, hbg, hg, hnc, hcm, hcs, ht⟩
  · exfalso; have := hO.1; rw [h3] at this; simp at this; omega
  cases he
  obtain ⟨_, _, _, hA⟩ := all_own hO
  have HA := Lib.hid hA
  clear hg ht hcs cur hO hA
  have hkx : (k : Int) < (xs.length : Int) := by omega
  obtain ⟨y0, g0⟩ := HA.out.cell (k * 5) (by omega)
  obtain ⟨y1, g1⟩ := HA.out.cell (k * 5 + 1) (by omega)
  obtain ⟨y2, g2⟩ := HA.out.cell (k * 5 + 2) (by omega)
  obtain ⟨y3, g3⟩ := HA.out.cell (k * 5 + 3) (by omega)
  obtain ⟨y4, g4⟩ := HA.out.cell (k * 5 + 4) (by omega)
  have e0 := HA.out.frozen (k * 5)
  have e1 := HA.out.frozen (k * 5 + 1)
  have e2 := HA.out.frozen (k * 5 + 2)
  have e3 := HA.out.frozen (k * 5 + 3)
  have e4 := HA.out.frozen (k * 5 + 4)
  go_wp2_with fail
  go_region
  all_goals
    go_wp2_with fail
    go_ret
    exact bent_end ((HA.out.drew.set _ _).set _ _) hnc hcm (by omega) ((HB6.out.drew.setCell (p := ⟨g, k * 5 + 1, none⟩) hbg _).setCell (p := ⟨g, k * 5 + 1 + 1, none⟩) hbg _)

set_option maxRecDepth 100000 in
set_option maxHeartbeats 4000000 in
theorem bent_c3 (v1 : Value) (xs : List Sh) (how bb : Int) (w : World) (hw1 : -9223372036854775808 ≤ how) (hw2 : how ≤ 9223372036854775807) (hb1 : -9223372036854775808 ≤ bb) (hb2 : bb ≤ 9223372036854775807) (R : RdS w v1 xs) (hx1 : 1 ≤ xs.length) (hx2 : xs.length ≤ 100000) (hsw : around how 7 = 3) :
    Calls Try.prog 12 #[v1, .int .i64 how, .int .i64 bb] w fun e w' => (∃ v ys, e = .returned v ∧ RdS w' v ys ∧ ys.length ≤ xs.length + 1) ∧ Below w.heap.size w w' := by
  obtain ⟨i0, hi0, hz0, hz1, hz2⟩ := info_parts Try.info76
  have HI := Lib.hid hi0; have HZ0 := Lib.hid hz0; have HZ1 := Lib.hid hz1; have HZ2 := Lib.hid hz2
  clear hi0 hz0 hz1 hz2
  have HR := Lib.hid R; have HSW := Lib.hid hsw
  clear R hsw
  obtain ⟨t1, t2⟩ := tdiv8 bb hb1 hb2
  go_enter Try.func12, Try.ntmps12
  go_wp2_with (at_builtin; go_must (refine wpList_append_rd rfl _ _ _ rfl w.heap.size 76 i0 _ 5 40 Try.underlying31 HI.out HZ0.out HZ1.out HZ2.out rfl (by omega) (.slice (some ⟨w.heap.size, 0, none⟩) 0 0) 0 [] rfl (own_newS w _ (Nat.le_refl _)) v1 xs.length (shs xs) rfl (Rd.below HR.out ((Below.refl _ _).alloc (Nat.le_refl _) _)) (shs_one xs) (by unfold maxLen; omega) (by omega) (by simp) ?_); intro v6 w6 hown6 hgrow6 _; have B6 : Below w.heap.size w w6 := ((Below.refl _ _).alloc (Nat.le_refl _) _).grown hgrow6 (by simp) (fun j e => by simp [Value.ownBlock] at e; omega); rw [List.nil_append, Nat.zero_add] at hown6; obtain ⟨_, a6, c6, hv6, _⟩ := Rd_of_owns hown6; subst hv6; have HB6 := Lib.hid B6; have HO6 := Lib.hid hown6; clear hown6 hgrow6 B6)
  refine (around_any bb xs.length _ hb1 hb2 (by omega) (by omega)).mono ?_
  rintro e w1 ⟨rfl, rfl⟩
  obtain ⟨k, hk, hkn⟩ : ∃ k : Nat, around bb xs.length = k ∧ k < xs.length := by
    obtain ⟨q1, q2⟩ := around_bd bb xs.length (by omega)
    exact ⟨(around bb xs.length).toNat, by omega, by omega⟩
  rw [hk]
  clear hk
  go_wp2_with fail
  refine (around_any (bb.tdiv 8) 9 _ t1 t2 (by omega) (by omega)).mono ?_
  rintro e w1 ⟨rfl, rfl⟩
  obtain ⟨q1, q2⟩ := around_bd (bb.tdiv 8) 9 (by omega)
  generalize around (bb.tdiv 8) 9 = nn at q1 q2 ⊢
  go_wp2_with fail
  refine (around_any how 7 _ hw1 hw2 (by omega) (by omega)).mono ?_
  rintro e w1 ⟨rfl, rfl⟩
  rw [HSW.out]
  have hO := HO6.out
  rcases hO.2 with ⟨h2, h3⟩ | ⟨g, cap, cur, he, hbg, hg, hnc, hcm, hcs, ht⟩
  · exfalso; have := hO.1; rw [h3] at this; simp at this; omega
  cases he
  obtain ⟨_, _, _, hA⟩ := all_own hO
  have HA := Lib.hid hA
  clear hg ht hcs cur hO hA
  have hkx : (k : Int) < (xs.length : Int) := by omega
  obtain ⟨y0, g0⟩ := HA.out.cell (k * 5) (by omega)
  obtain ⟨y1, g1⟩ := HA.out.cell (k * 5 + 1) (by omega)
  obtain ⟨y2, g2⟩ := HA.out.cell (k * 5 + 2) (by omega)
  obtain ⟨y3, g3⟩ := HA.out.cell (k * 5 + 3) (by omega)
  obtain ⟨y4, g4⟩ := HA.out.cell (k * 5 + 4) (by omega)
  have e0 := HA.out.frozen (k * 5)
  have e1 := HA.out.frozen (k * 5 + 1)
  have e2 := HA.out.frozen (k * 5 + 2)
  have e3 := HA.out.frozen (k * 5 + 3)
  have e4 := HA.out.frozen (k * 5 + 4)
  go_wp2_with fail
  go_region
  all_goals
    go_wp2_with fail
    go_ret
    exact bent_end ((HA.out.drew.set _ _).set _ _) hnc hcm (by omega) ((HB6.out.drew.setCell (p := ⟨g, k * 5 + 3, none⟩) hbg _).setCell (p := ⟨g, k * 5 + 3 + 1, none⟩) hbg _)

end Go.Proofs.Ythldekpbjfhmcaa
