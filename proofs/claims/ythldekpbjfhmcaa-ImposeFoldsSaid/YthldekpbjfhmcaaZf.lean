import Derived.Test.YthldekpbjfhmcaaZc
import Derived.Deep.RegionHeld3
namespace Go.Proofs.Ythldekpbjfhmcaa
open Go.RowKit

theorem box_at {V : World} {n : Nat} (h : V.heap.size = n) (cs : Array Value) (t : TypeId) (i : Nat) : (V.alloc (.cells cs t)).cell? ⟨n, i, none⟩ = cs[i]? := by
  subst h
  simp only [World.cell?, heap_alloc_new]; rfl

set_option maxRecDepth 100000 in
set_option maxHeartbeats 4000000 in
theorem bent_c6 (v1 : Value) (xs : List Sh) (how bb : Int) (w : World) (hw1 : -9223372036854775808 ≤ how) (hw2 : how ≤ 9223372036854775807) (hb1 : -9223372036854775808 ≤ bb) (hb2 : bb ≤ 9223372036854775807) (R : RdS w v1 xs) (hx1 : 1 ≤ xs.length) (hx2 : xs.length ≤ 100000) (hsw : around how 7 = 6) :
    Calls Try.prog 12 #[v1, .int .i64 how, .int .i64 bb] w fun e w' => (∃ v ys, e = .returned v ∧ RdS w' v ys ∧ ys.length ≤ xs.length + 1) ∧ Below w.heap.size w w' := by
  obtain ⟨i0, hi0, hz0, hz1, hz2⟩ := info_parts Try.info76
  have HI := Lib.hid hi0; have HZ0 := Lib.hid hz0; have HZ1 := Lib.hid hz1; have HZ2 := Lib.hid hz2
  clear hi0 hz0 hz1 hz2
  have HR := Lib.hid R; have HSW := Lib.hid hsw
  clear R hsw
  obtain ⟨t1, t2⟩ := tdiv8 bb hb1 hb2
  go_enter Try.func12, Try.ntmps12
  go_wp2_with (at_builtin; go_must (refine wpList_append_rd rfl _ _ _ rfl w.heap.size 76 i0 _ 5 40 Try.underlying31 HI.out HZ0.out HZ1.out HZ2.out rfl (by omega) (.slice (some ⟨w.heap.size, 0, none⟩) 0 0) 0 [] rfl (own_newS w _ (Nat.le_refl _)) v1 xs.length (shs xs) rfl (Rd.below HR.out ((Below.refl _ _).alloc (Nat.le_refl _) _)) (shs_one xs) (by unfold maxLen; omega) (by omega) (by simp) ?_); intro v6 w6 hown6 hgrow6 _; have B6 : Below w.heap.size w w6 := ((Below.refl _ _).alloc (Nat.le_refl _) _).grown hgrow6 (by simp) (fun j e => by simp [Value.ownBlock] at e; omega); rw [List.nil_append, Nat.zero_add] at hown6; obtain ⟨_, a6, c6, hv6, _⟩ := Rd_of_owns hown6; subst hv6; have HB6 := Lib.hid B6; have HO6 := Lib.hid hown6; clear hown6 hgrow6 B6)
  refine (around_any bb xs.length _ hb1 hb2 (by omega) (by omega)).mono ?_
  rintro e w1 ⟨rfl, rfl⟩
  obtain ⟨k, hk, hkn⟩ : ∃ k : Nat, around bb xs.length = k ∧ k < xs.length := by
    obtain ⟨q1, q2⟩ := around_bd bb xs.length (by omega)
    exact ⟨(around bb xs.length).toNat, by omega, by omega⟩
  rw [hk]
  clear hk
  go_wp2_with fail
  refine (around_any (bb.tdiv 8) 9 _ t1 t2 (by omega) (by omega)).mono ?_
  rintro e w1 ⟨rfl, rfl⟩
  obtain ⟨q1, q2⟩ := around_bd (bb.tdiv 8) 9 (by omega)
  generalize around (bb.tdiv 8) 9 = nn at q1 q2 ⊢
  go_wp2_with fail
  refine (around_any how 7 _ hw1 hw2 (by omega) (by omega)).mono ?_
  rintro e w1 ⟨rfl, rfl⟩
  rw [HSW.out]
  have hO := HO6.out
  rcases hO.2 with ⟨h2, h3⟩ | ⟨g, cap, cur, he, hbg, hg, hnc, hcm, hcs, ht⟩
  · exfalso; have := hO.1; rw [h3] at this; simp at this; omega
  cases he
  obtain ⟨_, _, _, hA⟩ := all_own hO
  have HA := Lib.hid hA
  clear hg ht hcs cur hO hA
  have hkx : (k : Int) < (xs.length : Int) := by omega
  obtain ⟨y0, g0⟩ := HA.out.cell (k * 5) (by omega)
  obtain ⟨y1, g1⟩ := HA.out.cell (k * 5 + 1) (by omega)
  obtain ⟨y2, g2⟩ := HA.out.cell (k * 5 + 2) (by omega)
  obtain ⟨y3, g3⟩ := HA.out.cell (k * 5 + 3) (by omega)
  obtain ⟨y4, g4⟩ := HA.out.cell (k * 5 + 4) (by omega)
  have e0 := HA.out.frozen (k * 5)
  have e1 := HA.out.frozen (k * 5 + 1)
  have e2 := HA.out.frozen (k * 5 + 2)
  have e3 := HA.out.frozen (k * 5 + 3)
  have e4 := HA.out.frozen (k * 5 + 4)
  obtain ⟨yz0, gz0⟩ := HA.out.cell (0) (by omega)
  obtain ⟨yz1, gz1⟩ := HA.out.cell (0 + 1) (by omega)
  obtain ⟨yz2, gz2⟩ := HA.out.cell (0 + 2) (by omega)
  obtain ⟨yz3, gz3⟩ := HA.out.cell (0 + 3) (by omega)
  obtain ⟨yz4, gz4⟩ := HA.out.cell (0 + 4) (by omega)
  have ez0 := HA.out.frozen (0)
  have ez1 := HA.out.frozen (0 + 1)
  have ez2 := HA.out.frozen (0 + 2)
  have ez3 := HA.out.frozen (0 + 3)
  have ez4 := HA.out.frozen (0 + 4)
  by_cases hk0 : k = 0
  · subst hk0
    have hgl := HA.out.lt
    go_upto_region 9 with fail
    have AW : AllI ((((((w6.setCell ⟨g, 0, none⟩ (.int .i64 yz0)).setCell ⟨g, 1, none⟩ (.int .i64 yz1)).setCell ⟨g, 2, none⟩ (.int .i64 yz2)).setCell ⟨g, 3, none⟩ (.int .i64 yz3)).setCell ⟨g, 4, none⟩ (.int .i64 yz4)).alloc (.cells #[.int .i64 yz0, .int .i64 yz1, .int .i64 yz2, .int .i64 yz3, .int .i64 yz4] 76)) g (xs.length * 5) := (((((HA.out.set _ _).set _ _).set _ _).set _ _).set _ _).below ((Below.refl _ _).alloc (Nat.le_refl _) _)
    have BW : Below w.heap.size w ((((((w6.setCell ⟨g, 0, none⟩ (.int .i64 yz0)).setCell ⟨g, 1, none⟩ (.int .i64 yz1)).setCell ⟨g, 2, none⟩ (.int .i64 yz2)).setCell ⟨g, 3, none⟩ (.int .i64 yz3)).setCell ⟨g, 4, none⟩ (.int .i64 yz4)).alloc (.cells #[.int .i64 yz0, .int .i64 yz1, .int .i64 yz2, .int .i64 yz3, .int .i64 yz4] 76)) := (((((HB6.out.setCell (p := ⟨g, 0, none⟩) hbg _).setCell (p := ⟨g, 1, none⟩) hbg _).setCell (p := ⟨g, 2, none⟩) hbg _).setCell (p := ⟨g, 3, none⟩) hbg _).setCell (p := ⟨g, 4, none⟩) hbg _).alloc (by have := HB6.out.size; simpa using this) _
    have b0 : ((((((w6.setCell ⟨g, 0, none⟩ (.int .i64 yz0)).setCell ⟨g, 1, none⟩ (.int .i64 yz1)).setCell ⟨g, 2, none⟩ (.int .i64 yz2)).setCell ⟨g, 3, none⟩ (.int .i64 yz3)).setCell ⟨g, 4, none⟩ (.int .i64 yz4)).alloc (.cells #[.int .i64 yz0, .int .i64 yz1, .int .i64 yz2, .int .i64 yz3, .int .i64 yz4] 76)).cell? ⟨w6.heap.size, 0, none⟩ = some (.int .i64 yz0) := box_at (by simp) _ _ 0
    have b1 : ((((((w6.setCell ⟨g, 0, none⟩ (.int .i64 yz0)).setCell ⟨g, 1, none⟩ (.int .i64 yz1)).setCell ⟨g, 2, none⟩ (.int .i64 yz2)).setCell ⟨g, 3, none⟩ (.int .i64 yz3)).setCell ⟨g, 4, none⟩ (.int .i64 yz4)).alloc (.cells #[.int .i64 yz0, .int .i64 yz1, .int .i64 yz2, .int .i64 yz3, .int .i64 yz4] 76)).cell? ⟨w6.heap.size, 1, none⟩ = some (.int .i64 yz1) := box_at (by simp) _ _ 1
    have b2 : ((((((w6.setCell ⟨g, 0, none⟩ (.int .i64 yz0)).setCell ⟨g, 1, none⟩ (.int .i64 yz1)).setCell ⟨g, 2, none⟩ (.int .i64 yz2)).setCell ⟨g, 3, none⟩ (.int .i64 yz3)).setCell ⟨g, 4, none⟩ (.int .i64 yz4)).alloc (.cells #[.int .i64 yz0, .int .i64 yz1, .int .i64 yz2, .int .i64 yz3, .int .i64 yz4] 76)).cell? ⟨w6.heap.size, 2, none⟩ = some (.int .i64 yz2) := box_at (by simp) _ _ 2
    have b3 : ((((((w6.setCell ⟨g, 0, none⟩ (.int .i64 yz0)).setCell ⟨g, 1, none⟩ (.int .i64 yz1)).setCell ⟨g, 2, none⟩ (.int .i64 yz2)).setCell ⟨g, 3, none⟩ (.int .i64 yz3)).setCell ⟨g, 4, none⟩ (.int .i64 yz4)).alloc (.cells #[.int .i64 yz0, .int .i64 yz1, .int .i64 yz2, .int .i64 yz3, .int .i64 yz4] 76)).cell? ⟨w6.heap.size, 3, none⟩ = some (.int .i64 yz3) := box_at (by simp) _ _ 3
    have b4 : ((((((w6.setCell ⟨g, 0, none⟩ (.int .i64 yz0)).setCell ⟨g, 1, none⟩ (.int .i64 yz1)).setCell ⟨g, 2, none⟩ (.int .i64 yz2)).setCell ⟨g, 3, none⟩ (.int .i64 yz3)).setCell ⟨g, 4, none⟩ (.int .i64 yz4)).alloc (.cells #[.int .i64 yz0, .int .i64 yz1, .int .i64 yz2, .int .i64 yz3, .int .i64 yz4] 76)).cell? ⟨w6.heap.size, 4, none⟩ = some (.int .i64 yz4) := box_at (by simp) _ _ 4
    generalize ((((((w6.setCell ⟨g, 0, none⟩ (.int .i64 yz0)).setCell ⟨g, 1, none⟩ (.int .i64 yz1)).setCell ⟨g, 2, none⟩ (.int .i64 yz2)).setCell ⟨g, 3, none⟩ (.int .i64 yz3)).setCell ⟨g, 4, none⟩ (.int .i64 yz4)).alloc (.cells #[.int .i64 yz0, .int .i64 yz1, .int .i64 yz2, .int .i64 yz3, .int .i64 yz4] 76)) = W2 at AW BW b0 b1 b2 b3 b4 ⊢
    clear g0 g1 g2 g3 g4 gz0 gz1 gz2 gz3 gz4 e0 e1 e2 e3 e4 ez0 ez1 ez2 ez3 ez4
    obtain ⟨x0, c0⟩ := AW.cell 0 (by omega)
    obtain ⟨x1, c1⟩ := AW.cell 1 (by omega)
    obtain ⟨x2, c2⟩ := AW.cell 2 (by omega)
    obtain ⟨x3, c3⟩ := AW.cell 3 (by omega)
    obtain ⟨x4, c4⟩ := AW.cell 4 (by omega)
    have f0 := AW.frozen 0
    have f1 := AW.frozen 1
    have f2 := AW.frozen 2
    have f3 := AW.frozen 3
    have f4 := AW.frozen 4
    have HAW := Lib.hid AW; have HBW := Lib.hid BW
    clear AW BW
    have hx0 : (0 : Int) < (xs.length : Int) := by omega
    go_wp2_with fail
    go_ret
    exact bent_end (((((HAW.out.set _ _).set _ _).set _ _).set _ _).set _ _) hnc hcm (by omega) (((((HBW.out.setCell (p := ⟨g, 0, none⟩) hbg _).setCell (p := ⟨g, 1, none⟩) hbg _).setCell (p := ⟨g, 2, none⟩) hbg _).setCell (p := ⟨g, 3, none⟩) hbg _).setCell (p := ⟨g, 4, none⟩) hbg _)
  · have hgl := HA.out.lt
    go_upto_region 9 with fail
    have AW : AllI ((((((w6.setCell ⟨g, k * 5, none⟩ (.int .i64 yz0)).setCell ⟨g, k * 5 + 1, none⟩ (.int .i64 yz1)).setCell ⟨g, k * 5 + 2, none⟩ (.int .i64 yz2)).setCell ⟨g, k * 5 + 3, none⟩ (.int .i64 yz3)).setCell ⟨g, k * 5 + 4, none⟩ (.int .i64 yz4)).alloc (.cells #[.int .i64 y0, .int .i64 y1, .int .i64 y2, .int .i64 y3, .int .i64 y4] 76)) g (xs.length * 5) := (((((HA.out.set _ _).set _ _).set _ _).set _ _).set _ _).below ((Below.refl _ _).alloc (Nat.le_refl _) _)
    have BW : Below w.heap.size w ((((((w6.setCell ⟨g, k * 5, none⟩ (.int .i64 yz0)).setCell ⟨g, k * 5 + 1, none⟩ (.int .i64 yz1)).setCell ⟨g, k * 5 + 2, none⟩ (.int .i64 yz2)).setCell ⟨g, k * 5 + 3, none⟩ (.int .i64 yz3)).setCell ⟨g, k * 5 + 4, none⟩ (.int .i64 yz4)).alloc (.cells #[.int .i64 y0, .int .i64 y1, .int .i64 y2, .int .i64 y3, .int .i64 y4] 76)) := (((((HB6.out.setCell (p := ⟨g, k * 5, none⟩) hbg _).setCell (p := ⟨g, k * 5 + 1, none⟩) hbg _).setCell (p := ⟨g, k * 5 + 2, none⟩) hbg _).setCell (p := ⟨g, k * 5 + 3, none⟩) hbg _).setCell (p := ⟨g, k * 5 + 4, none⟩) hbg _).alloc (by have := HB6.out.size; simpa using this) _
    have b0 : ((((((w6.setCell ⟨g, k * 5, none⟩ (.int .i64 yz0)).setCell ⟨g, k * 5 + 1, none⟩ (.int .i64 yz1)).setCell ⟨g, k * 5 + 2, none⟩ (.int .i64 yz2)).setCell ⟨g, k * 5 + 3, none⟩ (.int .i64 yz3)).setCell ⟨g, k * 5 + 4, none⟩ (.int .i64 yz4)).alloc (.cells #[.int .i64 y0, .int .i64 y1, .int .i64 y2, .int .i64 y3, .int .i64 y4] 76)).cell? ⟨w6.heap.size, 0, none⟩ = some (.int .i64 y0) := box_at (by simp) _ _ 0
    have b1 : ((((((w6.setCell ⟨g, k * 5, none⟩ (.int .i64 yz0)).setCell ⟨g, k * 5 + 1, none⟩ (.int .i64 yz1)).setCell ⟨g, k * 5 + 2, none⟩ (.int .i64 yz2)).setCell ⟨g, k * 5 + 3, none⟩ (.int .i64 yz3)).setCell ⟨g, k * 5 + 4, none⟩ (.int .i64 yz4)).alloc (.cells #[.int .i64 y0, .int .i64 y1, .int .i64 y2, .int .i64 y3, .int .i64 y4] 76)).cell? ⟨w6.heap.size, 1, none⟩ = some (.int .i64 y1) := box_at (by simp) _ _ 1
    have b2 : ((((((w6.setCell ⟨g, k * 5, none⟩ (.int .i64 yz0)).setCell ⟨g, k * 5 + 1, none⟩ (.int .i64 yz1)).setCell ⟨g, k * 5 + 2, none⟩ (.int .i64 yz2)).setCell ⟨g, k * 5 + 3, none⟩ (.int .i64 yz3)).setCell ⟨g, k * 5 + 4, none⟩ (.int .i64 yz4)).alloc (.cells #[.int .i64 y0, .int .i64 y1, .int .i64 y2, .int .i64 y3, .int .i64 y4] 76)).cell? ⟨w6.heap.size, 2, none⟩ = some (.int .i64 y2) := box_at (by simp) _ _ 2
    have b3 : ((((((w6.setCell ⟨g, k * 5, none⟩ (.int .i64 yz0)).setCell ⟨g, k * 5 + 1, none⟩ (.int .i64 yz1)).setCell ⟨g, k * 5 + 2, none⟩ (.int .i64 yz2)).setCell ⟨g, k * 5 + 3, none⟩ (.int .i64 yz3)).setCell ⟨g, k * 5 + 4, none⟩ (.int .i64 yz4)).alloc (.cells #[.int .i64 y0, .int .i64 y1, .int .i64 y2, .int .i64 y3, .int .i64 y4] 76)).cell? ⟨w6.heap.size, 3, none⟩ = some (.int .i64 y3) := box_at (by simp) _ _ 3
    have b4 : ((((((w6.setCell ⟨g, k * 5, none⟩ (.int .i64 yz0)).setCell ⟨g, k * 5 + 1, none⟩ (.int .i64 yz1)).setCell ⟨g, k * 5 + 2, none⟩ (.int .i64 yz2)).setCell ⟨g, k * 5 + 3, none⟩ (.int .i64 yz3)).setCell ⟨g, k * 5 + 4, none⟩ (.int .i64 yz4)).alloc (.cells #[.int .i64 y0, .int .i64 y1, .int .i64 y2, .int .i64 y3, .int .i64 y4] 76)).cell? ⟨w6.heap.size, 4, none⟩ = some (.int .i64 y4) := box_at (by simp) _ _ 4
    generalize ((((((w6.setCell ⟨g, k * 5, none⟩ (.int .i64 yz0)).setCell ⟨g, k * 5 + 1, none⟩ (.int .i64 yz1)).setCell ⟨g, k * 5 + 2, none⟩ (.int .i64 yz2)).setCell ⟨g, k * 5 + 3, none⟩ (.int .i64 yz3)).setCell ⟨g, k * 5 + 4, none⟩ (.int .i64 yz4)).alloc (.cells #[.int .i64 y0, .int .i64 y1, .int .i64 y2, .int .i64 y3, .int .i64 y4] 76)) = W2 at AW BW b0 b1 b2 b3 b4 ⊢
    clear g0 g1 g2 g3 g4 gz0 gz1 gz2 gz3 gz4 e0 e1 e2 e3 e4 ez0 ez1 ez2 ez3 ez4
    obtain ⟨x0, c0⟩ := AW.cell 0 (by omega)
    obtain ⟨x1, c1⟩ := AW.cell 1 (by omega)
    obtain ⟨x2, c2⟩ := AW.cell 2 (by omega)
    obtain ⟨x3, c3⟩ := AW.cell 3 (by omega)
    obtain ⟨x4, c4⟩ := AW.cell 4 (by omega)
    have f0 := AW.frozen 0
    have f1 := AW.frozen 1
    have f2 := AW.frozen 2
    have f3 := AW.frozen 3
    have f4 := AW.frozen 4
    have HAW := Lib.hid AW; have HBW := Lib.hid BW
    clear AW BW
    have hx0 : (0 : Int) < (xs.length : Int) := by omega
    go_wp2_with fail
    go_ret
    exact bent_end (((((HAW.out.set _ _).set _ _).set _ _).set _ _).set _ _) hnc hcm (by omega) (((((HBW.out.setCell (p := ⟨g, 0, none⟩) hbg _).setCell (p := ⟨g, 1, none⟩) hbg _).setCell (p := ⟨g, 2, none⟩) hbg _).setCell (p := ⟨g, 3, none⟩) hbg _).setCell (p := ⟨g, 4, none⟩) hbg _)
end Go.Proofs.Ythldekpbjfhmcaa
