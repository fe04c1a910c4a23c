import Derived.Test.YthldekpbjfhmcaaZc
import Derived.Deep.RegionHeld3
namespace Go.Proofs.Ythldekpbjfhmcaa
open Go.RowKit

set_option maxRecDepth 100000 in
set_option maxHeartbeats 4000000 in
theorem bent_c5 (v1 : Value) (xs : List Sh) (how bb : Int) (w : World) (hw1 : -9223372036854775808 ≤ how) (hw2 : how ≤ 9223372036854775807) (hb1 : -9223372036854775808 ≤ bb) (hb2 : bb ≤ 9223372036854775807) (R : RdS w v1 xs) (hx1 : 1 ≤ xs.length) (hx2 : xs.length ≤ 100000) (hsw : around how 7 = 5) :
    Calls Try.prog 12 #[v1, .int .i64 how, .int .i64 bb] w fun e w' => (∃ v ys, e = .returned v ∧ RdS w' v ys ∧ ys.length ≤ xs.length + 1) ∧ Below w.heap.size w w' := by
  obtain ⟨i0, hi0, hz0, hz1, hz2⟩ := info_parts Try.info76
  have HI := Lib.hid hi0; have HZ0 := Lib.hid hz0; have HZ1 := Lib.hid hz1; have HZ2 := Lib.hid hz2
  clear hi0 hz0 hz1 hz2
  have HR := Lib.hid R; have HSW := Lib.hid hsw
  clear R hsw
  obtain ⟨t1, t2⟩ := tdiv8 bb hb1 hb2
  go_enter Try.func12, Try.ntmps12
  go_wp2_with (at_builtin; go_must (refine wpList_append_rd rfl _ _ _ rfl w.heap.size 76 i0 _ 5 40 Try.underlying31 HI.out HZ0.out HZ1.out HZ2.out rfl (by omega) (.slice (some ⟨w.heap.size, 0, none⟩) 0 0) 0 [] rfl (own_newS w _ (Nat.le_refl _)) v1 xs.length (shs xs) rfl (Rd.below HR.out ((Below.refl _ _).alloc (Nat.le_refl _) _)) (shs_one xs) (by unfold maxLen; omega) (by omega) (by simp) ?_); intro v6 w6 hown6 hgrow6 _; have B6 : Below w.heap.size w w6 := ((Below.refl _ _).alloc (Nat.le_refl _) _).grown hgrow6 (by simp) (fun j e => by simp [Value.ownBlock] at e; omega); rw [List.nil_append, Nat.zero_add] at hown6; obtain ⟨_, a6, c6, hv6, _⟩ := Rd_of_owns hown6; subst hv6; have HB6 := Lib.hid B6; have HO6 := Lib.hid hown6; clear hown6 hgrow6 B6)
  refine (around_any bb xs.length _ hb1 hb2 (by omega) (by omega)).mono ?_
  rintro e w1 ⟨rfl, rfl⟩
  obtain ⟨k, hk, hkn⟩ : ∃ k : Nat, around bb xs.length = k ∧ k < xs.length := by
    obtain ⟨q1, q2⟩ := around_bd bb xs.length (by omega)
    exact ⟨(around bb xs.length).toNat, by omega, by omega⟩
  rw [hk]
  clear hk
  go_wp2_with fail
  refine (around_any (bb.tdiv 8) 9 _ t1 t2 (by omega) (by omega)).mono ?_
  rintro e w1 ⟨rfl, rfl⟩
  obtain ⟨q1, q2⟩ := around_bd (bb.tdiv 8) 9 (by omega)
  generalize around (bb.tdiv 8) 9 = nn at q1 q2 ⊢
  go_wp2_with fail
  refine (around_any how 7 _ hw1 hw2 (by omega) (by omega)).mono ?_
  rintro e w1 ⟨rfl, rfl⟩
  rw [HSW.out]
  have hO := HO6.out
  rcases hO.2 with ⟨h2, h3⟩ | ⟨g, cap, cur, he, hbg, hg, hnc, hcm, hcs, ht⟩
  · exfalso; have := hO.1; rw [h3] at this; simp at this; omega
  cases he
  obtain ⟨_, _, _, hA⟩ := all_own hO
  have HA := Lib.hid hA
  clear hg ht hcs cur hO hA
  have hkx : (k : Int) < (xs.length : Int) := by omega
  obtain ⟨y0, g0⟩ := HA.out.cell (k * 5) (by omega)
  obtain ⟨y1, g1⟩ := HA.out.cell (k * 5 + 1) (by omega)
  obtain ⟨y2, g2⟩ := HA.out.cell (k * 5 + 2) (by omega)
  obtain ⟨y3, g3⟩ := HA.out.cell (k * 5 + 3) (by omega)
  obtain ⟨y4, g4⟩ := HA.out.cell (k * 5 + 4) (by omega)
  have e0 := HA.out.frozen (k * 5)
  have e1 := HA.out.frozen (k * 5 + 1)
  have e2 := HA.out.frozen (k * 5 + 2)
  have e3 := HA.out.frozen (k * 5 + 3)
  have e4 := HA.out.frozen (k * 5 + 4)
  have hbs := HB6.out.size
  go_wp2_with (at_builtin; go_must (refine wpList_append_lies _ rfl _ _ _ rfl w.heap.size 76 i0 _ 5 40 Try.underlying31 HI.out HZ0.out HZ1.out HZ2.out rfl (by omega) _ xs.length (shs xs) rfl (HO6.out.alloc _) ⟨w6.heap.size, 0, none⟩ 1 1 [.int .i64 y0, .int .i64 y1, .int .i64 y2, .int .i64 y3, .int .i64 y4] rfl rfl (World.news_of_block (cs := #[.int .i64 y0, .int .i64 y1, .int .i64 y2, .int .i64 y3, .int .i64 y4]) (t := 76) (fr := (0, 0)) (heap_alloc_new w6 _)) (by simp [Value.oneCell']) (by omega) (by unfold maxLen; omega) (by omega) (by simp; omega) (w6.heap.size + 1) (by simp) ?_); intro gg cap w3 hown1 hgrow hat hltg)
  go_ret
  have hown2 : w3.ownsRow w.heap.size 76 5 (.slice (some ⟨gg, 0, none⟩) (xs.length + 1) cap) (xs.length + 1) (shs (xs ++ [⟨y0, y1, y2, y3, y4⟩])) := by
    have := hown1
    simpa [shs, sh] using this
  obtain ⟨_, r1, r2, r3⟩ := all_own hown2
  exact bent_end r3 r1 r2 (Nat.le_refl _) ((HB6.out.alloc hbs _).grown hgrow (by simp; omega) (fun j e => (HO6.out.lt j e).1))

end Go.Proofs.Ythldekpbjfhmcaa
