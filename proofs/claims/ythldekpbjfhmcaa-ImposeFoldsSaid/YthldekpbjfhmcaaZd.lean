import Derived.Test.YthldekpbjfhmcaaZc
import Derived.Deep.RegionHeld3
namespace Go.Proofs.Ythldekpbjfhmcaa
open Go.RowKit

set_option maxRecDepth 100000 in
set_option maxHeartbeats 4000000 in
theorem bent_c4 (v1 : Value) (xs : List Sh) (how bb : Int) (w : World) (hw1 : -9223372036854775808 ≤ how) (hw2 : how ≤ 9223372036854775807) (hb1 : -9223372036854775808 ≤ bb) (hb2 : bb ≤ 9223372036854775807) (R : RdS w v1 xs) (hx1 : 1 ≤ xs.length) (hx2 : xs.length ≤ 100000) (hsw : around how 7 = 4) :
    Calls Try.prog 12 #[v1, .int .i64 how, .int .i64 bb] w fun e w' => (∃ v ys, e = .returned v ∧ RdS w' v ys ∧ ys.length ≤ xs.length + 1) ∧ Below w.heap.size w w' := by
  obtain ⟨i0, hi0, hz0, hz1, hz2⟩ := info_parts Try.info76
  have HI := Lib.hid hi0; have HZ0 := Lib.hid hz0; have HZ1 := Lib.hid hz1; have HZ2 := Lib.hid hz2
  clear hi0 hz0 hz1 hz2
  have HR := Lib.hid R; have HSW := Lib.hid hsw
  clear R hsw
  obtain ⟨t1, t2⟩ := tdiv8 bb hb1 hb2
  go_enter Try.func12, Try.ntmps12
  go_wp2_with (at_builtin; go_must (refine wpList_append_rd rfl _ _ _ rfl w.heap.size 76 i0 _ 5 40 Try.underlying31 HI.out HZ0.out HZ1.out HZ2.out rfl (by omega) (.slice (some ⟨w.heap.size, 0, none⟩) 0 0) 0 [] rfl (own_newS w _ (Nat.le_refl _)) v1 xs.length (shs xs) rfl (Rd.below HR.out ((Below.refl _ _).alloc (Nat.le_refl _) _)) (shs_one xs) (by unfold maxLen; omega) (by omega) (by simp) ?_); intro v6 w6 hown6 hgrow6 _; have B6 : Below w.heap.size w w6 := ((Below.refl _ _).alloc (Nat.le_refl _) _).grown hgrow6 (by simp) (fun j e => by simp [Value.ownBlock] at e; omega); rw [List.nil_append, Nat.zero_add] at hown6; obtain ⟨_, a6, c6, hv6, _⟩ := Rd_of_owns hown6; subst hv6; have HB6 := Lib.hid B6; have HO6 := Lib.hid hown6; clear hown6 hgrow6 B6)
  refine (around_any bb xs.length _ hb1 hb2 (by omega) (by omega)).mono ?_
  rintro e w1 ⟨rfl, rfl⟩
  obtain ⟨k, hk, hkn⟩ : ∃ k : Nat, around bb xs.length = k ∧ k < xs.length := by
    obtain ⟨q1, q2⟩ := around_bd bb xs.length (by omega)
    exact ⟨(around bb xs.length).toNat, by omega, by omega⟩
  rw [hk]
  clear hk
  go_wp2_with fail
  refine (around_any (bb.tdiv 8) 9 _ t1 t2 (by omega) (by omega)).mono ?_
  rintro e w1 ⟨rfl, rfl⟩
  obtain ⟨q1, q2⟩ := around_bd (bb.tdiv 8) 9 (by omega)
  generalize around (bb.tdiv 8) 9 = nn at q1 q2 ⊢
  go_wp2_with fail
  refine (around_any how 7 _ hw1 hw2 (by omega) (by omega)).mono ?_
  rintro e w1 ⟨rfl, rfl⟩
  rw [HSW.out]
  have hO := HO6.out
  rcases hO.2 with ⟨h2, h3⟩ | ⟨g, cap, cur, he, hbg, hg, hnc, hcm, hcs, ht⟩
  · exfalso; have := hO.1; rw [h3] at this; simp at this; omega
  cases he
  obtain ⟨_, _, _, hA⟩ := all_own hO
  have HA := Lib.hid hA
  clear hg ht hcs cur hO hA
  have hkx : (k : Int) < (xs.length : Int) := by omega
  obtain ⟨zs, hz1, hz2⟩ := HA.out.news ((k + 1) * 5) ((xs.length - (k + 1)) * 5) (by omega)
  have HN := Lib.hid hz2
  have HL : (ints zs).length = (xs.length - (k + 1)) * 5 := by simp [ints, hz1]
  have HL2 := Lib.hid HL
  have hsp : ∀ j, j < (ints zs).length → (w6.drew.cell? ⟨g, 0 + k * 5 + j, none⟩).isSome = true ∧ w6.drew.frozen? ⟨g, 0 + k * 5 + j, none⟩ = false := by
    intro j hj
    obtain ⟨z, hz⟩ := HA.out.cell (k * 5 + j) (by omega)
    exact ⟨by rw [Nat.zero_add]; show (w6.cell? _).isSome = true; rw [hz]; rfl, HA.out.frozen _⟩
  have HSP := Lib.hid hsp
  have hne : (xs.length : Int) ≤ (c6 : Int) := by omega
  clear hz1 hz2 HL hsp
  have hkc : k ≤ c6 := by omega
  have hk1 : k + 1 ≤ xs.length := by omega
  have hwr : IntKind.i64.wrap ((k : Int) + 1) = (k : Int) + 1 := IntWalk.i64_in _ (by omega)
  have hw0 : (0 : Int) ≤ (k : Int) + 1 := by omega
  have hkk : (k : Int) ≤ (k : Int) + 1 := by omega
  have hwn : ((k : Int) + 1).toNat = k + 1 := by omega
  have hw1 : (k : Int) + 1 ≤ (xs.length : Int) := by omega
  have hm : k + (xs.length - (k + 1)) ≤ c6 := by omega
  have hm2 : k + (xs.length - (k + 1)) ≤ xs.length + 1 := by omega
  have HF : ∀ W, AllI W g (xs.length * 5) → AllI W g ((k + (xs.length - (k + 1))) * 5) := fun W h => by
    obtain ⟨C, h1, h2⟩ := h
    exact ⟨C, h1, fun j hj => h2 j (by omega)⟩
  have HF2 := Lib.hid (HF _ (AllI.setCells zs (0 + k * 5) HA.out.drew))
  have HF3 := Lib.hid (below_cells hbg (ints zs) (0 + k * 5) HB6.out.drew)
  clear HF
  have HM := Lib.hid hm; have HM2 := Lib.hid hm2
  by_cases hcap : c6 = k + 1
  · subst hcap
    go_wp2_with fail
    clear HN HL2 HSP HF2 HF3
    have HF2 : ∀ W, AllI W g (xs.length * 5) → AllI W g (k * 5) := fun W h => by
      obtain ⟨C, h1, h2⟩ := h
      exact ⟨C, h1, fun j hj => h2 j (by omega)⟩
    have HF4 := Lib.hid (HF2 _ HA.out.drew)
    clear HF2
    go_region_held3 (fun _ => True) (trivial) (refine step_append_room (by rfl) _ _ 31 (by rfl) 76 i0 5 Try.underlying31 HI.out HZ1.out g 0 k (k + 1) (by rfl) ⟨g, 0, none⟩ 0 0 [] (by rfl) (by rfl) (fun j u hj => by simp at hj) (fun u hu => by simp at hu) (by omega) (fun j hj => by simp at hj) ?_)
    go_wp2_with fail
    go_ret
    exact bent_end HF4.out (by omega) hcm (by omega) HB6.out.drew
  · go_wp2_with fail
    go_region_held3 (fun _ => True) (trivial) (refine step_append_room (by rfl) _ _ 31 (by rfl) 76 i0 5 Try.underlying31 HI.out HZ1.out g 0 k c6 (by rfl) ⟨g, (k + 1) * 5, none⟩ (xs.length - (k + 1)) (c6 - (k + 1)) (ints zs) (by rfl) HL2.out (fun j u hj => by have := HN.out j u hj; unfold Addr.add; split; (next h0 => subst h0; simpa using this); exact this) (ints_one zs) (by omega) HSP.out ?_)
    go_wp2_with fail
    go_ret
    exact bent_end HF2.out HM.out hcm HM2.out HF3.out

end Go.Proofs.Ythldekpbjfhmcaa
