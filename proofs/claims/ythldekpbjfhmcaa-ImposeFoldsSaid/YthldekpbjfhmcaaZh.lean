/- the package's Check -/
import Derived.Test.YthldekpbjfhmcaaWk
import Derived.Test.YthldekpbjfhmcaaZi
namespace Go.Proofs.Ythldekpbjfhmcaa
open Go.RowKit Go.Shelf
attribute [local go_sem] Oper.semAt_some

def checkR (p k : Int) (ys : List Sh) : Int := if errOf p k = 0 then (if fold p k = ys then 0 else 17) else errOf p k

theorem prefix_snoc {α : Type} {l ys : List α} {y : α} (h : l <+: ys) (hy : ys[l.length]? = some y) : l ++ [y] <+: ys := by
  obtain ⟨t, rfl⟩ := h
  rw [List.getElem?_append_right (Nat.le_refl _), Nat.sub_self] at hy
  cases t with
  | nil => simp at hy
  | cons a r => simp at hy; subst hy; exact ⟨r, by simp⟩
theorem prefix_at {α : Type} {l ys : List α} {y : α} (h : l ++ [y] <+: ys) : ys[l.length]? = some y := by
  obtain ⟨t, rfl⟩ := h
  simp
theorem Boxs.put {W : World} {B : Nat} {t : TypeId} {v : Value} (h : Boxs W B t #[v]) (u : Value) : Boxs (W.setCell ⟨B, 0, none⟩ u) B t #[u] := by
  unfold Boxs at h ⊢
  simp [World.setCell, Array.getElem?_modify, h]
theorem Boxs.frozen {W : World} {B : Nat} {t : TypeId} {cs : Array Value} (h : Boxs W B t cs) (o : Nat) : W.frozen? ⟨B, o, none⟩ = false := by
  simp [World.frozen?, show W.heap[B]? = _ from h]

set_option maxRecDepth 100000 in
set_option maxHeartbeats 2000000 in
theorem check_any (p k : Int) (v2 : Value) (ys : List Sh) (w : World) (hp : -9223372036854775808 ≤ p) (hp' : p ≤ 9223372036854775807) (hk : -9223372036854775808 ≤ k) (hk' : k ≤ 9223372036854775807) (R : RdS w v2 ys) :
    Calls Try.prog 35 #[.int .i64 p, .int .i64 k, v2] w fun e w' => e = .returned (.int .i64 (checkR p k ys)) ∧ Below w.heap.size w w' := by
  obtain ⟨a2, c2, rfl, l2, f2⟩ := R.open
  clear f2
  have HR := Lib.hid R
  clear R
  by_cases h0 : errOf p k = 0
  · obtain ⟨hp1, hp2, hk1, hk2, hk3⟩ := errOf_zero h0
    have hF := foldI h0
    have HF := Lib.hid hF; clear hF
    have H0 := Lib.hid h0
    have hNl := items_len p k hp1 hp2 hk1 hk2
    clear hk3 h0
    refine (callsIn_wide (n := 9)).1 ?_
    refine callsIn_of_wp_marks Try.func35 rfl trivial ?_ rfl
    simp only [Try.ntmps35, List.size_toArray, List.length_cons, List.length_nil, Nat.reduceAdd, Nat.reduceSub, Array.replicate_succ, Array.replicate_zero, List.push_toArray, List.append_toArray, List.nil_append, List.cons_append]
    gi_wp2_with fail
    refine ⟨trivial, ?_⟩
    have C5 := Boxs.new w 22 #[.slice a2 ys.length c2]
    have C6 := Boxs.new (w.alloc (.cells #[.slice a2 ys.length c2] 22)) 25 #[.int .i64 0]
    have C7 := Boxs.new ((w.alloc (.cells #[.slice a2 ys.length c2] 22)).alloc (.cells #[.int .i64 0] 25)) 66 #[.int .i64 p, .int .i64 k]
    have C5 := (C5.alloc (.cells #[.int .i64 0] 25)).alloc (.cells #[.int .i64 p, .int .i64 k] 66)
    have C6 := C6.alloc (.cells #[.int .i64 p, .int .i64 k] 66)
    simp only [World.size_alloc] at C6 C7
    have BB : Below w.heap.size w (((w.alloc (.cells #[.slice a2 ys.length c2] 22)).alloc (.cells #[.int .i64 0] 25)).alloc (.cells #[.int .i64 p, .int .i64 k] 66)) := (((Below.refl _ _).alloc (Nat.le_refl _) _).alloc (by simp) _).alloc (by simp; omega) _
    have hsz : (((w.alloc (.cells #[.slice a2 ys.length c2] 22)).alloc (.cells #[.int .i64 0] 25)).alloc (.cells #[.int .i64 p, .int .i64 k] 66)).heap.size = w.heap.size + 3 := by simp
    generalize (((w.alloc (.cells #[.slice a2 ys.length c2] 22)).alloc (.cells #[.int .i64 0] 25)).alloc (.cells #[.int .i64 p, .int .i64 k] 66)) = W1 at C5 C6 C7 BB hsz ⊢
    refine (callsIn_wide.2 (valid_any p k _ hp hp' hk hk')).mono ?_
    rintro e w1 ⟨rfl, hb1⟩
    rw [H0.out]
    have C5 := C5.below hb1 (by omega)
    have C6 := C6.below hb1 (by omega)
    have C7 := C7.below hb1 (by omega)
    have BB := BB.trans (hb1.mono (by omega))
    have hs1 := hb1.size
    rw [hsz] at hs1
    clear hb1 hsz
    have q0 : w1.cell? ⟨w.heap.size + 1 + 1, 0, none⟩ = some (.int .i64 p) := C7.cell 0
    have q1 : w1.cell? ⟨w.heap.size + 1 + 1, 1, none⟩ = some (.int .i64 k) := C7.cell 1
    have r0 := fun o => cell_al o q0
    have r1 := fun o => cell_al o q1
    gi_wp2_with fail
    refine ⟨trivial, ?_⟩
    refine (callsIn_wide.2 (sheets_any p k _)).mono ?_
    rintro e w2 ⟨rfl, rfl⟩
    gi_wp2_with fail
    have C5 := (C5.alloc (.cells #[.int .i64 0] 3)).alloc (.cells #[.int .i64 p, .int .i64 k] 66)
    have C6 := (C6.alloc (.cells #[.int .i64 0] 3)).alloc (.cells #[.int .i64 p, .int .i64 k] 66)
    have C9 := (Boxs.new w1 3 #[.int .i64 0]).alloc (.cells #[.int .i64 p, .int .i64 k] 66)
    have CN := Boxs.new (w1.alloc (.cells #[.int .i64 0] 3)) 66 #[.int .i64 p, .int .i64 k]
    rw [World.size_alloc] at CN
    have BB := (BB.alloc (by omega) (.cells #[.int .i64 0] 3)).alloc (by simp; omega) (.cells #[.int .i64 p, .int .i64 k] 66)
    have hsz : ((w1.alloc (.cells #[.int .i64 0] 3)).alloc (.cells #[.int .i64 p, .int .i64 k] 66)).heap.size = w1.heap.size + 2 := by simp
    obtain ⟨W0, hW0⟩ : ∃ W0, (w1.alloc (.cells #[.int .i64 0] 3)).alloc (.cells #[.int .i64 p, .int .i64 k] 66) = W0 := ⟨_, rfl⟩
    rw [hW0] at C5 C6 C9 CN BB hsz ⊢
    clear hW0 q0 q1 r0 r1 C7
    refine wpIn_rangeFunc_ownH rfl (by omega) (gf := 46) (lb := #[.pointer (some ⟨w1.heap.size + 1, 0, none⟩)]) rfl trivial (enters_of Try.func46 (by kernel_rfl) rfl)
      (sheets1_stops 8 (by omega) (w1.heap.size + 1) p k hp1 hp2 hk1 hk2 W0 (by omega) (CN.cell 0) (CN.cell 1)) (fun h1 h2 => h1.trans h2) (keepB_b (by omega)) (Below.refl _ _) (fun _ => rfl)
      (fun pre W => (Boxs W w.heap.size 22 #[.slice a2 ys.length c2] ∧ (Boxs W (w.heap.size + 1) 25 #[.int .i64 0] ∧ (Boxs W w1.heap.size 3 #[.int .i64 pre.length] ∧ (Boxs W (w1.heap.size + 1) 66 #[.int .i64 p, .int .i64 k] ∧ Below w.heap.size w W)))) ∧ pre.map (·.2) <+: ys)
      (fun c (pre : List ((Int × Int) × Sh)) W => (Boxs W (w.heap.size + 1) 25 #[.int .i64 17] ∧ Below w.heap.size w W) ∧ (c = .ret ∧ ¬ pre.map (·.2) <+: ys))
      (OwnFrom.and (OwnFrom.and (Own.from (boxs_own _ _ _) _) (OwnFrom.and (Own.from (boxs_own _ _ _) _) (OwnFrom.and (Own.from (boxs_own w1.heap.size 3 (fun pre : List ((Int × Int) × Sh) => #[.int .i64 pre.length])) _) (OwnFrom.and (Own.from (boxs_own _ _ _) _) (ownFrom_below (by omega) (by omega)))))) (ownFrom_pure _ _))
      (fun c => OwnFrom.and (OwnFrom.and (Own.from (boxs_own _ _ _) _) (ownFrom_below (by omega) (by omega))) (ownFrom_pure _ _))
      ⟨⟨C5, C6, C9, CN, BB⟩, by simp⟩
      (fun x a' W => ∃ Bx, w1.heap.size + 2 ≤ Bx ∧ Boxs W Bx 54 #[.int .i64 x.2.q, .int .i64 x.2.f0, .int .i64 x.2.f1, .int .i64 x.2.b0, .int .i64 x.2.b1] ∧ a' = { tmps := #[.int .i64 p, .int .i64 k, .slice a2 ys.length c2, undef, undef, .pointer (some ⟨w.heap.size, 0, none⟩), .pointer (some ⟨w.heap.size + 1, 0, none⟩), .pointer (some ⟨w.heap.size + 1 + 1, 0, none⟩), .int .i64 0, .pointer (some ⟨w1.heap.size, 0, none⟩), undef, .pointer (some ⟨Bx, 0, none⟩), .int .i64 p, .int .i64 k, .agg #[.int .i64 p, .int .i64 k], .agg #[.int .i64 p, .int .i64 k], .int .i64 0, .int .i64 0, .bool false, undef, .agg #[.int .i64 p, .int .i64 k], .func (.func 46) #[] #[.pointer (some ⟨w1.heap.size + 1, 0, none⟩)], .agg #[.int .i64 x.1.1, .int .i64 x.1.2], .agg #[.int .i64 x.2.q, .int .i64 x.2.f0, .int .i64 x.2.f1, .int .i64 x.2.b0, .int .i64 x.2.b1], undef, undef, undef, undef, undef, undef, undef, undef, undef, undef, undef, undef, undef, undef, undef, undef, undef, undef, undef, undef, undef, undef, undef, undef, undef, undef, undef, undef, undef, undef, undef, undef, undef, undef, undef, undef, undef, undef, undef, undef], defers := [] }) ?hAx ?assign ?body ?done ?stop
    case hAx =>
      rintro x a' _ X Y row ⟨Bx, g1, g2, g3⟩ hg hr
      exact ⟨Bx, g1, boxs_own Bx 54 (fun _ : Unit => #[.int .i64 x.2.q, .int .i64 x.2.f0, .int .i64 x.2.f1, .int .i64 x.2.b0, .int .i64 x.2.b1]) () X Y row g2 hg (fun r e => (hr r e).2), g3⟩
    case assign =>
      rintro l pre x W K ⟨⟨D5, D6, D9, DN, hB⟩, hpre⟩ hK
      simp only [itEnc]
      gi_wp2
      exact hK _ _ ((KeepsOthers.alloc _ _).from _) (keepB_boxs DN (DN.alloc _) (by simp)) ⟨⟨D5.alloc _, D6.alloc _, D9.alloc _, DN.alloc _, hB.alloc hB.size _⟩, hpre⟩ ⟨W.heap.size, by have := DN.lt; omega, Boxs.new W 54 _, rfl⟩
    case body =>
      rintro l pre x a' W hl ⟨r, hr⟩ ⟨⟨D5, D6, D9, DN, hB⟩, hpre⟩ ⟨Bx, hBx, bX, rfl⟩ hlt
      have g5 := D5.cell 0
      have g9 := D9.cell 0
      have f9 := D9.frozen 0
      have g6 := D6.cell 0
      have f6 := D6.frozen 0
      have x0 : W.cell? ⟨Bx, 0, none⟩ = some (.int .i64 x.2.q) := bX.cell 0
      have x1 : W.cell? ⟨Bx, 1, none⟩ = some (.int .i64 x.2.f0) := bX.cell 1
      have x2 : W.cell? ⟨Bx, 2, none⟩ = some (.int .i64 x.2.f1) := bX.cell 2
      have x3 : W.cell? ⟨Bx, 3, none⟩ = some (.int .i64 x.2.b0) := bX.cell 3
      have x4 : W.cell? ⟨Bx, 4, none⟩ = some (.int .i64 x.2.b1) := bX.cell 4
      have hstop : ∀ nq, ¬ (pre ++ [x]).map (·.2) <+: ys → KeepsFrom W0.heap.size W ((W.drewN nq).setCell ⟨w.heap.size + 1, 0, none⟩ (.int .i64 17)) ∧ ((Boxs ((W.drewN nq).setCell ⟨w.heap.size + 1, 0, none⟩ (.int .i64 17)) (w.heap.size + 1) 25 #[.int .i64 17] ∧ Below w.heap.size w ((W.drewN nq).setCell ⟨w.heap.size + 1, 0, none⟩ (.int .i64 17))) ∧ (Code.ret = .ret ∧ ¬ (pre ++ [x]).map (·.2) <+: ys)) := fun nq hn =>
        ⟨(KeepsFrom.of_grownBy (grown_of_below (Below.dn (Below.refl W.heap.size W) nq)) (fun j e => by cases e)).trans ((KeepsOthers.setCell _ _ _).from _), ⟨(D6.below (Below.dn (Below.refl W.heap.size W) nq) D6.lt).put _, (Below.dn hB nq).setCell (p := ⟨w.heap.size + 1, 0, none⟩) (by show _ ≤ w.heap.size + 1; omega) _⟩, rfl, hn⟩
      have hcont : ∀ nq, (pre ++ [x]).map (·.2) <+: ys → KeepsFrom W0.heap.size W ((W.drewN nq).setCell ⟨w1.heap.size, 0, none⟩ (.int .i64 ((pre.length : Int) + 1))) ∧ KeepB (w1.heap.size + 1) W ((W.drewN nq).setCell ⟨w1.heap.size, 0, none⟩ (.int .i64 ((pre.length : Int) + 1))) ∧ ((Boxs ((W.drewN nq).setCell ⟨w1.heap.size, 0, none⟩ (.int .i64 ((pre.length : Int) + 1))) w.heap.size 22 #[.slice a2 ys.length c2] ∧ (Boxs ((W.drewN nq).setCell ⟨w1.heap.size, 0, none⟩ (.int .i64 ((pre.length : Int) + 1))) (w.heap.size + 1) 25 #[.int .i64 0] ∧ (Boxs ((W.drewN nq).setCell ⟨w1.heap.size, 0, none⟩ (.int .i64 ((pre.length : Int) + 1))) w1.heap.size 3 #[.int .i64 ((pre ++ [x]).length : Int)] ∧ (Boxs ((W.drewN nq).setCell ⟨w1.heap.size, 0, none⟩ (.int .i64 ((pre.length : Int) + 1))) (w1.heap.size + 1) 66 #[.int .i64 p, .int .i64 k] ∧ Below w.heap.size w ((W.drewN nq).setCell ⟨w1.heap.size, 0, none⟩ (.int .i64 ((pre.length : Int) + 1))))))) ∧ (pre ++ [x]).map (·.2) <+: ys) := fun nq hn =>
        have hd := Below.dn (Below.refl W.heap.size W) nq
        have hN2 := (DN.below hd DN.lt).setOther (show w1.heap.size + 1 ≠ w1.heap.size by omega) (.int .i64 ((pre.length : Int) + 1))
        ⟨(KeepsFrom.of_grownBy (grown_of_below hd) (fun j e => by cases e)).trans ((KeepsOthers.setCell _ _ _).from _), keepB_boxs DN hN2 (by simp), ⟨(D5.below hd D5.lt).setOther (by omega) _, (D6.below hd D6.lt).setOther (by omega) _, by simpa using (D9.below hd D9.lt).put (.int .i64 ((pre.length : Int) + 1)), hN2, (Below.dn hB nq).setCell (p := ⟨w1.heap.size, 0, none⟩) (by show _ ≤ w1.heap.size; omega) _⟩, hn⟩
      have HSTOP := Lib.hid hstop; have HCONT := Lib.hid hcont
      have hpl : (pre.map (·.2)).length = pre.length := by simp
      have hxat : (pre ++ [x]).map (·.2) = pre.map (·.2) ++ [x.2] := by simp
      have HPRE := Lib.hid hpre; have HPL := Lib.hid hpl; have HXA := Lib.hid hxat
      obtain ⟨⟨xa, xb⟩, ⟨s0, s1, s2, s3, s4⟩⟩ := x
      dsimp only at x0 x1 x2 x3 x4 hstop hcont hxat ⊢
      clear hstop hcont hpl hxat hpre
      by_cases hlen : pre.length < ys.length
      · obtain ⟨⟨y0, y1, y2, y3, y4⟩, hy⟩ := elem_at hlen
        have hd : decide (ys.length ≤ pre.length) = false := decide_eq_false (by omega)
        obtain ⟨_, _, he, _, F⟩ := RdS.open (Rd.below HR.out (hB.mono (Nat.le_refl _)))
        cases he
        obtain ⟨b2, o2, rfl, _, z0, z1, z2, z3, z4⟩ := F _ _ hy
        clear F
        have HY := Lib.hid hy
        clear hy D5 D6 D9 DN bX
        by_cases hq : y0 = s0
        · have hqb : (y0 != s0) = false := by simp [hq]
          by_cases hf : (y1, y2) = (s1, s2)
          · have hfb := eqP_self (s1, s2)
            cases hf
            by_cases hb : (y3, y4) = (s3, s4)
            · have hbb := eqP_self (s3, s4)
              cases hb
              have hpr : (pre ++ [((xa, xb), (⟨s0, s1, s2, s3, s4⟩ : Sh))]).map (·.2) <+: ys := by
                rw [HXA.out]; exact prefix_snoc HPRE.out (by rw [HPL.out, HY.out, hq])
              have HPR := Lib.hid hpr
              clear hpr hq
              gi_wp2
              refine region_round (by kernel_rfl) (by kernel_rfl) (by kernel_rfl) ?_
              repeat (quiet_step_in (fail))
              refine wpQuietIn_nil ?_
              intro _ hw'
              obtain ⟨nq, hw''⟩ := hw'
              subst hw''
              gi_wp2
              exact HCONT.out nq HPR.out
            · have hbb := eqP_ne hb
              have hnp : ¬ (pre ++ [((xa, xb), (⟨s0, s1, s2, s3, s4⟩ : Sh))]).map (·.2) <+: ys := by
                rw [HXA.out]; intro h; have := prefix_at h; rw [HPL.out, HY.out] at this; simp only [Option.some.injEq, Sh.mk.injEq] at this; exact hb (by simp [this])
              have HNP := Lib.hid hnp
              clear hnp hb hq
              gi_wp2
              refine region_round (by kernel_rfl) (by kernel_rfl) (by kernel_rfl) ?_
              repeat (quiet_step_in (fail))
              refine wpQuietIn_nil ?_
              intro _ hw'
              obtain ⟨nq, hw''⟩ := hw'
              subst hw''
              gi_wp2
              have hx := HSTOP.out nq HNP.out; exact ⟨hx.1, hx.2.1, rfl, hx.2.2.2⟩
          · have hfb := eqP_ne hf
            have hnp : ¬ (pre ++ [((xa, xb), (⟨s0, s1, s2, s3, s4⟩ : Sh))]).map (·.2) <+: ys := by
              rw [HXA.out]; intro h; have := prefix_at h; rw [HPL.out, HY.out] at this; simp only [Option.some.injEq, Sh.mk.injEq] at this; exact hf (by simp [this])
            have HNP := Lib.hid hnp
            clear hnp hf hq
            gi_wp2
            refine region_round (by kernel_rfl) (by kernel_rfl) (by kernel_rfl) ?_
            repeat (quiet_step_in (fail))
            refine wpQuietIn_nil ?_
            intro _ hw'
            obtain ⟨nq, hw''⟩ := hw'
            subst hw''
            gi_wp2
            have hx := HSTOP.out nq HNP.out; exact ⟨hx.1, hx.2.1, rfl, hx.2.2.2⟩
        · have hqb : (y0 != s0) = true := by simp [hq]
          have hnp : ¬ (pre ++ [((xa, xb), (⟨s0, s1, s2, s3, s4⟩ : Sh))]).map (·.2) <+: ys := by
            rw [HXA.out]; intro h; have := prefix_at h; rw [HPL.out, HY.out] at this; simp only [Option.some.injEq, Sh.mk.injEq] at this; exact hq this.1
          have HNP := Lib.hid hnp
          clear hnp hq
          gi_wp2
          refine region_round (by kernel_rfl) (by kernel_rfl) (by kernel_rfl) ?_
          repeat (quiet_step_in (fail))
          refine wpQuietIn_nil ?_
          intro _ hw'
          obtain ⟨nq, hw''⟩ := hw'
          subst hw''
          gi_wp2
          have hx := HSTOP.out nq HNP.out; exact ⟨hx.1, hx.2.1, rfl, hx.2.2.2⟩
      · have hd : decide (ys.length ≤ pre.length) = true := decide_eq_true (by omega)
        have hnp : ¬ (pre ++ [((xa, xb), (⟨s0, s1, s2, s3, s4⟩ : Sh))]).map (·.2) <+: ys := by
          rw [HXA.out]; intro h; have := prefix_at h; rw [HPL.out, List.getElem?_eq_none (by omega)] at this; cases this
        have HNP := Lib.hid hnp
        clear hnp D5 D6 D9 DN bX
        gi_wp2
        refine region_round (by kernel_rfl) (by kernel_rfl) (by kernel_rfl) ?_
        repeat (quiet_step_in (fail))
        refine wpQuietIn_nil ?_
        intro _ hw'
        obtain ⟨nq, hw''⟩ := hw'
        subst hw''
        gi_wp2
        have hx := HSTOP.out nq HNP.out; exact ⟨hx.1, hx.2.1, rfl, hx.2.2.2⟩
    case done =>
      rintro D zs W hD rfl ⟨⟨D5, D6, D9, DN, hB⟩, hpre⟩ hK
      have g5 := D5.cell 0
      have g9 := D9.cell 0
      have g6 := D6.cell 0
      have f6 := D6.frozen 0
      have hfl : (fold p k).length = (items p k).length := by rw [← HF.out, List.length_map]
      by_cases hlen : (items p k).length < ys.length
      · have hr : checkR p k ys = 17 := by
          unfold checkR; rw [if_pos H0.out, if_neg (fun e => by rw [← e, hfl] at hlen; omega)]
        have HR2 := Lib.hid hr
        clear hr hfl hpre
        gi_wp2
        have hD6 := D6.put (.int .i64 17)
        have hK2 : (W.setCell ⟨w.heap.size + 1, 0, none⟩ (.int .i64 17)).heap[D]? = some (.deferred (some [])) := (KeepsOthers.setCell _ _ _).same D _ hK rfl
        have q6 : ((W.setCell ⟨w.heap.size + 1, 0, none⟩ (.int .i64 17)).putObj D (.deferred none)).cell? ⟨w.heap.size + 1, 0, none⟩ = some (.int .i64 17) := cell_kept (hD6.cell 0) (grownBy_putObj' _ D (.deferred none)) (fun r e => by cases e; exact ⟨_, hK2, rfl⟩)
        have hB2 : Below w.heap.size w (W.setCell ⟨w.heap.size + 1, 0, none⟩ (.int .i64 17)) := hB.setCell (p := ⟨w.heap.size + 1, 0, none⟩) (by show _ ≤ w.heap.size + 1; omega) _
        refine ⟨by simp, .inl ⟨_, _, rfl, run_takeDeferred hK2, ?_⟩⟩
        exact ⟨.int .i64 17, by simp [results, Try.results35, go_sem, q6], ret_int HR2.out.symm, hB2.trans (belowK_b (w := w) (Nat.le_refl _) _ D _ _ (by omega) hK2 rfl rfl)⟩
      · have hr : checkR p k ys = 0 := by
          unfold checkR; rw [if_pos H0.out, if_pos]
          rw [HF.out] at hpre; exact hpre.eq_of_length_le (by omega)
        have HR2 := Lib.hid hr
        clear hr hfl hpre
        gi_wp2
        have hD6 := D6.put (.int .i64 0)
        have hK2 : (W.setCell ⟨w.heap.size + 1, 0, none⟩ (.int .i64 0)).heap[D]? = some (.deferred (some [])) := (KeepsOthers.setCell _ _ _).same D _ hK rfl
        have q6 : ((W.setCell ⟨w.heap.size + 1, 0, none⟩ (.int .i64 0)).putObj D (.deferred none)).cell? ⟨w.heap.size + 1, 0, none⟩ = some (.int .i64 0) := cell_kept (hD6.cell 0) (grownBy_putObj' _ D (.deferred none)) (fun r e => by cases e; exact ⟨_, hK2, rfl⟩)
        have hB2 : Below w.heap.size w (W.setCell ⟨w.heap.size + 1, 0, none⟩ (.int .i64 0)) := hB.setCell (p := ⟨w.heap.size + 1, 0, none⟩) (by show _ ≤ w.heap.size + 1; omega) _
        refine ⟨by simp, .inl ⟨_, _, rfl, run_takeDeferred hK2, ?_⟩⟩
        exact ⟨.int .i64 0, by simp [results, Try.results35, go_sem, q6], ret_int HR2.out.symm, hB2.trans (belowK_b (w := w) (Nat.le_refl _) _ D _ _ (by omega) hK2 rfl rfl)⟩
    case stop =>
      rintro D c pre W hD hsp ⟨⟨D6, hB⟩, rfl, hn⟩ hK
      have hr : checkR p k ys = 17 := by
        unfold checkR; rw [if_pos H0.out, if_neg (fun e => hn (by rw [← e, ← HF.out]; exact hsp.map _))]
      have HR2 := Lib.hid hr
      clear hr hn hsp
      gi_wp2
      have q6 : (W.putObj D (.deferred none)).cell? ⟨w.heap.size + 1, 0, none⟩ = some (.int .i64 17) := cell_kept (D6.cell 0) (grownBy_putObj' _ D (.deferred none)) (fun r e => by cases e; exact ⟨_, hK, rfl⟩)
      refine ⟨by simp, .inl ⟨_, _, rfl, run_takeDeferred hK, ?_⟩⟩
      exact ⟨.int .i64 17, by simp [results, Try.results35, go_sem, q6], ret_int HR2.out.symm, hB.trans (belowK_b (w := w) (Nat.le_refl _) _ D _ _ (by omega) hK rfl rfl)⟩
  · have h0' : (errOf p k != 0) = true := by simpa using h0
    have hr : checkR p k ys = errOf p k := by unfold checkR; rw [if_neg h0]
    rw [hr]
    clear hr h0
    go_enter Try.func35, Try.ntmps35
    go_wp2_with (first | (go_at_call 37; refine (valid_any p k _ hp hp' hk hk').mono ?_; rintro e w1 ⟨rfl, hb1⟩; obtain ⟨bc1, bf1⟩ := bcell hb1; have hs1 := hb1.size))
    have C6 := (Boxs.new (w.alloc (.cells #[.slice a2 ys.length c2] 22)) 25 #[.int .i64 0]).alloc (.cells #[.int .i64 p, .int .i64 k] 66)
    rw [World.size_alloc] at C6
    have C6 := (C6.below hb1 (by simp)).put (.int .i64 (errOf p k))
    have q6 : (w1.setCell ⟨w.heap.size + 1, 0, none⟩ (.int .i64 (errOf p k))).cell? ⟨w.heap.size + 1, 0, none⟩ = some (.int .i64 (errOf p k)) := C6.cell 0
    refine bodyPost_ret (v := .int .i64 (errOf p k)) (by simp [results, Try.results35, go_sem, q6]) rfl ⟨rfl, ?_⟩
    exact ((((((Below.refl _ _).alloc (Nat.le_refl _) _).alloc (by simp) _).alloc (by simp; omega) _).trans (hb1.mono (by simp; omega)))).setCell (p := ⟨w.heap.size + 1, 0, none⟩) (by show _ ≤ w.heap.size + 1; omega) _
end Go.Proofs.Ythldekpbjfhmcaa
