import Derived.Test.YthldekpbjfhmcaaWj
import Derived.Maps.AppendAt
namespace Go.Proofs.Ythldekpbjfhmcaa
open Go.RowKit Go.Shelf
attribute [local go_sem] Oper.semAt_some

/-- a block of cells -/
def Boxs (W : World) (B : Nat) (t : TypeId) (cs : Array Value) : Prop := W.heap[B]? = some (.cells cs t (0, 0))
theorem Boxs.lt {W : World} {B : Nat} {t : TypeId} {cs : Array Value} (h : Boxs W B t cs) : B < W.heap.size := (Array.getElem?_eq_some_iff.1 h).1
theorem Boxs.cell {W : World} {B : Nat} {t : TypeId} {cs : Array Value} (h : Boxs W B t cs) (o : Nat) : W.cell? ⟨B, o, none⟩ = cs[o]? := by simp [World.cell?, show W.heap[B]? = _ from h]
theorem Boxs.new (W : World) (t : TypeId) (cs : Array Value) : Boxs (W.alloc (.cells cs t)) W.heap.size t cs := World.alloc_heap_new W _
theorem Boxs.kept {W W' : World} {row : Option Nat} {B : Nat} {t : TypeId} {cs : Array Value} (h : Boxs W B t cs) (hg : W.grownBy W' row) (hne : some B ≠ row) : Boxs W' B t cs := (hg.block B h.lt hne).trans h
theorem Boxs.below {W W' : World} {n B : Nat} {t : TypeId} {cs : Array Value} (h : Boxs W B t cs) (hb : Below n W W') (hB : B < n) : Boxs W' B t cs := (hb.block B hB).trans h
theorem boxs_own {β : Type} (B : Nat) (t : TypeId) (f : β → Array Value) : Own (fun s W => Boxs W B t (f s)) := fun s X Y row hs hg hrow =>
  hs.kept hg (fun e' => by obtain ⟨o, ho, hc⟩ := hrow B e'.symm; rw [show X.heap[B]? = _ from hs] at ho; cases ho; cases hc)

theorem Boxs.not_row {W : World} {B : Nat} {t e : TypeId} {cs : Array Value} (h : Boxs W B t cs) (hte : t ≠ e) {base size k : Nat} {v : Value} {xs : List Value} (hr : W.ownsRow base e size v k xs) : some B ≠ v.ownBlock := by
  rcases hr.2 with ⟨rfl, _⟩ | ⟨g, cap, cur, rfl, _, hgb, _⟩
  · simp [Value.ownBlock]
  · intro e'
    obtain rfl : B = g := by simpa [Value.ownBlock] using e'
    have := (show W.heap[B]? = _ from h).symm.trans hgb
    simp at this
    exact hte this.2
theorem Boxs.alloc {W : World} {B : Nat} {t : TypeId} {cs : Array Value} (h : Boxs W B t cs) (o : Obj) : Boxs (W.alloc o) B t cs := h.kept (World.grownBy_alloc W o none) (by simp)
theorem Boxs.setOther {W : World} {B B' : Nat} {t : TypeId} {cs : Array Value} (h : Boxs W B t cs) (hne : B ≠ B') (u : Value) : Boxs (W.setCell ⟨B', 0, none⟩ u) B t cs := h.kept (grownBy_setCell' W B' u) (fun e => hne (by cases e; rfl))
/-- behind 'out = append(out, ..)' into a box: another box of another type is as it was -/
theorem Boxs.appended {W w1 : World} {n₀ B Bo : Nat} {t e : TypeId} {size : Nat} {v v' : Value} {k : Nat} {cs : Array Value} {xs : List Value} {tmp : Obj} (h : Boxs W B t cs) (hte : t ≠ e) (hne : B ≠ Bo) (hrow : W.ownsRow n₀ e size v k xs)
    (hgrow : (W.alloc tmp).grownBy w1 v.ownBlock) : Boxs (w1.setCell ⟨Bo, 0, none⟩ v') B t cs :=
  ((h.alloc tmp).kept hgrow (h.not_row hte hrow)).setOther hne v'
theorem keepB_boxs {W W' : World} {B : Nat} {t : TypeId} {cs : Array Value} (h : Boxs W B t cs) (h' : Boxs W' B t cs) (hs : W.heap.size ≤ W'.heap.size) : KeepB B W W' := ⟨hs, (show W'.heap[B]? = _ from h').trans (show W.heap[B]? = _ from h).symm⟩

theorem conj_it (k : Int) (q i : Nat) (hk : 2 ≤ k) (hi : (i : Int) < k / 2) : conj k (itA k q i) = (q : Int) * k + k - i := by
  unfold conj itA
  have e : ((q : Int) * k + i + 1 - 1) / k = q := by
    rw [show (q : Int) * k + i + 1 - 1 = i + q * k by omega, Int.add_mul_ediv_right _ _ (by omega), Int.ediv_eq_zero_of_lt (by omega) (by omega)]
    omega
  rw [e]; omega

theorem cntk_512 (p k : Int) (hp : 0 ≤ p) (hp' : p ≤ 999) (hk : 2 ≤ k) (hk' : k ≤ 16) (hk2 : k % 2 = 0) : cnt p k * k ≤ 512 := by
  have h : k = 2 ∨ k = 4 ∨ k = 6 ∨ k = 8 ∨ k = 10 ∨ k = 12 ∨ k = 14 ∨ k = 16 := by omega
  unfold cnt
  rcases h with rfl | rfl | rfl | rfl | rfl | rfl | rfl | rfl <;> omega

theorem it_snd (p k : Int) (q i : Nat) (hp : 0 ≤ p) (hp' : p ≤ 999) (hk : 2 ≤ k) (hk' : k ≤ 16) (hk2 : k % 2 = 0) (hq : (q : Int) < cnt p k) (hi : (i : Int) < k / 2) : (it p k q i).2 = mkS p k q i := by
  have h512 := cntk_512 p k hp hp' hk hk' hk2
  have e := conj_it k q i hk hi
  have h1 : ((q : Int) + 1) * k ≤ cnt p k * k := Int.mul_le_mul_of_nonneg_right (by omega) (by omega)
  have h2 : ((q : Int) + 1) * k = (q : Int) * k + k := by rw [Int.add_mul, Int.one_mul]
  have h3 : 0 ≤ (q : Int) * k := Int.mul_nonneg (by omega) (by omega)
  have a1 : pgA (conj k (itA k q i)) = 2 * ((q : Int) * k + k - i) - 1 := by rw [e]; unfold pgA; rw [if_neg (by omega)]
  have a2 : pgB (conj k (itA k q i)) = 2 * ((q : Int) * k + k - i) := by rw [e]; unfold pgB; rw [if_neg (by omega)]
  have a3 : pgA (itA k q i) = 2 * ((q : Int) * k + 1 + i) - 1 := by unfold pgA itA; rw [if_neg (by omega)]; omega
  have a4 : pgB (itA k q i) = 2 * ((q : Int) * k + 1 + i) := by unfold pgB itA; rw [if_neg (by omega)]; omega
  show Sh.mk _ _ _ _ _ = _
  rw [a1, a2, a3, a4]; rfl

theorem flatMap_same {α β : Type} (f g : α → List β) (l : List α) (h : ∀ a, a ∈ l → f a = g a) : l.flatMap f = l.flatMap g := by
  induction l with
  | nil => rfl
  | cons a r ih => rw [List.flatMap_cons, List.flatMap_cons, h a (by simp), ih (fun b hb => h b (by simp [hb]))]

theorem items_snd (p k : Int) (hp : 0 ≤ p) (hp' : p ≤ 999) (hk : 2 ≤ k) (hk' : k ≤ 16) (hk2 : k % 2 = 0) : (items p k).map (·.2) = rowsS p k (cnt p k).toNat := by
  unfold items itRows rowsS
  rw [List.map_flatMap]
  refine flatMap_same _ _ _ fun q hq => ?_
  unfold itRow rowS
  rw [List.map_map]
  refine List.map_congr_left fun i hi => ?_
  exact it_snd p k q i hp hp' hk hk' hk2 (by have := List.mem_range.1 hq; omega) (by have := List.mem_range.1 hi; omega)

theorem items_len (p k : Int) (hp : 0 ≤ p) (hp' : p ≤ 999) (hk : 2 ≤ k) (hk' : k ≤ 16) : (items p k).length ≤ 600 := by
  have := nh_bd p k (cnt p k).toNat 0 hp hp' hk hk' (by have := cnt_bd p k hp hp' hk hk'; omega) (by omega)
  unfold items; rw [itRows_len]; rw [List.length_append, rowsS_len] at this; omega
theorem foldI {p k : Int} (h0 : errOf p k = 0) : (items p k).map (·.2) = fold p k := by
  obtain ⟨hp1, hp2, hk1, hk2, hk3⟩ := errOf_zero h0
  rw [items_snd p k hp1 hp2 hk1 hk2 hk3]; unfold fold; rw [if_pos h0]

set_option maxRecDepth 100000 in
set_option maxHeartbeats 2000000 in
theorem fold_any (p k : Int) (w : World) (hp : -9223372036854775808 ≤ p) (hp' : p ≤ 9223372036854775807) (hk : -9223372036854775808 ≤ k) (hk' : k ≤ 9223372036854775807) :
    Calls Try.prog 10 #[.int .i64 p, .int .i64 k] w fun e w' => ∃ v, e = .returned (.tuple #[v, .int .i64 (errOf p k)]) ∧ OwnS w' w.heap.size 54 v (fold p k) ∧ Below w.heap.size w w' := by
  by_cases h0 : errOf p k = 0
  · obtain ⟨hp1, hp2, hk1, hk2, hk3⟩ := errOf_zero h0
    have hF := foldI h0
    have HF := Lib.hid hF; clear hF
    have H0 := Lib.hid h0
    have hNl := items_len p k hp1 hp2 hk1 hk2
    obtain ⟨i0, hi0, hz0, hz1, hz2⟩ := info_parts Try.info54
    have HI := Lib.hid hi0; have HZ0 := Lib.hid hz0; have HZ1 := Lib.hid hz1; have HZ2 := Lib.hid hz2
    clear hi0 hz0 hz1 hz2 hk3 h0
    refine (callsIn_wide (n := 9)).1 ?_
    refine callsIn_of_wp_marks Try.func10 rfl trivial ?_ rfl
    simp only [Try.ntmps10, List.size_toArray, List.length_cons, List.length_nil, Nat.reduceAdd, Nat.reduceSub, Array.replicate_succ, Array.replicate_zero, List.push_toArray, List.append_toArray, List.nil_append, List.cons_append]
    gi_wp2_with (first | (refine ⟨trivial, ?_⟩; gi_at_call 37; refine (callsIn_wide.2 (valid_any p k _ hp hp' hk hk')).mono ?_; rintro e w1 ⟨rfl, hb1⟩; obtain ⟨bc1, bf1⟩ := bcell hb1; have hs1 := hb1.size; rw [World.size_alloc] at hs1; have q0 : w1.cell? ⟨w.heap.size, 0, none⟩ = some (.int .i64 p) := cell_bl hb1 (by simp); have q1 : w1.cell? ⟨w.heap.size, 1, none⟩ = some (.int .i64 k) := cell_bl hb1 (by simp); have r0 := fun o => cell_al o q0; have r1 := fun o => cell_al o q1; rw [H0.out]) | (refine ⟨trivial, ?_⟩; gi_at_call 38; refine (callsIn_wide.2 (sheets_any p k _)).mono ?_; rintro e w2 ⟨rfl, rfl⟩))
    have bO := (Boxed.new w1 22 (.slice none 0 0)).alloc (.cells #[.int .i64 p, .int .i64 k] 66)
    have bN := Boxs.new (w1.alloc (.cells #[.slice none 0 0] 22)) 66 #[.int .i64 p, .int .i64 k]
    rw [World.size_alloc] at bN
    have hB0 : Below w.heap.size w ((w1.alloc (.cells #[.slice none 0 0] 22)).alloc (.cells #[.int .i64 p, .int .i64 k] 66)) := ((((Below.refl _ w).alloc (Nat.le_refl _) _).trans (hb1.mono (by simp))).alloc (by omega) _).alloc (by simp; omega) _
    have hsz : ((w1.alloc (.cells #[.slice none 0 0] 22)).alloc (.cells #[.int .i64 p, .int .i64 k] 66)).heap.size = w1.heap.size + 2 := by simp
    obtain ⟨W0, hW0⟩ : ∃ W0, (w1.alloc (.cells #[.slice none 0 0] 22)).alloc (.cells #[.int .i64 p, .int .i64 k] 66) = W0 := ⟨_, rfl⟩
    rw [hW0] at bO bN hB0 hsz ⊢
    clear hW0 hb1 bc1 bf1 q0 q1 r0 r1
    refine wpIn_rangeFunc_ownH rfl (by omega) (gf := 46) (lb := #[.pointer (some ⟨w1.heap.size + 1, 0, none⟩)]) rfl trivial (enters_of Try.func46 (by kernel_rfl) rfl)
      (sheets1_stops 8 (by omega) (w1.heap.size + 1) p k hp1 hp2 hk1 hk2 W0 (by omega) (bN.cell 0) (bN.cell 1)) (fun h1 h2 => h1.trans h2) (keepB_b (by omega)) (Below.refl _ _) (fun _ => rfl)
      (fun pre W => (∃ v, Boxed W w1.heap.size 22 v ∧ W.ownsRow w.heap.size 54 5 v pre.length (shs (pre.map (·.2))) ∧ True) ∧ (Boxs W (w1.heap.size + 1) 66 #[.int .i64 p, .int .i64 k] ∧ Below w.heap.size w W))
      (fun _ _ _ => False)
      (OwnFrom.and (Own.from (holdsRow_own w.heap.size w1.heap.size 22 54 5 (fun pre : List ((Int × Int) × Sh) => pre.length) (fun pre => shs (pre.map (·.2))) (fun _ _ => True)) _) (OwnFrom.and (Own.from (boxs_own _ _ _) _) (ownFrom_below (Nat.le_refl _) (by omega))))
      (fun _ _ _ _ _ hs _ _ => hs)
      ⟨⟨_, bO, World.ownsRow_nil _ _ _ _, trivial⟩, bN, hB0⟩
      (fun x a' W => ∃ Bx, w1.heap.size + 2 ≤ Bx ∧ Boxs W Bx 54 #[.int .i64 x.2.q, .int .i64 x.2.f0, .int .i64 x.2.f1, .int .i64 x.2.b0, .int .i64 x.2.b1] ∧ a' = { tmps := #[.int .i64 p, .int .i64 k, undef, undef, .slice none 0 0, .int .i64 0, .pointer (some ⟨w.heap.size, 0, none⟩), .int .i64 0, .pointer (some ⟨w1.heap.size, 0, none⟩), undef, .pointer (some ⟨Bx, 0, none⟩), .int .i64 p, .int .i64 k, .agg #[.int .i64 p, .int .i64 k], .agg #[.int .i64 p, .int .i64 k], .int .i64 0, .int .i64 0, .bool false, undef, .agg #[.int .i64 p, .int .i64 k], .func (.func 46) #[] #[.pointer (some ⟨w1.heap.size + 1, 0, none⟩)], .agg #[.int .i64 x.1.1, .int .i64 x.1.2], .agg #[.int .i64 x.2.q, .int .i64 x.2.f0, .int .i64 x.2.f1, .int .i64 x.2.b0, .int .i64 x.2.b1], undef, undef, undef, undef, undef], defers := [] }) ?hAx ?assign ?body ?done ?stop
    case hAx =>
      rintro x a' _ X Y row ⟨Bx, g1, g2, g3⟩ hg hr
      exact ⟨Bx, g1, boxs_own Bx 54 (fun _ : Unit => #[.int .i64 x.2.q, .int .i64 x.2.f0, .int .i64 x.2.f1, .int .i64 x.2.b0, .int .i64 x.2.b1]) () X Y row g2 hg (fun r e => (hr r e).2), g3⟩
    case assign =>
      rintro l pre x W K ⟨⟨v, hv, hrow, _⟩, hN, hB⟩ hK
      simp only [itEnc]
      gi_wp2
      exact hK _ _ ((KeepsOthers.alloc _ _).from _) (keepB_boxs hN (hN.alloc _) (by simp)) ⟨⟨v, hv.alloc _, hrow.alloc _, trivial⟩, hN.alloc _, hB.alloc hB.size _⟩ ⟨W.heap.size, by have := hN.lt; omega, Boxs.new W 54 _, rfl⟩
    case body =>
      rintro l pre x a' W hl ⟨r, hr⟩ ⟨⟨v, hv, hrow, _⟩, hN, hB⟩ ⟨Bx, hBx, bX, rfl⟩ hlt
      have hc := hv.cell
      have x0 : W.cell? ⟨Bx, 0, none⟩ = some (.int .i64 x.2.q) := bX.cell 0
      have x1 : W.cell? ⟨Bx, 1, none⟩ = some (.int .i64 x.2.f0) := bX.cell 1
      have x2 : W.cell? ⟨Bx, 2, none⟩ = some (.int .i64 x.2.f1) := bX.cell 2
      have x3 : W.cell? ⟨Bx, 3, none⟩ = some (.int .i64 x.2.b0) := bX.cell 3
      have x4 : W.cell? ⟨Bx, 4, none⟩ = some (.int .i64 x.2.b1) := bX.cell 4
      have hBs := hB.size
      gi_wp2_with (gi_at_builtin; refine wpListIn_append_own _ rfl _ _ 22 rfl w.heap.size 54 i0 _ 5 40 Try.underlying22 HI.out HZ0.out HZ1.out HZ2.out rfl (by decide) _ _ _ rfl (hrow.alloc _) ⟨W.heap.size, 0, none⟩ 1 1 [.int .i64 x.2.q, .int .i64 x.2.f0, .int .i64 x.2.f1, .int .i64 x.2.b0, .int .i64 x.2.b1] rfl rfl (World.news_of_block (cs := #[.int .i64 x.2.q, .int .i64 x.2.f0, .int .i64 x.2.f1, .int .i64 x.2.b0, .int .i64 x.2.b1]) (t := 54) (fr := (0, 0)) (heap_alloc_new W _)) (by simp [Value.oneCell']) (by unfold maxLen; omega) (by omega) (by simp; omega) ?_; intro v' w1' hown' hgrow _; obtain ⟨g', cap', rfl⟩ := ownsRow_succ hown'; obtain ⟨hv1, hv2, hr2, hk2, hb2⟩ := hv.appended (by decide) hrow hBs (by omega) hown' hgrow; have hc1 := hv1.cell; have hf1 := hv1.frozen)
      have hN2 := hN.appended (v' := .slice (some ⟨g', 0, none⟩) (pre.length + 1) cap') (by decide) (show w1.heap.size + 1 ≠ w1.heap.size by omega) hrow hgrow
      exact ⟨hk2.from _, keepB_boxs hN hN2 hb2.size, ⟨_, hv2, by simpa [shs, sh] using hr2, trivial⟩, hN2, hB.trans hb2⟩
    case done =>
      rintro D ys W hD rfl ⟨⟨v, hv, hrow, _⟩, hN, hB⟩ hK
      have hc := hv.cell
      gi_wp2
      refine ⟨by simp, .inl ⟨_, _, rfl, run_takeDeferred hK, ?_⟩⟩
      refine ⟨_, results_tmp2 rfl _ _ _, v, ret_vpair H0.out.symm, ?_, hB.trans (belowK_b (w := w) (Nat.le_refl _) W D _ _ (by omega) hK rfl rfl)⟩
      have := ownsRow_putObj hrow (.deferred none) hK rfl
      unfold OwnS
      rw [← HF.out, List.length_map]
      exact this
    case stop =>
      rintro D c pre W _ _ h _
      exact h.elim
  · have hq : fold p k = [] := by unfold fold; rw [if_neg h0]
    have HQ := Lib.hid hq; clear hq
    have h0' : (errOf p k != 0) = true := by simpa using h0
    go_enter Try.func10, Try.ntmps10
    go_wp2_with (first | (go_at_call 37; refine (valid_any p k _ hp hp' hk hk').mono ?_; rintro e w1 ⟨rfl, hb1⟩; obtain ⟨bc1, bf1⟩ := bcell hb1; have hs1 := hb1.size))
    go_ret2
    refine ⟨_, rfl, ?_, ((Below.refl _ _).alloc (Nat.le_refl _) _).trans (hb1.mono (by simp))⟩
    rw [HQ.out]; exact OwnS.nil _ _ _
end Go.Proofs.Ythldekpbjfhmcaa
