/- slices.Backward's iterator; total. -/
import Derived.Test.YtidojiegkdchpaaAh
import Derived.RangeFuncNested
import Derived.RangeFuncBound
import Derived.RangeFuncCalls
import Derived.RangeFuncLeaves
import Derived.RangeFuncBox
import Derived.Shelf.Abstract
import Derived.Shelf.RegionOpen
import Derived.OwnWalkIn
import Derived.TacticsInMore
import Derived.LoopNIn
import Derived.LoopIn
import Derived.Deep.CutRange
namespace Go.Proofs.Ytidojiegkdchpaa
open Go.RowKit Go.Shelf Go.Maps
attribute [local go_sem] Oper.semAt_some

/-- one block is as it was -/
structure KeepB (B : Nat) (W W' : World) : Prop where
  size : W.heap.size ≤ W'.heap.size
  block : W'.heap[B]? = W.heap[B]?
theorem KeepB.refl (B : Nat) (W : World) : KeepB B W W := ⟨Nat.le_refl _, rfl⟩
theorem KeepB.trans {B : Nat} {X Y Z : World} (h : KeepB B X Y) (k : KeepB B Y Z) : KeepB B X Z := ⟨Nat.le_trans h.size k.size, k.block.trans h.block⟩
theorem KeepB.of_below {B n : Nat} {X Y : World} (h : Below n X Y) (hB : B < n) : KeepB B X Y := ⟨h.size, h.block B hB⟩
theorem KeepB.cell {B : Nat} {X Y : World} (h : KeepB B X Y) (o : Nat) : Y.cell? ⟨B, o, none⟩ = X.cell? ⟨B, o, none⟩ := by simp [World.cell?, h.block]
theorem keepB_b {B : Nat} {w : World} (hB : B < w.heap.size) : ∀ (W : World) (l : Nat) (o o' : Obj), w.heap.size ≤ l → W.heap[l]? = some o → o.isCells = false → o.isWalk = false → KeepB B W (W.putObj l o') :=
  fun W l _ o' hl _ _ _ => ⟨by simp, World.putObj_heap_other (by omega)⟩
theorem Boxs.kept {W W' : World} {row : Option Nat} {B : Nat} {t : TypeId} {cs : Array Value} (h : Boxs W B t cs) (hg : W.grownBy W' row) (hne : some B ≠ row) : Boxs W' B t cs := (hg.block B h.lt hne).trans h
theorem boxs_own {β : Type} (B : Nat) (t : TypeId) (f : β → Array Value) : Own (fun s W => Boxs W B t (f s)) := fun s X Y row hs hg hrow =>
  hs.kept hg (fun e' => by obtain ⟨o, ho, hc⟩ := hrow B e'.symm; rw [show X.heap[B]? = _ from hs] at ho; cases ho; cases hc)
theorem Boxs.alloc {W : World} {B : Nat} {t : TypeId} {cs : Array Value} (h : Boxs W B t cs) (o : Obj) : Boxs (W.alloc o) B t cs := h.kept (World.grownBy_alloc W o none) (by simp)
theorem Boxs.setOther {W : World} {B B' : Nat} {t : TypeId} {cs : Array Value} (h : Boxs W B t cs) (hne : B ≠ B') (o : Nat) (u : Value) : Boxs (W.setCell ⟨B', o, none⟩ u) B t cs := (Below.heap_setCell _ _ _ _ hne).trans h
theorem keepB_boxs {W W' : World} {B : Nat} {t : TypeId} {cs : Array Value} (h : Boxs W B t cs) (h' : Boxs W' B t cs) (hs : W.heap.size ≤ W'.heap.size) : KeepB B W W' := ⟨hs, (show W'.heap[B]? = _ from h').trans (show W.heap[B]? = _ from h).symm⟩

/-- what 'slices.Backward' yields of the first m elements -/
def bwI {α : Type} (g : List α) : Nat → List (Nat × α)
  | 0 => []
  | m + 1 => match g[m]? with | some y => (m, y) :: bwI g m | none => bwI g m
theorem bwI_succ {α : Type} {g : List α} {m : Nat} {y : α} (h : g[m]? = some y) : bwI g (m + 1) = (m, y) :: bwI g m := by rw [bwI, h]
theorem bwI_len {α : Type} (g : List α) (m : Nat) (h : m ≤ g.length) : (bwI g m).length = m := by
  induction m with
  | zero => rfl
  | succ m ih =>
    obtain ⟨y, hy⟩ := elem_at (l := g) (k := m) (by omega)
    rw [bwI_succ hy, List.length_cons, ih (by omega)]
theorem bwI_snd {α : Type} (g : List α) (m : Nat) (h : m ≤ g.length) : (bwI g m).map (·.2) = (g.take m).reverse := by
  induction m with
  | zero => simp [bwI]
  | succ m ih =>
    obtain ⟨y, hy⟩ := elem_at (l := g) (k := m) (by omega)
    rw [bwI_succ hy, List.map_cons, ih (by omega), List.take_add_one, hy]; simp
def bEnc {α : Type} (val : α → Int) (x : Nat × α) : Array Value := #[.int .i64 x.1, .int .i64 (val x.2)]

set_option maxHeartbeats 1000000 in
theorem back_any (a : Option Addr) (n c : Nat) (w : World) :
    Calls Try.prog 50 #[.slice a n c] w fun e w' => e = .returned (.func (.func 54) #[] #[.pointer (some ⟨w.heap.size, 0, none⟩)]) ∧ w' = w.alloc (.cells #[.slice a n c] 22) := by
  go_enter Try.func50, Try.ntmps50
  go_wp2
  go_ret
  exact ⟨rfl, rfl⟩

set_option maxRecDepth 100000 in
set_option maxHeartbeats 2000000 in
theorem back1_stops {α : Type} (val : α → Int) (n : Nat) (hn : 1 ≤ n) (Bn n0 len cap : Nat) (ad : Option Addr) (g : List α) (hlen : g.length = len) (h63 : len ≤ 9223372036854775807) (w : World) (hBn : Bn < w.heap.size) (hn0 : n0 ≤ w.heap.size)
    (hc : w.cell? ⟨Bn, 0, none⟩ = some (.slice ad len cap))
    (hel : ∀ k y, g[k]? = some y → ∃ b off, ad = some ⟨b, off, none⟩ ∧ b < n0 ∧ w.cell? ⟨b, off + k, none⟩ = some (.int .i64 (val y))) :
    SeqStopsK Fence.wide n Try.prog 54 #[.pointer (some ⟨Bn, 0, none⟩)] (bEnc val) (fun W W' => KeepB Bn W W' ∧ Below n0 W W') (fun ys => ys = bwI g len) (fun pre => pre <+: bwI g len) len w := fun l J Jx W hW _ _ hY h0 => by
  have c0 := (hW.cell (p := ⟨Bn, 0, none⟩) hBn).trans hc
  have HEL := Lib.hid hel; have HL := Lib.hid hlen
  have HY := Lib.hid hY; have H0 := Lib.hid h0; have HW := Lib.hid hW
  clear hc hel hlen hW hY h0
  refine callsIn_of_wp Try.func54 rfl trivial ?_ rfl
  simp only [Try.ntmps54, List.size_toArray, List.length_cons, List.length_nil, Nat.reduceAdd, Nat.reduceSub, Array.replicate_succ, Array.replicate_zero, List.push_toArray, List.append_toArray, List.nil_append, List.cons_append]
  gi_wp2
  gi_loopw [3] (fun i wr => ∃ (pre : List (Nat × α)) (m : Nat), m ≤ len ∧ i = .int .i64 ((m : Int) - 1) ∧ bwI g len = pre ++ bwI g m ∧ J pre wr ∧ KeepB Bn W wr ∧ Below n0 W wr) (fun i _ => (intOf i + 1).toNat)
  case atStart => exact ⟨[], len, by omega, rfl, rfl, H0.out, KeepB.refl _ _, Below.refl _ _⟩
  case round =>
    obtain ⟨pre, m, hm, rfl, hpre, hj, hk1, hk2⟩ := hrel
    have HP := Lib.hid hpre; have HJ := Lib.hid hj; have HK1 := Lib.hid hk1; have HK2 := Lib.hid hk2
    have d0 := (hk1.cell 0).trans c0
    clear hpre hj
    by_cases hlt : 0 < m
    · obtain ⟨m, rfl⟩ : ∃ m', m = m' + 1 := ⟨m - 1, by omega⟩
      rw [show (((m + 1 : Nat) : Int) - 1) = (m : Int) by omega]
      obtain ⟨y, hy⟩ := elem_at (l := g) (k := m) (by rw [HL.out]; omega)
      obtain ⟨b, off, rfl, hb, y0⟩ := HEL.out m y hy
      have z0 := (hk2.cell (p := ⟨b, off + m, none⟩) hb).trans ((HW.out.cell (p := ⟨b, off + m, none⟩) (by show b < w.heap.size; omega)).trans y0)
      have hpl : pre.length < len := by have := congrArg List.length HP.out; rw [bwI_len _ _ (by rw [HL.out]; omega), List.length_append, bwI_len _ _ (by rw [HL.out]; omega)] at this; omega
      have hpre2 : bwI g len = (pre ++ [(m, y)]) ++ bwI g m := by rw [HP.out, bwI_succ hy]; simp
      have HP2 := Lib.hid hpre2
      obtain ⟨fn, tmps, assign, body, hyr, hR⟩ := HY.out pre (m, y) wr HJ.out hpl
      simp only [bEnc] at hyr
      have HR := Lib.hid hR
      clear hk1 hk2 y0 hpl hpre2 hR hy c0
      gi_wp2_with fail
      refine HR.out.mono ?_
      rintro e W3 (⟨rfl, hJ3, hk3, hk4⟩ | ⟨rfl, hJx3⟩)
      · have HJ3 := Lib.hid hJ3; have HK3 := Lib.hid hk3; have HK4 := Lib.hid hk4
        clear hJ3 hk3 hk4 z0 hyr d0
        gi_wp2_with fail
        go_roundw
        case rel => exact ⟨pre ++ [(m, y)], m, by omega, rfl, HP2.out, HJ3.out, HK1.out.trans HK3.out, HK2.out.trans HK4.out⟩
        case measure => simp [intOf]
      · have HJx3 := Lib.hid hJx3
        clear hJx3 z0 hyr d0
        gi_wp2_with fail
        refine bodyPost_ret (results_none rfl _ _ _) rfl ?_
        exact ⟨⟨_, rfl⟩, .inr ⟨_, ⟨bwI g m, HP2.out.symm⟩, HJx3.out⟩⟩
    · obtain rfl : m = 0 := by omega
      have hfull : pre = bwI g len := by rw [HP.out]; simp [bwI]
      have HFU := Lib.hid hfull
      clear hfull hk1 hk2
      gi_wp2
      go_end0
      exact ⟨⟨_, rfl⟩, .inl ⟨pre, HFU.out, HJ.out⟩⟩

def stepT (p : Int × Int) (v : Int) : Int × Int := ((p.1 + p.2 * v) % 31, p.2 * 3 % 31)
def stT (l : List Int) (p : Int × Int) : Int × Int := l.foldl stepT p
def totF (l : List Int) (w0 : Int) : Int := (stT l.reverse (0, w0)).1
theorem stT_snoc (l : List Int) (p : Int × Int) (v : Int) : stT (l ++ [v]) p = stepT (stT l p) v := by unfold stT; rw [List.foldl_append]; rfl
theorem stT_bd (l : List Int) (p : Int × Int) (hp : 0 ≤ p.1 ∧ p.1 ≤ 30 ∧ 0 ≤ p.2 ∧ p.2 ≤ 30) : 0 ≤ (stT l p).1 ∧ (stT l p).1 ≤ 30 ∧ 0 ≤ (stT l p).2 ∧ (stT l p).2 ≤ 30 := by
  induction l generalizing p with
  | nil => exact hp
  | cons v r ih =>
    refine ih (stepT p v) ?_
    unfold stepT
    have := Int.emod_nonneg (p.1 + p.2 * v) (show (31:Int) ≠ 0 by decide)
    have := Int.emod_lt_of_pos (p.1 + p.2 * v) (show (0:Int) < 31 by decide)
    dsimp only
    omega

set_option maxRecDepth 100000 in
set_option maxHeartbeats 2000000 in
theorem total_any (v : Value) (l : List Int) (w0 : Int) (w : World) (h : RdI w v l) (hl : mid 30 l) (h0 : 0 ≤ w0) (h1 : w0 ≤ 30) :
    Calls Try.prog 40 #[v, .int .i64 w0] w fun e w' => e = .returned (.int .i64 (totF l w0)) ∧ Below w.heap.size w w' := by
  obtain ⟨a, c, rfl, l1, f1⟩ := h.open
  have F1 := Lib.hid f1
  clear f1 h
  refine (callsIn_wide (n := 9)).1 ?_
  refine callsIn_of_wp_marks Try.func40 rfl trivial ?_ rfl
  simp only [Try.ntmps40, List.size_toArray, List.length_cons, List.length_nil, Nat.reduceAdd, Nat.reduceSub, Array.replicate_succ, Array.replicate_zero, List.push_toArray, List.append_toArray, List.nil_append, List.cons_append]
  gi_wp2_with (first | (refine ⟨trivial, ?_⟩; gi_at_call 50; refine (callsIn_wide.2 (back_any _ _ _ _)).mono ?_; rintro e w1 ⟨rfl, rfl⟩))
  have bW := ((Boxs.new w 3 #[.int .i64 w0]).alloc (.cells #[.int .i64 0] 3)).alloc (.cells #[.slice a l.length c] 22)
  have bS := (Boxs.new (w.alloc (.cells #[.int .i64 w0] 3)) 3 #[.int .i64 0]).alloc (.cells #[.slice a l.length c] 22)
  have bN := Boxs.new ((w.alloc (.cells #[.int .i64 w0] 3)).alloc (.cells #[.int .i64 0] 3)) 22 #[.slice a l.length c]
  have hB0 : Below w.heap.size w (((w.alloc (.cells #[.int .i64 w0] 3)).alloc (.cells #[.int .i64 0] 3)).alloc (.cells #[.slice a l.length c] 22)) := ((((Below.refl _ w).alloc (Nat.le_refl _) _).alloc (by simp) _)).alloc (by simp; omega) _
  have hsz : (((w.alloc (.cells #[.int .i64 w0] 3)).alloc (.cells #[.int .i64 0] 3)).alloc (.cells #[.slice a l.length c] 22)).heap.size = w.heap.size + 3 := by simp
  rw [World.size_alloc] at bS bN
  rw [World.size_alloc] at bN
  obtain ⟨W0, hW0⟩ : ∃ W0, ((w.alloc (.cells #[.int .i64 w0] 3)).alloc (.cells #[.int .i64 0] 3)).alloc (.cells #[.slice a l.length c] 22) = W0 := ⟨_, rfl⟩
  rw [hW0] at bW bS bN hB0 hsz ⊢
  clear hW0
  obtain ⟨g, rfl⟩ : ∃ g : List {x : Int // 0 ≤ x ∧ x ≤ 30}, l = g.map (·.1) := ⟨l.attachWith _ hl, (List.attachWith_map_subtype_val hl).symm⟩
  have hel : ∀ k y, g[k]? = some y → ∃ b off, a = some ⟨b, off, none⟩ ∧ b < w.heap.size ∧ W0.cell? ⟨b, off + k, none⟩ = some (.int .i64 y.1) := by
    intro k y hy
    obtain ⟨b, off, e1, e2, e3⟩ := F1.out k y.1 (by rw [List.getElem?_map, hy]; rfl)
    exact ⟨b, off, e1, e2, (hB0.cell (p := ⟨b, off + k, none⟩) e2).trans e3⟩
  rw [List.length_map] at *
  refine wpIn_rangeFunc_ownH rfl (by omega) (gf := 54) (lb := #[.pointer (some ⟨w.heap.size + 1 + 1, 0, none⟩)]) rfl trivial (enters_of Try.func54 (by kernel_rfl) rfl)
    (back1_stops (·.1) 8 (by omega) (w.heap.size + 1 + 1) w.heap.size g.length c a g rfl (by omega) W0 (by omega) (by omega) (bN.cell 0) hel) (fun h1 h2 => ⟨h1.1.trans h2.1, h1.2.trans h2.2⟩)
    (fun W l o o' hl ho hc hw => ⟨keepB_b (w := W0) (by omega) W l o o' hl ho hc hw, belowK_b (w := W0) (by omega) W l o o' hl ho hc hw⟩) (Below.refl _ _) (fun _ => rfl)
    (fun (pre : List (Nat × {x : Int // 0 ≤ x ∧ x ≤ 30})) W => Boxs W w.heap.size 3 #[.int .i64 (stT (pre.map (·.2.1)) (0, w0)).2] ∧ (Boxs W (w.heap.size + 1) 3 #[.int .i64 (stT (pre.map (·.2.1)) (0, w0)).1] ∧ (Boxs W (w.heap.size + 1 + 1) 22 #[.slice a g.length c] ∧ Below w.heap.size w W)))
    (fun _ _ _ => False)
    (OwnFrom.and (Own.from (boxs_own w.heap.size 3 (fun pre : List (Nat × {x : Int // 0 ≤ x ∧ x ≤ 30}) => #[.int .i64 (stT (pre.map (·.2.1)) (0, w0)).2])) _) (OwnFrom.and (Own.from (boxs_own (w.heap.size + 1) 3 (fun pre : List (Nat × {x : Int // 0 ≤ x ∧ x ≤ 30}) => #[.int .i64 (stT (pre.map (·.2.1)) (0, w0)).1])) _) (OwnFrom.and (Own.from (boxs_own _ _ _) _) (ownFrom_below (by omega) (by omega)))))
    (fun _ _ _ _ _ hs _ _ => hs)
    ⟨bW, bS, bN, hB0⟩
    (fun x a' _ => a' = { tmps := #[.slice a g.length c, .int .i64 w0, undef, .pointer (some ⟨w.heap.size, 0, none⟩), .int .i64 0, .pointer (some ⟨w.heap.size + 1, 0, none⟩), undef, .int .i64 x.2.1, .slice a g.length c, .func (.func 54) #[] #[.pointer (some ⟨w.heap.size + 1 + 1, 0, none⟩)], .int .i64 x.1, .int .i64 x.2.1, undef, undef, undef, undef, undef, undef, undef, undef, undef, undef], defers := [] }) ?hAx ?assign ?body ?done ?stop
  case hAx =>
    rintro x a' _ X Y row h _ _
    exact h
  case assign =>
    rintro l pre x W K hI hK
    simp only [bEnc]
    gi_wp2
    exact hK _ _ (KeepsFrom.refl _ _) ⟨KeepB.refl _ _, Below.refl _ _⟩ hI rfl
  case body =>
    rintro l pre x a' W hlw hlr ⟨hbw, hbs, hbn, hbl⟩ rfl hlt
    obtain ⟨xi, xv, xv0, xv1⟩ := x
    have c1 := hbw.cell 0
    have c2 := hbs.cell 0
    have f1 := hbw.frozen 0
    have f2 := hbs.frozen 0
    obtain ⟨s0, s1, s2, s3⟩ := stT_bd (pre.map (·.2.1)) (0, w0) ⟨by simp, by simp, h0, h1⟩
    have hst : stT ((pre ++ [(xi, (⟨xv, xv0, xv1⟩ : {x : Int // 0 ≤ x ∧ x ≤ 30}))]).map (·.2.1)) (0, w0) = stepT (stT (pre.map (·.2.1)) (0, w0)) xv := by rw [List.map_append, List.map_singleton, stT_snoc]
    have HST := Lib.hid hst; have HBW := Lib.hid hbw; have HBS := Lib.hid hbs; have HBN := Lib.hid hbn; have HBL := Lib.hid hbl
    clear hst hbw hbs hbn hbl hlr
    generalize stT (pre.map (·.2.1)) (0, w0) = q at *
    obtain ⟨qs, qw⟩ := q
    dsimp only at *
    obtain ⟨p1, p2⟩ := mul_bd s2 (by omega) xv0 (by omega)
    gi_wp2
    refine ⟨((KeepsOthers.setCell _ _ _).trans (KeepsOthers.setCell _ _ _)).from _, ⟨?_, ?_⟩, ?_, ?_, ?_, ?_⟩
    · exact keepB_boxs HBN.out ((HBN.out.setOther (by first | omega | (dsimp only; omega)) 0 _).setOther (by first | omega | (dsimp only; omega)) 0 _) (by simp)
    · exact ((Below.refl w.heap.size W).setCell (p := ⟨w.heap.size + 1, 0, none⟩) (by show w.heap.size ≤ w.heap.size + 1; omega) _).setCell (p := ⟨w.heap.size, 0, none⟩) (Nat.le_refl _) _
    · rw [HST.out]
      exact (HBW.out.setOther (by first | omega | (dsimp only; omega)) 0 _).put 0 _
    · rw [HST.out]
      exact (HBS.out.put 0 _).setOther (show w.heap.size + 1 ≠ w.heap.size by omega) 0 _
    · exact (HBN.out.setOther (by first | omega | (dsimp only; omega)) 0 _).setOther (by first | omega | (dsimp only; omega)) 0 _
    · exact (HBL.out.setCell (p := ⟨w.heap.size + 1, 0, none⟩) (by show _ ≤ w.heap.size + 1; omega) _).setCell (p := ⟨w.heap.size, 0, none⟩) (Nat.le_refl _) _
  case done =>
    rintro D ys W hD rfl ⟨hbw, hbs, hbn, hbl⟩ hK
    have hm : (bwI g g.length).map (·.2.1) = (g.map (·.1)).reverse := by
      have e : (bwI g g.length).map (·.2.1) = ((bwI g g.length).map (·.2)).map (·.1) := by rw [List.map_map]; rfl
      rw [e, bwI_snd _ _ (Nat.le_refl _), List.take_length, List.map_reverse]
    have c2 := hbs.cell 0
    rw [hm] at c2
    have ht : totF (g.map (·.1)) w0 = (stT (g.map (·.1)).reverse (0, w0)).1 := rfl
    have HT := Lib.hid ht
    clear ht hbw hbs hbn hm
    generalize (stT (g.map (·.1)).reverse (0, w0)).1 = z at *
    gi_wp2
    refine ⟨by simp, .inl ⟨_, _, rfl, run_takeDeferred hK, ?_⟩⟩
    refine ⟨_, results_tmp rfl _ _ _, ?_, hbl.trans (belowK_b (w := w) (Nat.le_refl _) W D _ _ (by omega) hK rfl rfl)⟩
    exact ret_int HT.out.symm
  case stop =>
    rintro D c pre W _ _ h _
    exact h.elim
end Go.Proofs.Ytidojiegkdchpaa
