/- Steps in a range over a function; the rows of a list (iterator). strings.Join, strings.Split: the contracts of the shelf, laid in plain text by its own tool. A region of a round, taken operation by operation; form. form (program). Pieces of a string; how a string parses (plain law). Parse (program). -/
import Derived.Test.YtecdkpcapalifaaDoorM05
import Derived.Sort.QuietTacIn
import Derived.IntWalk
import Derived.RangeFuncNested
import Derived.RangeFuncBound
import Derived.RangeFuncCalls
import Derived.RangeFuncLeaves
import Derived.RangeFuncBox
import Derived.Shelf.Abstract
import Derived.Shelf.RegionOpen
import Derived.OwnWalkIn
import Derived.TacticsInMore
import Derived.LoopNIn
import Derived.LoopIn
import Derived.Deep.CutRange
import Derived.Shelf.Strings.OnBuilder
import Derived.Shelf.Strings.Split
import Derived.Test.YtecdkpcapalifaaDoorM02
import Derived.Lib.SplitLaws
import Derived.Test.YtecdkpcapalifaaDoorM04
set_option linter.unusedVariables false
namespace Go.Proofs.YtecdkpcapalifaaDoor
open Go
section
variable {F : Fence} {n : Nat} {P : Program} {ops : Array Oper} {md : Region.Mode} {C : World → Prop}

def noDefer (o : Oper) : Bool := match o.op with
  | .defer _ => false
  | _ => true
theorem noDefer_spec {o : Oper} (h : noDefer o = true) : ∀ c, o.op ≠ .defer c := by
  intro c e
  unfold noDefer at h
  rw [e] at h
  cases h

theorem oper_round {o : Oper} {a : Act} {K : Act → Prop} {K' : Act → World → Prop} {Q' : Exit → Act → World → Prop} {w : World} (hnd : noDefer o = true) (hw : C w) (h : ∀ a w', C w' → K a → K' a w')
    (ha : o.askedIn F P a C) (hh : o.quietIn F n P a C K) : o.wpIn F n P a w K' Q' := by
  obtain ⟨v, h1, h2⟩ := hh
  refine ⟨ha w hw, ?_⟩
  rw [Oper.semAt_eq _ _ _ (noDefer_spec hnd)]
  have h3 : Oper.quietUponIn F n P C w v ((execOp a.eval o).run P w) := h1 w hw
  revert h3
  generalize (execOp a.eval o).run P w = r
  intro h3
  match r, h3 with
  | .ok (.value u) w', ⟨e1, e2⟩ => subst e1 e2; exact h _ _ hw h2
  | .ok .skip w', ⟨e1, e2⟩ => subst e1 e2; exact h _ _ hw h2
  | .ok (.enter f args) w', ⟨e1, hd, hc⟩ =>
    subst e1
    refine ⟨hd, hc.mono ?_⟩
    rintro e w'' ⟨rfl, hw''⟩
    exact h _ _ hw'' h2

theorem op_round (hall : ops.all noDefer = true) {i : Nat} {a : Act} {K : Act → Prop} {K' : Act → World → Prop} {Q' : Exit → Act → World → Prop} {w : World} (hC : C w) (h : ∀ a w', C w' → K a → K' a w')
    (hh : qOpIn F n P ops C i K a) : wpOpIn F n P ops Q' i K' a w := by
  unfold qOpIn at hh
  unfold wpOpIn
  cases ho : ops[i]? with
  | none => simp only [ho] at hh; exact h _ _ hC hh
  | some o =>
    have hnd : noDefer o = true := by
      obtain ⟨h1, rfl⟩ := Array.getElem?_eq_some_iff.1 ho
      exact Array.all_eq_true.1 hall i h1
    simp only [ho] at hh
    by_cases hw : Region.wanted o (yielded ops a.tmps) = true
    · simp only [hw, if_true] at hh ⊢
      exact oper_round hnd hC h hh.1 hh.2
    · simp only [hw] at hh ⊢
      exact ⟨hh.1 w hC, h _ _ hC hh.2⟩

theorem any_round (hall : ops.all noDefer = true) {Q : Act → Prop} {Q' : Exit → Act → World → Prop} (hQ : ∀ a w, C w → Q a → Q' .normal a w) : ∀ (fuel : Nat) (listed : Array Bool) (a : Act) (w : World), C w →
    wpAnyQIn F n P md ops C Q fuel listed a → wpAnyIn F n P md ops Q' fuel listed a w
  | 0, _, _, _, hw, h => ⟨h.1, hQ _ _ hw h.2⟩
  | fuel + 1, _, _, _, hw, h => ⟨fun h0 => hQ _ _ hw (h.1 h0), fun i hi => op_round hall hw (fun a' w' hw' => any_round hall hQ fuel _ a' w' hw') (h.2 i hi)⟩

theorem region_round {id : Nat} {Q : Exit → Act → World → Prop} {a : Act} {w : World} {l : List Oper} (hm : P.follows .mixedOrders = true) (hB : Region.lexB .any l.toArray = true) (hall : l.toArray.all noDefer = true)
    (h : wpQuietIn F n P l.toArray (fun w' => ∃ n, w' = w.drewN n) (fun a' => ∀ w', (∃ n, w' = w.drewN n) → Q .normal a' w') l a) : (Code.region id l.toArray true).wpIn F n P Q a w := by
  simp only [Region.lexB, Bool.and_eq_true] at hB
  refine wpIn_region_any hm (any_round (C := fun w' => ∃ n, w' = w.drewN n) hall (Q := fun a' => ∀ w', (∃ n, w' = w.drewN n) → Q .normal a' w') (fun _ w' hw' h => h w' hw') _ _ _ _ ⟨1, rfl⟩ ?_)
  have := wpAnyQIn_lex (F := F) (n := n) (C := fun w' => ∃ n, w' = w.drewN n) (md := .any) (ops := l.toArray) hB.1 l 0 (Array.replicate l.toArray.size false) a (by simp) (by simpa using hB.2) h
  simpa using this
end

open Go.RowKit Go.Shelf Go.Maps
attribute [local go_sem] Oper.semAt_some
/-- one block is as it was -/
structure KeepB (B : Nat) (W W' : World) : Prop where
  size : W.heap.size ≤ W'.heap.size
  block : W'.heap[B]? = W.heap[B]?
theorem KeepB.refl (B : Nat) (W : World) : KeepB B W W := ⟨Nat.le_refl _, rfl⟩
theorem KeepB.trans {B : Nat} {X Y Z : World} (h : KeepB B X Y) (k : KeepB B Y Z) : KeepB B X Z := ⟨Nat.le_trans h.size k.size, k.block.trans h.block⟩
theorem KeepB.of_below {B n : Nat} {X Y : World} (h : Below n X Y) (hB : B < n) : KeepB B X Y := ⟨h.size, h.block B hB⟩
theorem KeepB.cell {B : Nat} {X Y : World} (h : KeepB B X Y) (o : Nat) : Y.cell? ⟨B, o, none⟩ = X.cell? ⟨B, o, none⟩ := by simp [World.cell?, h.block]
theorem keepB_b {B : Nat} {w : World} (hB : B < w.heap.size) : ∀ (W : World) (l : Nat) (o o' : Obj), w.heap.size ≤ l → W.heap[l]? = some o → o.isCells = false → o.isWalk = false → KeepB B W (W.putObj l o') :=
  fun W l _ o' hl _ _ _ => ⟨by simp, World.putObj_heap_other (by omega)⟩
theorem Boxs.kept {W W' : World} {row : Option Nat} {B : Nat} {t : TypeId} {cs : Array Value} (h : Boxs W B t cs) (hg : W.grownBy W' row) (hne : some B ≠ row) : Boxs W' B t cs := (hg.block B h.lt hne).trans h
theorem boxs_own {β : Type} (B : Nat) (t : TypeId) (f : β → Array Value) : Own (fun s W => Boxs W B t (f s)) := fun s X Y row hs hg hrow =>
  hs.kept hg (fun e' => by obtain ⟨o, ho, hc⟩ := hrow B e'.symm; rw [show X.heap[B]? = _ from hs] at ho; cases ho; cases hc)
theorem Boxs.alloc {W : World} {B : Nat} {t : TypeId} {cs : Array Value} (h : Boxs W B t cs) (o : Obj) : Boxs (W.alloc o) B t cs := h.kept (World.grownBy_alloc W o none) (by simp)
theorem keepB_boxs {W W' : World} {B : Nat} {t : TypeId} {cs : Array Value} (h : Boxs W B t cs) (h' : Boxs W' B t cs) (hs : W.heap.size ≤ W'.heap.size) : KeepB B W W' := ⟨hs, (show W'.heap[B]? = _ from h').trans (show W.heap[B]? = _ from h).symm⟩


/-- the rows before a place -/
theorem rowsF_fuel : ∀ (f g o : Nat) (l : List Sp), l.length ≤ f → l.length ≤ g → rowsF f o l = rowsF g o l := by
  intro f
  induction f with
  | zero => intro g o l hf hg; cases l with
    | nil => cases g <;> rfl
    | cons x r => simp at hf
  | succ f ih =>
    intro g o l hf hg
    cases l with
    | nil => cases g <;> rfl
    | cons x r =>
      cases g with
      | zero => simp at hg
      | succ g =>
        show (o, _) :: rowsF f _ _ = (o, _) :: rowsF g _ _
        have h1 := rowN_pos (l := x :: r) (by simp)
        simp only [List.length_cons] at hf hg
        rw [ih g _ _ (by rw [List.length_drop, List.length_cons]; omega) (by rw [List.length_drop, List.length_cons]; omega)]
def rowsFrom (l : List Sp) (p : Nat) : List (Nat × Nat) := rowsF (l.drop p).length p (l.drop p)
theorem rowsFrom_zero (l : List Sp) : rowsFrom l 0 = rowsL l := rfl
theorem rowsFrom_end {l : List Sp} {p : Nat} (h : l.length ≤ p) : rowsFrom l p = [] := by
  unfold rowsFrom; rw [List.drop_eq_nil_of_le h]; rfl
theorem rowsFrom_step {l : List Sp} {p n : Nat} (h : p < l.length) (hn : rowN (l.drop p) = n) : rowsFrom l p = (p, n) :: rowsFrom l (p + n) := by
  unfold rowsFrom
  subst hn
  have hl : (l.drop p).length = l.length - p := List.length_drop
  obtain ⟨x, hx⟩ := elem_at h
  have hd : l.drop p = x :: l.drop (p + 1) := by
    rw [← List.getElem_cons_drop h]
    rw [(List.getElem?_eq_some_iff.1 hx).2]
  have h1 : 1 ≤ rowN (l.drop p) := rowN_pos (by rw [hd]; simp)
  generalize hN : rowN (l.drop p) = N at h1
  rw [← List.drop_drop]
  generalize hD : l.drop p = D at *
  subst hd
  show (p, rowN _) :: rowsF _ _ _ = _
  rw [hN]
  congr 1
  exact rowsF_fuel _ _ _ _ (by rw [List.length_drop, List.length_cons]; omega) (Nat.le_refl _)
/-- a row as the iterator yields it -/
abbrev RowT (l : List Sp) := { x : Nat × Nat // 1 ≤ x.2 ∧ x.1 + x.2 ≤ l.length }
def rEnc {l : List Sp} (b o c : Nat) (x : RowT l) : Array Value := #[.slice (some ⟨b, o + x.1.1 * 2, none⟩) x.1.2 (c - x.1.1)]

set_option maxHeartbeats 1000000 in
theorem rows_any (a : Option Addr) (n c : Nat) (w : World) :
    Calls Tryd.prog 61 #[.slice a n c] w fun e w' => e = .returned (.func (.func 74) #[] #[.pointer (some ⟨w.heap.size, 0, none⟩)]) ∧ w' = w.alloc (.cells #[.slice a n c] 38) := by
  go_enter Tryd.func61, Tryd.ntmps61
  go_wp2
  go_ret
  exact ⟨rfl, rfl⟩

set_option maxRecDepth 100000 in
set_option maxHeartbeats 4000000 in
theorem rows1_stops (n : Nat) (hn : 1 ≤ n) (Bn n0 cap b1 o1 : Nat) (l : List Sp) (hl : l.length ≤ 100000) (hcap : l.length ≤ cap) (hcm : cap ≤ 9223372036854775807) (w : World) (hBn : Bn < w.heap.size) (hn0 : n0 ≤ w.heap.size) (hb1 : b1 < n0)
    (hr : ∀ x ∈ l, 1 ≤ x.1 ∧ x.1 ≤ x.2 ∧ x.2 ≤ 999)
    (hc : w.cell? ⟨Bn, 0, none⟩ = some (.slice (some ⟨b1, o1, none⟩) l.length cap))
    (hel : ∀ k x, l[k]? = some x → SpAt w b1 (o1 + k * 2) x.1 x.2) :
    SeqStopsK Fence.wide n Tryd.prog 74 #[.pointer (some ⟨Bn, 0, none⟩)] (rEnc (l := l) b1 o1 cap) (fun W W' => KeepB Bn W W' ∧ Below n0 W W') (fun ys => ys.map (·.1) = rowsL l) (fun pre => pre.map (·.1) <+: rowsL l) l.length w := fun lb J Jx W hW hAb _ hY h0 => by
  have c0 := (hW.cell (p := ⟨Bn, 0, none⟩) hBn).trans hc
  have HEL := Lib.hid hel; have HRT := Lib.hid hr
  have HAB := Lib.hid hAb; have HY := Lib.hid hY; have H0 := Lib.hid h0; have HW := Lib.hid hW
  clear hc hel hW hY h0 hr hAb
  refine callsIn_of_wp Tryd.func74 rfl trivial ?_ rfl
  simp only [Tryd.ntmps74, List.size_toArray, List.length_cons, List.length_nil, Nat.reduceAdd, Nat.reduceSub, Array.replicate_succ, Array.replicate_zero, List.push_toArray, List.append_toArray, List.nil_append, List.cons_append]
  gi_wp2
  gi_loopw [3] (fun i wr => ∃ (pre : List (RowT l)) (p : Nat), p ≤ l.length ∧ i = .int .i64 p ∧ rowsL l = pre.map (·.1) ++ rowsFrom l p ∧ pre.length ≤ p ∧ J pre wr ∧ KeepB Bn W wr ∧ Below n0 W wr) (fun i _ => l.length - (intOf i).toNat)
  case atStart => exact ⟨[], 0, by omega, rfl, rfl, by simp, H0.out, KeepB.refl _ _, Below.refl _ _⟩
  case round =>
    obtain ⟨pre, p, hp, rfl, hpre, hpl, hj, hk1, hk2⟩ := hrel
    have HP := Lib.hid hpre; have HJ := Lib.hid hj; have HK1 := Lib.hid hk1; have HK2 := Lib.hid hk2
    have d0 := (hk1.cell 0).trans c0
    obtain ⟨wo, hwo⟩ : ∃ wo, wo = wr := ⟨_, rfl⟩
    subst hwo
    clear hpre hj hk1 hk2
    by_cases hlt : p < l.length
    · have q1 : (p : Int) < (l.length : Int) := by omega
      have hpi : (p : Int) ≤ 100000 := by omega
      gi_wp2_with fail
      gi_loopw [4] (fun nv wr => ∃ n : Nat, 1 ≤ n ∧ p + n ≤ l.length ∧ nv = .int .i64 ((p + n : Nat) : Int) ∧ (∀ i x y, i + 1 < n → (l.drop p)[i]? = some x → (l.drop p)[i + 1]? = some y → y.1 = x.2 + 2) ∧ ∃ nq, wr = wo.drewN nq) (fun nv _ => l.length - (intOf nv).toNat)
      case atStart => exact ⟨1, by omega, by omega, by go_num, fun i x y hi => absurd hi (by omega), 0, rfl⟩
      case round =>
        obtain ⟨m, hm1, hm2, rfl, hch, nq0, rfl⟩ := hrel
        obtain ⟨q, hq⟩ : ∃ q, q = p + m := ⟨_, rfl⟩
        rw [← hq]
        have HQ := Lib.hid hq
        have HCH := Lib.hid hch
        have hqi : (q : Int) ≤ 100000 := by omega
        have hq1 : (1 : Int) ≤ (q : Int) := by omega
        have hq2 : q ≤ l.length := by omega
        have hq3 : 1 ≤ q := by omega
        have hpq : p < q := by omega
        clear hch hq
        by_cases hlt2 : q < l.length
        · obtain ⟨⟨y0, y1⟩, hy⟩ := elem_at hlt2
          obtain ⟨⟨x0, x1⟩, hx⟩ := elem_at (l := l) (k := q - 1) (by omega)
          obtain ⟨u0, u1⟩ := HEL.out _ _ hy
          obtain ⟨t0, t1⟩ := HEL.out _ _ hx
          have g0 : wo.cell? ⟨b1, o1 + q * 2, none⟩ = some (.int .i64 y0) := (HK2.out.cell (p := ⟨b1, o1 + q * 2, none⟩) hb1).trans ((HW.out.cell (p := ⟨b1, o1 + q * 2, none⟩) (by show b1 < w.heap.size; omega)).trans u0)
          have g1 : wo.cell? ⟨b1, o1 + (q - 1) * 2 + 1, none⟩ = some (.int .i64 x1) := (HK2.out.cell (p := ⟨b1, o1 + (q - 1) * 2 + 1, none⟩) hb1).trans ((HW.out.cell (p := ⟨b1, o1 + (q - 1) * 2 + 1, none⟩) (by show b1 < w.heap.size; omega)).trans t1)
          have hxr := HRT.out _ (List.mem_of_getElem? hx)
          dsimp only at hxr
          obtain ⟨hx1, hx2, hx3⟩ := hxr
          have HX := Lib.hid (show l[p + m - 1]? = some (x0, x1) by rw [← HQ.out]; exact hx)
          have HYY := Lib.hid (show l[p + m]? = some (y0, y1) by rw [← HQ.out]; exact hy)
          have q2 : (q : Int) < (l.length : Int) := by omega
          have e1 : (q : Int) - 1 = ((q - 1 : Nat) : Int) := by omega
          have e2 : q - 1 < l.length := by omega
          have e3 : ((q - 1 : Nat) : Int) < (l.length : Int) := by omega
          have w1 : IntKind.i64.wrap ((q - 1 : Nat) : Int) = ((q - 1 : Nat) : Int) := IntWalk.i64_in _ (by omega)
          have w2 : IntKind.i64.wrap (x1 + 2) = x1 + 2 := IntWalk.i64_in _ (by omega)
          clear u0 u1 t0 t1 hx hy
          by_cases hg : y0 = x1 + 2
          · have hgb : (y0 == x1 + 2) = true := by rw [beq_iff_eq]; exact hg
            have HG := Lib.hid hg
            clear hg
            gi_wp2_with fail
            refine region_round (by kernel_rfl) (by kernel_rfl) (by kernel_rfl) ?_
            repeat (quiet_step_in (fail))
            refine wpQuietIn_nil ?_
            intro _ hw'
            obtain ⟨nq, hw''⟩ := hw'
            subst hw''
            gi_wp2_with fail
            go_roundw
            case rel => exact ⟨m + 1, by omega, by have := HQ.out; omega, by rw [show p + (m + 1) = q + 1 by have := HQ.out; omega]; go_num, chain_step hm1 HCH.out HX.out HYY.out HG.out, _, rfl⟩
            case measure => simp [intOf]; omega
          · have hgb : (y0 == x1 + 2) = false := beq_eq_false_iff_ne.2 hg
            have hrow : rowN (l.drop p) = m := rowN_walk hm1 hm2 HCH.out (.inr ⟨_, _, HX.out, HYY.out, hg⟩)
            have HROW := Lib.hid hrow
            clear hg hrow
            gi_wp2_with fail
            refine region_round (by kernel_rfl) (by kernel_rfl) (by kernel_rfl) ?_
            repeat (quiet_step_in (fail))
            refine wpQuietIn_nil ?_
            intro _ hw'
            obtain ⟨nq, hw''⟩ := hw'
            subst hw''
            clear g0 g1 w1 w2 hgb hx1 hx2 hx3 e1 e2 e3
            have hj2 : J pre ((wo.drewN nq0).drewN nq) := HAB.out pre wo _ none HJ.out ⟨rfl, rfl, rfl, Nat.le_refl _, fun _ _ _ => rfl⟩ (fun r e => by cases e)
            have HJ2 := Lib.hid hj2
            have HKD := Lib.hid (HK1.out.trans (KeepB.of_below (n := Bn + 1) (Below.dn (Below.dn (Below.refl (Bn + 1) wo) nq0) nq) (by omega)))
            have HBD := Lib.hid (Below.dn (Below.dn HK2.out nq0) nq)
            have f0 : ((wo.drewN nq0).drewN nq).cell? ⟨Bn, 0, none⟩ = some (.slice (some ⟨b1, o1, none⟩) l.length cap) := d0
            obtain ⟨W1, hW1⟩ : ∃ W1, (wo.drewN nq0).drewN nq = W1 := ⟨_, rfl⟩
            rw [hW1] at HJ2 HKD HBD f0 ⊢
            have hok : 1 ≤ (p, m).2 ∧ (p, m).1 + (p, m).2 ≤ l.length := ⟨hm1, hm2⟩
            obtain ⟨fn, tmps, assign, body, hyr, hR⟩ := HY.out pre ⟨(p, m), hok⟩ W1 HJ2.out (by omega)
            simp only [rEnc] at hyr
            have HR := Lib.hid hR
            have hqm : q - p = m := by have := HQ.out; omega
            have HQM := Lib.hid hqm
            rw [← hqm] at hyr
            have hstep := rowsFrom_step hlt HROW.out
            have hnew : rowsL l = (pre ++ [(⟨(p, m), hok⟩ : RowT l)]).map (·.1) ++ rowsFrom l q := by rw [HP.out, hstep, HQ.out, List.map_append, List.append_assoc]; rfl
            have HNEW := Lib.hid hnew
            have hpc : p < cap := by omega
            have hqc : q ≤ cap := by omega
            have hpq2 : (p : Int) ≤ (q : Int) := by omega
            clear hW1 hj2 hR hqm hstep hnew d0
            gi_wp2_with fail
            refine HR.out.mono ?_
            rintro e W3 (⟨rfl, hJ3, hk3, hk4⟩ | ⟨rfl, hJx3⟩)
            · have HJ3 := Lib.hid hJ3; have HK3 := Lib.hid hk3; have HK4 := Lib.hid hk4
              clear hJ3 hk3 hk4 hyr f0
              gi_wp2_with fail
              go_roundw
              case rel => exact ⟨_, q, hq2, rfl, HNEW.out, by simp; omega, HJ3.out, HKD.out.trans HK3.out, HBD.out.trans HK4.out⟩
              case measure => simp [intOf]; omega
            · have HJx3 := Lib.hid hJx3
              clear hJx3 hyr f0
              gi_wp2_with fail
              refine bodyPost_ret (results_none rfl _ _ _) rfl ?_
              exact ⟨⟨_, rfl⟩, .inr ⟨_, ⟨_, HNEW.out.symm⟩, HJx3.out⟩⟩
        · have hrow : rowN (l.drop p) = m := rowN_walk hm1 hm2 HCH.out (.inl (by have := HQ.out; omega))
          have HROW := Lib.hid hrow
          have hd : decide ((q : Int) < (l.length : Int)) = false := decide_eq_false (by omega)
          clear hrow
          gi_wp2_with fail
          refine region_round (by kernel_rfl) (by kernel_rfl) (by kernel_rfl) ?_
          repeat (quiet_step_in (fail))
          refine wpQuietIn_nil ?_
          intro _ hw'
          obtain ⟨nq, hw''⟩ := hw'
          subst hw''
          clear hd
          have hj2 : J pre ((wo.drewN nq0).drewN nq) := HAB.out pre wo _ none HJ.out ⟨rfl, rfl, rfl, Nat.le_refl _, fun _ _ _ => rfl⟩ (fun r e => by cases e)
          have HJ2 := Lib.hid hj2
          have HKD := Lib.hid (HK1.out.trans (KeepB.of_below (n := Bn + 1) (Below.dn (Below.dn (Below.refl (Bn + 1) wo) nq0) nq) (by omega)))
          have HBD := Lib.hid (Below.dn (Below.dn HK2.out nq0) nq)
          have f0 : ((wo.drewN nq0).drewN nq).cell? ⟨Bn, 0, none⟩ = some (.slice (some ⟨b1, o1, none⟩) l.length cap) := d0
          obtain ⟨W1, hW1⟩ : ∃ W1, (wo.drewN nq0).drewN nq = W1 := ⟨_, rfl⟩
          rw [hW1] at HJ2 HKD HBD f0 ⊢
          have hok : 1 ≤ (p, m).2 ∧ (p, m).1 + (p, m).2 ≤ l.length := ⟨hm1, hm2⟩
          obtain ⟨fn, tmps, assign, body, hyr, hR⟩ := HY.out pre ⟨(p, m), hok⟩ W1 HJ2.out (by omega)
          simp only [rEnc] at hyr
          have HR := Lib.hid hR
          have hqm : q - p = m := by have := HQ.out; omega
          have HQM := Lib.hid hqm
          rw [← hqm] at hyr
          have hstep := rowsFrom_step hlt HROW.out
          have hnew : rowsL l = (pre ++ [(⟨(p, m), hok⟩ : RowT l)]).map (·.1) ++ rowsFrom l q := by rw [HP.out, hstep, HQ.out, List.map_append, List.append_assoc]; rfl
          have HNEW := Lib.hid hnew
          have hpc : p < cap := by omega
          have hqc : q ≤ cap := by omega
          have hpq2 : (p : Int) ≤ (q : Int) := by omega
          clear hW1 hj2 hR hqm hstep hnew d0
          gi_wp2_with fail
          refine HR.out.mono ?_
          rintro e W3 (⟨rfl, hJ3, hk3, hk4⟩ | ⟨rfl, hJx3⟩)
          · have HJ3 := Lib.hid hJ3; have HK3 := Lib.hid hk3; have HK4 := Lib.hid hk4
            clear hJ3 hk3 hk4 hyr f0
            gi_wp2_with fail
            go_roundw
            case rel => exact ⟨_, q, hq2, rfl, HNEW.out, by simp; omega, HJ3.out, HKD.out.trans HK3.out, HBD.out.trans HK4.out⟩
            case measure => simp [intOf]; omega
          · have HJx3 := Lib.hid hJx3
            clear hJx3 hyr f0
            gi_wp2_with fail
            refine bodyPost_ret (results_none rfl _ _ _) rfl ?_
            exact ⟨⟨_, rfl⟩, .inr ⟨_, ⟨_, HNEW.out.symm⟩, HJx3.out⟩⟩
    · obtain rfl : p = l.length := by omega
      have hfin : pre.map (·.1) = rowsL l := by rw [HP.out, rowsFrom_end (Nat.le_refl _), List.append_nil]
      have HFIN := Lib.hid hfin
      have q1 : ¬ (l.length : Int) < (l.length : Int) := by omega
      clear hfin
      gi_wp2
      go_end0
      exact ⟨⟨_, rfl⟩, .inl ⟨pre, HFIN.out, HJ.out⟩⟩
end Go.Proofs.YtecdkpcapalifaaDoor

namespace Go.Proofs.YtecdkpcapalifaaDoor
open Go.Shelf
def Tryd.lays156_ren : Go.Shelf.Ren := ⟨fun | 156 => 64 | 165 => 76 | 166 => 77 | 169 => 78 | 240 => 84 | 241 => 85 | 276 => 91 | 277 => 92 | n => n, fun | 31 => 45 | 9 => 9 | 3 => 3 | 4 => 4 | 0 => 0 | 20 => 20 | 72 => 116 | 76 => 120 | 70 => 113 | 37 => 114 | 75 => 119 | 127 => 126 | 164 => 132 | 5 => 5 | 80 => 122 | n => n, fun | n => n⟩
theorem Tryd.lays156 : Go.Proofs.Lays.n156 Tryd.prog Tryd.lays156_ren := {
  mixed := by kernel_rfl
  f156 := Tryd.func64.trans (congrArg some (by kernel_rfl))
  f165 := Tryd.func76.trans (congrArg some (by kernel_rfl))
  f166 := Tryd.func77.trans (congrArg some (by kernel_rfl))
  f169 := Tryd.func78.trans (congrArg some (by kernel_rfl))
  f240 := Tryd.func84.trans (congrArg some (by kernel_rfl))
  f241 := Tryd.func85.trans (congrArg some (by kernel_rfl))
  f276 := Tryd.func91.trans (congrArg some (by kernel_rfl))
  f277 := Tryd.func92.trans (congrArg some (by kernel_rfl))
  t0 := Tryd.underlying0
  a0 := Tryd.isAgg0
  z0 := Tryd.sizeOf0
  v0 := Tryd.zeroValue0
  t3 := Tryd.underlying3
  a3 := Tryd.isAgg3
  z3 := Tryd.sizeOf3
  v3 := Tryd.zeroValue3
  t4 := Tryd.underlying4
  a4 := Tryd.isAgg4
  z4 := Tryd.sizeOf4
  v4 := Tryd.zeroValue4
  t9 := Tryd.underlying9
  a9 := Tryd.isAgg9
  z9 := Tryd.sizeOf9
  v9 := Tryd.zeroValue9
  t20 := Tryd.underlying20
  a20 := Tryd.isAgg20
  z20 := Tryd.sizeOf20
  v20 := Tryd.zeroValue20
  t31 := Tryd.underlying45
  a31 := Tryd.isAgg45
  z31 := Tryd.sizeOf45
  v31 := Tryd.zeroValue45
  t37 := Tryd.underlying114
  a37 := Tryd.isAgg114
  z37 := Tryd.sizeOf114
  v37 := Tryd.zeroValue114
  t70 := Tryd.underlying113
  a70 := Tryd.isAgg113
  z70 := Tryd.sizeOf113
  v70 := Tryd.zeroValue113
  t72 := Tryd.underlying116
  a72 := Tryd.isAgg116
  z72 := Tryd.sizeOf116
  v72 := Tryd.zeroValue116
  t75 := Tryd.underlying119
  a75 := Tryd.isAgg119
  z75 := Tryd.sizeOf119
  v75 := Tryd.zeroValue119
  t76 := Tryd.underlying120
  a76 := Tryd.isAgg120
  z76 := Tryd.sizeOf120
  v76 := Tryd.zeroValue120
  t127 := Tryd.underlying126
  a127 := Tryd.isAgg126
  z127 := Tryd.sizeOf126
  v127 := Tryd.zeroValue126
  t164 := Tryd.underlying132
  a164 := Tryd.isAgg132
  z164 := Tryd.sizeOf132
  v164 := Tryd.zeroValue132 }
theorem Tryd.Builder_Extra_156 : Builder.Extra Tryd.prog Tryd.lays156_ren := {
  sizeBuilder := by kernel_rfl
  liesBuilder := by kernel_rfl
  t5 := Tryd.underlying5
  a5 := Tryd.isAgg5
  z5 := Tryd.sizeOf5
  v5 := Tryd.zeroValue5
  infoByte := by kernel_rfl
  cellsByte := by kernel_rfl
  sizeByte := by kernel_rfl
  neB5 := by decide }
open Go.RowKit in
/-- No element: the empty string; the world is as it was. (Whatever the slice's address and capacity: a nil slice too.) (LAID: no walk: one application.) -/
theorem Tryd.strings_Join_none (a : Option Addr) (c : Nat) (sep : ByteArray) (w : World) :
    Calls Tryd.prog 64 #[.slice a 0 c, .string sep] w fun e w' => e = .returned (.string ⟨#[]⟩) ∧ w' = w := Any.strings_Join_none Tryd.lays156 Tryd.Builder_Extra_156 a c sep w
open Go.RowKit in
/-- strings.Join: "Join concatenates the elements of its first argument to create a single string. The separator string sep is placed between elements in the resulting string.": HOWEVER MANY ELEMENTS. Below the heap's end the world is as it was. (LAID: no walk: one application.) -/
theorem Tryd.strings_Join (bk o c : Nat) (xs : List ByteArray) (sep : ByteArray) (w : World) (hcells : ∀ (j : Nat) x, xs[j]? = some x → w.cell? ⟨bk, o + j, none⟩ = some (.string x)) (hbk : bk < w.heap.size) (hN : xs.length ≤ 140737488355328) (hcap : xs.length ≤ c) (hlen : (Lib.join (xs.map (·.data.toList)) sep.data.toList).length ≤ 140737488355328) :
    Calls Tryd.prog 64 #[.slice (some ⟨bk, o, none⟩) xs.length c, .string sep] w fun e w' => e = .returned (.string ⟨(Lib.join (xs.map (·.data.toList)) sep.data.toList).toArray⟩) ∧ Below w.heap.size w w' := Any.strings_Join Tryd.lays156 Tryd.Builder_Extra_156 bk o c xs sep w hcells hbk hN hcap hlen
def Tryd.lays138_ren : Go.Shelf.Ren := ⟨fun | 138 => 80 | 195 => 86 | 218 => 88 | 143 => 81 | 219 => 89 | 217 => 94 | 225 => 95 | 224 => 96 | 267 => 97 | 266 => 98 | 314 => 99 | n => n, fun | 9 => 9 | 3 => 3 | 4 => 4 | 5 => 5 | 0 => 0 | 46 => 135 | 146 => 141 | 51 => 140 | n => n, fun | 1 => 0 | n => n⟩
theorem Tryd.lays138 : Go.Proofs.Lays.n138 Tryd.prog Tryd.lays138_ren := {
  mixed := by kernel_rfl
  f138 := Tryd.func80.trans (congrArg some (by kernel_rfl))
  f143 := Tryd.func81.trans (congrArg some (by kernel_rfl))
  f195 := Tryd.func86.trans (congrArg some (by kernel_rfl))
  f217 := Tryd.func94.trans (congrArg some (by kernel_rfl))
  f218 := Tryd.func88.trans (congrArg some (by kernel_rfl))
  f219 := Tryd.func89.trans (congrArg some (by kernel_rfl))
  f224 := Tryd.func96.trans (congrArg some (by kernel_rfl))
  f225 := Tryd.func95.trans (congrArg some (by kernel_rfl))
  f266 := Tryd.func98.trans (congrArg some (by kernel_rfl))
  f267 := Tryd.func97.trans (congrArg some (by kernel_rfl))
  f314 := Tryd.func99.trans (congrArg some (by kernel_rfl))
  t0 := Tryd.underlying0
  a0 := Tryd.isAgg0
  z0 := Tryd.sizeOf0
  v0 := Tryd.zeroValue0
  t3 := Tryd.underlying3
  a3 := Tryd.isAgg3
  z3 := Tryd.sizeOf3
  v3 := Tryd.zeroValue3
  t4 := Tryd.underlying4
  a4 := Tryd.isAgg4
  z4 := Tryd.sizeOf4
  v4 := Tryd.zeroValue4
  t5 := Tryd.underlying5
  a5 := Tryd.isAgg5
  z5 := Tryd.sizeOf5
  v5 := Tryd.zeroValue5
  t9 := Tryd.underlying9
  a9 := Tryd.isAgg9
  z9 := Tryd.sizeOf9
  v9 := Tryd.zeroValue9
  t46 := Tryd.underlying135
  a46 := Tryd.isAgg135
  z46 := Tryd.sizeOf135
  v46 := Tryd.zeroValue135
  t51 := Tryd.underlying140
  a51 := Tryd.isAgg140
  z51 := Tryd.sizeOf140
  v51 := Tryd.zeroValue140
  t146 := Tryd.underlying141
  a146 := Tryd.isAgg141
  z146 := Tryd.sizeOf141
  v146 := Tryd.zeroValue141
  g1 := by kernel_rfl }
open Go.RowKit Go.Lib in
/-- strings.Count at whatever sep that is not empty: the two roads under one statement. (LAID: no walk: one application.) -/
theorem Tryd.strings_Count_any (s sep : ByteArray) (m : Int) (w : World) (hs : s.size < 4294967281) (hm : w.cell? ⟨0, 0, none⟩ = some (.int .i64 m)) (h1 : 1 ≤ sep.size) :
    Calls Tryd.prog 80 #[.string s, .string sep] w fun e w' => e = .returned (.int .i64 (Lib.countB s sep)) ∧ w' = w := Any.strings_Count_any Tryd.lays138 s sep m w hs hm h1
def Tryd.lays221_ren : Go.Shelf.Ren := ⟨fun | 221 => 66 | 268 => 79 | 138 => 80 | 143 => 81 | 195 => 86 | 197 => 87 | 218 => 88 | 219 => 89 | 260 => 93 | 217 => 94 | 225 => 95 | 224 => 96 | 267 => 97 | 266 => 98 | 314 => 99 | n => n, fun | 9 => 9 | 3 => 3 | 31 => 45 | 4 => 4 | 0 => 0 | 105 => 128 | 21 => 21 | 5 => 5 | 46 => 135 | 119 => 136 | 139 => 139 | 138 => 138 | 146 => 141 | 51 => 140 | n => n, fun | 1 => 0 | 3 => 1 | 4 => 2 | n => n⟩
theorem Tryd.lays221 : Go.Proofs.Lays.n221 Tryd.prog Tryd.lays221_ren := {
  mixed := by kernel_rfl
  f138 := Tryd.func80.trans (congrArg some (by kernel_rfl))
  f143 := Tryd.func81.trans (congrArg some (by kernel_rfl))
  f195 := Tryd.func86.trans (congrArg some (by kernel_rfl))
  f197 := Tryd.func87.trans (congrArg some (by kernel_rfl))
  f217 := Tryd.func94.trans (congrArg some (by kernel_rfl))
  f218 := Tryd.func88.trans (congrArg some (by kernel_rfl))
  f219 := Tryd.func89.trans (congrArg some (by kernel_rfl))
  f221 := Tryd.func66.trans (congrArg some (by kernel_rfl))
  f224 := Tryd.func96.trans (congrArg some (by kernel_rfl))
  f225 := Tryd.func95.trans (congrArg some (by kernel_rfl))
  f260 := Tryd.func93.trans (congrArg some (by kernel_rfl))
  f266 := Tryd.func98.trans (congrArg some (by kernel_rfl))
  f267 := Tryd.func97.trans (congrArg some (by kernel_rfl))
  f268 := Tryd.func79.trans (congrArg some (by kernel_rfl))
  f314 := Tryd.func99.trans (congrArg some (by kernel_rfl))
  t0 := Tryd.underlying0
  a0 := Tryd.isAgg0
  z0 := Tryd.sizeOf0
  v0 := Tryd.zeroValue0
  t3 := Tryd.underlying3
  a3 := Tryd.isAgg3
  z3 := Tryd.sizeOf3
  v3 := Tryd.zeroValue3
  t4 := Tryd.underlying4
  a4 := Tryd.isAgg4
  z4 := Tryd.sizeOf4
  v4 := Tryd.zeroValue4
  t5 := Tryd.underlying5
  a5 := Tryd.isAgg5
  z5 := Tryd.sizeOf5
  v5 := Tryd.zeroValue5
  t9 := Tryd.underlying9
  a9 := Tryd.isAgg9
  z9 := Tryd.sizeOf9
  v9 := Tryd.zeroValue9
  t21 := Tryd.underlying21
  a21 := Tryd.isAgg21
  z21 := Tryd.sizeOf21
  v21 := Tryd.zeroValue21
  t31 := Tryd.underlying45
  a31 := Tryd.isAgg45
  z31 := Tryd.sizeOf45
  v31 := Tryd.zeroValue45
  t46 := Tryd.underlying135
  a46 := Tryd.isAgg135
  z46 := Tryd.sizeOf135
  v46 := Tryd.zeroValue135
  t51 := Tryd.underlying140
  a51 := Tryd.isAgg140
  z51 := Tryd.sizeOf140
  v51 := Tryd.zeroValue140
  t105 := Tryd.underlying128
  a105 := Tryd.isAgg128
  z105 := Tryd.sizeOf128
  v105 := Tryd.zeroValue128
  t119 := Tryd.underlying136
  a119 := Tryd.isAgg136
  z119 := Tryd.sizeOf136
  t138 := Tryd.underlying138
  a138 := Tryd.isAgg138
  z138 := Tryd.sizeOf138
  v138 := Tryd.zeroValue138
  t139 := Tryd.underlying139
  a139 := Tryd.isAgg139
  z139 := Tryd.sizeOf139
  v139 := Tryd.zeroValue139
  t146 := Tryd.underlying141
  a146 := Tryd.isAgg141
  z146 := Tryd.sizeOf141
  v146 := Tryd.zeroValue141
  g1 := by kernel_rfl
  g3 := by kernel_rfl
  g4 := by kernel_rfl }
open Go.RowKit Go.Lib in
theorem Tryd.strings_genSplit (s sep : ByteArray) (sv : Nat) (n : Int) (N : Nat) (m : Int) (w : World) (hs : s.size < 4294967281) (hm : w.cell? ⟨0, 0, none⟩ = some (.int .i64 m)) (h1 : 1 ≤ sep.size) (hsv : sv ≤ sep.size) (hn0 : n ≠ 0) (hn63 : n ≤ 9223372036854775807) (hN : (N : Int) = min (if n < 0 then (Lib.countB s sep : Int) + 1 else n) ((s.size : Int) + 1)) :
    Calls Tryd.prog 66 #[.string s, .string sep, .int .i64 sv, .int .i64 n] w fun e w' =>
      e = .returned (.slice (some ⟨w.heap.size, 0, none⟩) (Lib.splitB sep sv (N - 1) s).length N) ∧ w' = w.alloc (.cells (Lib.cellsOf (Lib.splitB sep sv (N - 1) s) N) 9) := Any.strings_genSplit Tryd.lays221 (by kernel_rfl) s sep sv n N m w hs hm h1 hsv hn0 hn63 hN
def Tryd.lays146_ren : Go.Shelf.Ren := ⟨fun | 146 => 47 | 221 => 66 | 268 => 79 | 138 => 80 | 143 => 81 | 195 => 86 | 197 => 87 | 218 => 88 | 219 => 89 | 260 => 93 | 217 => 94 | 225 => 95 | 224 => 96 | 267 => 97 | 266 => 98 | 314 => 99 | n => n, fun | 9 => 9 | 31 => 45 | 3 => 3 | 4 => 4 | 0 => 0 | 105 => 128 | 21 => 21 | 5 => 5 | 46 => 135 | 119 => 136 | 139 => 139 | 138 => 138 | 146 => 141 | 51 => 140 | n => n, fun | 1 => 0 | 3 => 1 | 4 => 2 | n => n⟩
theorem Tryd.lays146 : Go.Proofs.Lays.n146 Tryd.prog Tryd.lays146_ren := {
  mixed := by kernel_rfl
  f138 := Tryd.func80.trans (congrArg some (by kernel_rfl))
  f143 := Tryd.func81.trans (congrArg some (by kernel_rfl))
  f146 := Tryd.func47.trans (congrArg some (by kernel_rfl))
  f195 := Tryd.func86.trans (congrArg some (by kernel_rfl))
  f197 := Tryd.func87.trans (congrArg some (by kernel_rfl))
  f217 := Tryd.func94.trans (congrArg some (by kernel_rfl))
  f218 := Tryd.func88.trans (congrArg some (by kernel_rfl))
  f219 := Tryd.func89.trans (congrArg some (by kernel_rfl))
  f221 := Tryd.func66.trans (congrArg some (by kernel_rfl))
  f224 := Tryd.func96.trans (congrArg some (by kernel_rfl))
  f225 := Tryd.func95.trans (congrArg some (by kernel_rfl))
  f260 := Tryd.func93.trans (congrArg some (by kernel_rfl))
  f266 := Tryd.func98.trans (congrArg some (by kernel_rfl))
  f267 := Tryd.func97.trans (congrArg some (by kernel_rfl))
  f268 := Tryd.func79.trans (congrArg some (by kernel_rfl))
  f314 := Tryd.func99.trans (congrArg some (by kernel_rfl))
  t0 := Tryd.underlying0
  a0 := Tryd.isAgg0
  z0 := Tryd.sizeOf0
  v0 := Tryd.zeroValue0
  t3 := Tryd.underlying3
  a3 := Tryd.isAgg3
  z3 := Tryd.sizeOf3
  v3 := Tryd.zeroValue3
  t4 := Tryd.underlying4
  a4 := Tryd.isAgg4
  z4 := Tryd.sizeOf4
  v4 := Tryd.zeroValue4
  t5 := Tryd.underlying5
  a5 := Tryd.isAgg5
  z5 := Tryd.sizeOf5
  v5 := Tryd.zeroValue5
  t9 := Tryd.underlying9
  a9 := Tryd.isAgg9
  z9 := Tryd.sizeOf9
  v9 := Tryd.zeroValue9
  t21 := Tryd.underlying21
  a21 := Tryd.isAgg21
  z21 := Tryd.sizeOf21
  v21 := Tryd.zeroValue21
  t31 := Tryd.underlying45
  a31 := Tryd.isAgg45
  z31 := Tryd.sizeOf45
  v31 := Tryd.zeroValue45
  t46 := Tryd.underlying135
  a46 := Tryd.isAgg135
  z46 := Tryd.sizeOf135
  v46 := Tryd.zeroValue135
  t51 := Tryd.underlying140
  a51 := Tryd.isAgg140
  z51 := Tryd.sizeOf140
  v51 := Tryd.zeroValue140
  t105 := Tryd.underlying128
  a105 := Tryd.isAgg128
  z105 := Tryd.sizeOf128
  v105 := Tryd.zeroValue128
  t119 := Tryd.underlying136
  a119 := Tryd.isAgg136
  z119 := Tryd.sizeOf136
  t138 := Tryd.underlying138
  a138 := Tryd.isAgg138
  z138 := Tryd.sizeOf138
  v138 := Tryd.zeroValue138
  t139 := Tryd.underlying139
  a139 := Tryd.isAgg139
  z139 := Tryd.sizeOf139
  v139 := Tryd.zeroValue139
  t146 := Tryd.underlying141
  a146 := Tryd.isAgg141
  z146 := Tryd.sizeOf141
  v146 := Tryd.zeroValue141
  g1 := by kernel_rfl
  g3 := by kernel_rfl
  g4 := by kernel_rfl }
open Go.RowKit Go.Lib in
/-- strings.Split. (LAID: no walk: one application.) -/
theorem Tryd.strings_Split (s sep : ByteArray) (m : Int) (w : World) (hs : s.size < 4294967281) (hm : w.cell? ⟨0, 0, none⟩ = some (.int .i64 m)) (h1 : 1 ≤ sep.size) :
    Calls Tryd.prog 47 #[.string s, .string sep] w fun e w' =>
      e = .returned (.slice (some ⟨w.heap.size, 0, none⟩) (Lib.countB s sep + 1) (Lib.countB s sep + 1)) ∧ w' = w.alloc (.cells ((Lib.splitB sep 0 (Lib.countB s sep) s).map Value.string).toArray 9) := Any.strings_Split Tryd.lays146 (by kernel_rfl) s sep m w hs hm h1
end Go.Proofs.YtecdkpcapalifaaDoor

namespace Go.Proofs.YtecdkpcapalifaaDoor
open Go.RowKit Go.Shelf Go.Maps
attribute [local go_sem] Oper.semAt_some

section
variable {l n : Nat} {P : Program} {ops : Array Oper} {md : Region.Mode} {S : World → Prop}
theorem rows_round {row : String} {args : Array Value} {w : World} {R : Value → World → Prop} (h : Rows P row args w R) : RowsIn (Fence.wide.inRound l) n P row args w R :=
  fun c cs _ => let ⟨v, w', r, s⟩ := h c cs; ⟨v, w', r, stepsIn_wide.2 s⟩
theorem calls_round {f : FuncId} {args : Array Value} {w : World} {R : Ending → World → Prop} (h : Calls P f args w R) : CallsIn (Fence.wide.inRound l) n P f args w R :=
  CallsIn.inRound l (callsIn_wide.2 h)
theorem oper_round_held {o : Oper} {a : Act} {w : World} {K : Act → World → Prop} {Q : Exit → Act → World → Prop} (hnd : noDefer o = true) (h : o.wp P a w K Q) : o.wpIn (Fence.wide.inRound l) n P a w K Q := by
  refine ⟨fun _ _ => trivial, ?_⟩
  rw [Oper.semAt_eq _ _ _ (noDefer_spec hnd)]
  unfold Oper.wp at h
  revert h
  generalize (execOp a.eval o).run P w = r
  intro h
  match r, h with
  | .ok (.value u) w', h => exact h
  | .ok .skip w', h => exact h
  | .ok (.defer d) w', h => exact h
  | .ok (.enter f args) w', h =>
    refine ⟨(fun e => by cases e), (calls_round (l := l) h).mono ?_⟩
    intro e w'' he
    cases e with
    | returned u => exact he
    | panicked c => exact he
    | outgrown => exact he
  | .ok (.row row args) w', h => exact ⟨fun e => (by cases e), rows_round h⟩
  | .halt (.panic v) w', h => exact h
theorem any_round_held (hall : ops.all noDefer = true) {Q : Exit → Act → World → Prop} (hQ : ∀ a w, ¬ Q .outgrown a w) : ∀ (fuel : Nat) (listed : Array Bool) (a : Act) (w : World),
    wpAnyH P md ops Q S fuel listed a w → wpAnyIn (Fence.wide.inRound l) n P md ops Q fuel listed a w
  | 0, _, _, _, h => h
  | fuel + 1, listed, a, w, h => ⟨h.1, fun i hi => by
      have h2 := h.2 i hi
      unfold wpOp at h2
      unfold wpOpIn
      cases ho : ops[i]? with
      | none => simp only [ho] at h2; exact any_round_held hall hQ fuel _ a w h2.2
      | some o =>
        have hnd : noDefer o = true := by
          obtain ⟨h1, rfl⟩ := Array.getElem?_eq_some_iff.1 ho
          exact Array.all_eq_true.1 hall i h1
        simp only [ho] at h2
        by_cases hw : Region.wanted o (yielded ops a.tmps) = true
        · simp only [hw, if_true] at h2 ⊢
          rcases h2 with h2 | ⟨_, a', w', h3⟩
          · exact Oper.wpIn_mono (fun a' w' h' => any_round_held hall hQ fuel _ a' w' h'.2) (oper_round_held hnd h2)
          · exact absurd h3 (hQ a' w')
        · simp only [hw] at h2 ⊢
          exact ⟨fun _ _ => trivial, any_round_held hall hQ fuel _ _ w h2.2⟩⟩
theorem round_held {id : Nat} {Q : Exit → Act → World → Prop} {a : Act} {w : World} (hm : P.follows .mixedOrders = true) (hall : ops.all noDefer = true) (hQ : ∀ a w, ¬ Q .outgrown a w)
    (h : wpAnyH P .any ops Q S ops.size (Array.replicate ops.size false) a { w with drawn := w.drawn + 1 }) : (Code.region id ops true).wpIn (Fence.wide.inRound l) n P Q a w :=
  wpIn_region_any hm (any_round_held hall hQ _ _ _ _ h)
end
theorem KeepsOthers.of_below {W W' : World} (h : Below W.heap.size W W') : KeepsOthers W W' :=
  ⟨h.size, fun k o hk _ => (h.block k (Array.getElem?_eq_some_iff.1 hk).1).trans hk⟩
theorem KeepsOthers.of_grown {W W' : World} {row : Option Nat} (h : W.grownBy W' row) (hr : ∀ r, row = some r → ∃ o : Obj, W.heap[r]? = some o ∧ o.isCells = true) : KeepsOthers W W' :=
  ⟨h.size, fun k o hk hc => (h.block k (Array.getElem?_eq_some_iff.1 hk).1 (fun e => by
    obtain ⟨o', h1, h2⟩ := hr k e.symm
    rw [hk] at h1; cases h1; rw [hc] at h2; cases h2)).trans hk⟩
theorem joinL_lib (Q : List (List UInt8)) : Lib.join Q [44, 32] = joinL Q := by
  induction Q with
  | nil => rfl
  | cons x r ih =>
    cases r with
    | nil => rw [Lib.join_one]; rfl
    | cons y q =>
      rw [Lib.join_cons] at ih ⊢
      show x ++ Lib.joinTail [44, 32] (y :: q) = x ++ (44 :: 32 :: joinL (y :: q))
      rw [← ih]
      simp [Lib.joinTail]

/-- the memory of form in a round: the style's box, the box of the parts and the parts, the iterator's box -/
structure Frm (n : Nat) (w W V : World) (cs itv : Array Value) (vo : Value) (Q : List Value) : Prop where
  sty : Boxs V n 36 cs
  out : Boxs V (n + 1) 45 #[vo]
  own : V.ownsRow (n + 3) 9 1 vo Q.length Q
  it : Boxs V (n + 1 + 1) 38 itv
  bel : Below n w V
  oth : KeepsOthers W V
  kb : KeepB (n + 1 + 1) W V
  kbl : Below n W V
  size : n + 3 ≤ V.heap.size
theorem owns_below2 {w w' : World} {base : Nat} {e : TypeId} {size : Nat} {v : Value} {n : Nat} {xs : List Value} (h : w.ownsRow base e size v n xs) (hb : Below w.heap.size w w') : w'.ownsRow base e size v n xs :=
  h.kept (row := none) ⟨hb.os, hb.tape, hb.output, hb.size, fun i hi _ => hb.block i hi⟩ (by by_cases h : v.ownBlock = none; exact .inl h; exact .inr h)
theorem Frm.below {n : Nat} {w W V V' : World} {cs itv : Array Value} {vo : Value} {Q : List Value} (h : Frm n w W V cs itv vo Q) (hb : Below V.heap.size V V') : Frm n w W V' cs itv vo Q := by
  have hs := h.size
  exact ⟨h.sty.below hb (by omega), h.out.below hb (by omega), owns_below2 h.own hb, h.it.below hb (by omega), h.bel.trans (hb.mono (by omega)), h.oth.trans (KeepsOthers.of_below hb),
    h.kb.trans (KeepB.of_below hb (by omega)), h.kbl.trans (hb.mono (by omega)), Nat.le_trans hs hb.size⟩
theorem Frm.dn {n : Nat} {w W V : World} {cs itv : Array Value} {vo : Value} {Q : List Value} (h : Frm n w W V cs itv vo Q) (m : Nat) : Frm n w W (V.drewN m) cs itv vo Q := h.below (Below.dn (Below.refl _ _) m)
theorem Frm.alloc {n : Nat} {w W V : World} {cs itv : Array Value} {vo : Value} {Q : List Value} (h : Frm n w W V cs itv vo Q) (o : Obj) : Frm n w W (V.alloc o) cs itv vo Q := h.below ((Below.refl _ V).alloc (Nat.le_refl _) _)
theorem own_isCells {w : World} {base : Nat} {e : TypeId} {size : Nat} {v : Value} {n : Nat} {xs : List Value} (h : w.ownsRow base e size v n xs) : ∀ r, v.ownBlock = some r → ∃ o : Obj, w.heap[r]? = some o ∧ o.isCells = true := by
  intro r hr
  rcases h.2 with ⟨rfl, _⟩ | ⟨g, cap, cur, rfl, _, hg, _⟩
  · simp [Value.ownBlock] at hr
  · have : r = g := by simpa [Value.ownBlock] using hr.symm
    subst this
    exact ⟨_, hg, rfl⟩
theorem Frm.push {n : Nat} {w W V V' : World} {cs itv : Array Value} {vo : Value} {Q : List Value} {g cap : Nat} {u : Value} (h : Frm n w W V cs itv vo Q)
    (hown : V'.ownsRow (n + 3) 9 1 (.slice (some ⟨g, 0, none⟩) (Q.length + 1) cap) (Q.length + 1) (Q ++ [u])) (hg : V.grownBy V' vo.ownBlock) :
    Frm n w W (V'.setCell ⟨n + 1, 0, none⟩ (.slice (some ⟨g, 0, none⟩) (Q.length + 1) cap)) cs itv (.slice (some ⟨g, 0, none⟩) (Q.length + 1) cap) (Q ++ [u]) := by
  have hs := h.size
  have hlt := fun b e => (h.own.lt b e).1
  have nb : ∀ b, b < n + 3 → some b ≠ vo.ownBlock := fun b hb e => by have := hlt b e.symm; omega
  have k1 : ∀ b t c, Boxs V b t c → b < n + 3 → Boxs V' b t c := fun b t c hc hb => hc.kept hg (nb b hb)
  have hbl : Below n V V' := (Below.refl n V).grown hg (by omega) (fun j e => by have := hlt j e; omega)
  refine ⟨?_, ?_, ?_, ?_, ?_, ?_, ?_, ?_, ?_⟩
  · exact (k1 _ _ _ h.sty (by omega)).setOther (by omega) 0 _
  · have := (k1 _ _ _ h.out (by omega)).put 0 (.slice (some ⟨g, 0, none⟩) (Q.length + 1) cap)
    exact this
  · rw [show (Q ++ [u]).length = Q.length + 1 by simp]
    exact ownsRow_setCell_below hown (a := ⟨n + 1, 0, none⟩) (by show n + 1 < n + 3; omega) _
  · exact (k1 _ _ _ h.it (by omega)).setOther (by omega) 0 _
  · exact (h.bel.trans hbl).setCell (p := ⟨n + 1, 0, none⟩) (by show n ≤ n + 1; omega) _
  · exact (h.oth.trans (KeepsOthers.of_grown hg (own_isCells h.own))).trans (KeepsOthers.setCell _ _ _)
  · exact h.kb.trans (keepB_boxs h.it ((k1 _ _ _ h.it (by omega)).setOther (by omega) 0 _) (by simpa using hg.size))
  · exact (h.kbl.trans hbl).setCell (p := ⟨n + 1, 0, none⟩) (by show n ≤ n + 1; omega) _
  · have := hg.size; simp; omega
/-- the parts of rows that have come -/
def PT (S : Sty) {l : List Sp} (pre : List (RowT l)) : List (List UInt8) := pre.flatMap fun x => rowParts S ((l.drop x.1.1).take x.1.2)
theorem PT_snoc (S : Sty) {l : List Sp} (pre : List (RowT l)) (x : RowT l) : PT S (pre ++ [x]) = PT S pre ++ rowParts S ((l.drop x.1.1).take x.1.2) := by unfold PT; rw [List.flatMap_append]; simp
theorem rowParts_len (S : Sty) (r : List Sp) (h : 1 ≤ r.length) : (rowParts S r).length ≤ r.length := by
  unfold rowParts
  split
  · simpa using h
  · simp
theorem PT_len (S : Sty) {l : List Sp} (pre : List (RowT l)) : (PT S pre).length ≤ pre.length * l.length := by
  induction pre with
  | nil => simp [PT]
  | cons x r ih =>
    have e : PT S (x :: r) = rowParts S ((l.drop x.1.1).take x.1.2) ++ PT S r := rfl
    have hl := row_len x.2.2
    have h1 := rowParts_len S _ (by rw [hl]; exact x.2.1)
    rw [e, List.length_append, List.length_cons, Nat.succ_mul]
    have := x.2.2
    omega
theorem parts_rows (S : Sty) : ∀ (f : Nat) (l : List Sp) (p : Nat), (l.drop p).length ≤ f → (rowsF f p (l.drop p)).flatMap (fun x => rowParts S ((l.drop x.1).take x.2)) = partsF S f (l.drop p) := by
  intro f
  induction f with
  | zero => intro l p h; rfl
  | succ f ih =>
    intro l p h
    generalize hD : l.drop p = D at h ⊢
    cases D with
    | nil => rfl
    | cons x r =>
      show rowParts S ((l.drop p).take _) ++ List.flatMap _ (rowsF f _ _) = rowParts S _ ++ partsF S f _
      rw [hD]
      congr 1
      have h2 : (x :: r).drop (rowN (x :: r)) = l.drop (p + rowN (x :: r)) := by rw [← hD, List.drop_drop]
      rw [h2]
      have h1 := rowN_pos (l := x :: r) (by simp)
      exact ih l _ (by rw [← h2, List.length_drop]; omega)
theorem PT_all (S : Sty) {l : List Sp} (pre : List (RowT l)) (h : pre.map (·.1) = rowsL l) : PT S pre = partsL S l := by
  have e : PT S pre = (pre.map (·.1)).flatMap fun x => rowParts S ((l.drop x.1).take x.2) := by unfold PT; rw [List.flatMap_map]
  rw [e, h]
  have := parts_rows S l.length l 0 (by simp)
  rw [List.drop_zero] at this
  exact this
theorem Tryd.info9 : (Tryd.prog.info? 9).map (fun i => (i.zero, i.size, i.bytes)) = some (some (.string ByteArray.empty), 1, 16) := by kernel_rfl
end Go.Proofs.YtecdkpcapalifaaDoor

namespace Go.Proofs.YtecdkpcapalifaaDoor
open Go.RowKit Go.Shelf Go.Maps
attribute [local go_sem] Oper.semAt_some

def QV (L : List (List UInt8)) : List Value := L.map fun x => .string (bs x)
theorem QV_len (L : List (List UInt8)) : (QV L).length = L.length := List.length_map ..
theorem QV_app (L M : List (List UInt8)) : QV (L ++ M) = QV L ++ QV M := List.map_append ..
theorem partsF_len (S : Sty) : ∀ (f : Nat) (l : List Sp), (partsF S f l).length ≤ l.length := by
  intro f
  induction f with
  | zero => intro l; simp [partsF]
  | succ f ih =>
    intro l
    cases l with
    | nil => simp [partsF]
    | cons x r =>
      show (rowParts S ((x :: r).take (rowN (x :: r))) ++ partsF S f ((x :: r).drop (rowN (x :: r)))).length ≤ _
      have h1 := rowN_pos (l := x :: r) (by simp)
      have h2 := rowN_le (x :: r)
      have h3 : ((x :: r).take (rowN (x :: r))).length = rowN (x :: r) := by rw [List.length_take]; omega
      have h4 := rowParts_len S ((x :: r).take (rowN (x :: r))) (by omega)
      have h5 := ih ((x :: r).drop (rowN (x :: r)))
      rw [List.length_drop] at h5
      rw [List.length_append]
      omega
theorem rowParts_el14 (S : Sty) (r : List Sp) : ∀ x ∈ rowParts S r, x.length ≤ 14 := by
  intro x hx
  unfold rowParts at hx
  split at hx
  · rw [List.mem_singleton.1 hx, List.length_append]
    have := betweenL_len S.k (headS r).1 (lastS r).2
    show _ + 7 ≤ 14
    omega
  · obtain ⟨y, _, rfl⟩ := List.mem_map.1 hx
    have := elementL_len S y
    omega
theorem partsF_el14 (S : Sty) : ∀ (f : Nat) (l : List Sp), ∀ x ∈ partsF S f l, x.length ≤ 14 := by
  intro f
  induction f with
  | zero => intro l x hx; simp [partsF] at hx
  | succ f ih =>
    intro l x hx
    cases l with
    | nil => simp [partsF] at hx
    | cons y r =>
      rcases List.mem_append.1 hx with h | h
      · exact rowParts_el14 S _ x h
      · exact ih _ x h
theorem joinL_len : ∀ (P : List (List UInt8)), (∀ x ∈ P, x.length ≤ 14) → (joinL P).length ≤ 16 * P.length
  | [], _ => by simp [joinL]
  | [x], h => by have := h x (by simp); simp [joinL]; omega
  | x :: y :: r, h => by
    have h1 := h x (by simp)
    have h2 := joinL_len (y :: r) (fun z hz => h z (List.mem_cons_of_mem _ hz))
    show (x ++ (44 :: 32 :: joinL (y :: r))).length ≤ _
    rw [List.length_append, List.length_cons, List.length_cons, List.length_cons]
    omega
theorem formL_len (S : Sty) (l : List Sp) : (formL S l).length ≤ 16 * l.length := by
  have h1 := joinL_len (partsL S l) (partsF_el14 S _ l)
  have h2 : (partsL S l).length ≤ l.length := partsF_len S _ l
  unfold formL
  omega
theorem join_any (v : Value) (L : List (List UInt8)) (W : World) (base : Nat) (hown : W.ownsRow base 9 1 v (QV L).length (QV L)) (hL : L.length ≤ 1000000000) (hJ : (joinL L).length ≤ 1000000000) :
    Calls Tryd.prog 64 #[v, .string { data := #[44, 32] }] W fun e w' => e = .returned (.string (bs (joinL L))) ∧ Below W.heap.size W w' := by
  have hm : (L.map bs).map (·.data.toList) = L := by rw [List.map_map]; exact (List.map_congr_left (fun x _ => by show (bs x).data.toList = x; rfl)).trans (List.map_id L)
  by_cases h0 : L = []
  · subst h0
    obtain ⟨a, c, rfl⟩ := owns_slice hown
    exact (Tryd.strings_Join_none a c _ W).mono fun e w' ⟨he, hw⟩ => ⟨he, hw ▸ Below.refl _ _⟩
  · have hpos : 0 < (QV L).length := by rw [QV_len]; exact List.length_pos_iff.2 h0
    obtain ⟨g, cap, rfl, hg, hgl⟩ := hown.form hpos
    have hcap : L.length ≤ cap := by
      rcases hown.2 with ⟨h, _⟩ | ⟨g', cap', cur, h, _, _, hn, _⟩
      · simp at h
      · simp at h; rw [QV_len] at hn; omega
    have J := Tryd.strings_Join g 0 cap (L.map bs) { data := #[44, 32] } W (fun j x hx => by
      have := World.ownsRow.cells hown (g := g) rfl j (.string x) (by
        rw [List.getElem?_map] at hx
        obtain ⟨y, hy, rfl⟩ := Option.map_eq_some_iff.1 hx
        unfold QV
        rw [List.getElem?_map, hy]; rfl)
      have hadd : (⟨g, 0, none⟩ : Addr).add j = ⟨g, j, none⟩ := by unfold Addr.add; split <;> simp_all
      rw [hadd] at this
      rw [Nat.zero_add]; exact this) hgl (by rw [List.length_map]; omega) (by rw [List.length_map]; exact hcap) (by rw [hm]; show (Lib.join L [44, 32]).length ≤ _; rw [joinL_lib]; omega)
    rw [hm, List.length_map] at J
    rw [QV_len]
    refine J.mono fun e w' ⟨he, hb⟩ => ⟨?_, hb⟩
    rw [he]
    show Ending.returned (.string ⟨(Lib.join L [44, 32]).toArray⟩) = _
    rw [joinL_lib]; rfl
/-- what a region reads -/
structure Lk (n : Nat) (w : World) (cs : Array Value) (V : World) : Prop where
  sty : Boxs V n 36 cs
  bel : Below n w V
theorem Lk.styAt {n : Nat} {w V : World} {k row pas : Int} {nx : Bool} (h : Lk n w #[.int .i64 k, .bool nx, .int .i64 row, .int .i64 pas] V) : StyAt V n k nx row pas :=
  ⟨h.sty.cell 0, h.sty.cell 1, h.sty.cell 2, h.sty.cell 3⟩
theorem Lk.sp {n : Nat} {w V : World} {cs : Array Value} (h : Lk n w cs V) {b o : Nat} {x0 x1 : Int} (hs : SpAt w b o x0 x1) (hb : b < n) : SpAt V b o x0 x1 := hs.below h.bel hb
theorem Frm.lk {n : Nat} {w W V : World} {cs itv : Array Value} {vo : Value} {Q : List Value} (h : Frm n w W V cs itv vo Q) : Lk n w cs V := ⟨h.sty, h.bel⟩
theorem Frm.lkGrown {n : Nat} {w W V V' : World} {cs itv : Array Value} {vo : Value} {Q : List Value} (h : Frm n w W V cs itv vo Q) (hg : V.grownBy V' vo.ownBlock) : Lk n w cs V' := by
  have hlt := fun b e => (h.own.lt b e).1
  exact ⟨h.sty.kept hg (fun e => by have := hlt n e.symm; omega), h.bel.grown hg (by have := h.size; omega) (fun j e => by have := hlt j e; omega)⟩
theorem Frm.start {n : Nat} {w W : World} {cs itv : Array Value} {vo : Value} {Q : List Value} (h1 : Boxs W n 36 cs) (h2 : Boxed W (n + 1) 45 vo) (h3 : W.ownsRow (n + 3) 9 1 vo Q.length Q) (h4 : Boxs W (n + 1 + 1) 38 itv) (h5 : Below n w W) : Frm n w W W cs itv vo Q :=
  ⟨h1, h2, h3, h4, h5, KeepsOthers.refl _, KeepB.refl _ _, Below.refl _ _, by have := h4.lt; omega⟩
theorem SpAt.setOther {W : World} {b o B : Nat} {x0 x1 : Int} {v : Value} (h : SpAt W b o x0 x1) (hb : B < b) : SpAt (W.setCell ⟨B, 0, none⟩ v) b o x0 x1 := by
  have e : (W.setCell ⟨B, 0, none⟩ v).heap[b]? = W.heap[b]? := Below.heap_setCell _ _ _ _ (fun e => by have e' : b = B := e; omega)
  unfold SpAt World.cell? at h ⊢
  rw [e]; exact h
theorem Frm.outc {n : Nat} {w W V : World} {cs itv : Array Value} {vo : Value} {Q : List Value} (h : Frm n w W V cs itv vo Q) : V.cell? ⟨n + 1, 0, none⟩ = some vo := h.out.cell 0

set_option maxRecDepth 100000 in
set_option maxHeartbeats 16000000 in
theorem form_some (s : Sty) (v : Value) (l : List Sp) (w : World) (h : RdP w v l) (hs : okSty s) (hne : l ≠ []) (hl : l.length ≤ 100000) (hr : ∀ x ∈ l, 1 ≤ x.1 ∧ x.1 ≤ x.2 ∧ x.2 ≤ 999) :
    Calls Tryd.prog 42 #[.agg #[.int .i64 s.k, .bool s.nx, .int .i64 s.row, .int .i64 s.pas], v] w fun e w' => e = .returned (.string (bs (formL s l))) ∧ Below w.heap.size w w' := by
  obtain ⟨b1, o1, c, rfl, l1, l2, hb1, f⟩ := h.open2 hne
  clear h hne
  have F := Lib.hid f; have HRT := Lib.hid hr
  obtain ⟨i0, hi0, hz0, hz1, hz2⟩ := info_parts Tryd.info9
  have HI := Lib.hid hi0; have HZ0 := Lib.hid hz0; have HZ1 := Lib.hid hz1; have HZ2 := Lib.hid hz2
  clear hi0 hz0 hz1 hz2
  obtain ⟨k, nx, row, pas⟩ := s
  obtain ⟨k1, k2, r0, r1, r2, p0, p1, p2⟩ := hs
  dsimp only at *
  obtain ⟨S, hS⟩ : ∃ S : Sty, S = ⟨k, nx, row, pas⟩ := ⟨_, rfl⟩
  have HS := Lib.hid hS
  rw [← hS]
  clear hS
  refine (callsIn_wide (n := 9)).1 ?_
  refine callsIn_of_wp_marks Tryd.func42 rfl trivial ?_ rfl
  simp only [Tryd.ntmps42, List.size_toArray, List.length_cons, List.length_nil, Nat.reduceAdd, Nat.reduceSub, Array.replicate_succ, Array.replicate_zero, List.push_toArray, List.append_toArray, List.nil_append, List.cons_append]
  have HF := Lib.hid f; have HR0 := Lib.hid hr
  clear f hr
  gi_wp2_with (first | (refine ⟨trivial, ?_⟩; gi_at_call 61; refine (callsIn_wide.2 (rows_any _ _ _ _)).mono ?_; rintro e w1 ⟨rfl, rfl⟩))
  have bS := ((Boxs.new w 36 #[.int .i64 k, .bool nx, .int .i64 row, .int .i64 pas]).alloc (.cells #[.slice none 0 0] 45)).alloc (.cells #[.slice (some ⟨b1, o1, none⟩) l.length c] 38)
  have bO := (Boxs.new (w.alloc (.cells #[.int .i64 k, .bool nx, .int .i64 row, .int .i64 pas] 36)) 45 #[.slice none 0 0]).alloc (.cells #[.slice (some ⟨b1, o1, none⟩) l.length c] 38)
  have bN := Boxs.new ((w.alloc (.cells #[.int .i64 k, .bool nx, .int .i64 row, .int .i64 pas] 36)).alloc (.cells #[.slice none 0 0] 45)) 38 #[.slice (some ⟨b1, o1, none⟩) l.length c]
  have hB0 : Below w.heap.size w (((w.alloc (.cells #[.int .i64 k, .bool nx, .int .i64 row, .int .i64 pas] 36)).alloc (.cells #[.slice none 0 0] 45)).alloc (.cells #[.slice (some ⟨b1, o1, none⟩) l.length c] 38)) := ((((Below.refl _ w).alloc (Nat.le_refl _) _).alloc (by simp) _)).alloc (by simp; omega) _
  have hsz : (((w.alloc (.cells #[.int .i64 k, .bool nx, .int .i64 row, .int .i64 pas] 36)).alloc (.cells #[.slice none 0 0] 45)).alloc (.cells #[.slice (some ⟨b1, o1, none⟩) l.length c] 38)).heap.size = w.heap.size + 3 := by simp
  rw [World.size_alloc] at bO bN
  rw [World.size_alloc] at bN
  obtain ⟨W0, hW0⟩ : ∃ W0, ((w.alloc (.cells #[.int .i64 k, .bool nx, .int .i64 row, .int .i64 pas] 36)).alloc (.cells #[.slice none 0 0] 45)).alloc (.cells #[.slice (some ⟨b1, o1, none⟩) l.length c] 38) = W0 := ⟨_, rfl⟩
  rw [hW0] at bS bO bN hB0 hsz ⊢
  clear hW0
  have hel : ∀ k x, l[k]? = some x → SpAt W0 b1 (o1 + k * 2) x.1 x.2 := fun k x hx => (F.out k x hx).below hB0 hb1
  refine wpIn_rangeFunc_ownH rfl (by omega) (gf := 74) (lb := #[.pointer (some ⟨w.heap.size + 1 + 1, 0, none⟩)]) rfl trivial (enters_of Tryd.func74 (by kernel_rfl) rfl)
    (rows1_stops 8 (by omega) (w.heap.size + 1 + 1) w.heap.size c b1 o1 l hl l1 l2 W0 (by omega) (by omega) hb1 HR0.out (bN.cell 0) hel) (fun h1 h2 => ⟨h1.1.trans h2.1, h1.2.trans h2.2⟩)
    (fun W l o o' hl ho hc hw => ⟨keepB_b (w := W0) (by omega) W l o o' hl ho hc hw, belowK_b (w := W0) (by omega) W l o o' hl ho hc hw⟩) (Below.refl _ _) (fun _ => rfl)
    (fun (pre : List (RowT l)) W => Boxs W w.heap.size 36 #[.int .i64 k, .bool nx, .int .i64 row, .int .i64 pas] ∧ ((∃ v, Boxed W (w.heap.size + 1) 45 v ∧ W.ownsRow (w.heap.size + 3) 9 1 v (QV (PT S pre)).length (QV (PT S pre)) ∧ True) ∧ (Boxs W (w.heap.size + 1 + 1) 38 #[.slice (some ⟨b1, o1, none⟩) l.length c] ∧ Below w.heap.size w W)))
    (fun _ _ _ => False)
    (OwnFrom.and (Own.from (boxs_own w.heap.size 36 (fun _ : List (RowT l) => #[.int .i64 k, .bool nx, .int .i64 row, .int .i64 pas])) _) (OwnFrom.and (Own.from (holdsRow_own (w.heap.size + 3) (w.heap.size + 1) 45 9 1 (fun pre : List (RowT l) => (QV (PT S pre)).length) (fun pre => QV (PT S pre)) (fun _ _ => True)) _) (OwnFrom.and (Own.from (boxs_own (w.heap.size + 1 + 1) 38 (fun _ : List (RowT l) => #[.slice (some ⟨b1, o1, none⟩) l.length c])) _) (ownFrom_below (by omega) (by omega)))))
    (fun _ _ _ _ _ hs _ _ => hs)
    ⟨bS, ⟨_, bO, World.ownsRow_nil W0 _ _ _, trivial⟩, bN, hB0⟩
    (fun x a' _ => a' = { tmps := #[.agg #[.int .i64 k, .bool nx, .int .i64 row, .int .i64 pas], .slice (some ⟨b1, o1, none⟩) l.length c, .pointer (some ⟨w.heap.size, 0, none⟩), undef, .string { data := #[] }, .pointer (some ⟨w.heap.size + 1, 0, none⟩), .slice (some ⟨b1, o1 + x.1.1 * 2, none⟩) x.1.2 (c - x.1.1), undef, undef, .slice (some ⟨b1, o1, none⟩) l.length c, .func (.func 74) #[] #[.pointer (some ⟨w.heap.size + 1 + 1, 0, none⟩)], .slice (some ⟨b1, o1 + x.1.1 * 2, none⟩) x.1.2 (c - x.1.1), undef, undef, undef, undef, undef, undef, undef, undef, undef, undef, undef, undef, undef, undef, undef, undef, undef, undef, undef, undef, undef, undef, undef, undef, undef, undef, undef, undef, undef, undef, undef, undef, undef, undef, undef, undef, undef, undef, undef, undef, undef, undef], defers := [] }) ?hAx ?assign ?body ?done ?stop
  case hAx =>
    rintro x a' _ X Y row h _ _
    exact h
  case assign =>
    rintro l pre x W K hI hK
    simp only [rEnc]
    gi_wp2
    exact hK _ _ (KeepsFrom.refl _ _) ⟨KeepB.refl _ _, Below.refl _ _⟩ hI rfl
  case body =>
    rintro lp pre x a' W hlw hlr ⟨hbs, ⟨vo, hbo, hown, _⟩, hbn, hbl⟩ rfl hlt
    obtain ⟨⟨p, m⟩, hm1, hm2⟩ := x
    dsimp only at hm1 hm2 ⊢
    have hptl := PT_len S pre
    have hmul : pre.length * l.length ≤ 100000 * 100000 := Nat.mul_le_mul (by omega) hl
    have hql : (QV (PT S pre)).length ≤ 10000000000 := by rw [QV_len]; omega
    have hnew := PT_snoc S pre ⟨(p, m), hm1, hm2⟩
    dsimp only at hnew
    have HNEW := Lib.hid hnew
    generalize hQ : QV (PT S pre) = Q at *
    have HQ := Lib.hid hQ
    have HF0 := Lib.hid (Frm.start hbs hbo hown hbn hbl)
    have st := HF0.out.lk.styAt
    obtain ⟨s0, s1, s2, s3⟩ := st
    have hrl : ((l.drop p).take m).length = m := row_len hm2
    have HRL := Lib.hid hrl
    have hpl : p < l.length := by omega
    have hmi : (m : Int) ≤ 100000 := by omega
    have hm1i : (1 : Int) ≤ (m : Int) := by omega
    clear hnew hQ hbs hbo hown hbn hbl hptl hmul hlr hrl bS bO bN hB0 hel
    by_cases hpas : 0 < pas ∧ pas ≤ (m : Int)
    · obtain ⟨hpa, hpb⟩ := hpas
      obtain ⟨⟨x0, x1⟩, hx⟩ := elem_at hpl
      obtain ⟨⟨z0, z1⟩, hz⟩ := elem_at (l := l) (k := p + m - 1) (by omega)
      have hxr := HR0.out _ (List.mem_of_getElem? hx)
      have hzr := HR0.out _ (List.mem_of_getElem? hz)
      dsimp only at hxr hzr
      obtain ⟨hx1, hx2, hx3⟩ := hxr
      obtain ⟨hz1, hz2, hz3⟩ := hzr
      have hrp : rowParts S ((l.drop p).take m) = [betweenL k x0 z1 ++ passimB] := by
        rw [HS.out, rowParts_pas (s := ⟨k, nx, row, pas⟩) hpa (by rw [HRL.out]; exact hpb), headS_at hx hm1, lastS_at hz hm1 hm2]
      have HRP := Lib.hid hrp
      have HX0 := Lib.hid (F.out _ _ hx)
      have HZ9 := Lib.hid (show SpAt w b1 (o1 + p * 2 + (m - 1) * 2) z0 z1 from by have := F.out _ _ hz; rwa [show o1 + (p + m - 1) * 2 = o1 + p * 2 + (m - 1) * 2 by omega] at this)
      have HW2 := Lib.hid (show IntKind.i64.wrap ((m : Int) - 1) = ((m - 1 : Nat) : Int) by rw [show (m : Int) - 1 = ((m - 1 : Nat) : Int) by omega]; exact IntWalk.i64_in _ (by omega))
      have HW3 := Lib.hid (show ((m - 1 : Nat) : Int) < (m : Int) ∧ m - 1 < m by omega)
      clear hx hz hrp
      gi_wp2_with fail
      clear s0 s1 s2 s3
      refine round_held (S := fun W' => Lk w.heap.size w #[.int .i64 k, .bool nx, .int .i64 row, .int .i64 pas] W') (by kernel_rfl) (by kernel_rfl) (fun _ _ h => h) ?_
      have hdr : (W).drew = { W with drawn := (W).drawn + 1 } := rfl
      rw [← hdr]
      clear hdr
      have HF1 := Lib.hid (HF0.out.dn 1)
      skip
      skip
      change wpAnyH _ _ _ _ _ _ _ _ ((W).drewN 1)
      generalize (W).drewN 1 = V at *
      have G1 := Lib.hid HF1.out.lk
      refine wpAnyHTake 1 (some 23) (.agg #[.int .i64 k, .bool nx, .int .i64 row, .int .i64 pas]) rfl rfl (by kernel_rfl) (by kernel_rfl) (by kernel_rfl) (fun _ _ _ h => h) (by rfl) (fun W hW => by obtain ⟨c0, c1, c2, c3⟩ := hW.styAt; go_simp) (G1.out) ?_
      simp only [Act.put, List.setIfInBounds_toArray, List.set_cons_zero, List.set_cons_succ]
      refine wpAnyHTake 2 (some 24) (.slice (some ⟨b1, o1 + p * 2, none⟩) m (c - p)) rfl rfl (by kernel_rfl) (by kernel_rfl) (by kernel_rfl) (fun _ _ _ h => h) (by rfl) (fun _ _ => by rfl) (G1.out) ?_
      simp only [Act.put, List.setIfInBounds_toArray, List.set_cons_zero, List.set_cons_succ]
      refine wpAnyHTake 3 (some 25) (.pointer (some ⟨b1, o1 + p * 2, none⟩)) rfl rfl (by kernel_rfl) (by kernel_rfl) (by kernel_rfl) (fun _ _ _ h => h) (by rfl) (fun _ _ => by have h0 := HW3.out; have h1 : m ≠ 0 := (by omega); go_simp) (G1.out) ?_
      simp only [Act.put, List.setIfInBounds_toArray, List.set_cons_zero, List.set_cons_succ]
      refine wpAnyHTake 4 (some 26) (.pointer (some ⟨b1, o1 + p * 2, none⟩)) rfl rfl (by kernel_rfl) (by kernel_rfl) (by kernel_rfl) (fun _ _ _ h => h) (by rfl) (fun _ _ => by go_simp) (G1.out) ?_
      simp only [Act.put, List.setIfInBounds_toArray, List.set_cons_zero, List.set_cons_succ]
      refine wpAnyHTake 5 (some 27) (.int .i64 x0) rfl rfl (by kernel_rfl) (by kernel_rfl) (by kernel_rfl) (fun _ _ _ h => h) (by rfl) (fun W hW => by obtain ⟨c0, c1⟩ := hW.sp HX0.out hb1; go_simp) (G1.out) ?_
      simp only [Act.put, List.setIfInBounds_toArray, List.set_cons_zero, List.set_cons_succ]
      refine wpAnyHTake 6 (some 28) (.slice (some ⟨b1, o1 + p * 2, none⟩) m (c - p)) rfl rfl (by kernel_rfl) (by kernel_rfl) (by kernel_rfl) (fun _ _ _ h => h) (by rfl) (fun _ _ => by rfl) (G1.out) ?_
      simp only [Act.put, List.setIfInBounds_toArray, List.set_cons_zero, List.set_cons_succ]
      refine wpAnyHTake 7 (some 29) (.slice (some ⟨b1, o1 + p * 2, none⟩) m (c - p)) rfl rfl (by kernel_rfl) (by kernel_rfl) (by kernel_rfl) (fun _ _ _ h => h) (by rfl) (fun _ _ => by rfl) (G1.out) ?_
      simp only [Act.put, List.setIfInBounds_toArray, List.set_cons_zero, List.set_cons_succ]
      refine wpAnyHTake 8 (some 30) (.int .i64 m) rfl rfl (by kernel_rfl) (by kernel_rfl) (by kernel_rfl) (fun _ _ _ h => h) (by rfl) (fun _ _ => by go_simp) (G1.out) ?_
      simp only [Act.put, List.setIfInBounds_toArray, List.set_cons_zero, List.set_cons_succ]
      refine wpAnyHTake 9 (some 31) (.int .i64 ((m - 1 : Nat) : Int)) rfl rfl (by kernel_rfl) (by kernel_rfl) (by kernel_rfl) (fun _ _ _ h => h) (by rfl) (fun _ _ => by have h0 := HW2.out; go_simp) (G1.out) ?_
      simp only [Act.put, List.setIfInBounds_toArray, List.set_cons_zero, List.set_cons_succ]
      refine wpAnyHTake 10 (some 32) (.pointer (some ⟨b1, o1 + p * 2 + (m - 1) * 2, none⟩)) rfl rfl (by kernel_rfl) (by kernel_rfl) (by kernel_rfl) (fun _ _ _ h => h) (by rfl) (fun _ _ => by have h0 := HW3.out; go_simp) (G1.out) ?_
      simp only [Act.put, List.setIfInBounds_toArray, List.set_cons_zero, List.set_cons_succ]
      refine wpAnyHTake 11 (some 33) (.pointer (some ⟨b1, o1 + p * 2 + (m - 1) * 2 + 1, none⟩)) rfl rfl (by kernel_rfl) (by kernel_rfl) (by kernel_rfl) (fun _ _ _ h => h) (by rfl) (fun _ _ => by go_simp) (G1.out) ?_
      simp only [Act.put, List.setIfInBounds_toArray, List.set_cons_zero, List.set_cons_succ]
      refine wpAnyHTake 12 (some 34) (.int .i64 z1) rfl rfl (by kernel_rfl) (by kernel_rfl) (by kernel_rfl) (fun _ _ _ h => h) (by rfl) (fun W hW => by obtain ⟨c0, c1⟩ := hW.sp HZ9.out hb1; go_simp) (G1.out) ?_
      simp only [Act.put, List.setIfInBounds_toArray, List.set_cons_zero, List.set_cons_succ]
      refine wpAnyHBoth 0 13 (by kernel_rfl) ?_ ?_
      · have HFX := HF1
        refine wpOpRun' (some 22) rfl rfl (by rfl) (v := vo) (w' := V) (by have c0 := HFX.out.outc; go_simp) ⟨G1.out, ?_⟩
        simp only [Act.put, List.setIfInBounds_toArray, List.set_cons_zero, List.set_cons_succ]
        refine wpAnyHCall 13 (some 35) 62 #[.agg #[.int .i64 k, .bool nx, .int .i64 row, .int .i64 pas], .int .i64 x0, .int .i64 z1] (by kernel_rfl) rfl rfl (by rfl) (by go_simp) (between_any k row pas x0 z1 nx _ k1 k2 (by omega) (by omega) (by omega) (by omega)) ?_
        rintro e V4 ⟨rfl, hb⟩
        have HF4 := Lib.hid (HFX.out.below hb)
        skip
        skip
        have G4 := Lib.hid HF4.out.lk
        clear hb
        refine ⟨_, rfl, G4.out, ?_⟩
        have ZE := Lib.hid (show (bs (betweenL k x0 z1)).size ≤ 8 by rw [bs_size]; have := betweenL_len k x0 z1; omega)
        generalize hE : bs (betweenL k x0 z1) = E at *
        have HE := Lib.hid hE
        clear hE
        simp only [Act.put, List.setIfInBounds_toArray, List.set_cons_zero, List.set_cons_succ]
        refine wpAnyHTake 14 (some 36) (.string (E ++ { data := #[32, 112, 97, 115, 115, 105, 109] })) rfl rfl (by kernel_rfl) (by kernel_rfl) (by kernel_rfl) (fun _ _ _ h => h) (by rfl) (fun _ _ => by have h1 := ZE.out; go_simp; try omega) (G4.out) ?_
        simp only [Act.put, List.setIfInBounds_toArray, List.set_cons_zero, List.set_cons_succ]
        refine wpAnyHOne 15 (some 37) (v := .slice (some ⟨V4.heap.size, 0, none⟩) 1 1) (w' := V4.alloc (.cells #[.string (E ++ { data := #[32, 112, 97, 115, 115, 105, 109] })] 9)) (by kernel_rfl) rfl rfl (by rfl) (by go_simp) (HF4.out.alloc _).lk ?_
        simp only [Act.put, List.setIfInBounds_toArray, List.set_cons_zero, List.set_cons_succ]
        have HF5 := Lib.hid (HF4.out.alloc (.cells #[.string (E ++ { data := #[32, 112, 97, 115, 115, 105, 109] })] 9))
        skip
        have hz4 := HF4.out.size
        have hz5 : (V4.alloc (.cells #[.string (E ++ { data := #[32, 112, 97, 115, 115, 105, 109] })] 9)).heap.size = V4.heap.size + 1 := by simp
        refine wpAnyHOp 16 (some 38) (by kernel_rfl) rfl rfl fun K' hK' => ?_
        refine step_append_lies _ (by rfl) _ _ _ (by rfl) (w.heap.size + 3) 9 i0 _ 1 16 Tryd.underlying45 HI.out HZ0.out HZ1.out HZ2.out rfl (by omega) vo Q.length Q (by rfl) HF5.out.own ⟨V4.heap.size, 0, none⟩ 1 1 [.string (E ++ { data := #[32, 112, 97, 115, 115, 105, 109] })] (by rfl) (by rfl) (cell_one_new _ _ _) (by simp [Value.oneCell']) (by omega) (by unfold maxLen; omega) (by omega) (by omega) _ rfl ?_
        intro gg cap2 V6 hown6 hgrow6 _ _
        have hnb : ∀ b, b < w.heap.size + 3 → some b ≠ vo.ownBlock := fun b hb e => by have h9 := (HF5.out.own.lt _ e.symm).1; omega
        have hcell6 : V6.cell? ⟨w.heap.size + 1, 0, none⟩ = some vo := (hgrow6.cell_far ⟨w.heap.size + 1, 0, none⟩ (by show w.heap.size + 1 < _; omega) (hnb (w.heap.size + 1) (by omega))).trans HF5.out.outc
        have hfr6 : V6.frozen? ⟨w.heap.size + 1, 0, none⟩ = false := (hgrow6.frozen_far ⟨w.heap.size + 1, 0, none⟩ (by show w.heap.size + 1 < _; omega) (hnb (w.heap.size + 1) (by omega))).trans (HF5.out.out.frozen 0)
        have HF7 := Lib.hid (HF5.out.push hown6 hgrow6)
        skip
        skip
        refine hK' _ _ (HF5.out.lkGrown hgrow6) ?_
        clear hK' K' hown6 hgrow6 hnb
        simp only [Act.put, List.setIfInBounds_toArray, List.set_cons_zero, List.set_cons_succ]
        refine wpAnyHSkip 17 none (by kernel_rfl) rfl rfl (by rfl) (w' := V6.setCell ⟨w.heap.size + 1, 0, none⟩ (.slice (some ⟨gg, 0, none⟩) (Q.length + 1) cap2)) (by go_simp) HF7.out.lk ?_
        simp only [Act.put]
        refine wpAnyH_done (by kernel_rfl) ?_ _
        refine ‹∀ (a : Act) (w : World), Code.wpIn _ _ Tryd.prog _ _ a w → (_ : Act → World → Prop) a w› _ _ ?_
        clear hcell6 hfr6
        gi_wp2_with fail
        refine ⟨HF7.out.oth.from _, ⟨HF7.out.kb, HF7.out.kbl⟩, HF7.out.sty, ⟨_, HF7.out.out, ?_⟩, HF7.out.it, HF7.out.bel⟩
        have hfin : QV (PT S (pre ++ [⟨(p, m), hm1, hm2⟩])) = Q ++ [.string (E ++ { data := #[32, 112, 97, 115, 115, 105, 109] })] := by
          rw [HNEW.out, QV_app, HQ.out, HRP.out, ← HE.out, show ({ data := #[32, 112, 97, 115, 115, 105, 109] } : ByteArray) = bs passimB from rfl, bs_append]; rfl
        rw [hfin]
        first | exact HF7.out.own | exact ⟨HF7.out.own, trivial⟩
      · have HFX := HF1
        refine wpOpCall (some 35) 62 #[.agg #[.int .i64 k, .bool nx, .int .i64 row, .int .i64 pas], .int .i64 x0, .int .i64 z1] rfl rfl (by rfl) (by go_simp) (between_any k row pas x0 z1 nx _ k1 k2 (by omega) (by omega) (by omega) (by omega)) ?_
        rintro e V4 ⟨rfl, hb⟩
        have HF4 := Lib.hid (HFX.out.below hb)
        skip
        skip
        have G4 := Lib.hid HF4.out.lk
        clear hb
        refine ⟨_, rfl, G4.out, ?_⟩
        have ZE := Lib.hid (show (bs (betweenL k x0 z1)).size ≤ 8 by rw [bs_size]; have := betweenL_len k x0 z1; omega)
        generalize hE : bs (betweenL k x0 z1) = E at *
        have HE := Lib.hid hE
        clear hE
        simp only [Act.put, List.setIfInBounds_toArray, List.set_cons_zero, List.set_cons_succ]
        refine wpAnyHTake 14 (some 36) (.string (E ++ { data := #[32, 112, 97, 115, 115, 105, 109] })) rfl rfl (by kernel_rfl) (by kernel_rfl) (by kernel_rfl) (fun _ _ _ h => h) (by rfl) (fun _ _ => by have h1 := ZE.out; go_simp; try omega) (G4.out) ?_
        simp only [Act.put, List.setIfInBounds_toArray, List.set_cons_zero, List.set_cons_succ]
        refine wpAnyHBoth 0 15 (by kernel_rfl) ?_ ?_
        · have HFX := HF4
          refine wpOpRun' (some 22) rfl rfl (by rfl) (v := vo) (w' := V4) (by have c0 := HFX.out.outc; go_simp) ⟨G4.out, ?_⟩
          simp only [Act.put, List.setIfInBounds_toArray, List.set_cons_zero, List.set_cons_succ]
          refine wpAnyHOne 15 (some 37) (v := .slice (some ⟨V4.heap.size, 0, none⟩) 1 1) (w' := V4.alloc (.cells #[.string (E ++ { data := #[32, 112, 97, 115, 115, 105, 109] })] 9)) (by kernel_rfl) rfl rfl (by rfl) (by go_simp) (HF4.out.alloc _).lk ?_
          simp only [Act.put, List.setIfInBounds_toArray, List.set_cons_zero, List.set_cons_succ]
          have HF5 := Lib.hid (HF4.out.alloc (.cells #[.string (E ++ { data := #[32, 112, 97, 115, 115, 105, 109] })] 9))
          skip
          have hz4 := HF4.out.size
          have hz5 : (V4.alloc (.cells #[.string (E ++ { data := #[32, 112, 97, 115, 115, 105, 109] })] 9)).heap.size = V4.heap.size + 1 := by simp
          refine wpAnyHOp 16 (some 38) (by kernel_rfl) rfl rfl fun K' hK' => ?_
          refine step_append_lies _ (by rfl) _ _ _ (by rfl) (w.heap.size + 3) 9 i0 _ 1 16 Tryd.underlying45 HI.out HZ0.out HZ1.out HZ2.out rfl (by omega) vo Q.length Q (by rfl) HF5.out.own ⟨V4.heap.size, 0, none⟩ 1 1 [.string (E ++ { data := #[32, 112, 97, 115, 115, 105, 109] })] (by rfl) (by rfl) (cell_one_new _ _ _) (by simp [Value.oneCell']) (by omega) (by unfold maxLen; omega) (by omega) (by omega) _ rfl ?_
          intro gg cap2 V6 hown6 hgrow6 _ _
          have hnb : ∀ b, b < w.heap.size + 3 → some b ≠ vo.ownBlock := fun b hb e => by have h9 := (HF5.out.own.lt _ e.symm).1; omega
          have hcell6 : V6.cell? ⟨w.heap.size + 1, 0, none⟩ = some vo := (hgrow6.cell_far ⟨w.heap.size + 1, 0, none⟩ (by show w.heap.size + 1 < _; omega) (hnb (w.heap.size + 1) (by omega))).trans HF5.out.outc
          have hfr6 : V6.frozen? ⟨w.heap.size + 1, 0, none⟩ = false := (hgrow6.frozen_far ⟨w.heap.size + 1, 0, none⟩ (by show w.heap.size + 1 < _; omega) (hnb (w.heap.size + 1) (by omega))).trans (HF5.out.out.frozen 0)
          have HF7 := Lib.hid (HF5.out.push hown6 hgrow6)
          skip
          skip
          refine hK' _ _ (HF5.out.lkGrown hgrow6) ?_
          clear hK' K' hown6 hgrow6 hnb
          simp only [Act.put, List.setIfInBounds_toArray, List.set_cons_zero, List.set_cons_succ]
          refine wpAnyHSkip 17 none (by kernel_rfl) rfl rfl (by rfl) (w' := V6.setCell ⟨w.heap.size + 1, 0, none⟩ (.slice (some ⟨gg, 0, none⟩) (Q.length + 1) cap2)) (by go_simp) HF7.out.lk ?_
          simp only [Act.put]
          refine wpAnyH_done (by kernel_rfl) ?_ _
          refine ‹∀ (a : Act) (w : World), Code.wpIn _ _ Tryd.prog _ _ a w → (_ : Act → World → Prop) a w› _ _ ?_
          clear hcell6 hfr6
          gi_wp2_with fail
          refine ⟨HF7.out.oth.from _, ⟨HF7.out.kb, HF7.out.kbl⟩, HF7.out.sty, ⟨_, HF7.out.out, ?_⟩, HF7.out.it, HF7.out.bel⟩
          have hfin : QV (PT S (pre ++ [⟨(p, m), hm1, hm2⟩])) = Q ++ [.string (E ++ { data := #[32, 112, 97, 115, 115, 105, 109] })] := by
            rw [HNEW.out, QV_app, HQ.out, HRP.out, ← HE.out, show ({ data := #[32, 112, 97, 115, 115, 105, 109] } : ByteArray) = bs passimB from rfl, bs_append]; rfl
          rw [hfin]
          first | exact HF7.out.own | exact ⟨HF7.out.own, trivial⟩
        · refine wpOpRun' (some 37) rfl rfl (by rfl) (v := .slice (some ⟨V4.heap.size, 0, none⟩) 1 1) (w' := V4.alloc (.cells #[.string (E ++ { data := #[32, 112, 97, 115, 115, 105, 109] })] 9)) (by go_simp) ⟨(HF4.out.alloc _).lk, ?_⟩
          simp only [Act.put, List.setIfInBounds_toArray, List.set_cons_zero, List.set_cons_succ]
          have HFY := Lib.hid (HF4.out.alloc (.cells #[.string (E ++ { data := #[32, 112, 97, 115, 115, 105, 109] })] 9))
          refine wpAnyHOne 0 (some 22) (v := vo) (w' := V4.alloc (.cells #[.string (E ++ { data := #[32, 112, 97, 115, 115, 105, 109] })] 9)) (by kernel_rfl) rfl rfl (by rfl) (by have c0 := HFY.out.outc; go_simp) (HF4.out.alloc _).lk ?_
          simp only [Act.put, List.setIfInBounds_toArray, List.set_cons_zero, List.set_cons_succ]
          clear HFY
          have HF5 := Lib.hid (HF4.out.alloc (.cells #[.string (E ++ { data := #[32, 112, 97, 115, 115, 105, 109] })] 9))
          skip
          have hz4 := HF4.out.size
          have hz5 : (V4.alloc (.cells #[.string (E ++ { data := #[32, 112, 97, 115, 115, 105, 109] })] 9)).heap.size = V4.heap.size + 1 := by simp
          refine wpAnyHOp 16 (some 38) (by kernel_rfl) rfl rfl fun K' hK' => ?_
          refine step_append_lies _ (by rfl) _ _ _ (by rfl) (w.heap.size + 3) 9 i0 _ 1 16 Tryd.underlying45 HI.out HZ0.out HZ1.out HZ2.out rfl (by omega) vo Q.length Q (by rfl) HF5.out.own ⟨V4.heap.size, 0, none⟩ 1 1 [.string (E ++ { data := #[32, 112, 97, 115, 115, 105, 109] })] (by rfl) (by rfl) (cell_one_new _ _ _) (by simp [Value.oneCell']) (by omega) (by unfold maxLen; omega) (by omega) (by omega) _ rfl ?_
          intro gg cap2 V6 hown6 hgrow6 _ _
          have hnb : ∀ b, b < w.heap.size + 3 → some b ≠ vo.ownBlock := fun b hb e => by have h9 := (HF5.out.own.lt _ e.symm).1; omega
          have hcell6 : V6.cell? ⟨w.heap.size + 1, 0, none⟩ = some vo := (hgrow6.cell_far ⟨w.heap.size + 1, 0, none⟩ (by show w.heap.size + 1 < _; omega) (hnb (w.heap.size + 1) (by omega))).trans HF5.out.outc
          have hfr6 : V6.frozen? ⟨w.heap.size + 1, 0, none⟩ = false := (hgrow6.frozen_far ⟨w.heap.size + 1, 0, none⟩ (by show w.heap.size + 1 < _; omega) (hnb (w.heap.size + 1) (by omega))).trans (HF5.out.out.frozen 0)
          have HF7 := Lib.hid (HF5.out.push hown6 hgrow6)
          skip
          skip
          refine hK' _ _ (HF5.out.lkGrown hgrow6) ?_
          clear hK' K' hown6 hgrow6 hnb
          simp only [Act.put, List.setIfInBounds_toArray, List.set_cons_zero, List.set_cons_succ]
          refine wpAnyHSkip 17 none (by kernel_rfl) rfl rfl (by rfl) (w' := V6.setCell ⟨w.heap.size + 1, 0, none⟩ (.slice (some ⟨gg, 0, none⟩) (Q.length + 1) cap2)) (by go_simp) HF7.out.lk ?_
          simp only [Act.put]
          refine wpAnyH_done (by kernel_rfl) ?_ _
          refine ‹∀ (a : Act) (w : World), Code.wpIn _ _ Tryd.prog _ _ a w → (_ : Act → World → Prop) a w› _ _ ?_
          clear hcell6 hfr6
          gi_wp2_with fail
          refine ⟨HF7.out.oth.from _, ⟨HF7.out.kb, HF7.out.kbl⟩, HF7.out.sty, ⟨_, HF7.out.out, ?_⟩, HF7.out.it, HF7.out.bel⟩
          have hfin : QV (PT S (pre ++ [⟨(p, m), hm1, hm2⟩])) = Q ++ [.string (E ++ { data := #[32, 112, 97, 115, 115, 105, 109] })] := by
            rw [HNEW.out, QV_app, HQ.out, HRP.out, ← HE.out, show ({ data := #[32, 112, 97, 115, 115, 105, 109] } : ByteArray) = bs passimB from rfl, bs_append]; rfl
          rw [hfin]
          first | exact HF7.out.own | exact ⟨HF7.out.own, trivial⟩
    · have hrp : rowParts S ((l.drop p).take m) = ((l.drop p).take m).map (elementL S) := rowParts_el (by rw [HS.out, HRL.out]; exact hpas)
      have HRP := Lib.hid hrp
      have HPRE := Lib.hid (show w.heap.size + 3 ≤ W.heap.size from HF0.out.size)
      have d : ¬ 0 < pas ∨ (0 < pas ∧ ¬ pas ≤ (m : Int)) := by
        by_cases b3 : 0 < pas
        · exact .inr ⟨b3, fun h => hpas ⟨b3, h⟩⟩
        · exact .inl b3
      clear hrp hpas
      rcases d with d1 | ⟨d1, d2⟩
      all_goals
        gi_wp2_with fail
        clear s0 s1 s2 s3
        gi_loopw [41] (fun i wr => ∃ (j : Nat) (vo : Value) (Qj : List Value), j ≤ m ∧ i = .int .i64 j ∧ Frm w.heap.size w W wr #[.int .i64 k, .bool nx, .int .i64 row, .int .i64 pas] #[.slice (some ⟨b1, o1, none⟩) l.length c] vo Qj ∧ Qj = Q ++ QV (((l.drop p).take j).map (elementL S))) (fun i _ => m - (intOf i).toNat)
        case atStart => exact ⟨0, vo, Q, Nat.zero_le _, rfl, HF0.out, by simp [QV]⟩
        case round =>
          clear HF0
          obtain ⟨j, vj, Qj, hj, rfl, hfj, hQj⟩ := hrel
          have HFJ := Lib.hid hfj; have HQJ := Lib.hid hQj
          have hqlj : Qj.length ≤ 10000100000 := by
            rw [hQj, List.length_append, QV_len, List.length_map, List.length_take]; omega
          obtain ⟨wo, hwo⟩ : ∃ wo, wo = wr := ⟨_, rfl⟩
          subst hwo
          clear hfj hQj
          by_cases hjm : j < m
          · obtain ⟨⟨x0, x1⟩, hx⟩ := elem_at (l := l) (k := p + j) (by omega)
            have hxr := HR0.out _ (List.mem_of_getElem? hx)
            dsimp only at hxr
            obtain ⟨hx1, hx2, hx3⟩ := hxr
            have hsp := HFJ.out.lk.sp (F.out _ _ hx) hb1
            obtain ⟨g0, g1⟩ := hsp
            rw [show o1 + (p + j) * 2 = o1 + p * 2 + j * 2 by omega] at g0 g1
            have hjm' : (j : Int) < (m : Int) := by omega
            have hj0 : (0 : Int) ≤ (j : Int) := Int.natCast_nonneg _
            have hnext : QV (((l.drop p).take (j + 1)).map (elementL S)) = QV (((l.drop p).take j).map (elementL S)) ++ [.string (bs (elementL ⟨k, nx, row, pas⟩ (x0, x1)))] := by
              rw [take_succ_at (x := (x0, x1)) (by rw [drop_at]; exact hx), List.map_append, QV_app, HS.out]; rfl
            have HNX := Lib.hid hnext
            clear hx hnext
            gi_wp2_with fail
            have hspn : SpAt (wo.alloc (.cells #[.int .i64 x0, .int .i64 x1] 81)) wo.heap.size 0 x0 x1 := ⟨(Boxs.new wo 81 #[.int .i64 x0, .int .i64 x1]).cell 0, (Boxs.new wo 81 #[.int .i64 x0, .int .i64 x1]).cell 1⟩
            have HSP0 := Lib.hid hspn
            have HF0 := Lib.hid (HFJ.out.alloc (.cells #[.int .i64 x0, .int .i64 x1] 81))
            have HLT0 := Lib.hid (show wo.heap.size < (wo.alloc (.cells #[.int .i64 x0, .int .i64 x1] 81)).heap.size by simp)
            have HBX := Lib.hid (show w.heap.size + 3 ≤ wo.heap.size from HFJ.out.size)
            have HNB := Lib.hid (show some wo.heap.size ≠ vj.ownBlock from fun e => by have := (HFJ.out.own.lt _ e.symm).2; omega)
            clear g0 g1 hspn
            generalize wo.alloc (.cells #[.int .i64 x0, .int .i64 x1] 81) = W1 at *
            generalize wo.heap.size = BX at *
            generalize vj = vo at *
            generalize Qj = Q at *
            refine round_held (S := fun W' => Lk w.heap.size w #[.int .i64 k, .bool nx, .int .i64 row, .int .i64 pas] W' ∧ SpAt W' BX 0 x0 x1) (by kernel_rfl) (by kernel_rfl) (fun _ _ h => h) ?_
            have hdr : (W1).drew = { W1 with drawn := (W1).drawn + 1 } := rfl
            rw [← hdr]
            clear hdr
            have HF1 := Lib.hid (HF0.out.dn 1)
            have HSP1 := Lib.hid (show SpAt ((W1).drewN 1) BX 0 x0 x1 from HSP0.out)
            have HLT1 := Lib.hid (show BX < ((W1).drewN 1).heap.size from HLT0.out)
            change wpAnyH _ _ _ _ _ _ _ _ ((W1).drewN 1)
            generalize (W1).drewN 1 = V at *
            have G1 := Lib.hid (And.intro HF1.out.lk HSP1.out)
            refine wpAnyHTake 1 (some 46) (.agg #[.int .i64 k, .bool nx, .int .i64 row, .int .i64 pas]) rfl rfl (by kernel_rfl) (by kernel_rfl) (by kernel_rfl) (fun _ _ _ h => h) (by rfl) (fun W hW => by obtain ⟨c0, c1, c2, c3⟩ := hW.1.styAt; go_simp) (G1.out) ?_
            simp only [Act.put, List.setIfInBounds_toArray, List.set_cons_zero, List.set_cons_succ]
            refine wpAnyHTake 2 (some 47) (.agg #[.int .i64 x0, .int .i64 x1]) rfl rfl (by kernel_rfl) (by kernel_rfl) (by kernel_rfl) (fun _ _ _ h => h) (by rfl) (fun W hW => by obtain ⟨c0, c1⟩ := hW.2; go_simp) (G1.out) ?_
            simp only [Act.put, List.setIfInBounds_toArray, List.set_cons_zero, List.set_cons_succ]
            refine wpAnyHBoth 0 3 (by kernel_rfl) ?_ ?_
            · have HFX := HF1
              refine wpOpRun' (some 45) rfl rfl (by rfl) (v := vo) (w' := V) (by have c0 := HFX.out.outc; go_simp) ⟨G1.out, ?_⟩
              simp only [Act.put, List.setIfInBounds_toArray, List.set_cons_zero, List.set_cons_succ]
              refine wpAnyHCall 3 (some 48) 63 #[.agg #[.int .i64 k, .bool nx, .int .i64 row, .int .i64 pas], .agg #[.int .i64 x0, .int .i64 x1]] (by kernel_rfl) rfl rfl (by rfl) (by go_simp) (element_any ⟨k, nx, row, pas⟩ (x0, x1) _ k1 k2 r0 r2 hx1 hx2 hx3) ?_
              rintro e V4 ⟨rfl, hb⟩
              have HF4 := Lib.hid (HFX.out.below hb)
              have HSP4 := Lib.hid (HSP1.out.below hb HLT1.out)
              have HLT4 := Lib.hid (Nat.lt_of_lt_of_le HLT1.out hb.size)
              have G4 := Lib.hid (And.intro HF4.out.lk HSP4.out)
              clear hb
              refine ⟨_, rfl, G4.out, ?_⟩
              have ZE := Lib.hid (show (bs (elementL ⟨k, nx, row, pas⟩ (x0, x1))).size ≤ 8 by rw [bs_size]; exact elementL_len _ _)
              generalize hE : bs (elementL ⟨k, nx, row, pas⟩ (x0, x1)) = E at *
              have HE := Lib.hid hE
              clear hE
              simp only [Act.put, List.setIfInBounds_toArray, List.set_cons_zero, List.set_cons_succ]
              refine wpAnyHOne 4 (some 49) (v := .slice (some ⟨V4.heap.size, 0, none⟩) 1 1) (w' := V4.alloc (.cells #[.string E] 9)) (by kernel_rfl) rfl rfl (by rfl) (by go_simp) ⟨(HF4.out.alloc _).lk, HSP4.out.below ((Below.refl V4.heap.size V4).alloc (Nat.le_refl _) (.cells #[.string E] 9)) HLT4.out⟩ ?_
              simp only [Act.put, List.setIfInBounds_toArray, List.set_cons_zero, List.set_cons_succ]
              have HF5 := Lib.hid (HF4.out.alloc (.cells #[.string E] 9))
              have HSP5 := Lib.hid (HSP4.out.below ((Below.refl V4.heap.size V4).alloc (Nat.le_refl _) (.cells #[.string E] 9)) HLT4.out)
              have hz4 := HF4.out.size
              have hz5 : (V4.alloc (.cells #[.string E] 9)).heap.size = V4.heap.size + 1 := by simp
              refine wpAnyHOp 5 (some 50) (by kernel_rfl) rfl rfl fun K' hK' => ?_
              refine step_append_lies _ (by rfl) _ _ _ (by rfl) (w.heap.size + 3) 9 i0 _ 1 16 Tryd.underlying45 HI.out HZ0.out HZ1.out HZ2.out rfl (by omega) vo Q.length Q (by rfl) HF5.out.own ⟨V4.heap.size, 0, none⟩ 1 1 [.string E] (by rfl) (by rfl) (cell_one_new _ _ _) (by simp [Value.oneCell']) (by omega) (by unfold maxLen; omega) (by omega) (by omega) _ rfl ?_
              intro gg cap2 V6 hown6 hgrow6 _ _
              have hnb : ∀ b, b < w.heap.size + 3 → some b ≠ vo.ownBlock := fun b hb e => by have h9 := (HF5.out.own.lt _ e.symm).1; omega
              have hcell6 : V6.cell? ⟨w.heap.size + 1, 0, none⟩ = some vo := (hgrow6.cell_far ⟨w.heap.size + 1, 0, none⟩ (by show w.heap.size + 1 < _; omega) (hnb (w.heap.size + 1) (by omega))).trans HF5.out.outc
              have hfr6 : V6.frozen? ⟨w.heap.size + 1, 0, none⟩ = false := (hgrow6.frozen_far ⟨w.heap.size + 1, 0, none⟩ (by show w.heap.size + 1 < _; omega) (hnb (w.heap.size + 1) (by omega))).trans (HF5.out.out.frozen 0)
              have HF7 := Lib.hid (HF5.out.push hown6 hgrow6)
              have HSP6 := Lib.hid (show SpAt V6 BX 0 x0 x1 from ⟨(hgrow6.cell_far ⟨BX, 0, none⟩ (by have := HLT4.out; show BX < _; omega) HNB.out).trans HSP5.out.1, (hgrow6.cell_far ⟨BX, 0 + 1, none⟩ (by have := HLT4.out; show BX < _; omega) HNB.out).trans HSP5.out.2⟩)
              have HSP7 := Lib.hid (show SpAt (V6.setCell ⟨w.heap.size + 1, 0, none⟩ (.slice (some ⟨gg, 0, none⟩) (Q.length + 1) cap2)) BX 0 x0 x1 from HSP6.out.setOther (by have := HBX.out; omega))
              refine hK' _ _ ⟨(HF5.out.lkGrown hgrow6), HSP6.out⟩ ?_
              clear hK' K' hown6 hgrow6 hnb
              simp only [Act.put, List.setIfInBounds_toArray, List.set_cons_zero, List.set_cons_succ]
              refine wpAnyHSkip 6 none (by kernel_rfl) rfl rfl (by rfl) (w' := V6.setCell ⟨w.heap.size + 1, 0, none⟩ (.slice (some ⟨gg, 0, none⟩) (Q.length + 1) cap2)) (by go_simp) ⟨HF7.out.lk, HSP7.out⟩ ?_
              simp only [Act.put]
              refine wpAnyH_done (by kernel_rfl) ?_ _
              refine ‹∀ (a : Act) (w : World), Code.wpIn _ _ Tryd.prog _ _ a w → (_ : Act → World → Prop) a w› _ _ ?_
              clear hcell6 hfr6
              gi_wp2_with fail
              go_roundw
              case rel => exact ⟨j + 1, _, _, by omega, by go_num, HF7.out, by rw [HNX.out, HQJ.out, ← HE.out, List.append_assoc]⟩
              case measure => simp [intOf]; omega
            · have HFX := HF1
              refine wpOpCall (some 48) 63 #[.agg #[.int .i64 k, .bool nx, .int .i64 row, .int .i64 pas], .agg #[.int .i64 x0, .int .i64 x1]] rfl rfl (by rfl) (by go_simp) (element_any ⟨k, nx, row, pas⟩ (x0, x1) _ k1 k2 r0 r2 hx1 hx2 hx3) ?_
              rintro e V4 ⟨rfl, hb⟩
              have HF4 := Lib.hid (HFX.out.below hb)
              have HSP4 := Lib.hid (HSP1.out.below hb HLT1.out)
              have HLT4 := Lib.hid (Nat.lt_of_lt_of_le HLT1.out hb.size)
              have G4 := Lib.hid (And.intro HF4.out.lk HSP4.out)
              clear hb
              refine ⟨_, rfl, G4.out, ?_⟩
              have ZE := Lib.hid (show (bs (elementL ⟨k, nx, row, pas⟩ (x0, x1))).size ≤ 8 by rw [bs_size]; exact elementL_len _ _)
              generalize hE : bs (elementL ⟨k, nx, row, pas⟩ (x0, x1)) = E at *
              have HE := Lib.hid hE
              clear hE
              simp only [Act.put, List.setIfInBounds_toArray, List.set_cons_zero, List.set_cons_succ]
              refine wpAnyHBoth 0 4 (by kernel_rfl) ?_ ?_
              · have HFX := HF4
                refine wpOpRun' (some 45) rfl rfl (by rfl) (v := vo) (w' := V4) (by have c0 := HFX.out.outc; go_simp) ⟨G4.out, ?_⟩
                simp only [Act.put, List.setIfInBounds_toArray, List.set_cons_zero, List.set_cons_succ]
                refine wpAnyHOne 4 (some 49) (v := .slice (some ⟨V4.heap.size, 0, none⟩) 1 1) (w' := V4.alloc (.cells #[.string E] 9)) (by kernel_rfl) rfl rfl (by rfl) (by go_simp) ⟨(HF4.out.alloc _).lk, HSP4.out.below ((Below.refl V4.heap.size V4).alloc (Nat.le_refl _) (.cells #[.string E] 9)) HLT4.out⟩ ?_
                simp only [Act.put, List.setIfInBounds_toArray, List.set_cons_zero, List.set_cons_succ]
                have HF5 := Lib.hid (HF4.out.alloc (.cells #[.string E] 9))
                have HSP5 := Lib.hid (HSP4.out.below ((Below.refl V4.heap.size V4).alloc (Nat.le_refl _) (.cells #[.string E] 9)) HLT4.out)
                have hz4 := HF4.out.size
                have hz5 : (V4.alloc (.cells #[.string E] 9)).heap.size = V4.heap.size + 1 := by simp
                refine wpAnyHOp 5 (some 50) (by kernel_rfl) rfl rfl fun K' hK' => ?_
                refine step_append_lies _ (by rfl) _ _ _ (by rfl) (w.heap.size + 3) 9 i0 _ 1 16 Tryd.underlying45 HI.out HZ0.out HZ1.out HZ2.out rfl (by omega) vo Q.length Q (by rfl) HF5.out.own ⟨V4.heap.size, 0, none⟩ 1 1 [.string E] (by rfl) (by rfl) (cell_one_new _ _ _) (by simp [Value.oneCell']) (by omega) (by unfold maxLen; omega) (by omega) (by omega) _ rfl ?_
                intro gg cap2 V6 hown6 hgrow6 _ _
                have hnb : ∀ b, b < w.heap.size + 3 → some b ≠ vo.ownBlock := fun b hb e => by have h9 := (HF5.out.own.lt _ e.symm).1; omega
                have hcell6 : V6.cell? ⟨w.heap.size + 1, 0, none⟩ = some vo := (hgrow6.cell_far ⟨w.heap.size + 1, 0, none⟩ (by show w.heap.size + 1 < _; omega) (hnb (w.heap.size + 1) (by omega))).trans HF5.out.outc
                have hfr6 : V6.frozen? ⟨w.heap.size + 1, 0, none⟩ = false := (hgrow6.frozen_far ⟨w.heap.size + 1, 0, none⟩ (by show w.heap.size + 1 < _; omega) (hnb (w.heap.size + 1) (by omega))).trans (HF5.out.out.frozen 0)
                have HF7 := Lib.hid (HF5.out.push hown6 hgrow6)
                have HSP6 := Lib.hid (show SpAt V6 BX 0 x0 x1 from ⟨(hgrow6.cell_far ⟨BX, 0, none⟩ (by have := HLT4.out; show BX < _; omega) HNB.out).trans HSP5.out.1, (hgrow6.cell_far ⟨BX, 0 + 1, none⟩ (by have := HLT4.out; show BX < _; omega) HNB.out).trans HSP5.out.2⟩)
                have HSP7 := Lib.hid (show SpAt (V6.setCell ⟨w.heap.size + 1, 0, none⟩ (.slice (some ⟨gg, 0, none⟩) (Q.length + 1) cap2)) BX 0 x0 x1 from HSP6.out.setOther (by have := HBX.out; omega))
                refine hK' _ _ ⟨(HF5.out.lkGrown hgrow6), HSP6.out⟩ ?_
                clear hK' K' hown6 hgrow6 hnb
                simp only [Act.put, List.setIfInBounds_toArray, List.set_cons_zero, List.set_cons_succ]
                refine wpAnyHSkip 6 none (by kernel_rfl) rfl rfl (by rfl) (w' := V6.setCell ⟨w.heap.size + 1, 0, none⟩ (.slice (some ⟨gg, 0, none⟩) (Q.length + 1) cap2)) (by go_simp) ⟨HF7.out.lk, HSP7.out⟩ ?_
                simp only [Act.put]
                refine wpAnyH_done (by kernel_rfl) ?_ _
                refine ‹∀ (a : Act) (w : World), Code.wpIn _ _ Tryd.prog _ _ a w → (_ : Act → World → Prop) a w› _ _ ?_
                clear hcell6 hfr6
                gi_wp2_with fail
                go_roundw
                case rel => exact ⟨j + 1, _, _, by omega, by go_num, HF7.out, by rw [HNX.out, HQJ.out, ← HE.out, List.append_assoc]⟩
                case measure => simp [intOf]; omega
              · refine wpOpRun' (some 49) rfl rfl (by rfl) (v := .slice (some ⟨V4.heap.size, 0, none⟩) 1 1) (w' := V4.alloc (.cells #[.string E] 9)) (by go_simp) ⟨⟨(HF4.out.alloc _).lk, HSP4.out.below ((Below.refl V4.heap.size V4).alloc (Nat.le_refl _) (.cells #[.string E] 9)) HLT4.out⟩, ?_⟩
                simp only [Act.put, List.setIfInBounds_toArray, List.set_cons_zero, List.set_cons_succ]
                have HFY := Lib.hid (HF4.out.alloc (.cells #[.string E] 9))
                refine wpAnyHOne 0 (some 45) (v := vo) (w' := V4.alloc (.cells #[.string E] 9)) (by kernel_rfl) rfl rfl (by rfl) (by have c0 := HFY.out.outc; go_simp) ⟨(HF4.out.alloc _).lk, HSP4.out.below ((Below.refl V4.heap.size V4).alloc (Nat.le_refl _) (.cells #[.string E] 9)) HLT4.out⟩ ?_
                simp only [Act.put, List.setIfInBounds_toArray, List.set_cons_zero, List.set_cons_succ]
                clear HFY
                have HF5 := Lib.hid (HF4.out.alloc (.cells #[.string E] 9))
                have HSP5 := Lib.hid (HSP4.out.below ((Below.refl V4.heap.size V4).alloc (Nat.le_refl _) (.cells #[.string E] 9)) HLT4.out)
                have hz4 := HF4.out.size
                have hz5 : (V4.alloc (.cells #[.string E] 9)).heap.size = V4.heap.size + 1 := by simp
                refine wpAnyHOp 5 (some 50) (by kernel_rfl) rfl rfl fun K' hK' => ?_
                refine step_append_lies _ (by rfl) _ _ _ (by rfl) (w.heap.size + 3) 9 i0 _ 1 16 Tryd.underlying45 HI.out HZ0.out HZ1.out HZ2.out rfl (by omega) vo Q.length Q (by rfl) HF5.out.own ⟨V4.heap.size, 0, none⟩ 1 1 [.string E] (by rfl) (by rfl) (cell_one_new _ _ _) (by simp [Value.oneCell']) (by omega) (by unfold maxLen; omega) (by omega) (by omega) _ rfl ?_
                intro gg cap2 V6 hown6 hgrow6 _ _
                have hnb : ∀ b, b < w.heap.size + 3 → some b ≠ vo.ownBlock := fun b hb e => by have h9 := (HF5.out.own.lt _ e.symm).1; omega
                have hcell6 : V6.cell? ⟨w.heap.size + 1, 0, none⟩ = some vo := (hgrow6.cell_far ⟨w.heap.size + 1, 0, none⟩ (by show w.heap.size + 1 < _; omega) (hnb (w.heap.size + 1) (by omega))).trans HF5.out.outc
                have hfr6 : V6.frozen? ⟨w.heap.size + 1, 0, none⟩ = false := (hgrow6.frozen_far ⟨w.heap.size + 1, 0, none⟩ (by show w.heap.size + 1 < _; omega) (hnb (w.heap.size + 1) (by omega))).trans (HF5.out.out.frozen 0)
                have HF7 := Lib.hid (HF5.out.push hown6 hgrow6)
                have HSP6 := Lib.hid (show SpAt V6 BX 0 x0 x1 from ⟨(hgrow6.cell_far ⟨BX, 0, none⟩ (by have := HLT4.out; show BX < _; omega) HNB.out).trans HSP5.out.1, (hgrow6.cell_far ⟨BX, 0 + 1, none⟩ (by have := HLT4.out; show BX < _; omega) HNB.out).trans HSP5.out.2⟩)
                have HSP7 := Lib.hid (show SpAt (V6.setCell ⟨w.heap.size + 1, 0, none⟩ (.slice (some ⟨gg, 0, none⟩) (Q.length + 1) cap2)) BX 0 x0 x1 from HSP6.out.setOther (by have := HBX.out; omega))
                refine hK' _ _ ⟨(HF5.out.lkGrown hgrow6), HSP6.out⟩ ?_
                clear hK' K' hown6 hgrow6 hnb
                simp only [Act.put, List.setIfInBounds_toArray, List.set_cons_zero, List.set_cons_succ]
                refine wpAnyHSkip 6 none (by kernel_rfl) rfl rfl (by rfl) (w' := V6.setCell ⟨w.heap.size + 1, 0, none⟩ (.slice (some ⟨gg, 0, none⟩) (Q.length + 1) cap2)) (by go_simp) ⟨HF7.out.lk, HSP7.out⟩ ?_
                simp only [Act.put]
                refine wpAnyH_done (by kernel_rfl) ?_ _
                refine ‹∀ (a : Act) (w : World), Code.wpIn _ _ Tryd.prog _ _ a w → (_ : Act → World → Prop) a w› _ _ ?_
                clear hcell6 hfr6
                gi_wp2_with fail
                go_roundw
                case rel => exact ⟨j + 1, _, _, by omega, by go_num, HF7.out, by rw [HNX.out, HQJ.out, ← HE.out, List.append_assoc]⟩
                case measure => simp [intOf]; omega
          · obtain rfl : j = m := by omega
            have hjm' : ¬ (j : Int) < (j : Int) := by omega
            gi_wp2_with fail
            have hfin : QV (PT S (pre ++ [⟨(p, j), hm1, hm2⟩])) = Qj := by rw [HNEW.out, QV_app, HQ.out, HRP.out, HQJ.out]
            refine ⟨HFJ.out.oth.from _, ⟨HFJ.out.kb, HFJ.out.kbl⟩, HFJ.out.sty, ⟨_, HFJ.out.out, ?_⟩, HFJ.out.it, HFJ.out.bel⟩
            rw [hfin]
            first | exact HFJ.out.own | exact ⟨HFJ.out.own, trivial⟩
  case done =>
    rintro D ys W hD hys ⟨hbs, ⟨vo, hbo, hown, _⟩, hbn, hbl⟩ hK
    rw [PT_all S ys hys] at hown
    have hpl : (partsL S l).length ≤ l.length := partsF_len S _ l
    have hfl := formL_len S l
    have JC := join_any vo (partsL S l) W (w.heap.size + 3) hown (by omega) (by unfold formL at hfl; omega)
    have c0 := hbo.cell
    have HBL := Lib.hid hbl; have HK9 := Lib.hid hK; have HD := Lib.hid (show w.heap.size ≤ D by omega)
    have hDl : D < W.heap.size := (Array.getElem?_eq_some_iff.1 hK).1
    clear hbs hbo hown hbn hbl hK bS bO bN hB0 hel hpl hfl
    gi_wp2_with (first | (refine ⟨trivial, ?_⟩; gi_at_call 64; refine (callsIn_wide.2 JC).mono ?_; rintro e W2 ⟨rfl, hb⟩))
    have hK2 : W2.heap[D]? = some (.deferred (some [])) := (hb.block D hDl).trans HK9.out
    refine ⟨by simp, .inl ⟨_, _, rfl, run_takeDeferred hK2, ?_⟩⟩
    refine ⟨_, results_tmp rfl _ _ _, rfl, (HBL.out.trans (hb.mono HBL.out.size)).trans (belowK_b (w := w) (Nat.le_refl _) W2 D _ _ HD.out hK2 rfl rfl)⟩
  case stop =>
    rintro D c pre W _ _ h _
    exact h.elim

set_option maxRecDepth 100000 in
set_option maxHeartbeats 4000000 in
theorem rows1_nil (n : Nat) (hn : 1 ≤ n) (Bn n0 cap : Nat) (a : Option Addr) (w : World) (hBn : Bn < w.heap.size)
    (hc : w.cell? ⟨Bn, 0, none⟩ = some (.slice a 0 cap)) :
    SeqStopsK Fence.wide n Tryd.prog 74 #[.pointer (some ⟨Bn, 0, none⟩)] (rEnc (l := []) 0 0 0) (fun W W' => KeepB Bn W W' ∧ Below n0 W W') (fun ys => ys = []) (fun _ => False) 0 w := fun lb J Jx W hW _ _ hY h0 => by
  have c0 := (hW.cell (p := ⟨Bn, 0, none⟩) hBn).trans hc
  have H0 := Lib.hid h0
  clear hc hW hY h0
  refine callsIn_of_wp Tryd.func74 rfl trivial ?_ rfl
  simp only [Tryd.ntmps74, List.size_toArray, List.length_cons, List.length_nil, Nat.reduceAdd, Nat.reduceSub, Array.replicate_succ, Array.replicate_zero, List.push_toArray, List.append_toArray, List.nil_append, List.cons_append]
  gi_wp2
  gi_loopw [3] (fun i wr => i = .int .i64 0 ∧ wr = W) (fun _ _ => 0)
  case atStart => exact ⟨rfl, rfl⟩
  case round =>
    obtain ⟨rfl, rfl⟩ := hrel
    gi_wp2
    go_end0
    exact ⟨⟨_, rfl⟩, .inl ⟨[], rfl, H0.out⟩⟩
set_option maxRecDepth 100000 in
set_option maxHeartbeats 4000000 in
theorem form_nil (k row pas : Int) (nx : Bool) (a : Option Addr) (c : Nat) (w : World) :
    Calls Tryd.prog 42 #[.agg #[.int .i64 k, .bool nx, .int .i64 row, .int .i64 pas], .slice a 0 c] w fun e w' => e = .returned (.string (bs [])) ∧ Below w.heap.size w w' := by
  refine (callsIn_wide (n := 9)).1 ?_
  refine callsIn_of_wp_marks Tryd.func42 rfl trivial ?_ rfl
  simp only [Tryd.ntmps42, List.size_toArray, List.length_cons, List.length_nil, Nat.reduceAdd, Nat.reduceSub, Array.replicate_succ, Array.replicate_zero, List.push_toArray, List.append_toArray, List.nil_append, List.cons_append]
  gi_wp2_with (first | (refine ⟨trivial, ?_⟩; gi_at_call 61; refine (callsIn_wide.2 (rows_any _ _ _ _)).mono ?_; rintro e w1 ⟨rfl, rfl⟩))
  have bO := (Boxs.new (w.alloc (.cells #[.int .i64 k, .bool nx, .int .i64 row, .int .i64 pas] 36)) 45 #[.slice none 0 0]).alloc (.cells #[.slice a 0 c] 38)
  have bN := Boxs.new ((w.alloc (.cells #[.int .i64 k, .bool nx, .int .i64 row, .int .i64 pas] 36)).alloc (.cells #[.slice none 0 0] 45)) 38 #[.slice a 0 c]
  have hB0 : Below w.heap.size w (((w.alloc (.cells #[.int .i64 k, .bool nx, .int .i64 row, .int .i64 pas] 36)).alloc (.cells #[.slice none 0 0] 45)).alloc (.cells #[.slice a 0 c] 38)) := ((((Below.refl _ w).alloc (Nat.le_refl _) _).alloc (by simp) _)).alloc (by simp; omega) _
  have hsz : (((w.alloc (.cells #[.int .i64 k, .bool nx, .int .i64 row, .int .i64 pas] 36)).alloc (.cells #[.slice none 0 0] 45)).alloc (.cells #[.slice a 0 c] 38)).heap.size = w.heap.size + 3 := by simp
  rw [World.size_alloc] at bO bN
  rw [World.size_alloc] at bN
  obtain ⟨W0, hW0⟩ : ∃ W0, ((w.alloc (.cells #[.int .i64 k, .bool nx, .int .i64 row, .int .i64 pas] 36)).alloc (.cells #[.slice none 0 0] 45)).alloc (.cells #[.slice a 0 c] 38) = W0 := ⟨_, rfl⟩
  rw [hW0] at bO bN hB0 hsz ⊢
  clear hW0
  refine wpIn_rangeFunc_ownH rfl (by omega) (gf := 74) (lb := #[.pointer (some ⟨w.heap.size + 1 + 1, 0, none⟩)]) rfl trivial (enters_of Tryd.func74 (by kernel_rfl) rfl)
    (rows1_nil 8 (by omega) (w.heap.size + 1 + 1) w.heap.size c a W0 (by omega) (bN.cell 0)) (fun h1 h2 => ⟨h1.1.trans h2.1, h1.2.trans h2.2⟩)
    (fun W l o o' hl ho hc hw => ⟨keepB_b (w := W0) (by omega) W l o o' hl ho hc hw, belowK_b (w := W0) (by omega) W l o o' hl ho hc hw⟩) (Below.refl _ _) (fun _ => rfl)
    (fun (_ : List (RowT [])) W => Boxs W (w.heap.size + 1) 45 #[.slice none 0 0] ∧ Below w.heap.size w W)
    (fun _ _ _ => False)
    (OwnFrom.and (Own.from (boxs_own (w.heap.size + 1) 45 (fun _ : List (RowT []) => #[.slice none 0 0])) _) (ownFrom_below (by omega) (by omega)))
    (fun _ _ _ _ _ hs _ _ => hs)
    ⟨bO, hB0⟩
    (fun _ _ _ => False) ?hAx ?assign ?body ?done ?stop
  case hAx => intro x a' _ X Y row h _ _; exact h
  case assign => rintro l pre ⟨⟨p, m⟩, h1, h2⟩; simp at h2; omega
  case body => rintro l pre ⟨⟨p, m⟩, h1, h2⟩; simp at h2; omega
  case done =>
    rintro D ys W hD hys ⟨hbo, hbl⟩ hK
    have JC := join_any (.slice none 0 0) [] W 0 (World.ownsRow_nil W _ _ _) (by simp) (by simp [joinL])
    have c0 := hbo.cell 0
    simp at c0
    have HBL := Lib.hid hbl; have HK9 := Lib.hid hK; have HD := Lib.hid (show w.heap.size ≤ D by omega)
    have hDl : D < W.heap.size := (Array.getElem?_eq_some_iff.1 hK).1
    clear hbo hbl hK bO bN hB0
    gi_wp2_with (first | (refine ⟨trivial, ?_⟩; gi_at_call 64; refine (callsIn_wide.2 JC).mono ?_; rintro e W2 ⟨rfl, hb⟩))
    have hK2 : W2.heap[D]? = some (.deferred (some [])) := (hb.block D hDl).trans HK9.out
    refine ⟨by simp, .inl ⟨_, _, rfl, run_takeDeferred hK2, ?_⟩⟩
    refine ⟨_, results_tmp rfl _ _ _, rfl, (HBL.out.trans (hb.mono HBL.out.size)).trans (belowK_b (w := w) (Nat.le_refl _) W2 D _ _ HD.out hK2 rfl rfl)⟩
  case stop =>
    rintro D c pre W _ _ h _
    exact h.elim

theorem form_any (s : Sty) (v : Value) (l : List Sp) (w : World) (h : RdP w v l) (hs : okSty s) (hl : l.length ≤ 100000) (hr : ∀ x ∈ l, 1 ≤ x.1 ∧ x.1 ≤ x.2 ∧ x.2 ≤ 999) :
    Calls Tryd.prog 42 #[.agg #[.int .i64 s.k, .bool s.nx, .int .i64 s.row, .int .i64 s.pas], v] w fun e w' => e = .returned (.string (bs (formL s l))) ∧ Below w.heap.size w w' := by
  by_cases hne : l = []
  · subst hne
    obtain ⟨a, c, rfl, _, _, _⟩ := h.open
    exact form_nil s.k s.row s.pas s.nx a c w
  · exact form_some s v l w h hs hne hl hr
end Go.Proofs.YtecdkpcapalifaaDoor

namespace Go.Proofs.YtecdkpcapalifaaDoor
open Go.RowKit Go.Maps

def sepB : List UInt8 := [44, 32]
def piecesL (t : List UInt8) : List (List UInt8) := Lib.split t sepB
theorem pieces_miss {t : List UInt8} (h : Lib.index t sepB = -1) : piecesL t = [t] := by
  unfold piecesL Lib.split
  rw [Lib.count_miss h]; rfl
theorem pieces_hit {t : List UInt8} {i : Nat} (h : Lib.index t sepB = i) : piecesL t = t.take i :: piecesL (t.drop (i + 2)) := by
  unfold piecesL Lib.split
  rw [Lib.count_hit (by simp [sepB]) h, Nat.add_comm]
  show (if Lib.index t sepB == -1 then [t] else _) = _
  have hm : ¬ (Lib.index t sepB == -1) = true := fun e => by have := beq_iff_eq.1 e; omega
  have e : (Lib.index t sepB).toNat = i := by omega
  rw [if_neg hm, e]; rfl
theorem index_nil : Lib.index [] sepB = -1 := by decide
theorem pieces_len (t : List UInt8) : (piecesL t).length ≤ t.length + 1 := by
  have key : ∀ (f : Nat) (t : List UInt8), t.length ≤ f → (piecesL t).length ≤ t.length + 1 := by
    intro f
    induction f with
    | zero =>
      intro t h
      have : t = [] := List.length_eq_zero_iff.1 (by omega)
      subst this
      rw [pieces_miss index_nil]; simp
    | succ f ih =>
      intro t h
      rcases Lib.index_spec t sepB with ⟨h1, _⟩ | ⟨i, h1, h2, _, _⟩
      · rw [pieces_miss h1]; simp
      · have hr := Lib.index_room t sepB (by omega)
        rw [h1] at hr
        have hl : sepB.length = 2 := rfl
        rw [hl] at hr
        rw [pieces_hit h1, List.length_cons]
        have := ih (t.drop (i + 2)) (by rw [List.length_drop]; omega)
        rw [List.length_drop] at this
        omega
  exact key _ t (Nat.le_refl _)
/-- the pieces as the reference takes them: an empty last one is not read -/
def piecesR : Nat → List UInt8 → List (List UInt8)
  | 0, _ => []
  | f + 1, t => if t = [] then [] else if Lib.index t sepB = -1 then [t] else t.take (Lib.index t sepB).toNat :: piecesR f (t.drop ((Lib.index t sepB).toNat + 2))
theorem piecesR_fuel : ∀ (f g : Nat) (t : List UInt8), t.length ≤ f → t.length ≤ g → piecesR f t = piecesR g t := by
  intro f
  induction f with
  | zero =>
    intro g t h _
    have : t = [] := List.length_eq_zero_iff.1 (by omega)
    subst this
    cases g <;> rfl
  | succ f ih =>
    intro g t h hg
    cases g with
    | zero =>
      have : t = [] := List.length_eq_zero_iff.1 (by omega)
      subst this; rfl
    | succ g =>
      unfold piecesR
      by_cases h0 : t = []
      · rw [if_pos h0, if_pos h0]
      · rw [if_neg h0, if_neg h0]
        have hp := List.length_pos_iff.2 h0
        split
        · rfl
        · rw [ih g _ (by rw [List.length_drop]; omega) (by rw [List.length_drop]; omega)]
def piecesT (t : List UInt8) : List (List UInt8) := piecesR t.length t
theorem piecesT_nil : piecesT [] = [] := rfl
theorem piecesT_miss {t : List UInt8} (h0 : t ≠ []) (h : Lib.index t sepB = -1) : piecesT t = [t] := by
  unfold piecesT
  obtain ⟨n, hn⟩ : ∃ n, t.length = n + 1 := ⟨t.length - 1, by have := List.length_pos_iff.2 h0; omega⟩
  rw [hn]; unfold piecesR; rw [if_neg h0, if_pos h]
theorem piecesT_hit {t : List UInt8} {i : Nat} (h : Lib.index t sepB = i) : piecesT t = t.take i :: piecesT (t.drop (i + 2)) := by
  have hr := Lib.index_room t sepB (by omega)
  have hl : sepB.length = 2 := rfl
  rw [h, hl] at hr
  have h0 : t ≠ [] := by rintro rfl; simp at hr; omega
  obtain ⟨n, hn⟩ : ∃ n, t.length = n + 1 := ⟨t.length - 1, by omega⟩
  have e : piecesT t = piecesR (n + 1) t := by unfold piecesT; rw [hn]
  rw [e]; unfold piecesR
  rw [if_neg h0, if_neg (by omega), show (Lib.index t sepB).toNat = i by omega]
  unfold piecesT
  rw [piecesR_fuel n _ _ (by rw [List.length_drop]; omega) (Nat.le_refl _)]
theorem take_sep {t : List UInt8} {i : Nat} (h : Lib.index t sepB = i) : t = t.take i ++ (44 :: 32 :: t.drop (i + 2)) := by
  have hr := Lib.index_room t sepB (by omega)
  have hl : sepB.length = 2 := rfl
  rw [h, hl] at hr
  rcases Lib.index_spec t sepB with ⟨h1, _⟩ | ⟨j, h1, h2, h3, _⟩
  · omega
  · have : j = i := by omega
    subst this
    rw [Lib.occAt_iff_take t sepB j (by rw [hl]; omega), beq_iff_eq] at h3
    have h4 : t.drop j = sepB ++ t.drop (j + 2) := by
      rw [← h3, hl, show t.drop (j + 2) = (t.drop j).drop 2 by rw [List.drop_drop], List.take_append_drop]
    calc t = t.take j ++ t.drop j := (List.take_append_drop j t).symm
      _ = _ := by rw [h4]; rfl
theorem pieces_two : ∀ (f : Nat) (t : List UInt8), t.length ≤ f → t ≠ [] → piecesL t = piecesT t ∨ (piecesL t = piecesT t ++ [[]] ∧ ∃ u, t = u ++ [44, 32]) := by
  intro f
  induction f with
  | zero => intro t h h0; exact absurd (List.length_eq_zero_iff.1 (by omega)) h0
  | succ f ih =>
    intro t h h0
    rcases Lib.index_spec t sepB with ⟨h1, _⟩ | ⟨i, h1, h2, _, _⟩
    · exact .inl (by rw [pieces_miss h1, piecesT_miss h0 h1])
    · have ht := take_sep h1
      by_cases hr : t.drop (i + 2) = []
      · refine .inr ⟨?_, t.take i, ?_⟩
        · rw [pieces_hit h1, piecesT_hit h1, hr, pieces_miss index_nil]; rfl
        · rw [hr] at ht; exact ht
      · rcases ih (t.drop (i + 2)) (by rw [List.length_drop]; omega) hr with h3 | ⟨h3, u, hu⟩
        · exact .inl (by rw [pieces_hit h1, piecesT_hit h1, h3])
        · refine .inr ⟨by rw [pieces_hit h1, piecesT_hit h1, h3]; rfl, t.take i ++ (44 :: 32 :: u), ?_⟩
          rw [hu] at ht
          rw [List.append_assoc]
          exact ht
theorem readAll_app (s : Sty) (a b : List (List UInt8)) : readAll s (a ++ b) = match readAll s a, readAll s b with | some x, some y => some (x ++ y) | _, _ => none := by
  induction a with
  | nil => show readAll s b = _; cases readAll s b <;> rfl
  | cons p r ih =>
    show (match readL s p with | none => none | some l => (readAll s (r ++ b)).map (l ++ ·)) = _
    rw [ih]
    cases hp : readL s p with
    | none => simp [readAll, hp]
    | some l =>
      simp only [readAll, hp]
      cases readAll s r <;> cases readAll s b <;> simp
theorem readAll_snoc {s : Sty} {ps : List (List UInt8)} {k : Nat} {p : List UInt8} {L l : List Sp} (h : readAll s (ps.take k) = some L) (hp : ps[k]? = some p) (hl : readL s p = some l) : readAll s (ps.take (k + 1)) = some (L ++ l) := by
  rw [take_succ_at hp, readAll_app, h]; simp [readAll, hl]
theorem readAll_none {s : Sty} {ps : List (List UInt8)} {k : Nat} {p : List UInt8} (hp : ps[k]? = some p) (hl : readL s p = none) : readAll s ps = none := by
  have e : ps = ps.take k ++ (p :: ps.drop (k + 1)) := by
    rw [← (List.getElem?_eq_some_iff.1 hp).2, List.getElem_cons_drop, List.take_append_drop]
  rw [e, readAll_app]
  have : readAll s (p :: ps.drop (k + 1)) = none := by simp [readAll, hl]
  rw [this]
  cases readAll s (ps.take k) <;> rfl
theorem readL_ne {s : Sty} (hs : okSty s) {t : List UInt8} {l : List Sp} (h : readL s t = some l) : l ≠ [] ∧ l.length ≤ 500 := by
  have hsc : ∀ a b, 0 < s.pas → scat s.pas.toNat a b ≠ [] ∧ (scat s.pas.toNat a b).length ≤ 500 := fun a b hp => by
    obtain ⟨_, _, _, _, _, h1, h2, h3⟩ := hs
    have := scat_len s.pas.toNat a b (by omega)
    exact ⟨fun e => by rw [e] at this; simp at this; omega, by rw [this]; omega⟩
  unfold readL at h
  dsimp only at h
  split at h
  · cases h
  · split at h
    · cases h; simp
    · split at h
      · cases h; simp
      · split at h
        · split at h
          · cases h; simp
          · cases h
        · split at h
          · unfold readRange at h
            dsimp only at h
            split at h
            · cases h
            · split at h
              · cases h; simp
              · split at h
                · cases h; exact hsc _ _ (by rename_i h5; exact h5.2)
                · cases h
          · cases h
theorem readAll_len {s : Sty} (hs : okSty s) : ∀ (ps : List (List UInt8)) (L : List Sp), readAll s ps = some L → L.length ≤ 500 * ps.length
  | [], L, h => by simp [readAll] at h; subst h; simp
  | p :: r, L, h => by
    unfold readAll at h
    cases hp : readL s p with
    | none => rw [hp] at h; cases h
    | some l =>
      rw [hp] at h
      obtain ⟨M, hM, rfl⟩ := Option.map_eq_some_iff.1 h
      have h1 := (readL_ne hs hp).2
      have h2 := readAll_len hs r M hM
      rw [List.length_append, List.length_cons]
      omega
def parseS (s : Sty) (t : List UInt8) : Option (List Sp) :=
  if t = [] then some [] else match readAll s (piecesL t) with
    | none => none
    | some out => if nrm out = true ∧ formL s out = t then some out else none
def parseR (s : Sty) (t : List UInt8) : Option (List Sp) := match readAll s (piecesT t) with
  | none => none
  | some out => if nrm out = true ∧ formL s out = t then some out else none

/-! the form of a list does not end in a space -/
def ends (x : List UInt8) : Prop := ∃ u c, x = u ++ [c] ∧ c ≠ 32
theorem ends_app {x y : List UInt8} (h : ends y) : ends (x ++ y) := by
  obtain ⟨u, c, rfl, hc⟩ := h
  exact ⟨x ++ u, c, by rw [List.append_assoc], hc⟩
theorem ends_cons {a : UInt8} {y : List UInt8} (h : ends y) : ends (a :: y) := ends_app (x := [a]) h
theorem dg_ne (n : Int) : dg n ≠ 32 := by
  unfold dg
  intro h
  have h1 : (UInt8.ofNat (48 + (n % 10).toNat)).toNat = 32 := by rw [h]; rfl
  rw [UInt8.toNat_ofNat'] at h1
  omega
theorem textL_ends (n : Int) : ends (textL n) := by
  unfold textL
  split
  · exact ⟨[], _, rfl, dg_ne _⟩
  · split
    · exact ⟨[_], _, rfl, dg_ne _⟩
    · exact ⟨[_, _], _, rfl, dg_ne _⟩
theorem ends_drop {x : List UInt8} (h : ends x) (k : Nat) : ends (x.drop k) ∨ x.drop k = [] := by
  obtain ⟨u, c, rfl, hc⟩ := h
  by_cases hk : k ≤ u.length
  · exact .inl ⟨u.drop k, c, by rw [List.drop_append_of_le_length hk], hc⟩
  · exact .inr (List.drop_eq_nil_of_le (by simp; omega))
theorem between_ends (k a b : Int) : ends (betweenL k a b) := by
  unfold betweenL
  apply ends_app
  rcases ends_drop (textL_ends b) (stripN k (textL a) (textL b)) with h | h
  · exact ends_cons h
  · rw [h]; exact ⟨[], 45, rfl, by decide⟩
theorem element_ends (s : Sty) (x : Sp) : ends (elementL s x) := by
  unfold elementL
  split
  · exact textL_ends _
  · split
    · exact ends_app ⟨[102], 102, rfl, by decide⟩
    · split
      · exact ends_app ⟨[], 102, rfl, by decide⟩
      · exact between_ends _ _ _
theorem rowParts_ends (s : Sty) (r : List Sp) : ∀ x ∈ rowParts s r, ends x := by
  intro x hx
  unfold rowParts at hx
  split at hx
  · rw [List.mem_singleton.1 hx]; exact ends_app ⟨[32, 112, 97, 115, 115, 105], 109, rfl, by decide⟩
  · obtain ⟨y, _, rfl⟩ := List.mem_map.1 hx
    exact element_ends s y
theorem partsF_ends (s : Sty) : ∀ (f : Nat) (l : List Sp), ∀ x ∈ partsF s f l, ends x := by
  intro f
  induction f with
  | zero => intro l x hx; simp [partsF] at hx
  | succ f ih =>
    intro l x hx
    cases l with
    | nil => simp [partsF] at hx
    | cons y r =>
      rcases List.mem_append.1 hx with h | h
      · exact rowParts_ends s _ x h
      · exact ih _ x h
theorem joinL_ends : ∀ (P : List (List UInt8)), P ≠ [] → (∀ x ∈ P, ends x) → ends (joinL P)
  | [], h, _ => absurd rfl h
  | [x], _, h => h x (by simp)
  | x :: y :: r, _, h => by
    show ends (x ++ (44 :: 32 :: joinL (y :: r)))
    exact ends_app (ends_cons (ends_cons (joinL_ends (y :: r) (by simp) (fun z hz => h z (List.mem_cons_of_mem _ hz)))))
theorem formL_noSep (s : Sty) (l : List Sp) (u : List UInt8) : formL s l ≠ u ++ [44, 32] := by
  intro h
  unfold formL at h
  by_cases hp : partsL s l = []
  · rw [hp] at h
    have := congrArg List.length h
    simp [joinL] at this
  · obtain ⟨v, c, hv, hc⟩ := joinL_ends (partsL s l) hp (partsF_ends s _ l)
    rw [h, show u ++ [44, 32] = (u ++ [44]) ++ [32] by simp] at hv
    have := (List.append_inj' hv rfl).2
    simp at this
    exact hc this.symm
theorem parse_same (s : Sty) (t : List UInt8) : parseR s t = parseS s t := by
  by_cases h0 : t = []
  · subst h0
    unfold parseR parseS
    rw [piecesT_nil, if_pos rfl]
    show (if nrm [] = true ∧ formL s [] = [] then some [] else none) = _
    rw [if_pos ⟨rfl, rfl⟩]
  · unfold parseR parseS
    rw [if_neg h0]
    rcases pieces_two t.length t (Nat.le_refl _) h0 with h | ⟨h, u, hu⟩
    · rw [h]
    · have hno : ∀ out, ¬ (nrm out = true ∧ formL s out = t) := fun out ⟨_, h2⟩ => formL_noSep s out u (h2.trans hu)
      have h2 : readAll s [[]] = none := rfl
      rw [h, readAll_app, h2]
      cases readAll s (piecesT t) with
      | none => rfl
      | some out => simp only; rw [if_neg (hno out)]
theorem nrm_len {l : List Sp} (h : nrm l = true) : l.length ≤ 500 := by
  have key : ∀ (l : List Sp) (q : Int), nrmG (some q) l = true → l = [] ∨ q + 2 * (l.length : Int) ≤ 999 := by
    intro l
    induction l with
    | nil => intro q _; exact .inl rfl
    | cons x r ih =>
      intro q h
      simp only [nrmG, Bool.and_eq_true, decide_eq_true_eq] at h
      obtain ⟨h1, h2, h3⟩ := h
      have hr := rightS_iff.1 h1
      refine .inr ?_
      rw [List.length_cons]
      rcases ih x.2 h3 with e | e
      · subst e; simp; omega
      · omega
  cases l with
  | nil => simp
  | cons x r =>
    unfold nrm at h
    simp only [nrmG, Bool.and_eq_true] at h
    obtain ⟨h1, _, h3⟩ := h
    have hr := rightS_iff.1 h1
    rw [List.length_cons]
    rcases key r x.2 h3 with e | e
    · subst e; simp
    · omega
end Go.Proofs.YtecdkpcapalifaaDoor

namespace Go.Proofs.YtecdkpcapalifaaDoor
open Go.RowKit Go.Maps

theorem RdP.news {w : World} {v : Value} {l : List Sp} (h : RdP w v l) (hne : l ≠ []) : ∃ ad c, v = .slice (some ad) l.length c ∧ (∀ j u, (prs l)[j]? = some u → w.cell? (ad.add j) = some u) := by
  obtain ⟨a, cap, rfl, _, _, h5⟩ := h
  rcases h5 with h5 | ⟨b, off, rfl, h6, h7⟩
  · exact absurd (List.length_eq_zero_iff.1 h5) hne
  · refine ⟨_, cap, rfl, fun j u hj => ?_⟩
    have := h7 j u hj
    unfold Addr.add
    split
    · next h0 => subst h0; simpa using this
    · exact this
theorem prs_one (l : List Sp) : ∀ u ∈ prs l, u.oneCell' = true := by
  intro u hu
  unfold prs at hu
  obtain ⟨x, _, hx⟩ := List.mem_flatMap.1 hu
  unfold pr at hx
  simp at hx
  rcases hx with rfl | rfl <;> rfl
/-- the pieces as strings -/
def strsV (ps : List (List UInt8)) : Array Value := (ps.map fun x => Value.string (bs x)).toArray
theorem strsV_at {ps : List (List UInt8)} {k : Nat} {p : List UInt8} (h : ps[k]? = some p) : (strsV ps)[k]? = some (.string (bs p)) := by
  unfold strsV; rw [List.getElem?_toArray, List.getElem?_map, h]; rfl
theorem split_pieces (t : List UInt8) : ((Lib.splitB ⟨#[44, 32]⟩ 0 (Lib.countB (bs t) ⟨#[44, 32]⟩) (bs t)).map Value.string).toArray = strsV (piecesL t) ∧ Lib.countB (bs t) ⟨#[44, 32]⟩ + 1 = (piecesL t).length := by
  have h := Lib.splitB_data ⟨#[44, 32]⟩ 0 (Lib.countB (bs t) ⟨#[44, 32]⟩) (bs t)
  have h2 : Lib.splitK (#[44, 32] : Array UInt8).toList 0 (Lib.countB (bs t) ⟨#[44, 32]⟩) (bs t).data.toList = piecesL t := rfl
  have h' := h.trans h2
  have hl := congrArg List.length h'
  rw [List.length_map] at hl
  refine ⟨?_, ?_⟩
  · unfold strsV
    rw [← h', List.map_map]
    congr 1
  · rw [← hl]
    exact (Lib.splitB_all ⟨#[44, 32]⟩ (by decide) 0 _ (bs t) rfl).symm
/-- the room of the library's own variable -/
def ML (w : World) : Prop := ∃ m : Int, w.cell? ⟨0, 0, none⟩ = some (.int .i64 m)
theorem ML.below {w w' : World} {n : Nat} (h : ML w) (hb : Below n w w') (hn : 0 < n) : ML w' := by
  obtain ⟨m, h⟩ := h
  exact ⟨m, (hb.cell (p := ⟨0, 0, none⟩) hn).trans h⟩
theorem ML.lt {w : World} (h : ML w) : 0 < w.heap.size := by
  obtain ⟨m, h⟩ := h
  unfold World.cell? at h
  cases hh : w.heap[0]? with
  | none => rw [hh] at h; cases h
  | some b => exact (Array.getElem?_eq_some_iff.1 hh).1
theorem nrm_bd {l : List Sp} (h : nrm l = true) : ∀ x ∈ l, 1 ≤ x.1 ∧ x.1 ≤ x.2 ∧ x.2 ≤ 999 := by
  have key : ∀ (p : Option Int) (l : List Sp), nrmG p l = true → ∀ x ∈ l, 1 ≤ x.1 ∧ x.1 ≤ x.2 ∧ x.2 ≤ 999 := by
    intro p l
    induction l generalizing p with
    | nil => intro _ x hx; cases hx
    | cons y r ih =>
      intro h x hx
      simp only [nrmG, Bool.and_eq_true] at h
      rcases List.mem_cons.1 hx with rfl | hx
      · have := rightS_iff.1 h.1; omega
      · exact ih _ h.2.2 x hx
  exact key none l h
theorem bs_full {t : List UInt8} (h : t ≠ []) : (bs t).toList.isEmpty = false := by
  rw [bs_toList]; cases t with
  | nil => exact absurd rfl h
  | cons a r => rfl
theorem bs_nil : (bs []).toList.isEmpty = true := by rw [bs_toList]; rfl
theorem bs_ne {t : List UInt8} (h : t ≠ []) : (bs t == (⟨#[]⟩ : ByteArray)) = false := by
  cases t with
  | nil => exact absurd rfl h
  | cons a r => rfl

theorem pieces_el : ∀ (f : Nat) (t : List UInt8), t.length ≤ f → ∀ p ∈ piecesL t, p.length ≤ t.length := by
  intro f
  induction f with
  | zero =>
    intro t h p hp
    have : t = [] := List.length_eq_zero_iff.1 (by omega)
    subst this
    rw [pieces_miss index_nil, List.mem_singleton] at hp
    subst hp; exact Nat.le_refl _
  | succ f ih =>
    intro t h p hp
    rcases Lib.index_spec t sepB with ⟨h1, _⟩ | ⟨i, h1, _, _, _⟩
    · rw [pieces_miss h1, List.mem_singleton] at hp
      subst hp; exact Nat.le_refl _
    · have hr := Lib.index_room t sepB (by omega)
      have hl : sepB.length = 2 := rfl
      rw [h1, hl] at hr
      rw [pieces_hit h1] at hp
      rcases List.mem_cons.1 hp with rfl | hp
      · rw [List.length_take]; omega
      · have := ih (t.drop (i + 2)) (by rw [List.length_drop]; omega) p hp
        rw [List.length_drop] at this
        omega
theorem bs_inj {a b : List UInt8} (h : bs a = bs b) : a = b := by
  have : (bs a).data.toList = (bs b).data.toList := by rw [h]
  exact this
def parseE (s : Sty) (t : List UInt8) : Int := if (parseS s t).isSome then 0 else 2
def parseV (s : Sty) (t : List UInt8) : List Sp := (parseS s t).getD []
theorem parse_empty (s : Sty) : parseE s [] = 0 ∧ parseV s [] = [] := by unfold parseE parseV parseS; rw [if_pos rfl]; exact ⟨rfl, rfl⟩
theorem parse_unread {s : Sty} {t : List UInt8} (h0 : t ≠ []) (h : readAll s (piecesL t) = none) : parseE s t = 2 ∧ parseV s t = [] := by
  unfold parseE parseV parseS; rw [if_neg h0, h]; exact ⟨rfl, rfl⟩
theorem parse_wrong {s : Sty} {t : List UInt8} {l : List Sp} (h0 : t ≠ []) (h : readAll s (piecesL t) = some l) (h2 : ¬ (nrm l = true ∧ formL s l = t)) : parseE s t = 2 ∧ parseV s t = [] := by
  have e : parseS s t = none := by unfold parseS; rw [if_neg h0, h]; exact if_neg h2
  unfold parseE parseV; rw [e]; exact ⟨rfl, rfl⟩
theorem parse_right {s : Sty} {t : List UInt8} {l : List Sp} (h0 : t ≠ []) (h : readAll s (piecesL t) = some l) (h2 : nrm l = true) (h3 : formL s l = t) : parseE s t = 0 ∧ parseV s t = l := by
  have e : parseS s t = some l := by unfold parseS; rw [if_neg h0, h]; exact if_pos ⟨h2, h3⟩
  unfold parseE parseV; rw [e]; exact ⟨rfl, rfl⟩
def ParseOut (s : Sty) (t : List UInt8) (w : World) (e : Ending) (w' : World) : Prop :=
  ∃ v, e = .returned (.tuple #[v, .int .i64 (parseE s t)]) ∧ RdP w' v (parseV s t) ∧ Below w.heap.size w w'

set_option maxRecDepth 100000 in
set_option maxHeartbeats 8000000 in
theorem parse_any (s : Sty) (t : List UInt8) (w : World) (hs : okSty s) (ht : t.length ≤ 1000) (hml : ML w) :
    Calls Tryd.prog 23 #[.agg #[.int .i64 s.k, .bool s.nx, .int .i64 s.row, .int .i64 s.pas], .string (bs t)] w (ParseOut s t w) := by
  obtain ⟨k, nx, row, pas⟩ := s
  have hV := (okSty_valid ⟨k, nx, row, pas⟩).2 hs
  dsimp only at hV ⊢
  have VA := valid_any k row pas nx (w.alloc (.cells #[.int .i64 k, .bool nx, .int .i64 row, .int .i64 pas] 36))
  rw [hV] at VA
  have hb0 := (Below.refl w.heap.size w).alloc (Nat.le_refl _) (.cells #[.int .i64 k, .bool nx, .int .i64 row, .int .i64 pas] 36)
  have hx0 := Boxs.new w 36 #[.int .i64 k, .bool nx, .int .i64 row, .int .i64 pas]
  have HS := Lib.hid hs; have HX0 := Lib.hid hx0; have HB0 := Lib.hid hb0; have HML := Lib.hid hml
  have hlt := hml.lt
  have hw1 : (w.alloc (.cells #[.int .i64 k, .bool nx, .int .i64 row, .int .i64 pas] 36)).heap.size = w.heap.size + 1 := by simp
  clear hs hx0 hb0 hml hV
  by_cases h0 : t = []
  · subst h0
    have HP := Lib.hid (parse_empty ⟨k, nx, row, pas⟩)
    have hne := bs_nil
    go_enter Tryd.func23, Tryd.ntmps23
    go_wp2_with fail
    refine VA.mono ?_
    rintro e w1 ⟨rfl, hb⟩
    have HB1 := Lib.hid hb
    clear hb
    go_wp2_with fail
    go_ret2
    exact ⟨_, by rw [HP.out.1]; rfl, by rw [HP.out.2]; exact RdP.none _, HB0.out.trans (HB1.out.mono (by omega))⟩
  · obtain ⟨i0, hi0, hz0, hz1, hz2⟩ := info_parts Tryd.info81
    have HI := Lib.hid hi0; have HZ0 := Lib.hid hz0; have HZ1 := Lib.hid hz1; have HZ2 := Lib.hid hz2
    clear hi0 hz0 hz1 hz2
    have H0 := Lib.hid h0
    have hne := bs_full h0
    have hpl := pieces_len t
    clear h0
    go_enter Tryd.func23, Tryd.ntmps23
    go_wp2_with fail
    refine VA.mono ?_
    rintro e w1 ⟨rfl, hb⟩
    have HB1 := Lib.hid hb
    have hml1 := (HML.out.below HB0.out hlt).below hb (by omega)
    have hx1 := HX0.out.below hb (by omega)
    have HX1 := Lib.hid hx1
    have hs1 := hb.size
    obtain ⟨m, hm⟩ := hml1
    have SPL := Tryd.strings_Split (bs t) ⟨#[44, 32]⟩ m w1 (by rw [bs_size]; omega) hm (by decide)
    obtain ⟨e1, e2⟩ := split_pieces t
    rw [e1, e2] at SPL
    clear hb hx1 hm e1 e2
    obtain ⟨ps, hps⟩ : ∃ ps, piecesL t = ps := ⟨_, rfl⟩
    rw [hps] at SPL hpl
    have HPS := Lib.hid hps
    clear hps
    go_wp2_with fail
    refine SPL.mono ?_
    rintro e w2 ⟨rfl, rfl⟩
    have hz2 : (w1.alloc (.cells (strsV ps) 9)).heap.size = w1.heap.size + 1 := by simp
    have hx2 : Boxs (w1.alloc (.cells (strsV ps) 9)) w.heap.size 36 #[.int .i64 k, .bool nx, .int .i64 row, .int .i64 pas] := (((Below.refl w1.heap.size w1).alloc (Nat.le_refl _) _).block _ (by omega)).trans HX1.out
    have HX2 := Lib.hid hx2; have HP2 := Lib.hid (Boxs.new w1 9 (strsV ps))
    have HB2 := Lib.hid ((HB0.out.trans (HB1.out.mono (by omega))).alloc (by omega) (.cells (strsV ps) 9))
    clear hx2
    generalize w1.alloc (.cells (strsV ps) 9) = w2 at *
    obtain ⟨pb, hpb⟩ : ∃ pb, w1.heap.size = pb := ⟨_, rfl⟩
    rw [hpb] at hz2 hs1 HP2 ⊢
    clear hpb HB1 HX1
    go_wp2_with fail
    go_loopw [7, 22] (fun v i wr => ∃ (q : Nat) (L : List Sp), q ≤ ps.length ∧ i = .int .i64 q ∧ readAll ⟨k, nx, row, pas⟩ (ps.take q) = some L ∧ wr.ownsRow (pb + 1) 81 2 v L.length (prs L) ∧ Boxs wr w.heap.size 36 #[.int .i64 k, .bool nx, .int .i64 row, .int .i64 pas] ∧ Boxs wr pb 9 (strsV ps) ∧ Below w.heap.size w wr) (fun _ i _ => ps.length - (intOf i).toNat)
    case atStart => exact ⟨0, [], Nat.zero_le _, rfl, rfl, World.ownsRow_nil _ _ _ _, HX2.out, HP2.out, HB2.out⟩
    case round =>
      obtain ⟨q, L, hq, rfl, hrd, hown, hbx, hbp, hbl⟩ := hrel
      have hLl := readAll_len HS.out _ _ hrd
      rw [List.length_take] at hLl
      have hsz := hbp.lt
      have HO := Lib.hid hown; have HBX := Lib.hid hbx; have HBP := Lib.hid hbp; have HBL := Lib.hid hbl; have HRD := Lib.hid hrd
      clear hown hrd hbx hbp hbl
      by_cases hlt2 : q < ps.length
      · obtain ⟨p, hp⟩ := elem_at hlt2
        have c0 := HBP.out.cell q
        rw [strsV_at hp] at c0
        have hk1 : (q : Int) < (ps.length : Int) := by omega
        have hk0 : (0 : Int) ≤ (q : Int) := Int.natCast_nonneg _
        have HPQ := Lib.hid hp
        clear hp
        have cx0 := HBX.out.cell 0
        have cx1 := HBX.out.cell 1
        have cx2 := HBX.out.cell 2
        have cx3 := HBX.out.cell 3
        simp at cx0 cx1 cx2 cx3
        have RD := read_any ⟨k, nx, row, pas⟩ p wr HS.out (by have := pieces_el _ t (Nat.le_refl _) p (by rw [HPS.out]; exact List.mem_of_getElem? HPQ.out); omega)
        dsimp only at RD
        go_wp2_with fail
        refine RD.mono ?_
        rintro e w3 ⟨hb, hr⟩
        have hx3 := HBX.out.below hb (by omega)
        have hp3 := HBP.out.below hb hsz
        have hbz := hb.size
        have hbsz := HBL.out.size
        cases hrl : readL ⟨k, nx, row, pas⟩ p with
        | none =>
          rw [hrl] at hr
          obtain ⟨v, rfl⟩ := hr
          have HP := Lib.hid (parse_unread H0.out (by rw [HPS.out]; exact readAll_none HPQ.out hrl))
          have HB := Lib.hid hb
          clear hb hx3 hp3 hrl
          go_wp2_with fail
          go_ret2
          exact ⟨_, by rw [HP.out.1]; rfl, by rw [HP.out.2]; exact RdP.none _, HBL.out.trans (HB.out.mono hbsz)⟩
        | some l =>
          rw [hrl] at hr
          obtain ⟨v, rfl, hv⟩ := hr
          obtain ⟨hl0, hl5⟩ := readL_ne HS.out hrl
          obtain ⟨ad, cc, rfl, hnews⟩ := hv.news hl0
          have HL0 := Lib.hid hl0
          have hlp := List.length_pos_iff.2 hl0
          have HNW := Lib.hid hnews
          have HNX := Lib.hid (readAll_snoc HRD.out HPQ.out hrl)
          have HO3 := Lib.hid (owns_below HO.out hb)
          have HX3 := Lib.hid hx3; have HP3 := Lib.hid hp3
          have HBL3 := Lib.hid (HBL.out.trans (hb.mono hbsz))
          have hq1 : q + 1 ≤ ps.length := hlt2
          have hpl2 : prs l = prs l := rfl
          clear hb hx3 hp3 hrl hl0 hnews hv hpl2
          go_wp2_with (at_builtin; refine wpList_append_lies _ rfl _ _ _ rfl (pb + 1) 81 i0 _ 2 16 Tryd.underlying38 HI.out HZ0.out HZ1.out HZ2.out rfl (by omega) _ L.length (prs L) rfl HO3.out ad l.length cc (prs l) rfl (prs_len l) HNW.out (prs_one l) hlp (by unfold maxLen; omega) (by omega) (by omega) w3.heap.size rfl ?_; intro gg cap2 w4 hown1 hgrow hat hltg)
          rw [← prs_app] at hown1
          have hnb : ∀ b, b < pb + 1 → some b ≠ _ := fun b hb e => own_ne HO3.out hb e.symm
          have HO4 := Lib.hid hown1
          have HX4 := Lib.hid (HX3.out.kept hgrow (hnb _ (by omega)))
          have HP4 := Lib.hid (HP3.out.kept hgrow (hnb _ (by omega)))
          have HBL4 := Lib.hid (HBL3.out.grown hgrow (by omega) (fun j e => by have := (HO3.out.lt j e).1; omega))
          clear hown1 hgrow hat hnb
          go_wp2_with fail
          go_roundw
          case rel => exact ⟨q + 1, L ++ l, hq1, by go_num, HNX.out, by rw [List.length_append]; exact HO4.out, HX4.out, HP4.out, HBL4.out⟩
          case measure => simp [intOf]; omega
      · obtain rfl : q = ps.length := by omega
        rw [Nat.min_self] at hLl
        have hrd := HRD.out
        rw [List.take_length] at hrd
        have HR := Lib.hid hrd
        have hv : RdP wr _ L := RdP_of_owns HO.out
        have NM := normal_any _ L wr hv (by omega)
        have HV := Lib.hid hv
        have hk1 : ¬ (ps.length : Int) < (ps.length : Int) := by omega
        have hbsz := HBL.out.size
        clear hv hrd
        by_cases hn : nrm L = true
        · rw [hn] at NM
          have HN := Lib.hid hn
          clear hn
          go_wp2_with fail
          refine NM.mono ?_
          rintro e w3 ⟨rfl, hb⟩
          have hx3 := HBX.out.below hb (by omega)
          have hv3 := HV.out.below hb
          have cx0 := hx3.cell 0
          have cx1 := hx3.cell 1
          have cx2 := hx3.cell 2
          have cx3 := hx3.cell 3
          simp at cx0 cx1 cx2 cx3
          have FM := form_any ⟨k, nx, row, pas⟩ _ L w3 hv3 HS.out (by have := nrm_len HN.out; omega) (nrm_bd HN.out)
          dsimp only at FM
          have HB3 := Lib.hid (HBL.out.trans (hb.mono hbsz))
          have hbz := hb.size
          have HV3 := Lib.hid hv3
          clear hb hx3 hv3
          by_cases hf : formL ⟨k, nx, row, pas⟩ L = t
          · have HP := Lib.hid (parse_right H0.out (by rw [HPS.out]; exact HR.out) HN.out hf)
            rw [hf] at FM
            clear hf
            go_wp2_with fail
            refine FM.mono ?_
            rintro e w4 ⟨rfl, hb⟩
            have HV4 := Lib.hid (HV3.out.below hb)
            have HB4 := Lib.hid (HB3.out.trans (hb.mono (by omega)))
            clear hb
            go_wp2_with fail
            go_ret2
            exact ⟨_, by rw [HP.out.1]; rfl, by rw [HP.out.2]; exact HV4.out, HB4.out⟩
          · have HP := Lib.hid (parse_wrong H0.out (by rw [HPS.out]; exact HR.out) (fun h => hf h.2))
            have hfn : (!((bs (formL ⟨k, nx, row, pas⟩ L)).toList == (bs t).toList)) = true := by rw [bs_toList, bs_toList]; simpa using hf
            clear hf
            go_wp2_with fail
            refine FM.mono ?_
            rintro e w4 ⟨rfl, hb⟩
            have HB4 := Lib.hid (HB3.out.trans (hb.mono (by omega)))
            clear hb
            go_wp2_with fail
            go_ret2
            exact ⟨_, by rw [HP.out.1]; rfl, by rw [HP.out.2]; exact RdP.none _, HB4.out⟩
        · have HP := Lib.hid (parse_wrong H0.out (by rw [HPS.out]; exact HR.out) (fun h => hn h.1))
          have hn' : nrm L = false := by simpa using hn
          rw [hn'] at NM
          clear hn hn'
          go_wp2_with fail
          refine NM.mono ?_
          rintro e w3 ⟨rfl, hb⟩
          have HB3 := Lib.hid (HBL.out.trans (hb.mono hbsz))
          clear hb
          go_wp2_with fail
          go_ret2
          exact ⟨_, by rw [HP.out.1]; rfl, by rw [HP.out.2]; exact RdP.none _, HB3.out⟩
end Go.Proofs.YtecdkpcapalifaaDoor

