/- What a step keeps; slices that read as lists; Around, At, SameInts, SameTexts, Alphabet. At, SameInts. Helper steps for a region that draws its order, taken operation by operation. style. right. Valid. Spans: how they are printed and read (plain definitions). Lists of spans in memory; model, own, Same, Equal. Digits of a page: text (both). between (both). between (reference). -/
import Derived.Test.YtecdkpcapalifaaDoorProg
import Derived.WalkKit
import Derived.WalkSpells
import Derived.WalkLawsBesides
import Derived.Handy
import Derived.Deep.QuietTactic
import Derived.BigQuiet
import Derived.Lib.Hide
import Derived.OwnWalk
import Derived.Below
import Derived.Maps.OwnOps
import Derived.Maps.AppendAt
import Derived.Deep.AppendLies
import Derived.Deep.OwnRows
import Derived.Deep.CutRange
import Derived.OneCell
import Derived.RegionTactic
import Derived.BigRegion
import Derived.OrdersHeld
import Derived.Laws.Cover3
import Derived.Laws.Cells
import Derived.StillTailTactics
import Derived.Deep.RegionHeld3
import Derived.Deep.RegionLaw
import Derived.Deep.CutBlock
import Derived.Laws.IdiomStrings
import Derived.Laws.IdiomCopy
import Derived.Outline
import Derived.LoopN
set_option linter.unusedVariables false
namespace Go.Proofs.YtecdkpcapalifaaDoor
open Go.RowKit Go.Maps

theorem ret_int {k : IntKind} {a b : Int} (h : a = b) : Ending.returned (.int k a) = .returned (.int k b) := by rw [h]
theorem ret_bool {a b : Bool} (h : a = b) : Ending.returned (.bool a) = .returned (.bool b) := by rw [h]
theorem ret_str {a b : ByteArray} (h : a = b) : Ending.returned (.string a) = .returned (.string b) := by rw [h]
theorem Below.dn {B : Nat} {a w : World} (h : Below B a w) (n : Nat) : Below B a (w.drewN n) := ⟨h.os, h.tape, h.output, h.size, h.block⟩

/-- every block that was there is as it was, but for those of F -/
structure Keeps (F : Nat → Prop) (w w' : World) : Prop where
  os : w'.os = w.os
  tape : w'.tape = w.tape
  output : w'.output = w.output
  size : w.heap.size ≤ w'.heap.size
  block : ∀ b, b < w.heap.size → ¬ F b → w'.heap[b]? = w.heap[b]?
theorem Keeps.refl (F : Nat → Prop) (w : World) : Keeps F w w := ⟨rfl, rfl, rfl, Nat.le_refl _, fun _ _ _ => rfl⟩
theorem Keeps.trans {F : Nat → Prop} {a b c : World} (h : Keeps F a b) (k : Keeps F b c) : Keeps F a c :=
  ⟨k.os.trans h.os, k.tape.trans h.tape, k.output.trans h.output, Nat.le_trans h.size k.size, fun i hi hf => (k.block i (Nat.lt_of_lt_of_le hi h.size) hf).trans (h.block i hi hf)⟩
theorem Keeps.mono {F G : Nat → Prop} {a b : World} (h : Keeps F a b) (hFG : ∀ i, i < a.heap.size → F i → G i) : Keeps G a b :=
  ⟨h.os, h.tape, h.output, h.size, fun i hi hf => h.block i hi (fun hF => hf (hFG i hi hF))⟩
theorem Keeps.of_grown {F : Nat → Prop} {a b : World} {row : Option Nat} (h : a.grownBy b row) (hr : ∀ i, row = some i → F i) : Keeps F a b :=
  ⟨h.os, h.tape, h.output, h.size, fun i hi hf => h.block i hi (fun e => hf (hr i e.symm))⟩
theorem Keeps.of_below {F : Nat → Prop} {a b : World} (h : Below a.heap.size a b) : Keeps F a b :=
  ⟨h.os, h.tape, h.output, h.size, fun i hi _ => h.block i hi⟩
theorem Keeps.below {F : Nat → Prop} {a b : World} {n : Nat} (h : Keeps F a b) (hn : n ≤ a.heap.size) (hF : ∀ i, i < a.heap.size → F i → n ≤ i) : Below n a b :=
  ⟨h.os, h.tape, h.output, h.size, fun i hi => h.block i (by omega) (fun hf => by have := hF i (by omega) hf; omega)⟩
theorem Keeps.setCell {F : Nat → Prop} {a b : World} (h : Keeps F a b) {p : Addr} (hp : F p.block) (v : Value) : Keeps F a (b.setCell p v) :=
  ⟨h.os, h.tape, h.output, by simpa using h.size, fun i hi hf => (Below.heap_setCell _ _ _ _ (fun e => hf (by rw [e]; exact hp))).trans (h.block i hi hf)⟩
theorem Keeps.alloc {F : Nat → Prop} {a b : World} (h : Keeps F a b) (o : Obj) : Keeps F a (b.alloc o) :=
  ⟨h.os, h.tape, h.output, by have := h.size; simp; omega, fun i hi hf => (Below.heap_alloc _ _ _ (Nat.lt_of_lt_of_le hi h.size)).trans (h.block i hi hf)⟩
theorem Keeps.dn {F : Nat → Prop} {a b : World} (h : Keeps F a b) (n : Nat) : Keeps F a (b.drewN n) :=
  h.trans (Keeps.of_below (Below.dn (Below.refl _ _) n))
theorem Keeps.drew {F : Nat → Prop} {a b : World} (h : Keeps F a b) : Keeps F a b.drew := h.dn 1

/-- block B has the cells cs, of the type t -/
def Boxs (W : World) (B : Nat) (t : TypeId) (cs : Array Value) : Prop := W.heap[B]? = some (.cells cs t (0, 0))
theorem Boxs.lt {W : World} {B : Nat} {t : TypeId} {cs : Array Value} (h : Boxs W B t cs) : B < W.heap.size := (Array.getElem?_eq_some_iff.1 h).1
theorem Boxs.cell {W : World} {B : Nat} {t : TypeId} {cs : Array Value} (h : Boxs W B t cs) (o : Nat) : W.cell? ⟨B, o, none⟩ = cs[o]? := by simp [World.cell?, show W.heap[B]? = _ from h]
theorem Boxs.frozen {W : World} {B : Nat} {t : TypeId} {cs : Array Value} (h : Boxs W B t cs) (o : Nat) : W.frozen? ⟨B, o, none⟩ = false := by simp [World.frozen?, show W.heap[B]? = _ from h]
theorem Boxs.new (W : World) (t : TypeId) (cs : Array Value) : Boxs (W.alloc (.cells cs t)) W.heap.size t cs := heap_alloc_new W _
theorem Boxs.keeps {W W' : World} {F : Nat → Prop} {B : Nat} {t : TypeId} {cs : Array Value} (h : Boxs W B t cs) (hk : Keeps F W W') (hB : ¬ F B) : Boxs W' B t cs := (hk.block B h.lt hB).trans h
theorem Boxs.put {W : World} {B : Nat} {t : TypeId} {cs : Array Value} (h : Boxs W B t cs) (o : Nat) (u : Value) : Boxs (W.setCell ⟨B, o, none⟩ u) B t (cs.setIfInBounds o u) := by
  unfold Boxs at h ⊢
  simp [World.setCell, Array.getElem?_modify, h]

/-! ### slices that read as lists -/
def Rd (w : World) (v : Value) (cs : List Value) : Prop :=
  ∃ a cap, v = .slice a cs.length cap ∧ cs.length ≤ cap ∧ cap ≤ 9223372036854775807 ∧
    (cs.length = 0 ∨ ∃ b off, a = some ⟨b, off, none⟩ ∧ b < w.heap.size ∧ ∀ j u, cs[j]? = some u → w.cell? ⟨b, off + j, none⟩ = some u)
theorem Rd.below {w w' : World} {v : Value} {cs : List Value} (h : Rd w v cs) (hb : Below w.heap.size w w') : Rd w' v cs := by
  obtain ⟨a, cap, h2, h3, h4, h5⟩ := h
  refine ⟨a, cap, h2, h3, h4, ?_⟩
  rcases h5 with h5 | ⟨b, off, h5, h6, h7⟩
  · exact .inl h5
  · exact .inr ⟨b, off, h5, Nat.lt_of_lt_of_le h6 hb.size, fun j u hu => (hb.cell (p := ⟨b, off + j, none⟩) h6).trans (h7 j u hu)⟩
theorem Rd_of_owns {w : World} {base : Nat} {e : TypeId} {v : Value} {n : Nat} {cs : List Value} (h : w.ownsRow base e 1 v n cs) : Rd w v cs := by
  have hl : cs.length = n := by have := h.1; omega
  subst hl
  rcases h.2 with ⟨rfl, h0⟩ | ⟨g, cap, cur, rfl, hb, hg, hn, hc, hs, ht⟩
  · exact ⟨none, 0, by rw [h0], by omega, by omega, .inl h0⟩
  · refine ⟨_, cap, rfl, hn, by unfold maxLen at hc; omega, .inr ⟨g, 0, rfl, (Array.getElem?_eq_some_iff.1 hg).1, fun j u hu => ?_⟩⟩
    have := World.ownsRow.cells h (g := g) rfl j u hu
    have hadd : (⟨g, 0, none⟩ : Addr).add j = ⟨g, j, none⟩ := by unfold Addr.add; split <;> simp_all
    rw [hadd] at this
    rw [Nat.zero_add]; exact this
theorem Rd_block {W : World} {B : Nat} {cs : Array Value} {t : TypeId} {n : Nat} (h : Boxs W B t cs) (hn : cs.size = n) (hm : n ≤ 9223372036854775807) : Rd W (.slice (some ⟨B, 0, none⟩) n n) cs.toList := by
  subst hn
  refine ⟨_, cs.size, rfl, Nat.le_refl _, hm, .inr ⟨B, 0, rfl, h.lt, fun j u hu => ?_⟩⟩
  rw [h.cell, Nat.zero_add, ← Array.getElem?_toList]
  exact hu
def ints (xs : List Int) : List Value := xs.map (.int .i64)
def strs (l : List ByteArray) : List Value := l.map .string
theorem ints_len (xs : List Int) : (ints xs).length = xs.length := List.length_map ..
theorem strs_len (xs : List ByteArray) : (strs xs).length = xs.length := List.length_map ..
def RdI (w : World) (v : Value) (xs : List Int) : Prop := Rd w v (ints xs)
def RdS (w : World) (v : Value) (xs : List ByteArray) : Prop := Rd w v (strs xs)
theorem RdI.below {w w' : World} {v : Value} {xs : List Int} (h : RdI w v xs) (hb : Below w.heap.size w w') : RdI w' v xs := Rd.below h hb
theorem RdS.below {w w' : World} {v : Value} {xs : List ByteArray} (h : RdS w v xs) (hb : Below w.heap.size w w') : RdS w' v xs := Rd.below h hb
theorem RdI.none (w : World) : RdI w (.slice .none 0 0) [] := ⟨.none, 0, rfl, Nat.le_refl _, by omega, .inl rfl⟩
theorem RdS.none (w : World) : RdS w (.slice .none 0 0) [] := ⟨.none, 0, rfl, Nat.le_refl _, by omega, .inl rfl⟩
theorem RdI.open {w : World} {v : Value} {xs : List Int} (h : RdI w v xs) : ∃ a cap, v = .slice a xs.length cap ∧ xs.length ≤ 9223372036854775807 ∧
    (∀ k x, xs[k]? = some x → ∃ b off, a = some ⟨b, off, .none⟩ ∧ b < w.heap.size ∧ w.cell? ⟨b, off + k, .none⟩ = some (.int .i64 x)) := by
  obtain ⟨a, cap, h2, h3, h4, h5⟩ := h
  rw [ints_len] at h2 h3 h5
  refine ⟨a, cap, h2, by omega, fun k x hk => ?_⟩
  rcases h5 with h5 | ⟨b, off, h5, h6, h7⟩
  · have := (List.getElem?_eq_some_iff.1 hk).1; omega
  · exact ⟨b, off, h5, h6, h7 k _ (by simp [ints, hk])⟩
theorem RdS.open {w : World} {v : Value} {xs : List ByteArray} (h : RdS w v xs) : ∃ a cap, v = .slice a xs.length cap ∧ xs.length ≤ 9223372036854775807 ∧
    (∀ k x, xs[k]? = some x → ∃ b off, a = some ⟨b, off, .none⟩ ∧ b < w.heap.size ∧ w.cell? ⟨b, off + k, .none⟩ = some (.string x)) := by
  obtain ⟨a, cap, h2, h3, h4, h5⟩ := h
  rw [strs_len] at h2 h3 h5
  refine ⟨a, cap, h2, by omega, fun k x hk => ?_⟩
  rcases h5 with h5 | ⟨b, off, h5, h6, h7⟩
  · have := (List.getElem?_eq_some_iff.1 hk).1; omega
  · exact ⟨b, off, h5, h6, h7 k _ (by simp [strs, hk])⟩
theorem RdI.le {w : World} {v : Value} {xs : List Int} (h : RdI w v xs) : xs.length ≤ 9223372036854775807 := by
  obtain ⟨_, _, _, h, _⟩ := h.open; exact h

theorem take_succ_at {α : Type} {l : List α} {k : Nat} {x : α} (h : l[k]? = some x) : l.take (k + 1) = l.take k ++ [x] := by
  rw [List.take_add_one, h]; rfl
theorem elem_at {α : Type} {l : List α} {k : Nat} (h : k < l.length) : ∃ x, l[k]? = some x := ⟨_, List.getElem?_eq_getElem h⟩
theorem take_same {α : Type} {xs ys : List α} {k : Nat} {x : α} (h : xs.take k = ys.take k) (hx : xs[k]? = some x) (hy : ys[k]? = some x) : xs.take (k + 1) = ys.take (k + 1) := by
  rw [List.take_add_one, List.take_add_one, hx, hy, h]
theorem take_all {α : Type} {xs ys : List α} {k : Nat} (h : xs.take k = ys.take k) (hx : xs.length ≤ k) (hy : ys.length ≤ k) : xs = ys := by
  rw [List.take_of_length_le hx, List.take_of_length_le hy] at h; exact h
theorem ne_at {α : Type} {xs ys : List α} {k : Nat} {x y : α} (hx : xs[k]? = some x) (hy : ys[k]? = some y) (h : x ≠ y) : xs ≠ ys := by
  rintro rfl; rw [hx] at hy; exact h (Option.some.inj hy)
theorem bytes_ne {x y : ByteArray} (h : x ≠ y) : (x.toList == y.toList) = false := by
  refine beq_eq_false_iff_ne.2 fun e => h ?_
  rw [ByteArray.toList_eq, ByteArray.toList_eq] at e
  cases x; cases y
  exact congrArg ByteArray.mk (Array.toList_inj.1 e)

def around (n m : Int) : Int := (if n < 0 then -(n + 1) else n) % m
theorem around_bd (n m : Int) (hm : 0 < m) : 0 ≤ around n m ∧ around n m < m := by
  unfold around; exact ⟨Int.emod_nonneg _ (by omega), Int.emod_lt_of_pos _ hm⟩

set_option maxHeartbeats 400000 in
theorem around_any (n m : Int) (w : World) (hn : -9223372036854775808 ≤ n) (hn' : n ≤ 9223372036854775807) (hm : 0 < m) (hm' : m ≤ 1000000000) :
    Calls Tryd.prog 27 #[.int .i64 n, .int .i64 m] w fun e w' => e = .returned (.int .i64 (around n m)) ∧ w = w' := by
  by_cases h : n < 0
  · have hx : around n m = -((n + 1).tmod m) := by unfold around; rw [if_pos h, ← Int.neg_tmod, Int.tmod_eq_emod_of_nonneg (by omega)]
    have HX := Lib.hid hx; clear hx
    go_enter Tryd.func27, Tryd.ntmps27
    go_wp2
    go_ret
    exact ⟨ret_int (by rw [HX.out]), rfl⟩
  · have hx : around n m = n % m := by unfold around; rw [if_neg h]
    have HX := Lib.hid hx; clear hx
    go_enter Tryd.func27, Tryd.ntmps27
    go_wp2
    go_ret
    exact ⟨ret_int (by rw [HX.out]), rfl⟩
end Go.Proofs.YtecdkpcapalifaaDoor

namespace Go.Proofs.YtecdkpcapalifaaDoor
open Go.RowKit Go.Maps

def atF (l : List Int) (i m : Int) : Int := if i < 0 then 0 else match l[i.toNat]? with | some x => around x m | none => 0

set_option maxHeartbeats 400000 in
theorem at_any (v : Value) (l : List Int) (i m : Int) (w : World) (h : RdI w v l) (hl : ∀ x, x ∈ l → -9223372036854775808 ≤ x ∧ x ≤ 9223372036854775807) (hi : 0 ≤ i) (hi' : i ≤ 1000000000) (hm : 0 < m) (hm' : m ≤ 1000000000) :
    Calls Tryd.prog 40 #[v, .int .i64 i, .int .i64 m] w fun e w' => e = .returned (.int .i64 (atF l i m)) ∧ Below w.heap.size w w' := by
  obtain ⟨a, c, rfl, l1, f1⟩ := h.open
  clear h
  have F1 := Lib.hid f1; clear f1
  obtain ⟨k, rfl⟩ : ∃ k : Nat, i = k := ⟨i.toNat, by omega⟩
  by_cases hk : k < l.length
  · obtain ⟨x, hx⟩ := elem_at hk
    obtain ⟨b, o, rfl, _, g⟩ := F1.out k x hx
    have hr : atF l k m = around x m := by unfold atF; rw [if_neg (by omega)]; simp [hx]
    have hxb := hl x (List.mem_of_getElem? hx)
    have AR := around_any x m w hxb.1 hxb.2 hm hm'
    have HR := Lib.hid hr; clear hr hx
    have hlt : (k : Int) < (l.length : Int) := by omega
    go_enter Tryd.func40, Tryd.ntmps40
    go_wp2_with fail
    refine AR.mono ?_
    rintro e w1 ⟨rfl, rfl⟩
    go_wp2_with fail
    go_ret
    exact ⟨ret_int (by rw [HR.out]), Below.refl _ _⟩
  · have hr : atF l k m = 0 := by unfold atF; rw [if_neg (by omega)]; simp [show l[k]? = none from List.getElem?_eq_none (by omega)]
    have HR := Lib.hid hr; clear hr
    have hlt : ¬ (k : Int) < (l.length : Int) := by omega
    go_enter Tryd.func40, Tryd.ntmps40
    go_wp2_with fail
    go_ret
    exact ⟨ret_int (by rw [HR.out]), Below.refl _ _⟩

/-! ### the alphabet -/

set_option maxHeartbeats 400000 in
theorem sameInts_any (v1 v2 : Value) (xs ys : List Int) (w : World) (h1 : RdI w v1 xs) (h2 : RdI w v2 ys) :
    Calls Tryd.prog 36 #[v1, v2] w fun e w' => e = .returned (.bool (decide (xs = ys))) ∧ Below w.heap.size w w' := by
  obtain ⟨a1, c1, rfl, l1, f1⟩ := h1.open
  obtain ⟨a2, c2, rfl, l2, f2⟩ := h2.open
  clear h1 h2
  by_cases hl : xs.length = ys.length
  · have hl' : (((xs.length : Nat) : Int) != ((ys.length : Nat) : Int)) = false := by rw [hl]; simp
    have HL := Lib.hid hl; clear hl
    have F1 := Lib.hid f1; have F2 := Lib.hid f2; clear f1 f2
    go_enter Tryd.func36, Tryd.ntmps36
    go_wp2
    go_loopw [5] (fun i wr => ∃ k : Nat, k ≤ xs.length ∧ i = .int .i64 k ∧ xs.take k = ys.take k ∧ ∃ nq, wr = w.drewN nq) (fun i _ => xs.length - (intOf i).toNat)
    case atStart => exact ⟨0, Nat.zero_le _, rfl, by simp, 0, rfl⟩
    case round =>
      obtain ⟨k, hk, rfl, he, nq, rfl⟩ := hrel
      have HE := Lib.hid he; clear he
      by_cases hlt : k < xs.length
      · obtain ⟨x, hx⟩ := elem_at hlt
        obtain ⟨y, hy⟩ := elem_at (show k < ys.length by rw [← HL.out]; exact hlt)
        obtain ⟨b1, o1, rfl, _, g1⟩ := F1.out k x hx
        obtain ⟨b2, o2, rfl, _, g2⟩ := F2.out k y hy
        have hlt2 : k < ys.length := by rw [← HL.out]; exact hlt
        have HX := Lib.hid hx; have HY := Lib.hid hy; clear hx hy
        by_cases hxy : x = y
        · subst hxy
          have hxy' : (x != x) = false := by simp
          go_wp2
          go_quiet (fail)
          go_wp2
          go_roundw
          case rel => exact ⟨k + 1, by omega, by go_num, take_same HE.out HX.out HY.out, _, rfl⟩
          case measure => simp [intOf]; omega
        · have hxy' : (x != y) = true := by simpa using hxy
          have hr : decide (xs = ys) = false := decide_eq_false (ne_at HX.out HY.out hxy)
          have HR := Lib.hid hr; clear hr
          go_wp2
          go_quiet (fail)
          go_wp2
          go_ret
          exact ⟨ret_bool (by rw [HR.out]), by repeat (first | exact Below.refl _ _ | refine Below.dn ?_ _)⟩
      · have hr : decide (xs = ys) = true := decide_eq_true (take_all HE.out (by omega) (by rw [← HL.out]; omega))
        have HR := Lib.hid hr; clear hr
        go_wp2
        go_ret
        exact ⟨ret_bool (by rw [HR.out]), by repeat (first | exact Below.refl _ _ | refine Below.dn ?_ _)⟩
  · have hl' : (((xs.length : Nat) : Int) != ((ys.length : Nat) : Int)) = true := by simp; omega
    have hr : decide (xs = ys) = false := decide_eq_false (fun e => hl (by rw [e]))
    have HR := Lib.hid hr; clear hr
    clear hl f1 f2
    go_enter Tryd.func36, Tryd.ntmps36
    go_wp2
    go_ret
    exact ⟨ret_bool (by rw [HR.out]), Below.refl _ _⟩
end Go.Proofs.YtecdkpcapalifaaDoor

namespace Go.Proofs.YtecdkpcapalifaaDoor
open Go.RowKit Go.Maps

theorem wpOpRun {P : Program} {ops : Array Oper} {Q : Exit → Act → World → Prop} {i : Nat} {o : Oper} {K : Act → World → Prop} {a : Act} {w w' : World} {v : Value} (ho : ops[i]? = some o)
    (hw : Region.wanted o (yielded ops a.tmps) = true) (hr : (execOp a.eval o).run P w = .ok (.value v) w') (h : K (a.put o.dst v) w') : wpOp P ops Q i K a w :=
  wpOp_step ho fun K' hK => by
    rw [if_pos hw]
    unfold Oper.wp
    rw [hr]
    exact hK _ _ h
/-- one operation alone may come up -/
theorem wpAnyHOne {P : Program} {md : Region.Mode} {ops : Array Oper} {Q : Exit → Act → World → Prop} {S : World → Prop} {fuel : Nat} {listed : Array Bool} {a : Act} {w w' : World} (i : Nat) (d : Option Nat) {o : Oper} {v : Value} (hr : Region.ready md ops listed = [i]) (ho : ops[i]? = some o) (hd : o.dst = d)
    (hw : Region.wanted o (yielded ops a.tmps) = true) (hrun : (execOp a.eval o).run P w = .ok (.value v) w') (hS : S w')
    (h : wpAnyH P md ops Q S fuel (listed.setIfInBounds i true) (a.put d v) w') : wpAnyH P md ops Q S (fuel + 1) listed a w :=
  wpAnyH_all hr (by simp) fun j hj => by
    rw [List.mem_singleton.1 hj]
    subst hd
    exact wpOpRun ho hw hrun ⟨hS, h⟩
theorem wpAnyHSkip {P : Program} {md : Region.Mode} {ops : Array Oper} {Q : Exit → Act → World → Prop} {S : World → Prop} {fuel : Nat} {listed : Array Bool} {a : Act} {w w' : World} (i : Nat) (d : Option Nat) {o : Oper} (hr : Region.ready md ops listed = [i]) (ho : ops[i]? = some o) (hd : o.dst = d)
    (hw : Region.wanted o (yielded ops a.tmps) = true) (hrun : (execOp a.eval o).run P w = .ok .skip w') (hS : S w')
    (h : wpAnyH P md ops Q S fuel (listed.setIfInBounds i true) (a.put d undef) w') : wpAnyH P md ops Q S (fuel + 1) listed a w :=
  wpAnyH_all hr (by simp) fun j hj => by
    rw [List.mem_singleton.1 hj]
    subst hd
    exact wpOp_step ho fun K' hK => by
      rw [if_pos hw]
      unfold Oper.wp
      rw [hrun]
      exact hK _ _ ⟨hS, h⟩
/-- an operation that only looks is taken first -/
theorem wpAnyHTake {P : Program} {md : Region.Mode} {ops : Array Oper} {Q : Exit → Act → World → Prop} {S : World → Prop} {fuel : Nat} {listed : Array Bool} {a : Act} {w : World} (i : Nat) (d : Option Nat) {o : Oper} (v : Value) (hi : ops[i]? = some o) (hd : o.dst = d)
    (hs : Region.noSelect ops = true) (hf : Region.free md ops listed i = true) (hr : (Region.ready md ops listed).contains i = true)
    (hQ : ∀ c a w, Q (.panic c) (a.put d v) w → Q (.panic c) a w) (hw : Region.wanted o (yielded ops a.tmps) = true) (hy : ∀ w, S w → (execOp a.eval o).run P w = .ok (.value v) w) (hS : S w)
    (h : wpAnyH P md ops Q S fuel (listed.setIfInBounds i true) (a.put d v) w) : wpAnyH P md ops Q S (fuel + 1) listed a w := by
  subst hd
  exact wpAnyH_take hi hs hf hr hQ (.inl ⟨hw, hy⟩) hS h
theorem wpAnyHPass {P : Program} {md : Region.Mode} {ops : Array Oper} {Q : Exit → Act → World → Prop} {S : World → Prop} {fuel : Nat} {listed : Array Bool} {a : Act} {w : World} (i : Nat) (d : Option Nat) {o : Oper} (hi : ops[i]? = some o) (hd : o.dst = d)
    (hs : Region.noSelect ops = true) (hf : Region.free md ops listed i = true) (hr : (Region.ready md ops listed).contains i = true)
    (hQ : ∀ c a w, Q (.panic c) (a.put d undef) w → Q (.panic c) a w) (hw : Region.wanted o (yielded ops a.tmps) = false) (hS : S w)
    (h : wpAnyH P md ops Q S fuel (listed.setIfInBounds i true) (a.put d undef) w) : wpAnyH P md ops Q S (fuel + 1) listed a w := by
  subst hd
  exact wpAnyH_take hi hs hf hr hQ (.inr ⟨hw, rfl⟩) hS h

/-- a Go function is called, alone -/
theorem wpAnyHCall {P : Program} {md : Region.Mode} {ops : Array Oper} {Q : Exit → Act → World → Prop} {S : World → Prop} {fuel : Nat} {listed : Array Bool} {a : Act} {w : World} {R : Ending → World → Prop} (i : Nat) (d : Option Nat) (f : Nat) (args : Array Value) {o : Oper}
    (hr : Region.ready md ops listed = [i]) (ho : ops[i]? = some o) (hd : o.dst = d) (hw : Region.wanted o (yielded ops a.tmps) = true) (hrun : (execOp a.eval o).run P w = .ok (.enter f args) w) (hc : Calls P f args w R)
    (h : ∀ e w', R e w' → ∃ v, e = .returned v ∧ S w' ∧ wpAnyH P md ops Q S fuel (listed.setIfInBounds i true) (a.put d v) w') : wpAnyH P md ops Q S (fuel + 1) listed a w :=
  wpAnyH_all hr (by simp) fun j hj => by
    rw [List.mem_singleton.1 hj]
    subst hd
    refine wpOp_step ho fun K' hK => ?_
    rw [if_pos hw]
    unfold Oper.wp
    rw [hrun]
    refine Calls.mono hc fun e w' he => ?_
    obtain ⟨v, rfl, hS, hn⟩ := h e w' he
    exact hK _ _ ⟨hS, hn⟩

/-- one operation alone may come up: by a law on it -/
theorem wpAnyHOp {P : Program} {md : Region.Mode} {ops : Array Oper} {Q : Exit → Act → World → Prop} {S : World → Prop} {fuel : Nat} {listed : Array Bool} {a : Act} {w : World} (i : Nat) (d : Option Nat) {o : Oper} (hr : Region.ready md ops listed = [i]) (ho : ops[i]? = some o) (hd : o.dst = d)
    (h : ∀ K' : Act → World → Prop, (∀ v w', S w' → wpAnyH P md ops Q S fuel (listed.setIfInBounds i true) (a.put d v) w' → K' (a.put o.dst v) w') → if Region.wanted o (yielded ops a.tmps) = true then Oper.wp P o a w K' Q else K' (a.put o.dst undef) w) :
    wpAnyH P md ops Q S (fuel + 1) listed a w :=
  wpAnyH_all hr (by simp) fun j hj => by
    rw [List.mem_singleton.1 hj]
    exact wpOp_step ho fun K' hK => h K' fun v w' hS hn => hK _ _ ⟨hS, by rw [hd]; exact hn⟩

theorem Boxs.dn {W : World} {B : Nat} {t : TypeId} {cs : Array Value} (h : Boxs W B t cs) (n : Nat) : Boxs (W.drewN n) B t cs := h
theorem execOp_store {ρ : Operand → Value} {o : Oper} (t : TypeId) (a x : Operand) (ho : o.op = .store t a x) {p v : Value} (ha : ρ a = p) (hx : ρ x = v) {w w' : World} (h : (Instr.storeAt t p v).run Tryd.prog w = .ok () w') :
    (execOp ρ o).run Tryd.prog w = .ok .skip w' := by
  simp only [Instr.storeAt, Sem.run_bind] at h
  unfold execOp
  simp only [ho, ha, hx, Instr.storeAt, Sem.run_bind, Sem.run_pure, h, Result.andThen_ok]
/-- two operations may come up -/
theorem wpAnyHBoth {P : Program} {md : Region.Mode} {ops : Array Oper} {Q : Exit → Act → World → Prop} {S : World → Prop} {fuel : Nat} {listed : Array Bool} {a : Act} {w : World} (i j : Nat) (hr : Region.ready md ops listed = [i, j])
    (hi : wpOp P ops Q i (fun a' w' => S w' ∧ wpAnyH P md ops Q S fuel (listed.setIfInBounds i true) a' w') a w)
    (hj : wpOp P ops Q j (fun a' w' => S w' ∧ wpAnyH P md ops Q S fuel (listed.setIfInBounds j true) a' w') a w) : wpAnyH P md ops Q S (fuel + 1) listed a w :=
  wpAnyH_all hr (by simp) fun t ht => by
    rcases List.mem_cons.1 ht with rfl | ht
    · exact hi
    · rw [List.mem_singleton.1 ht]; exact hj
theorem wpOpRun' {P : Program} {ops : Array Oper} {Q : Exit → Act → World → Prop} {i : Nat} {o : Oper} {K : Act → World → Prop} {a : Act} {w w' : World} {v : Value} (d : Option Nat) (ho : ops[i]? = some o) (hd : o.dst = d)
    (hw : Region.wanted o (yielded ops a.tmps) = true) (hr : (execOp a.eval o).run P w = .ok (.value v) w') (h : K (a.put d v) w') : wpOp P ops Q i K a w := by
  subst hd; exact wpOpRun ho hw hr h
theorem wpOpCall {P : Program} {ops : Array Oper} {Q : Exit → Act → World → Prop} {K : Act → World → Prop} {a : Act} {w : World} {R : Ending → World → Prop} {i : Nat} (d : Option Nat) (f : Nat) (args : Array Value) {o : Oper}
    (ho : ops[i]? = some o) (hd : o.dst = d) (hw : Region.wanted o (yielded ops a.tmps) = true) (hrun : (execOp a.eval o).run P w = .ok (.enter f args) w) (hc : Calls P f args w R)
    (h : ∀ e w', R e w' → ∃ v, e = .returned v ∧ K (a.put d v) w') : wpOp P ops Q i K a w := by
  subst hd
  refine wpOp_step ho fun K' hK => ?_
  rw [if_pos hw]
  unfold Oper.wp
  rw [hrun]
  refine Calls.mono hc fun e w' he => ?_
  obtain ⟨v, rfl, hn⟩ := h e w' he
  exact hK _ _ hn
theorem owns_below {w w' : World} {base : Nat} {e : TypeId} {size : Nat} {v : Value} {n : Nat} {xs : List Value} (h : w.ownsRow base e size v n xs) (hb : Below w.heap.size w w') : w'.ownsRow base e size v n xs :=
  h.kept (row := none) ⟨hb.os, hb.tape, hb.output, hb.size, fun i hi _ => hb.block i hi⟩ (by by_cases h : v.ownBlock = none; exact .inl h; exact .inr h)
theorem owns_grown {base : Nat} {W W' : World} {e : TypeId} {s : Nat} {v : Value} {n : Nat} {xs : List Value} {row : Option Nat} (h : W.ownsRow base e s v n xs) (hg : W.grownBy W' row) (hd : ∀ g, v.ownBlock = some g → row ≠ some g) : W'.ownsRow base e s v n xs := by
  obtain ⟨h1, h2⟩ := h
  refine ⟨h1, ?_⟩
  rcases h2 with h2 | ⟨g, cap, cur, rfl, hb, hh, r⟩
  · exact .inl h2
  · refine .inr ⟨g, cap, cur, rfl, hb, ?_, r⟩
    have hlt : g < W.heap.size := (Array.getElem?_eq_some_iff.1 hh).1
    rw [hg.block g hlt (fun e => hd g rfl e.symm)]
    exact hh
theorem own_cell {base : Nat} {W : World} {L : List Int} {n g c k : Nat} {x : Int} (h : W.ownsRow base 3 1 (.slice (some ⟨g, 0, none⟩) n c) n (ints L)) (hx : L[k]? = some x) : W.cell? ⟨g, k, none⟩ = some (.int .i64 x) := by
  have := World.ownsRow.cells h (g := g) rfl k (.int .i64 x) (by unfold ints; rw [List.getElem?_map, hx]; rfl)
  have hadd : (⟨g, 0, none⟩ : Addr).add k = ⟨g, k, none⟩ := by unfold Addr.add; split <;> simp_all
  rw [hadd] at this
  exact this
end Go.Proofs.YtecdkpcapalifaaDoor

namespace Go.Proofs.YtecdkpcapalifaaDoor
open Go.RowKit Go.Maps

set_option maxHeartbeats 1000000 in
theorem style_any (a c d : Int) (b : Bool) (w : World) :
    Calls Tryd.prog 17 #[.agg #[.int .i64 a, .bool b, .int .i64 c, .int .i64 d]] w fun e w' => e = .returned (.agg #[.int .i64 a, .bool b, .int .i64 c, .int .i64 d]) ∧ Below w.heap.size w w' := by
  go_enter Tryd.func17, Tryd.ntmps17
  go_wp2
  have b4 := Boxs.new (w.alloc (.cells #[.int .i64 a, .bool b, .int .i64 c, .int .i64 d] 24)) 36 #[.int .i64 a, .bool b, .int .i64 c, .int .i64 d]
  rw [World.size_alloc] at b4
  have e0 := b4.cell 0
  have e1 := b4.cell 1
  have e2 := b4.cell 2
  have e3 := b4.cell 3
  simp at e0 e1 e2 e3
  refine bodyPost_ret (v := .agg #[.int .i64 a, .bool b, .int .i64 c, .int .i64 d]) ?_ rfl ⟨rfl, ((Below.refl _ w).alloc (Nat.le_refl _) _).alloc (by simp) _⟩
  simp only [results, Tryd.results17]
  simp [go_sem]
end Go.Proofs.YtecdkpcapalifaaDoor

namespace Go.Proofs.YtecdkpcapalifaaDoor
open Go.RowKit Go.Maps

def rightS (f t : Int) : Bool := decide (1 ≤ f) && (decide (f ≤ t) && decide (t ≤ 999))
set_option maxHeartbeats 1000000 in
theorem right_any (f t : Int) (w : World) :
    Calls Tryd.prog 58 #[.agg #[.int .i64 f, .int .i64 t]] w fun e w' => e = .returned (.bool (rightS f t)) ∧ Below w.heap.size w w' := by
  have hb := (Below.refl w.heap.size w).alloc (Nat.le_refl _) (.cells #[.int .i64 f, .int .i64 t] 81)
  by_cases h1 : 1 ≤ f
  · by_cases h2 : f ≤ t
    · by_cases h3 : t ≤ 999
      · go_enter Tryd.func58, Tryd.ntmps58
        go_wp2
        go_ret
        exact ⟨ret_bool (by simp [rightS, h1, h2, h3]), hb⟩
      · go_enter Tryd.func58, Tryd.ntmps58
        go_wp2
        go_ret
        exact ⟨ret_bool (by simp [rightS, h3]), hb⟩
    · go_enter Tryd.func58, Tryd.ntmps58
      go_wp2
      go_ret
      exact ⟨ret_bool (by simp [rightS]; omega), hb⟩
  · go_enter Tryd.func58, Tryd.ntmps58
    go_wp2
    go_ret
    exact ⟨ret_bool (by simp [rightS]; omega), hb⟩
end Go.Proofs.YtecdkpcapalifaaDoor

namespace Go.Proofs.YtecdkpcapalifaaDoor
open Go.RowKit Go.Maps

def validS (k r p : Int) : Int := if k < 1 ∨ 3 < k ∨ r < 0 ∨ r = 1 ∨ 999 < r ∨ p < 0 ∨ p = 1 ∨ 500 < p then 1 else 0
theorem validS_bad {k r p : Int} (h : k < 1 ∨ 3 < k ∨ r < 0 ∨ r = 1 ∨ 999 < r ∨ p < 0 ∨ p = 1 ∨ 500 < p) : validS k r p = 1 := if_pos h
theorem validS_ok {k r p : Int} (h : ¬ (k < 1 ∨ 3 < k ∨ r < 0 ∨ r = 1 ∨ 999 < r ∨ p < 0 ∨ p = 1 ∨ 500 < p)) : validS k r p = 0 := if_neg h
set_option maxHeartbeats 2000000 in
theorem valid_any (k r p : Int) (b : Bool) (w : World) :
    Calls Tryd.prog 39 #[.agg #[.int .i64 k, .bool b, .int .i64 r, .int .i64 p]] w fun e w' => e = .returned (.int .i64 (validS k r p)) ∧ Below w.heap.size w w' := by
  have hb := (Below.refl w.heap.size w).alloc (Nat.le_refl _) (.cells #[.int .i64 k, .bool b, .int .i64 r, .int .i64 p] 36)
  by_cases h0 : k < 1
  · have HV := Lib.hid (validS_bad (k := k) (r := r) (p := p) (by omega))
    go_enter Tryd.func39, Tryd.ntmps39
    go_wp2_with fail
    go_ret
    exact ⟨ret_int HV.out.symm, hb⟩
  · skip
    by_cases h1 : 3 < k
    · have HV := Lib.hid (validS_bad (k := k) (r := r) (p := p) (by omega))
      go_enter Tryd.func39, Tryd.ntmps39
      go_wp2_with fail
      go_ret
      exact ⟨ret_int HV.out.symm, hb⟩
    · skip
      by_cases h2 : r < 0
      · have HV := Lib.hid (validS_bad (k := k) (r := r) (p := p) (by omega))
        go_enter Tryd.func39, Tryd.ntmps39
        go_wp2_with fail
        go_ret
        exact ⟨ret_int HV.out.symm, hb⟩
      · skip
        by_cases h3 : r = 1
        · have HV := Lib.hid (validS_bad (k := k) (r := r) (p := p) (by omega))
          have e3 : (r == 1) = true := by simp [h3]
          clear h3
          go_enter Tryd.func39, Tryd.ntmps39
          go_wp2_with fail
          go_ret
          exact ⟨ret_int HV.out.symm, hb⟩
        · have e3 : (r == 1) = false := beq_eq_false_iff_ne.2 h3
          by_cases h4 : 999 < r
          · have HV := Lib.hid (validS_bad (k := k) (r := r) (p := p) (by omega))
            go_enter Tryd.func39, Tryd.ntmps39
            go_wp2_with fail
            go_ret
            exact ⟨ret_int HV.out.symm, hb⟩
          · skip
            by_cases h5 : p < 0
            · have HV := Lib.hid (validS_bad (k := k) (r := r) (p := p) (by omega))
              go_enter Tryd.func39, Tryd.ntmps39
              go_wp2_with fail
              go_ret
              exact ⟨ret_int HV.out.symm, hb⟩
            · skip
              by_cases h6 : p = 1
              · have HV := Lib.hid (validS_bad (k := k) (r := r) (p := p) (by omega))
                have e6 : (p == 1) = true := by simp [h6]
                clear h6
                go_enter Tryd.func39, Tryd.ntmps39
                go_wp2_with fail
                go_ret
                exact ⟨ret_int HV.out.symm, hb⟩
              · have e6 : (p == 1) = false := beq_eq_false_iff_ne.2 h6
                by_cases h7 : 500 < p
                · have HV := Lib.hid (validS_bad (k := k) (r := r) (p := p) (by omega))
                  go_enter Tryd.func39, Tryd.ntmps39
                  go_wp2_with fail
                  go_ret
                  exact ⟨ret_int HV.out.symm, hb⟩
                · skip
                  have HV := Lib.hid (validS_ok (k := k) (r := r) (p := p) (by omega))
                  go_enter Tryd.func39, Tryd.ntmps39
                  go_wp2_with fail
                  go_ret
                  exact ⟨ret_int HV.out.symm, hb⟩
end Go.Proofs.YtecdkpcapalifaaDoor

namespace Go.Proofs.YtecdkpcapalifaaDoor

abbrev Sp := Int × Int
structure Sty where
  k : Int
  nx : Bool
  row : Int
  pas : Int
def bs (l : List UInt8) : ByteArray := ⟨l.toArray⟩
def okSty (s : Sty) : Prop := 1 ≤ s.k ∧ s.k ≤ 3 ∧ 0 ≤ s.row ∧ s.row ≠ 1 ∧ s.row ≤ 999 ∧ 0 ≤ s.pas ∧ s.pas ≠ 1 ∧ s.pas ≤ 500
theorem okSty_valid (s : Sty) : validS s.k s.row s.pas = 0 ↔ okSty s := by
  unfold validS okSty
  split <;> omega
theorem validS_01 (k r p : Int) : validS k r p = 0 ∨ validS k r p = 1 := by unfold validS; split <;> simp

/-! digits -/
def dg (n : Int) : UInt8 := UInt8.ofNat (48 + (n % 10).toNat)
def textL (n : Int) : List UInt8 := if n < 10 then [dg n] else if n < 100 then [dg (n / 10), dg n] else [dg (n / 100), dg (n / 10), dg n]
theorem textL_1 {n : Int} (h : n < 10) : textL n = [dg n] := if_pos h
theorem textL_2 {n : Int} (h : 10 ≤ n) (h' : n < 100) : textL n = [dg (n / 10), dg n] := by unfold textL; rw [if_neg (by omega), if_pos h']
theorem textL_3 {n : Int} (h : 100 ≤ n) : textL n = [dg (n / 100), dg (n / 10), dg n] := by unfold textL; rw [if_neg (by omega), if_neg (by omega)]
theorem textL_len (n : Int) : 1 ≤ (textL n).length ∧ (textL n).length ≤ 3 := by unfold textL; split <;> (try split) <;> simp

def cpre : List UInt8 → List UInt8 → Nat
  | a :: r, b :: q => if a = b then 1 + cpre r q else 0
  | _, _ => 0
def stripN (keep : Int) (a b : List UInt8) : Nat := if a.length = b.length then min (cpre a b) (b.length - keep.toNat) else 0
def betweenL (keep : Int) (a b : Int) : List UInt8 := textL a ++ (45 :: (textL b).drop (stripN keep (textL a) (textL b)))
def elementL (s : Sty) (x : Sp) : List UInt8 :=
  if x.1 = x.2 then textL x.1 else if 0 < s.row ∧ s.row ≤ x.2 - x.1 + 1 then textL x.1 ++ [102, 102] else if s.nx = true ∧ x.2 = x.1 + 1 then textL x.1 ++ [102] else betweenL s.k x.1 x.2

/-! normal lists -/
def nrmG : Option Int → List Sp → Bool
  | _, [] => true
  | p, x :: r => rightS x.1 x.2 && ((match p with | none => true | some q => decide (q + 2 ≤ x.1)) && nrmG (some x.2) r)
def nrm (l : List Sp) : Bool := nrmG none l
theorem nrmG_cons (p : Option Int) (x : Sp) (r : List Sp) : nrmG p (x :: r) = (rightS x.1 x.2 && ((match p with | none => true | some q => decide (q + 2 ≤ x.1)) && nrmG (some x.2) r)) := rfl
def lastTo (p : Option Int) (l : List Sp) : Option Int := match l.getLast? with | some x => some x.2 | none => p
theorem nrmG_snoc (p : Option Int) (l : List Sp) (x : Sp) :
    nrmG p (l ++ [x]) = (nrmG p l && (rightS x.1 x.2 && (match lastTo p l with | none => true | some q => decide (q + 2 ≤ x.1)))) := by
  induction l generalizing p with
  | nil => cases p <;> simp [nrmG, lastTo]
  | cons a r ih =>
    rw [List.cons_append, nrmG_cons, nrmG_cons, ih]
    have : lastTo (some a.2) r = lastTo p (a :: r) := by
      unfold lastTo
      cases r with
      | nil => rfl
      | cons b q => rw [List.getLast?_cons_cons]; cases h : (b :: q).getLast? with
        | none => simp at h
        | some y => rfl
    rw [this]
    simp only [Bool.and_assoc]
theorem nrmG_app (p : Option Int) (l r : List Sp) : nrmG p (l ++ r) = (nrmG p l && nrmG (lastTo p l) r) := by
  induction l generalizing p with
  | nil => simp [nrmG, lastTo]
  | cons a q ih =>
    rw [List.cons_append, nrmG_cons, nrmG_cons, ih]
    have : lastTo (some a.2) q = lastTo p (a :: q) := by
      unfold lastTo
      cases q with
      | nil => rfl
      | cons b q => rw [List.getLast?_cons_cons]; cases h : (b :: q).getLast? with
        | none => simp at h
        | some y => rfl
    rw [this]
    simp only [Bool.and_assoc]
theorem nrm_no {l : List Sp} {k : Nat} (h : nrm (l.take k) = false) : nrm l = false := by
  have := nrmG_app none (l.take k) (l.drop k)
  rw [List.take_append_drop] at this
  unfold nrm at h ⊢
  rw [this, h]; rfl
theorem nrmG_right {p : Option Int} {l : List Sp} (h : nrmG p l = true) {x : Sp} (hx : x ∈ l) : rightS x.1 x.2 = true := by
  induction l generalizing p with
  | nil => cases hx
  | cons a r ih =>
    simp only [nrmG, Bool.and_eq_true] at h
    rcases List.mem_cons.1 hx with e | e
    · rw [e]; exact h.1
    · exact ih h.2.2 e
theorem rightS_iff {f t : Int} : rightS f t = true ↔ 1 ≤ f ∧ f ≤ t ∧ t ≤ 999 := by simp [rightS]
theorem nrm_right {l : List Sp} (h : nrm l = true) {x : Sp} (hx : x ∈ l) : 1 ≤ x.1 ∧ x.1 ≤ x.2 ∧ x.2 ≤ 999 := rightS_iff.1 (nrmG_right h hx)

/-! rows -/
def rowN : List Sp → Nat
  | [] => 0
  | x :: r => 1 + (match r with | [] => 0 | y :: _ => if y.1 = x.2 + 2 then rowN r else 0)
theorem rowN_cons (x y : Sp) (r : List Sp) : rowN (x :: y :: r) = 1 + if y.1 = x.2 + 2 then rowN (y :: r) else 0 := rfl
theorem rowN_le (l : List Sp) : rowN l ≤ l.length := by
  induction l with
  | nil => simp [rowN]
  | cons x r ih =>
    cases r with
    | nil => simp [rowN]
    | cons y q =>
      rw [rowN_cons]
      simp only [List.length_cons] at ih ⊢
      split <;> omega
theorem rowN_pos {l : List Sp} (h : l ≠ []) : 1 ≤ rowN l := by
  cases l with
  | nil => exact absurd rfl h
  | cons x r => unfold rowN; omega
/-- how a walk finds the length of a row -/
theorem rowN_eq {l : List Sp} {n : Nat} (h1 : 1 ≤ n) (hn : n ≤ l.length)
    (hin : ∀ i x y, i + 1 < n → l[i]? = some x → l[i + 1]? = some y → y.1 = x.2 + 2)
    (hend : ∀ x y, l[n - 1]? = some x → l[n]? = some y → y.1 ≠ x.2 + 2) : rowN l = n := by
  induction n generalizing l with
  | zero => omega
  | succ n ih =>
    cases l with
    | nil => simp at hn
    | cons x r =>
      cases r with
      | nil => simp at hn; subst hn; simp [rowN]
      | cons y q =>
        rw [rowN_cons]
        by_cases hn0 : n = 0
        · subst hn0
          rw [if_neg (hend x y rfl rfl)]
        · rw [if_pos (hin 0 x y (by omega) rfl rfl)]
          rw [ih (by omega) (by simpa using hn) (fun i a b hi ha hb => hin (i + 1) a b (by omega) (by simpa using ha) (by simpa using hb))
            (fun a b ha hb => hend a b (by rw [show n + 1 - 1 = (n - 1) + 1 by omega]; simpa using ha) (by simpa using hb))]
          omega
def rowsF : Nat → Nat → List Sp → List (Nat × Nat)
  | 0, _, _ => []
  | _ + 1, _, [] => []
  | f + 1, o, l@(_ :: _) => (o, rowN l) :: rowsF f (o + rowN l) (l.drop (rowN l))
def rowsL (l : List Sp) : List (Nat × Nat) := rowsF l.length 0 l
def lastS (r : List Sp) : Sp := r.getLast?.getD (0, 0)
def headS (r : List Sp) : Sp := r.head?.getD (0, 0)
def passimB : List UInt8 := [32, 112, 97, 115, 115, 105, 109]
def rowParts (s : Sty) (r : List Sp) : List (List UInt8) :=
  if 0 < s.pas ∧ s.pas ≤ (r.length : Int) then [betweenL s.k (headS r).1 (lastS r).2 ++ passimB] else r.map (elementL s)
def partsF (s : Sty) : Nat → List Sp → List (List UInt8)
  | 0, _ => []
  | _ + 1, [] => []
  | f + 1, l@(_ :: _) => rowParts s (l.take (rowN l)) ++ partsF s f (l.drop (rowN l))
def partsL (s : Sty) (l : List Sp) : List (List UInt8) := partsF s l.length l
def joinL : List (List UInt8) → List UInt8
  | [] => []
  | [x] => x
  | x :: y :: r => x ++ (44 :: 32 :: joinL (y :: r))
def formL (s : Sty) (l : List Sp) : List UInt8 := joinL (partsL s l)

/-! reading -/
def isDg (c : UInt8) : Bool := decide (48 ≤ c.toNat) && decide (c.toNat ≤ 57)
def valL (d : List UInt8) : Int := d.foldl (fun n c => 10 * n + ((c.toNat : Int) - 48)) 0
def digs (t : List UInt8) : List UInt8 := (t.take 3).takeWhile isDg
def scat (n : Nat) (a b : Int) : List Sp := (List.range (n - 1)).map (fun i : Nat => (a + 2 * (i : Int), a + 2 * (i : Int))) ++ [(a + 2 * ((n : Int) - 1), b)]
def readRange (s : Sty) (a : Int) (j : Nat) (t : List UInt8) : Option (List Sp) :=
  let d := digs t
  if d = [] then none else
  let b := if d.length < j then valL d + a / 10 ^ d.length * 10 ^ d.length else valL d
  if t.drop d.length = [] then some [(a, b)]
  else if t.drop d.length = passimB ∧ 0 < s.pas then some (scat s.pas.toNat a b) else none
def readL (s : Sty) (t : List UInt8) : Option (List Sp) :=
  let d := digs t
  let r := t.drop d.length
  if d = [] then none
  else if r = [] then some [(valL d, valL d)]
  else if r = [102] then some [(valL d, valL d + 1)]
  else if r = [102, 102] then (if 0 < s.row then some [(valL d, valL d + s.row - 1)] else none)
  else match r with
    | 45 :: q => readRange s (valL d) d.length q
    | _ => none
/-- the pieces between the separators -/
def splitF : Nat → List UInt8 → List UInt8 → List (List UInt8)
  | 0, acc, t => [acc ++ t]
  | _ + 1, acc, [] => [acc]
  | _ + 1, acc, [c] => [acc ++ [c]]
  | f + 1, acc, c :: d :: r => if c = 44 ∧ d = 32 then acc :: splitF f [] r else splitF f (acc ++ [c]) (d :: r)
def splitL (t : List UInt8) : List (List UInt8) := splitF t.length [] t
def readAll (s : Sty) : List (List UInt8) → Option (List Sp)
  | [] => some []
  | p :: r => match readL s p with | none => none | some l => (readAll s r).map (l ++ ·)
def parseL (s : Sty) (t : List UInt8) : Option (List Sp) :=
  if t = [] then some [] else match readAll s (splitL t) with
    | none => none
    | some out => if nrm out = true ∧ formL s out = t then some out else none
end Go.Proofs.YtecdkpcapalifaaDoor

namespace Go.Proofs.YtecdkpcapalifaaDoor
open Go.RowKit Go.Maps

/-- equality of spans, hidden from the walk -/
def eqP (x y : Sp) : Bool := decide (x = y)
theorem eqP_self (x : Sp) : eqP x x = true := by simp [eqP]
theorem eqP_ne {x y : Sp} (h : x ≠ y) : eqP x y = false := by simp [eqP, h]

theorem Tryd.info81 : (Tryd.prog.info? 81).map (fun i => (i.zero, i.size, i.bytes)) = some (some (.agg #[.int .i64 0, .int .i64 0]), 2, 16) := by kernel_rfl
theorem Tryd.eqIn81a (w : World) (d : Nat) (a b c f : Int) : (Op.equalIn (d + 4) 81 (.agg #[.int .i64 a, .int .i64 b]) (.agg #[.int .i64 c, .int .i64 f])).run Tryd.prog w = .ok (eqP (a, b) (c, f)) w := by
  rw [run_equalIn_agg w (d + 3) 81 _ _ (by kernel_rfl) (by kernel_rfl)]
  go_simp
  by_cases h1 : a = c <;> by_cases h2 : b = f <;> simp [eqP, h1, h2]
@[go_sem high] theorem Tryd.neq81 (w : World) (a b c f : Int) : (binOp .neq 81 (.agg #[.int .i64 a, .int .i64 b]) (.agg #[.int .i64 c, .int .i64 f])).run Tryd.prog w = .ok (.bool (!eqP (a, b) (c, f))) w := by
  rw [run_neq_struct, Tryd.eqIn81a w 9996 a b c f]; rfl

theorem Tryd.info68 : (Tryd.prog.info? 68).map (fun i => (i.zero, i.size, i.bytes)) = some (some (.agg #[.int .i64 0, .int .i64 0]), 2, 16) := by kernel_rfl
theorem Tryd.eqIn68a (w : World) (d : Nat) (a b c f : Int) : (Op.equalIn (d + 4) 68 (.agg #[.int .i64 a, .int .i64 b]) (.agg #[.int .i64 c, .int .i64 f])).run Tryd.prog w = .ok (eqP (a, b) (c, f)) w := by
  rw [run_equalIn_agg w (d + 3) 68 _ _ (by kernel_rfl) (by kernel_rfl)]
  go_simp
  by_cases h1 : a = c <;> by_cases h2 : b = f <;> simp [eqP, h1, h2]
@[go_sem high] theorem Tryd.neq68 (w : World) (a b c f : Int) : (binOp .neq 68 (.agg #[.int .i64 a, .int .i64 b]) (.agg #[.int .i64 c, .int .i64 f])).run Tryd.prog w = .ok (.bool (!eqP (a, b) (c, f))) w := by
  rw [run_neq_struct, Tryd.eqIn68a w 9996 a b c f]; rfl

def pr (p : Sp) : List Value := [.int .i64 p.1, .int .i64 p.2]
def prs (xs : List Sp) : List Value := xs.flatMap pr
theorem prs_len (xs : List Sp) : (prs xs).length = xs.length * 2 := by
  induction xs with
  | nil => rfl
  | cons a r ih => show (pr a ++ prs r).length = _; rw [List.length_append, ih]; simp [pr]; omega
theorem prs_app (xs ys : List Sp) : prs (xs ++ ys) = prs xs ++ prs ys := by unfold prs; rw [List.flatMap_append]
theorem prs_at (xs : List Sp) (k j : Nat) (x : Sp) (hk : xs[k]? = some x) (hj : j < 2) : (prs xs)[k * 2 + j]? = (pr x)[j]? := by
  induction xs generalizing k with
  | nil => simp at hk
  | cons a r ih =>
    show (pr a ++ prs r)[k * 2 + j]? = _
    cases k with
    | zero =>
      simp at hk; subst hk
      rw [List.getElem?_append_left (by simp [pr]; omega)]; simp
    | succ k =>
      simp at hk
      rw [List.getElem?_append_right (by simp [pr]; omega)]
      have := ih k hk
      rw [← this]; congr 1; simp [pr]; omega
theorem prs_take {xs : List Sp} {k : Nat} {x : Sp} (h : xs[k]? = some x) : prs (xs.take (k + 1)) = prs (xs.take k) ++ [.int .i64 x.1, .int .i64 x.2] := by
  rw [take_succ_at h, prs_app]; rfl
theorem prs_snoc (xs : List Sp) (x : Sp) : prs (xs ++ [x]) = prs xs ++ [.int .i64 x.1, .int .i64 x.2] := by rw [prs_app]; rfl
/-- a slice that reads as a list of spans -/
def RdP (w : World) (v : Value) (xs : List Sp) : Prop :=
  ∃ a cap, v = .slice a xs.length cap ∧ xs.length ≤ cap ∧ cap ≤ 9223372036854775807 ∧
    (xs.length = 0 ∨ ∃ b off, a = some ⟨b, off, none⟩ ∧ b < w.heap.size ∧ ∀ j u, (prs xs)[j]? = some u → w.cell? ⟨b, off + j, none⟩ = some u)
theorem RdP.below {w w' : World} {v : Value} {xs : List Sp} (h : RdP w v xs) (hb : Below w.heap.size w w') : RdP w' v xs := by
  obtain ⟨a, cap, h2, h3, h4, h5⟩ := h
  refine ⟨a, cap, h2, h3, h4, ?_⟩
  rcases h5 with h5 | ⟨b, off, h5, h6, h7⟩
  · exact .inl h5
  · exact .inr ⟨b, off, h5, Nat.lt_of_lt_of_le h6 hb.size, fun j u hu => (hb.cell (p := ⟨b, off + j, none⟩) h6).trans (h7 j u hu)⟩
theorem RdP.none (w : World) : RdP w (.slice .none 0 0) [] := ⟨.none, 0, rfl, Nat.le_refl _, by omega, .inl rfl⟩
theorem RdP.open {w : World} {v : Value} {xs : List Sp} (h : RdP w v xs) : ∃ a cap, v = .slice a xs.length cap ∧ xs.length ≤ cap ∧ cap ≤ 9223372036854775807 ∧
    (∀ k x, xs[k]? = some x → ∃ b off, a = some ⟨b, off, .none⟩ ∧ b < w.heap.size ∧ w.cell? ⟨b, off + k * 2, .none⟩ = some (.int .i64 x.1) ∧ w.cell? ⟨b, off + k * 2 + 1, .none⟩ = some (.int .i64 x.2)) := by
  obtain ⟨a, cap, h2, h3, h4, h5⟩ := h
  refine ⟨a, cap, h2, h3, h4, fun k x hk => ?_⟩
  rcases h5 with h5 | ⟨b, off, h5, h6, h7⟩
  · have := (List.getElem?_eq_some_iff.1 hk).1; omega
  · refine ⟨b, off, h5, h6, ?_, ?_⟩
    · have := h7 (k * 2 + 0) _ (prs_at xs k 0 x hk (by omega)); exact this
    · have := h7 (k * 2 + 1) _ (prs_at xs k 1 x hk (by omega)); exact this
theorem RdP_of_owns {w : World} {base : Nat} {e : TypeId} {v : Value} {n : Nat} {xs : List Sp} (h : w.ownsRow base e 2 v n (prs xs)) : RdP w v xs := by
  have hl : xs.length = n := by have := h.1; rw [prs_len] at this; omega
  subst hl
  rcases h.2 with ⟨rfl, h0⟩ | ⟨g, cap, cur, rfl, hb, hg, hn, hc, hs, ht⟩
  · exact ⟨none, 0, by rw [h0], by omega, by omega, .inl h0⟩
  · refine ⟨_, cap, rfl, hn, by unfold maxLen at hc; omega, .inr ⟨g, 0, rfl, (Array.getElem?_eq_some_iff.1 hg).1, fun j u hu => ?_⟩⟩
    have := World.ownsRow.cells h (g := g) rfl j u hu
    have hadd : (⟨g, 0, none⟩ : Addr).add j = ⟨g, j, none⟩ := by unfold Addr.add; split <;> simp_all
    rw [hadd] at this
    rw [Nat.zero_add]; exact this
theorem RdP_block {W : World} {B : Nat} {cs : Array Value} {t : TypeId} {xs : List Sp} {n : Nat} (h : Boxs W B t cs) (hc : cs.toList = prs xs) (hn : xs.length = n) (hm : n ≤ 9223372036854775807) : RdP W (.slice (some ⟨B, 0, none⟩) n n) xs := by
  subst hn
  refine ⟨_, xs.length, rfl, Nat.le_refl _, hm, .inr ⟨B, 0, rfl, h.lt, fun j u hu => ?_⟩⟩
  rw [h.cell, Nat.zero_add, ← Array.getElem?_toList, hc]
  exact hu
theorem own_ne {w : World} {base : Nat} {e : TypeId} {sz : Nat} {v : Value} {n : Nat} {cs : List Value} (h : w.ownsRow base e sz v n cs) {b : Nat} (hb : b < base) : v.ownBlock ≠ some b := fun hh => by
  have := (h.lt b hh).1; omega
/-- what is read of an owned list of spans -/
theorem ownP_cell {w : World} {base : Nat} {e : TypeId} {xs : List Sp} {n g c k : Nat} {x : Sp} (h : w.ownsRow base e 2 (.slice (some ⟨g, 0, none⟩) n c) n (prs xs)) (hx : xs[k]? = some x) :
    w.cell? ⟨g, k * 2, none⟩ = some (.int .i64 x.1) ∧ w.cell? ⟨g, k * 2 + 1, none⟩ = some (.int .i64 x.2) := by
  have hadd : ∀ k, (⟨g, 0, none⟩ : Addr).add k = ⟨g, k, none⟩ := fun k => by unfold Addr.add; split <;> simp_all
  have h0 := World.ownsRow.cells h (g := g) rfl (k * 2 + 0) (.int .i64 x.1) ((prs_at xs k 0 x hx (by omega)).trans rfl)
  have h1 := World.ownsRow.cells h (g := g) rfl (k * 2 + 1) (.int .i64 x.2) ((prs_at xs k 1 x hx (by omega)).trans rfl)
  rw [hadd] at h0 h1
  exact ⟨h0, h1⟩
theorem ret_ex {P : Value → Prop} {v : Value} (h : P v) : ∃ v', Ending.returned v = .returned v' ∧ P v' := ⟨v, rfl, h⟩

set_option maxRecDepth 100000 in
set_option maxHeartbeats 1600000 in
theorem model_any (v1 : Value) (xs : List Sp) (w : World) (h1 : RdP w v1 xs) (hn : xs.length ≤ 1000000) :
    Calls Tryd.prog 26 #[v1] w fun e w' => ∃ v, e = .returned v ∧ w'.ownsRow w.heap.size 68 2 v xs.length (prs xs) ∧ Below w.heap.size w w' := by
  obtain ⟨a1, c1, rfl, l1, l2, f1⟩ := h1.open
  clear h1
  have F1 := Lib.hid f1; clear f1
  obtain ⟨i0, hi0, hz0, hz1, hz2⟩ := info_parts Tryd.info68
  have HI := Lib.hid hi0; have HZ0 := Lib.hid hz0; have HZ1 := Lib.hid hz1; have HZ2 := Lib.hid hz2
  clear hi0 hz0 hz1 hz2
  go_enter Tryd.func26, Tryd.ntmps26
  go_wp2
  go_loopw [3, 4] (fun v i wr => ∃ k : Nat, k ≤ xs.length ∧ i = .int .i64 k ∧ wr.ownsRow w.heap.size 68 2 v k (prs (xs.take k)) ∧ Below w.heap.size w wr) (fun _ i _ => xs.length - (intOf i).toNat)
  case atStart => exact ⟨0, Nat.zero_le _, rfl, by simpa [prs] using World.ownsRow_nil w _ _ _, Below.refl _ _⟩
  case round =>
    obtain ⟨k, hk, rfl, hown, hbl⟩ := hrel
    by_cases hlt : k < xs.length
    · obtain ⟨⟨x0, x1⟩, hx⟩ := elem_at hlt
      obtain ⟨b1, o1, rfl, hb1, q0, q1⟩ := F1.out k _ hx
      have g0 := (hbl.cell (p := ⟨b1, o1 + k * 2, none⟩) hb1).trans q0
      have g1 := (hbl.cell (p := ⟨b1, o1 + k * 2 + 1, none⟩) hb1).trans q1
      dsimp only at g0 g1
      have hbsz := hbl.size
      have hbr : b1 < wr.heap.size := by omega
      have ag := own_ne hown hb1
      have HX := Lib.hid hx; have HO := Lib.hid hown; have HB := Lib.hid hbl
      clear hx hown hbl q0 q1
      have hk0 : (0 : Int) ≤ (k : Int) := Int.natCast_nonneg _
      have hk1 : (k : Int) < (xs.length : Int) := by omega
      go_wp2_with fail
      go_region_held3 (fun w' => w'.cell? ⟨b1, o1 + k * 2, none⟩ = some (.int .i64 x0) ∧ w'.cell? ⟨b1, o1 + k * 2 + 1, none⟩ = some (.int .i64 x1))
        (first
          | go_keep
          | (go_split_ands
             refine ⟨?_, ?_⟩ <;> (rw [hgrow.cell_far _ (by simp; omega) (Ne.symm ag)]; assumption)))
        ((refine step_append_lies _ (by rfl) _ _ _ (by rfl) w.heap.size 68 i0 _ 2 16 Tryd.underlying28 HI.out HZ0.out HZ1.out HZ2.out rfl (by omega) _ k (prs (xs.take k)) (by rfl) ((HO.out.alloc _).drew)
            ⟨wr.heap.size, 0, none⟩ 1 1 [.int .i64 x0, .int .i64 x1] (by rfl) (by rfl) (World.news_of_block (cs := #[.int .i64 x0, .int .i64 x1]) (t := 68) (fr := (0, 0)) (heap_alloc_new wr _)) (by simp [Value.oneCell'])
            (by omega) (by unfold maxLen; omega) (by omega) (by simp; omega) (wr.heap.size + 1) (by simp) ?_; intro gg cap w1 hown1 hgrow hat hltg))
      have hT : prs (xs.take (k + 1)) = prs (xs.take k) ++ [.int .i64 x0, .int .i64 x1] := prs_take HX.out
      have HT := Lib.hid hT; clear hT
      go_wp2
      go_roundw
      case rel => exact ⟨k + 1, by omega, by go_num, by rw [HT.out]; exact hown1, ((HB.out.alloc hbsz _).drew).grown hgrow (by simp; omega) (fun j e => (HO.out.lt j e).1)⟩
      case measure => simp [intOf]; omega
    · have he : k = xs.length := by omega
      subst he
      have HO := Lib.hid hown; clear hown
      go_wp2
      go_ret
      exact ⟨_, rfl, by have := HO.out; rwa [List.take_length] at this, by assumption⟩

set_option maxRecDepth 100000 in
set_option maxHeartbeats 1600000 in
theorem own_any (v1 : Value) (xs : List Sp) (w : World) (h1 : RdP w v1 xs) (hn : xs.length ≤ 1000000) :
    Calls Tryd.prog 18 #[v1] w fun e w' => ∃ v, e = .returned v ∧ w'.ownsRow w.heap.size 81 2 v xs.length (prs xs) ∧ Below w.heap.size w w' := by
  obtain ⟨a1, c1, rfl, l1, l2, f1⟩ := h1.open
  clear h1
  have F1 := Lib.hid f1; clear f1
  obtain ⟨i0, hi0, hz0, hz1, hz2⟩ := info_parts Tryd.info81
  have HI := Lib.hid hi0; have HZ0 := Lib.hid hz0; have HZ1 := Lib.hid hz1; have HZ2 := Lib.hid hz2
  clear hi0 hz0 hz1 hz2
  go_enter Tryd.func18, Tryd.ntmps18
  go_wp2
  go_loopw [3, 4] (fun v i wr => ∃ k : Nat, k ≤ xs.length ∧ i = .int .i64 k ∧ wr.ownsRow w.heap.size 81 2 v k (prs (xs.take k)) ∧ Below w.heap.size w wr) (fun _ i _ => xs.length - (intOf i).toNat)
  case atStart => exact ⟨0, Nat.zero_le _, rfl, by simpa [prs] using World.ownsRow_nil w _ _ _, Below.refl _ _⟩
  case round =>
    obtain ⟨k, hk, rfl, hown, hbl⟩ := hrel
    by_cases hlt : k < xs.length
    · obtain ⟨⟨x0, x1⟩, hx⟩ := elem_at hlt
      obtain ⟨b1, o1, rfl, hb1, q0, q1⟩ := F1.out k _ hx
      have g0 := (hbl.cell (p := ⟨b1, o1 + k * 2, none⟩) hb1).trans q0
      have g1 := (hbl.cell (p := ⟨b1, o1 + k * 2 + 1, none⟩) hb1).trans q1
      dsimp only at g0 g1
      have hbsz := hbl.size
      have hbr : b1 < wr.heap.size := by omega
      have ag := own_ne hown hb1
      have HX := Lib.hid hx; have HO := Lib.hid hown; have HB := Lib.hid hbl
      clear hx hown hbl q0 q1
      have hk0 : (0 : Int) ≤ (k : Int) := Int.natCast_nonneg _
      have hk1 : (k : Int) < (xs.length : Int) := by omega
      go_wp2_with fail
      go_region_held3 (fun w' => w'.cell? ⟨b1, o1 + k * 2, none⟩ = some (.int .i64 x0) ∧ w'.cell? ⟨b1, o1 + k * 2 + 1, none⟩ = some (.int .i64 x1))
        (first
          | go_keep
          | (go_split_ands
             refine ⟨?_, ?_⟩ <;> (rw [hgrow.cell_far _ (by simp; omega) (Ne.symm ag)]; assumption)))
        ((refine step_append_lies _ (by rfl) _ _ _ (by rfl) w.heap.size 81 i0 _ 2 16 Tryd.underlying38 HI.out HZ0.out HZ1.out HZ2.out rfl (by omega) _ k (prs (xs.take k)) (by rfl) ((HO.out.alloc _).drew)
            ⟨wr.heap.size, 0, none⟩ 1 1 [.int .i64 x0, .int .i64 x1] (by rfl) (by rfl) (World.news_of_block (cs := #[.int .i64 x0, .int .i64 x1]) (t := 81) (fr := (0, 0)) (heap_alloc_new wr _)) (by simp [Value.oneCell'])
            (by omega) (by unfold maxLen; omega) (by omega) (by simp; omega) (wr.heap.size + 1) (by simp) ?_; intro gg cap w1 hown1 hgrow hat hltg))
      have hT : prs (xs.take (k + 1)) = prs (xs.take k) ++ [.int .i64 x0, .int .i64 x1] := prs_take HX.out
      have HT := Lib.hid hT; clear hT
      go_wp2
      go_roundw
      case rel => exact ⟨k + 1, by omega, by go_num, by rw [HT.out]; exact hown1, ((HB.out.alloc hbsz _).drew).grown hgrow (by simp; omega) (fun j e => (HO.out.lt j e).1)⟩
      case measure => simp [intOf]; omega
    · have he : k = xs.length := by omega
      subst he
      have HO := Lib.hid hown; clear hown
      go_wp2
      go_ret
      exact ⟨_, rfl, by have := HO.out; rwa [List.take_length] at this, by assumption⟩

set_option maxHeartbeats 800000 in
theorem same_any (v1 v2 : Value) (xs ys : List Sp) (w : World) (h1 : RdP w v1 xs) (h2 : RdP w v2 ys) :
    Calls Tryd.prog 25 #[v1, v2] w fun e w' => e = .returned (.bool (decide (xs = ys))) ∧ Below w.heap.size w w' := by
  obtain ⟨a1, c1, rfl, l1, l1', f1⟩ := h1.open
  obtain ⟨a2, c2, rfl, l2, l2', f2⟩ := h2.open
  clear h1 h2
  by_cases hl : xs.length = ys.length
  · have hl' : (((xs.length : Nat) : Int) != ((ys.length : Nat) : Int)) = false := by rw [hl]; simp
    have HL := Lib.hid hl; clear hl
    have F1 := Lib.hid f1; have F2 := Lib.hid f2; clear f1 f2
    go_enter Tryd.func25, Tryd.ntmps25
    go_wp2
    go_loopw [5] (fun i wr => ∃ k : Nat, k ≤ xs.length ∧ i = .int .i64 k ∧ xs.take k = ys.take k ∧ ∃ nq, wr = w.drewN nq) (fun i _ => xs.length - (intOf i).toNat)
    case atStart => exact ⟨0, Nat.zero_le _, rfl, by simp, 0, rfl⟩
    case round =>
      obtain ⟨k, hk, rfl, he, nq, rfl⟩ := hrel
      have HE := Lib.hid he; clear he
      by_cases hlt : k < xs.length
      · obtain ⟨⟨x, x'⟩, hx⟩ := elem_at hlt
        obtain ⟨⟨y, y'⟩, hy⟩ := elem_at (show k < ys.length by rw [← HL.out]; exact hlt)
        obtain ⟨b1, o1, rfl, _, g1, g1'⟩ := F1.out k _ hx
        obtain ⟨b2, o2, rfl, _, g2, g2'⟩ := F2.out k _ hy
        dsimp only at g1 g1' g2 g2'
        have hlt2 : k < ys.length := by rw [← HL.out]; exact hlt
        have HX := Lib.hid hx; have HY := Lib.hid hy; clear hx hy
        by_cases hxy : (x, x') = (y, y')
        · cases hxy
          have hs := eqP_self (x, x')
          go_wp2
          go_quiet (fail)
          go_wp2
          go_roundw
          case rel => exact ⟨k + 1, by omega, by go_num, take_same HE.out HX.out HY.out, _, rfl⟩
          case measure => simp [intOf]; omega
        · have hxy' := eqP_ne hxy
          have hr : decide (xs = ys) = false := decide_eq_false (ne_at HX.out HY.out hxy)
          have HR := Lib.hid hr; clear hr hxy
          go_wp2
          go_quiet (fail)
          go_wp2
          go_ret
          exact ⟨ret_bool (by rw [HR.out]), by repeat (first | exact Below.refl _ _ | refine Below.dn ?_ _)⟩
      · have hr : decide (xs = ys) = true := decide_eq_true (take_all HE.out (by omega) (by rw [← HL.out]; omega))
        have HR := Lib.hid hr; clear hr
        go_wp2
        go_ret
        exact ⟨ret_bool (by rw [HR.out]), by repeat (first | exact Below.refl _ _ | refine Below.dn ?_ _)⟩
  · have hl' : (((xs.length : Nat) : Int) != ((ys.length : Nat) : Int)) = true := by simp; omega
    have hr : decide (xs = ys) = false := decide_eq_false (fun e => hl (by rw [e]))
    have HR := Lib.hid hr; clear hr
    clear hl f1 f2
    go_enter Tryd.func25, Tryd.ntmps25
    go_wp2
    go_ret
    exact ⟨ret_bool (by rw [HR.out]), by repeat (first | exact Below.refl _ _ | refine Below.dn ?_ _)⟩

set_option maxHeartbeats 800000 in
theorem equal_any (v1 v2 : Value) (xs ys : List Sp) (w : World) (h1 : RdP w v1 xs) (h2 : RdP w v2 ys) :
    Calls Tryd.prog 43 #[v1, v2] w fun e w' => e = .returned (.bool (decide (xs = ys))) ∧ Below w.heap.size w w' := by
  obtain ⟨a1, c1, rfl, l1, l1', f1⟩ := h1.open
  obtain ⟨a2, c2, rfl, l2, l2', f2⟩ := h2.open
  clear h1 h2
  by_cases hl : xs.length = ys.length
  · have hl' : (((xs.length : Nat) : Int) != ((ys.length : Nat) : Int)) = false := by rw [hl]; simp
    have HL := Lib.hid hl; clear hl
    have F1 := Lib.hid f1; have F2 := Lib.hid f2; clear f1 f2
    go_enter Tryd.func43, Tryd.ntmps43
    go_wp2
    go_loopw [13] (fun i wr => ∃ k : Nat, k ≤ xs.length ∧ i = .int .i64 k ∧ xs.take k = ys.take k ∧ ∃ nq, wr = w.drewN nq) (fun i _ => xs.length - (intOf i).toNat)
    case atStart => exact ⟨0, Nat.zero_le _, rfl, by simp, 0, rfl⟩
    case round =>
      obtain ⟨k, hk, rfl, he, nq, rfl⟩ := hrel
      have HE := Lib.hid he; clear he
      by_cases hlt : k < xs.length
      · obtain ⟨⟨x, x'⟩, hx⟩ := elem_at hlt
        obtain ⟨⟨y, y'⟩, hy⟩ := elem_at (show k < ys.length by rw [← HL.out]; exact hlt)
        obtain ⟨b1, o1, rfl, _, g1, g1'⟩ := F1.out k _ hx
        obtain ⟨b2, o2, rfl, _, g2, g2'⟩ := F2.out k _ hy
        dsimp only at g1 g1' g2 g2'
        have hlt2 : k < ys.length := by rw [← HL.out]; exact hlt
        have HX := Lib.hid hx; have HY := Lib.hid hy; clear hx hy
        by_cases hxy : (x, x') = (y, y')
        · cases hxy
          have hs := eqP_self (x, x')
          go_wp2
          go_quiet (fail)
          go_wp2
          go_roundw
          case rel => exact ⟨k + 1, by omega, by go_num, take_same HE.out HX.out HY.out, _, rfl⟩
          case measure => simp [intOf]; omega
        · have hxy' := eqP_ne hxy
          have hr : decide (xs = ys) = false := decide_eq_false (ne_at HX.out HY.out hxy)
          have HR := Lib.hid hr; clear hr hxy
          go_wp2
          go_quiet (fail)
          go_wp2
          go_ret
          exact ⟨ret_bool (by rw [HR.out]), by repeat (first | exact Below.refl _ _ | refine Below.dn ?_ _)⟩
      · have hr : decide (xs = ys) = true := decide_eq_true (take_all HE.out (by omega) (by rw [← HL.out]; omega))
        have HR := Lib.hid hr; clear hr
        go_wp2
        go_ret
        exact ⟨ret_bool (by rw [HR.out]), by repeat (first | exact Below.refl _ _ | refine Below.dn ?_ _)⟩
  · have hl' : (((xs.length : Nat) : Int) != ((ys.length : Nat) : Int)) = true := by simp; omega
    have hr : decide (xs = ys) = false := decide_eq_false (fun e => hl (by rw [e]))
    have HR := Lib.hid hr; clear hr
    clear hl f1 f2
    go_enter Tryd.func43, Tryd.ntmps43
    go_wp2
    go_ret
    exact ⟨ret_bool (by rw [HR.out]), by repeat (first | exact Below.refl _ _ | refine Below.dn ?_ _)⟩
end Go.Proofs.YtecdkpcapalifaaDoor

namespace Go.Proofs.YtecdkpcapalifaaDoor
open Go.RowKit Go.Maps

theorem bs_append (a b : List UInt8) : bs a ++ bs b = bs (a ++ b) := by
  apply ByteArray.ext; simp [bs, ByteArray.data_append]
theorem bs_size (a : List UInt8) : (bs a).size = a.length := by simp [bs, ByteArray.size]
theorem bs_extract (l : List UInt8) (i j : Nat) : (bs l).extract i j = bs ((l.drop i).take (j - i)) := by
  apply ByteArray.ext; simp [bs, ByteArray.data_extract]

theorem nums_bs (l : List Int) (L : List UInt8) (h : l.map (fun n => UInt8.ofNat n.toNat) = L) : strOfNums l = bs L := by subst h; unfold strOfNums bs; rfl
theorem dg_eq {n m : Int} (h : n % 10 = m % 10) : dg n = dg m := by unfold dg; rw [h]
theorem dg_num (n : Int) : UInt8.ofNat (48 + n % 10).toNat = dg n := by unfold dg; congr 1; omega
theorem Tryd.under114 : Tryd.prog.underlying 114 = some (.slice 5) := by kernel_rfl
theorem Tryd.under5 : Tryd.prog.underlying 5 = some (.int .u8) := by kernel_rfl
theorem Tryd.under9 : Tryd.prog.underlying 9 = some .string := by kernel_rfl

set_option maxRecDepth 100000 in
set_option maxHeartbeats 1000000 in
theorem text_any1 (n : Int) (w : World) (h0 : 0 ≤ n) (h1 : n < 10) : Calls Tryd.prog 75 #[.int .i64 n] w fun e w' => e = .returned (.string (bs (textL n))) ∧ Below w.heap.size w w' := by
  have q0 : ¬ (0 < n / 10) := by omega
  have bB := Boxs.new w 125 #[.int .u8 0, .int .u8 0, .int .u8 (48 + n % 10)]
  have HC := run_convert_bytes_arg (P := Tryd.prog) (w.alloc (.cells #[.int .u8 0, .int .u8 0, .int .u8 (48 + n % 10)] 125)) 114 5 Tryd.under114 Tryd.under5 w.heap.size 2 1 1 [48 + n % 10] rfl
    (by intro i hi
        rw [bB.cell]
        rcases i with _ | _ | _ | i <;> first | rfl | (simp at hi) | omega) 9 Tryd.under9
  rw [nums_bs _ (textL n) (by rw [textL_1 h1]; simp only [List.map, dg_num])] at HC
  clear bB
  go_enter Tryd.func75, Tryd.ntmps75
  go_wp2
  refine wp_loop_rounds 2 ?_
  rw [rounds_succ]
  go_wp2
  rw [rounds_succ]
  go_wp2
  go_ret
  exact ⟨rfl, (Below.refl _ w).alloc (Nat.le_refl _) _⟩

set_option maxRecDepth 100000 in
set_option maxHeartbeats 1000000 in
theorem text_any2 (n : Int) (w : World) (h0 : 10 ≤ n) (h1 : n < 100) : Calls Tryd.prog 75 #[.int .i64 n] w fun e w' => e = .returned (.string (bs (textL n))) ∧ Below w.heap.size w w' := by
  have q0 : 0 < n / 10 := by omega
  have q1 : ¬ (0 < n / 10 / 10) := by omega
  have bB := Boxs.new w 125 #[.int .u8 0, .int .u8 (48 + n / 10 % 10), .int .u8 (48 + n % 10)]
  have HC := run_convert_bytes_arg (P := Tryd.prog) (w.alloc (.cells #[.int .u8 0, .int .u8 (48 + n / 10 % 10), .int .u8 (48 + n % 10)] 125)) 114 5 Tryd.under114 Tryd.under5 w.heap.size 1 2 2 [48 + n / 10 % 10, 48 + n % 10] rfl
    (by intro i hi
        rw [bB.cell]
        rcases i with _ | _ | _ | i <;> first | rfl | (simp at hi) | omega) 9 Tryd.under9
  rw [nums_bs _ (textL n) (by rw [textL_2 h0 h1]; simp only [List.map, dg_num])] at HC
  clear bB
  go_enter Tryd.func75, Tryd.ntmps75
  go_wp2
  refine wp_loop_rounds 3 ?_
  rw [rounds_succ]
  go_wp2
  rw [rounds_succ]
  go_wp2
  rw [rounds_succ]
  go_wp2
  go_ret
  exact ⟨rfl, (Below.refl _ w).alloc (Nat.le_refl _) _⟩

set_option maxRecDepth 100000 in
set_option maxHeartbeats 1000000 in
theorem text_any3 (n : Int) (w : World) (h0 : 100 ≤ n) (h1 : n < 1000) : Calls Tryd.prog 75 #[.int .i64 n] w fun e w' => e = .returned (.string (bs (textL n))) ∧ Below w.heap.size w w' := by
  have q0 : 0 < n / 10 := by omega
  have q1 : 0 < n / 10 / 10 := by omega
  have q2 : ¬ (0 < n / 10 / 10 / 10) := by omega
  have bB := Boxs.new w 125 #[.int .u8 (48 + n / 10 / 10 % 10), .int .u8 (48 + n / 10 % 10), .int .u8 (48 + n % 10)]
  have HC := run_convert_bytes_arg (P := Tryd.prog) (w.alloc (.cells #[.int .u8 (48 + n / 10 / 10 % 10), .int .u8 (48 + n / 10 % 10), .int .u8 (48 + n % 10)] 125)) 114 5 Tryd.under114 Tryd.under5 w.heap.size 0 3 3 [48 + n / 10 / 10 % 10, 48 + n / 10 % 10, 48 + n % 10] rfl
    (by intro i hi
        rw [bB.cell]
        rcases i with _ | _ | _ | i <;> first | rfl | (simp at hi) | omega) 9 Tryd.under9
  rw [nums_bs _ (textL n) (by rw [textL_3 h0]; simp only [List.map, dg_num]; rw [dg_eq (n := n / 10 / 10) (m := n / 100) (by omega)])] at HC
  clear bB
  go_enter Tryd.func75, Tryd.ntmps75
  go_wp2
  refine wp_loop_rounds 4 ?_
  rw [rounds_succ]
  go_wp2
  rw [rounds_succ]
  go_wp2
  rw [rounds_succ]
  go_wp2
  rw [rounds_succ]
  go_wp2
  go_ret
  exact ⟨rfl, (Below.refl _ w).alloc (Nat.le_refl _) _⟩

theorem text_any (n : Int) (w : World) (h0 : 0 ≤ n) (h1 : n ≤ 999) : Calls Tryd.prog 75 #[.int .i64 n] w fun e w' => e = .returned (.string (bs (textL n))) ∧ Below w.heap.size w w' := by
  by_cases h2 : n < 10
  · exact text_any1 n w h0 h2
  · by_cases h3 : n < 100
    · exact text_any2 n w (by omega) h3
    · exact text_any3 n w (by omega) (by omega)

/-! the reference -/
def digitsB : ByteArray := { data := #[48, 49, 50, 51, 52, 53, 54, 55, 56, 57] }
theorem digitsB_ext (n : Int) (_ : 0 ≤ n) : digitsB.extract (n % 10).toNat (n % 10 + 1).toNat = bs [dg n] := by
  have : ∀ j : Fin 10, (digitsB.extract j.val (j.val + 1)).data.toList = (bs [UInt8.ofNat (48 + j.val)]).data.toList := by decide
  have h := this ⟨(n % 10).toNat, by omega⟩
  simp only at h
  rw [show (n % 10 + 1).toNat = (n % 10).toNat + 1 by omega]
  exact ByteArray.ext (Array.toList_inj.1 h)

set_option maxRecDepth 100000 in
set_option maxHeartbeats 1000000 in
theorem rtext_any1 (n : Int) (w : World) (h0 : 0 ≤ n) (h1 : n < 10) : Calls Tryd.prog 65 #[.int .i64 n] w fun e w' => e = .returned (.string (bs (textL n))) ∧ Below w.heap.size w w' := by
  have q0 : ¬ (9 < n) := by omega
  have p0 : 0 ≤ n % 10 ∧ n % 10 < 10 := by omega
  have r0 := p0.1
  have s0 := p0.2
  clear p0
  have u0 : 0 ≤ n % 10 + 1 := by omega
  have v0 : n % 10 ≤ n % 10 + 1 := by omega
  have x0 : n % 10 + 1 ≤ 10 := by omega
  go_enter Tryd.func65, Tryd.ntmps65
  go_wp2
  refine wp_loop_rounds 1 ?_
  rw [rounds_succ]
  go_wp2
  go_ret
  exact ⟨ret_str (by show digitsB.extract _ _ = _; rw [digitsB_ext n h0, textL_1 h1]), Below.refl _ _⟩

set_option maxRecDepth 100000 in
set_option maxHeartbeats 1000000 in
theorem rtext_any2 (n : Int) (w : World) (h0 : 10 ≤ n) (h1 : n < 100) : Calls Tryd.prog 65 #[.int .i64 n] w fun e w' => e = .returned (.string (bs (textL n))) ∧ Below w.heap.size w w' := by
  have q0 : 9 < n := by omega
  have q1 : ¬ (9 < n / 10) := by omega
  have p0 : 0 ≤ n % 10 ∧ n % 10 < 10 := by omega
  have r0 := p0.1
  have s0 := p0.2
  clear p0
  have u0 : 0 ≤ n % 10 + 1 := by omega
  have v0 : n % 10 ≤ n % 10 + 1 := by omega
  have x0 : n % 10 + 1 ≤ 10 := by omega
  have p1 : 0 ≤ n / 10 % 10 ∧ n / 10 % 10 < 10 := by omega
  have r1 := p1.1
  have s1 := p1.2
  clear p1
  have u1 : 0 ≤ n / 10 % 10 + 1 := by omega
  have v1 : n / 10 % 10 ≤ n / 10 % 10 + 1 := by omega
  have x1 : n / 10 % 10 + 1 ≤ 10 := by omega
  go_enter Tryd.func65, Tryd.ntmps65
  go_wp2
  refine wp_loop_rounds 2 ?_
  rw [rounds_succ]
  go_wp2
  rw [rounds_succ]
  go_wp2
  go_ret
  exact ⟨ret_str (by show digitsB.extract _ _ ++ digitsB.extract _ _ = _; rw [digitsB_ext n (by omega), digitsB_ext (n / 10) (by omega), textL_2 h0 h1, bs_append]; rfl), Below.refl _ _⟩

set_option maxRecDepth 100000 in
set_option maxHeartbeats 1000000 in
theorem rtext_any3 (n : Int) (w : World) (h0 : 100 ≤ n) (h1 : n < 1000) : Calls Tryd.prog 65 #[.int .i64 n] w fun e w' => e = .returned (.string (bs (textL n))) ∧ Below w.heap.size w w' := by
  have q0 : 9 < n := by omega
  have q1 : 9 < n / 10 := by omega
  have q2 : ¬ (9 < n / 10 / 10) := by omega
  have p0 : 0 ≤ n % 10 ∧ n % 10 < 10 := by omega
  have r0 := p0.1
  have s0 := p0.2
  clear p0
  have u0 : 0 ≤ n % 10 + 1 := by omega
  have v0 : n % 10 ≤ n % 10 + 1 := by omega
  have x0 : n % 10 + 1 ≤ 10 := by omega
  have p1 : 0 ≤ n / 10 % 10 ∧ n / 10 % 10 < 10 := by omega
  have r1 := p1.1
  have s1 := p1.2
  clear p1
  have u1 : 0 ≤ n / 10 % 10 + 1 := by omega
  have v1 : n / 10 % 10 ≤ n / 10 % 10 + 1 := by omega
  have x1 : n / 10 % 10 + 1 ≤ 10 := by omega
  have p2 : 0 ≤ n / 10 / 10 % 10 ∧ n / 10 / 10 % 10 < 10 := by omega
  have r2 := p2.1
  have s2 := p2.2
  clear p2
  have u2 : 0 ≤ n / 10 / 10 % 10 + 1 := by omega
  have v2 : n / 10 / 10 % 10 ≤ n / 10 / 10 % 10 + 1 := by omega
  have x2 : n / 10 / 10 % 10 + 1 ≤ 10 := by omega
  go_enter Tryd.func65, Tryd.ntmps65
  go_wp2
  refine wp_loop_rounds 3 ?_
  rw [rounds_succ]
  go_wp2
  rw [rounds_succ]
  go_wp2
  rw [rounds_succ]
  go_wp2
  go_ret
  exact ⟨ret_str (by show digitsB.extract _ _ ++ (digitsB.extract _ _ ++ digitsB.extract _ _) = _; rw [digitsB_ext n (by omega), digitsB_ext (n / 10) (by omega), digitsB_ext (n / 10 / 10) (by omega), textL_3 h0, bs_append, bs_append, dg_eq (n := n / 10 / 10) (m := n / 100) (by omega)]; rfl), Below.refl _ _⟩
theorem rtext_any (n : Int) (w : World) (h0 : 0 ≤ n) (h1 : n ≤ 999) : Calls Tryd.prog 65 #[.int .i64 n] w fun e w' => e = .returned (.string (bs (textL n))) ∧ Below w.heap.size w w' := by
  by_cases h2 : n < 10
  · exact rtext_any1 n w h0 h2
  · by_cases h3 : n < 100
    · exact rtext_any2 n w (by omega) h3
    · exact rtext_any3 n w (by omega) (by omega)
end Go.Proofs.YtecdkpcapalifaaDoor

namespace Go.Proofs.YtecdkpcapalifaaDoor
open Go.RowKit Go.Maps

theorem Boxs.below {W W' : World} {n B : Nat} {t : TypeId} {cs : Array Value} (h : Boxs W B t cs) (hb : Below n W W') (hn : B < n) : Boxs W' B t cs := (hb.block B hn).trans h
theorem cpre_le (a b : List UInt8) : cpre a b ≤ a.length := by
  induction a generalizing b with
  | nil => simp [cpre]
  | cons x r ih => cases b with
    | nil => simp [cpre]
    | cons y q =>
      show (if x = y then 1 + cpre r q else 0) ≤ _
      have := ih q
      split <;> simp <;> omega
/-- how a walk finds what is left out -/
theorem strip_eq {keep : Int} {a b : List UInt8} {j : Nat} (hl : a.length = b.length) (hk : 1 ≤ keep) (hj : j = 0 ∨ (j : Int) + keep ≤ b.length)
    (hin : ∀ i, i < j → a[i]? = b[i]?) (hend : (b.length : Int) ≤ j + keep ∨ ∃ x y, a[j]? = some x ∧ b[j]? = some y ∧ x ≠ y) : stripN keep a b = j := by
  unfold stripN
  rw [if_pos hl]
  have key : ∀ (a b : List UInt8) (j : Nat), (∀ i, i < j → a[i]? = b[i]?) → j ≤ a.length → a.length = b.length → j ≤ cpre a b := by
    intro a
    induction a with
    | nil => intro b j _ h _; simp at h; omega
    | cons x r ih =>
      intro b j hin hja hab
      cases b with
      | nil => simp at hab
      | cons y q =>
        cases j with
        | zero => omega
        | succ j =>
          have h0 := hin 0 (by omega)
          simp at h0
          show j + 1 ≤ if x = y then 1 + cpre r q else 0
          rw [if_pos h0]
          have := ih q j (fun i hi => by simpa using hin (i + 1) (by omega)) (by simpa using hja) (by simpa using hab)
          omega
  have key2 : ∀ (a b : List UInt8) (j : Nat) (x y : UInt8), a[j]? = some x → b[j]? = some y → x ≠ y → cpre a b ≤ j := by
    intro a
    induction a with
    | nil => intro b j x y h; simp at h
    | cons u r ih =>
      intro b j x y hx hy hne
      cases b with
      | nil => simp at hy
      | cons v q =>
        show (if u = v then 1 + cpre r q else 0) ≤ j
        cases j with
        | zero => simp at hx hy; subst hx; subst hy; rw [if_neg hne]; omega
        | succ j =>
          split
          · have := ih q j x y (by simpa using hx) (by simpa using hy) hne; omega
          · omega
  have h1 := key a b j hin (by omega) hl
  rcases hend with h | ⟨x, y, hx, hy, hne⟩
  · omega
  · have := key2 a b j x y hx hy hne
    omega
theorem strip_ne {keep : Int} {a b : List UInt8} (hl : a.length ≠ b.length) : stripN keep a b = 0 := if_neg hl
theorem bs_get {l : List UInt8} {k : Nat} {x : UInt8} (h : l[k]? = some x) (hk : k < (bs l).size) : (bs l)[k] = x := by
  have h2 := (List.getElem?_eq_some_iff.1 h).2
  rw [← h2]; rfl

set_option maxRecDepth 100000 in
set_option maxHeartbeats 2000000 in
theorem between_any (k row pas a b : Int) (nx : Bool) (w : World) (hk : 1 ≤ k) (hk3 : k ≤ 3) (ha : 0 ≤ a) (ha' : a ≤ 999) (hb : 0 ≤ b) (hb' : b ≤ 999) :
    Calls Tryd.prog 62 #[.agg #[.int .i64 k, .bool nx, .int .i64 row, .int .i64 pas], .int .i64 a, .int .i64 b] w fun e w' => e = .returned (.string (bs (betweenL k a b))) ∧ Below w.heap.size w w' := by
  have bX := Boxs.new w 36 #[.int .i64 k, .bool nx, .int .i64 row, .int .i64 pas]
  have T1 := text_any a (w.alloc (.cells #[.int .i64 k, .bool nx, .int .i64 row, .int .i64 pas] 36)) ha ha'
  have hl1 := textL_len a
  have hl2 := textL_len b
  generalize hLa : textL a = La at T1 hl1
  generalize hLb : textL b = Lb at hl2
  have hbt : betweenL k a b = La ++ 45 :: Lb.drop (stripN k La Lb) := by unfold betweenL; rw [hLa, hLb]
  have HBT := Lib.hid hbt; clear hbt
  have HLB := Lib.hid hLb; clear hLb hLa
  generalize hSA : bs La = SA at T1
  have hSAs : SA.size = La.length := by rw [← hSA, bs_size]
  have HSA := Lib.hid hSA; clear hSA
  have zA : SA.size ≤ 3 := by omega
  have HSAS := Lib.hid hSAs; clear hSAs
  by_cases hl : La.length = Lb.length
  · have HL := Lib.hid hl; clear hl
    go_enter Tryd.func62, Tryd.ntmps62
    go_wp2_with fail
    refine T1.mono ?_
    rintro e w1 ⟨rfl, hb1⟩
    have T2 := text_any b w1 hb hb'
    rw [HLB.out] at T2
    generalize hSB : bs Lb = SB at T2
    have hSBs : SB.size = Lb.length := by rw [← hSB, bs_size]
    have HSB := Lib.hid hSB; clear hSB
    have zB : SB.size ≤ 3 := by omega
    have HSBS := Lib.hid hSBs; clear hSBs
    go_wp2_with fail
    refine T2.mono ?_
    rintro e w2 ⟨rfl, hb2⟩
    have bY := (bX.below hb1 (by simp)).below hb2 (by have := hb1.size; simp at this; omega)
    have c0 := bY.cell 0
    simp at c0
    have hts : (((SA.size : Nat) : Int) == ((SB.size : Nat) : Int)) = true := by rw [HSAS.out, HSBS.out, HL.out]; simp
    have HB := Lib.hid (((Below.refl w.heap.size w).alloc (Nat.le_refl _) _).trans ((hb1.mono (by simp)).trans (hb2.mono (by have := hb1.size; simp at this; omega))))
    clear hb1 hb2 bX bY
    go_wp2_with fail
    go_loopw [8, 9] (fun bv iv wr => ∃ j : Nat, (j = 0 ∨ (j : Int) + k ≤ Lb.length) ∧ (∀ i, i < j → La[i]? = Lb[i]?) ∧ iv = .int .i64 j ∧ bv = .string (bs (Lb.drop j)) ∧ ∃ nq, wr = w2.drewN nq) (fun _ iv _ => 4 - (intOf iv).toNat)
    case atStart => exact ⟨0, .inl rfl, fun i hi => absurd hi (by omega), rfl, by rw [List.drop_zero, HSB.out], 0, rfl⟩
    case round =>
      obtain ⟨j, hj, hin, rfl, rfl, nq, rfl⟩ := hrel
      generalize hS : bs (Lb.drop j) = S
      have hSs : S.size = Lb.length - j := by rw [← hS, bs_size, List.length_drop]
      have zS : S.size ≤ 3 := by omega
      have HS := Lib.hid hS; have HIN := Lib.hid hin; have HJ := Lib.hid hj
      clear hS hin hj
      by_cases hg : k < (S.size : Int)
      · obtain ⟨x, hx⟩ := elem_at (l := La) (k := j) (by rw [HL.out]; omega)
        obtain ⟨y, hy⟩ := elem_at (l := Lb) (k := j) (by omega)
        have i1 : j < SA.size := by rw [HSAS.out, HL.out]; omega
        have i2 : 0 < S.size := by omega
        have j4 : (j : Int) < 4 := by omega
        have hj1 : ((j + 1 : Nat) : Int) + k ≤ Lb.length := by omega
        have e1 : SA[j] = x := by
          have := HSA.out
          subst this
          exact bs_get hx _
        have e2 : S[0] = y := by
          have := HS.out
          subst this
          exact bs_get (by rw [List.getElem?_drop, Nat.add_zero]; exact hy) _
        have HX := Lib.hid hx; have HY := Lib.hid hy; have HSS := Lib.hid hSs
        clear hx hy hSs
        by_cases hxy : x = y
        · subst hxy
          go_wp2_with fail
          go_quiet (fail)
          go_wp2_with fail
          go_roundw
          case rel =>
            refine ⟨j + 1, .inr hj1, ?_, by go_num, ?_, _, rfl⟩
            · intro i hi
              rcases Nat.lt_or_ge i j with h | h
              · exact HIN.out i h
              · obtain rfl : i = j := by omega
                rw [HX.out, HY.out]
            · have := HS.out
              subst this
              rw [bs_size, bs_extract, List.take_of_length_le (by simp; omega), List.drop_drop]
          case measure => simp [intOf]; omega
        · have hxy' : ((x.toNat : Int) == (y.toNat : Int)) = false := by
            rw [beq_eq_false_iff_ne]; exact fun e => hxy (UInt8.toNat_inj.1 (by omega))
          have hst : stripN k La Lb = j := strip_eq HL.out hk HJ.out HIN.out (.inr ⟨x, y, HX.out, HY.out, hxy⟩)
          have HST := Lib.hid hst
          clear hst hxy
          go_wp2_with fail
          go_quiet (fail)
          go_wp2_with fail
          go_ret
          exact ⟨ret_str (by rw [HBT.out, HST.out, ← HSA.out, ← HS.out, show ({ data := #[45] } : ByteArray) = bs [45] from rfl, bs_append, bs_append, List.append_assoc]; rfl), by repeat (first | exact HB.out | refine Below.dn ?_ _)⟩
      · have hst : stripN k La Lb = j := strip_eq HL.out hk HJ.out HIN.out (.inl (by omega))
        have hd : decide (k < (S.size : Int)) = false := decide_eq_false hg
        have HSS := Lib.hid hSs
        clear hSs
        have HST := Lib.hid hst
        clear hst
        go_wp2_with fail
        go_quiet (fail)
        go_wp2_with fail
        go_ret
        exact ⟨ret_str (by rw [HBT.out, HST.out, ← HSA.out, ← HS.out, show ({ data := #[45] } : ByteArray) = bs [45] from rfl, bs_append, bs_append, List.append_assoc]; rfl), by repeat (first | exact HB.out | refine Below.dn ?_ _)⟩
  · have hst : stripN k La Lb = 0 := strip_ne hl
    have HST := Lib.hid hst; have HL := Lib.hid hl
    clear hl hst
    go_enter Tryd.func62, Tryd.ntmps62
    go_wp2_with fail
    refine T1.mono ?_
    rintro e w1 ⟨rfl, hb1⟩
    have T2 := text_any b w1 hb hb'
    rw [HLB.out] at T2
    generalize hSB : bs Lb = SB at T2
    have hSBs : SB.size = Lb.length := by rw [← hSB, bs_size]
    have HSB := Lib.hid hSB; clear hSB
    have zB : SB.size ≤ 3 := by omega
    have HSBS := Lib.hid hSBs; clear hSBs
    go_wp2_with fail
    refine T2.mono ?_
    rintro e w2 ⟨rfl, hb2⟩
    have hts : (((SA.size : Nat) : Int) == ((SB.size : Nat) : Int)) = false := by rw [HSAS.out, HSBS.out, beq_eq_false_iff_ne]; exact fun e => HL.out (by omega)
    have HB := Lib.hid (((Below.refl w.heap.size w).alloc (Nat.le_refl _) _).trans ((hb1.mono (by simp)).trans (hb2.mono (by have := hb1.size; simp at this; omega))))
    clear hb1 hb2
    go_wp2_with fail
    go_ret
    exact ⟨ret_str (by rw [HBT.out, HST.out, ← HSA.out, ← HSB.out, show ({ data := #[45] } : ByteArray) = bs [45] from rfl, bs_append, bs_append, List.append_assoc]; rfl), HB.out⟩
end Go.Proofs.YtecdkpcapalifaaDoor

namespace Go.Proofs.YtecdkpcapalifaaDoor
open Go.RowKit Go.Maps

set_option maxRecDepth 100000 in
set_option maxHeartbeats 2000000 in
theorem rbetween_any (k row pas a b : Int) (nx : Bool) (w : World) (hk : 1 ≤ k) (hk3 : k ≤ 3) (ha : 0 ≤ a) (ha' : a ≤ 999) (hb : 0 ≤ b) (hb' : b ≤ 999) :
    Calls Tryd.prog 46 #[.agg #[.int .i64 k, .bool nx, .int .i64 row, .int .i64 pas], .int .i64 a, .int .i64 b] w fun e w' => e = .returned (.string (bs (betweenL k a b))) ∧ Below w.heap.size w w' := by
  have bX := Boxs.new w 24 #[.int .i64 k, .bool nx, .int .i64 row, .int .i64 pas]
  have T1 := rtext_any a (w.alloc (.cells #[.int .i64 k, .bool nx, .int .i64 row, .int .i64 pas] 24)) ha ha'
  have hl1 := textL_len a
  have hl2 := textL_len b
  generalize hLa : textL a = La at T1 hl1
  generalize hLb : textL b = Lb at hl2
  have hbt : betweenL k a b = La ++ 45 :: Lb.drop (stripN k La Lb) := by unfold betweenL; rw [hLa, hLb]
  have HBT := Lib.hid hbt; clear hbt
  have HLB := Lib.hid hLb; clear hLb hLa
  generalize hSA : bs La = SA at T1
  have hSAs : SA.size = La.length := by rw [← hSA, bs_size]
  have HSA := Lib.hid hSA; clear hSA
  have zA : SA.size ≤ 3 := by omega
  have HSAS := Lib.hid hSAs; clear hSAs
  by_cases hl : La.length = Lb.length
  · have HL := Lib.hid hl; clear hl
    go_enter Tryd.func46, Tryd.ntmps46
    go_wp2_with fail
    refine T1.mono ?_
    rintro e w1 ⟨rfl, hb1⟩
    have T2 := rtext_any b w1 hb hb'
    rw [HLB.out] at T2
    generalize hSB : bs Lb = SB at T2
    have hSBs : SB.size = Lb.length := by rw [← hSB, bs_size]
    have HSB := Lib.hid hSB; clear hSB
    have zB : SB.size ≤ 3 := by omega
    have HSBS := Lib.hid hSBs; clear hSBs
    go_wp2_with fail
    refine T2.mono ?_
    rintro e w2 ⟨rfl, hb2⟩
    have bY := (bX.below hb1 (by simp)).below hb2 (by have := hb1.size; simp at this; omega)
    have c0 := bY.cell 0
    simp at c0
    have hts : (((SA.size : Nat) : Int) == ((SB.size : Nat) : Int)) = true := by rw [HSAS.out, HSBS.out, HL.out]; simp
    have HB := Lib.hid (((Below.refl w.heap.size w).alloc (Nat.le_refl _) _).trans ((hb1.mono (by simp)).trans (hb2.mono (by have := hb1.size; simp at this; omega))))
    clear hb1 hb2 bX bY
    go_wp2_with fail
    go_loopw [9] (fun iv wr => ∃ j : Nat, (j = 0 ∨ (j : Int) + k ≤ Lb.length) ∧ (∀ i, i < j → La[i]? = Lb[i]?) ∧ iv = .int .i64 j ∧ ∃ nq, wr = w2.drewN nq) (fun iv _ => 4 - (intOf iv).toNat)
    case atStart => exact ⟨0, .inl rfl, fun i hi => absurd hi (by omega), rfl, 0, rfl⟩
    case round =>
      obtain ⟨j, hj, hin, rfl, nq, rfl⟩ := hrel
      have hSBs := HSBS.out
      have j3 : j ≤ 3 := by omega
      have HIN := Lib.hid hin; have HJ := Lib.hid hj
      clear hin hj
      have hext : (SB.extract j SB.size) = bs (Lb.drop j) := by
        have := HSB.out
        subst this
        rw [bs_size, bs_extract, List.take_of_length_le (by simp)]
      have HEXT := Lib.hid hext
      have zE : (SB.extract j SB.size).size ≤ 3 := by rw [hext, bs_size, List.length_drop]; omega
      clear hext
      by_cases hg : (j : Int) < (SB.size : Int) - k
      · obtain ⟨x, hx⟩ := elem_at (l := La) (k := j) (by rw [HL.out]; omega)
        obtain ⟨y, hy⟩ := elem_at (l := Lb) (k := j) (by omega)
        have i1 : j < SA.size := by rw [HSAS.out, HL.out]; omega
        have i2 : j < SB.size := by omega
        have j4 : (j : Int) < 4 := by omega
        have hj1 : ((j + 1 : Nat) : Int) + k ≤ Lb.length := by omega
        have e1 : SA[j] = x := by
          have := HSA.out
          subst this
          exact bs_get hx _
        have e2 : SB[j] = y := by
          have := HSB.out
          subst this
          exact bs_get hy _
        have HX := Lib.hid hx; have HY := Lib.hid hy
        have hts' : (((SA.size : Nat) : Int) == ((SB.size : Nat) : Int)) = true := by rw [HSAS.out, HSBS.out, HL.out]; simp
        clear hx hy hSBs
        by_cases hxy : x = y
        · subst hxy
          go_wp2_with fail
          go_quiet (fail)
          go_wp2_with fail
          go_roundw
          case rel =>
            refine ⟨j + 1, .inr hj1, ?_, by go_num, _, rfl⟩
            intro i hi
            rcases Nat.lt_or_ge i j with h | h
            · exact HIN.out i h
            · obtain rfl : i = j := by omega
              rw [HX.out, HY.out]
          case measure => simp [intOf]; omega
        · have hxy' : ((x.toNat : Int) == (y.toNat : Int)) = false := by
            rw [beq_eq_false_iff_ne]; exact fun e => hxy (UInt8.toNat_inj.1 (by omega))
          have hst : stripN k La Lb = j := strip_eq HL.out hk HJ.out HIN.out (.inr ⟨x, y, HX.out, HY.out, hxy⟩)
          have HST := Lib.hid hst
          clear hst hxy
          go_wp2_with fail
          go_quiet (fail)
          go_wp2_with fail
          go_ret
          exact ⟨ret_str (by rw [HBT.out, HST.out, ← HSA.out, HEXT.out, show ({ data := #[45] } : ByteArray) = bs [45] from rfl, bs_append, bs_append, List.append_assoc]; rfl), by repeat (first | exact HB.out | refine Below.dn ?_ _)⟩
      · have hst : stripN k La Lb = j := strip_eq HL.out hk HJ.out HIN.out (.inl (by omega))
        have hd : decide ((j : Int) < (SB.size : Int) - k) = false := decide_eq_false hg
        have hjle : j ≤ SB.size := by have := HJ.out; omega
        clear hSBs
        have HST := Lib.hid hst
        clear hst
        go_wp2_with fail
        go_quiet (fail)
        go_wp2_with fail
        go_ret
        exact ⟨ret_str (by rw [HBT.out, HST.out, ← HSA.out, HEXT.out, show ({ data := #[45] } : ByteArray) = bs [45] from rfl, bs_append, bs_append, List.append_assoc]; rfl), by repeat (first | exact HB.out | refine Below.dn ?_ _)⟩
  · have hst : stripN k La Lb = 0 := strip_ne hl
    have HST := Lib.hid hst; have HL := Lib.hid hl
    clear hl hst
    go_enter Tryd.func46, Tryd.ntmps46
    go_wp2_with fail
    refine T1.mono ?_
    rintro e w1 ⟨rfl, hb1⟩
    have T2 := rtext_any b w1 hb hb'
    rw [HLB.out] at T2
    generalize hSB : bs Lb = SB at T2
    have hSBs : SB.size = Lb.length := by rw [← hSB, bs_size]
    have HSB := Lib.hid hSB; clear hSB
    have zB : SB.size ≤ 3 := by omega
    have HSBS := Lib.hid hSBs; clear hSBs
    go_wp2_with fail
    refine T2.mono ?_
    rintro e w2 ⟨rfl, hb2⟩
    have hts : (((SA.size : Nat) : Int) == ((SB.size : Nat) : Int)) = false := by rw [HSAS.out, HSBS.out, beq_eq_false_iff_ne]; exact fun e => HL.out (by omega)
    have HB := Lib.hid (((Below.refl w.heap.size w).alloc (Nat.le_refl _) _).trans ((hb1.mono (by simp)).trans (hb2.mono (by have := hb1.size; simp at this; omega))))
    have hext : (SB.extract 0 SB.size) = bs Lb := by
      have := HSB.out
      subst this
      rw [bs_size, bs_extract, List.drop_zero, List.take_of_length_le (by simp)]
    have HEXT := Lib.hid hext
    have zE : (SB.extract 0 SB.size).size ≤ 3 := by rw [hext, bs_size]; omega
    clear hext
    clear hb1 hb2
    go_wp2_with fail
    refine wp_loop_rounds 1 ?_
    rw [rounds_succ]
    go_wp2_with fail
    go_quiet (fail)
    go_wp2_with fail
    go_ret
    exact ⟨ret_str (by rw [HBT.out, HST.out, ← HSA.out, ← HSB.out, show ({ data := #[45] } : ByteArray) = bs [45] from rfl, bs_append, bs_append, List.append_assoc]; rfl), by repeat (first | exact HB.out | refine Below.dn ?_ _)⟩
end Go.Proofs.YtecdkpcapalifaaDoor

