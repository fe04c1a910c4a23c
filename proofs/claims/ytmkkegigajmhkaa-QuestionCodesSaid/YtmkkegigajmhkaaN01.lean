/- What a step keeps; slices that read as lists; Around, At, SameInts, SameTexts, Alphabet. At, SameInts. -/
import Derived.Test.YtmkkegigajmhkaaProg
import Derived.WalkKit
import Derived.WalkSpells
import Derived.WalkLawsBesides
import Derived.Handy
import Derived.Deep.QuietTactic
import Derived.BigQuiet
import Derived.Lib.Hide
import Derived.OwnWalk
import Derived.Below
import Derived.Maps.OwnOps
import Derived.Maps.AppendAt
import Derived.Deep.AppendLies
set_option linter.unusedVariables false
namespace Go.Proofs.Ytmkkegigajmhkaa
open Go.RowKit Go.Maps

theorem ret_int {k : IntKind} {a b : Int} (h : a = b) : Ending.returned (.int k a) = .returned (.int k b) := by rw [h]
theorem ret_bool {a b : Bool} (h : a = b) : Ending.returned (.bool a) = .returned (.bool b) := by rw [h]
theorem ret_str {a b : ByteArray} (h : a = b) : Ending.returned (.string a) = .returned (.string b) := by rw [h]
theorem Below.dn {B : Nat} {a w : World} (h : Below B a w) (n : Nat) : Below B a (w.drewN n) := ⟨h.os, h.tape, h.output, h.size, h.block⟩

/-- every block that was there is as it was, but for those of F -/
structure Keeps (F : Nat → Prop) (w w' : World) : Prop where
  os : w'.os = w.os
  tape : w'.tape = w.tape
  output : w'.output = w.output
  size : w.heap.size ≤ w'.heap.size
  block : ∀ b, b < w.heap.size → ¬ F b → w'.heap[b]? = w.heap[b]?
theorem Keeps.refl (F : Nat → Prop) (w : World) : Keeps F w w := ⟨rfl, rfl, rfl, Nat.le_refl _, fun _ _ _ => rfl⟩
theorem Keeps.trans {F : Nat → Prop} {a b c : World} (h : Keeps F a b) (k : Keeps F b c) : Keeps F a c :=
  ⟨k.os.trans h.os, k.tape.trans h.tape, k.output.trans h.output, Nat.le_trans h.size k.size, fun i hi hf => (k.block i (Nat.lt_of_lt_of_le hi h.size) hf).trans (h.block i hi hf)⟩
theorem Keeps.mono {F G : Nat → Prop} {a b : World} (h : Keeps F a b) (hFG : ∀ i, i < a.heap.size → F i → G i) : Keeps G a b :=
  ⟨h.os, h.tape, h.output, h.size, fun i hi hf => h.block i hi (fun hF => hf (hFG i hi hF))⟩
theorem Keeps.of_grown {F : Nat → Prop} {a b : World} {row : Option Nat} (h : a.grownBy b row) (hr : ∀ i, row = some i → F i) : Keeps F a b :=
  ⟨h.os, h.tape, h.output, h.size, fun i hi hf => h.block i hi (fun e => hf (hr i e.symm))⟩
theorem Keeps.of_below {F : Nat → Prop} {a b : World} (h : Below a.heap.size a b) : Keeps F a b :=
  ⟨h.os, h.tape, h.output, h.size, fun i hi _ => h.block i hi⟩
theorem Keeps.below {F : Nat → Prop} {a b : World} {n : Nat} (h : Keeps F a b) (hn : n ≤ a.heap.size) (hF : ∀ i, i < a.heap.size → F i → n ≤ i) : Below n a b :=
  ⟨h.os, h.tape, h.output, h.size, fun i hi => h.block i (by omega) (fun hf => by have := hF i (by omega) hf; omega)⟩
theorem Keeps.setCell {F : Nat → Prop} {a b : World} (h : Keeps F a b) {p : Addr} (hp : F p.block) (v : Value) : Keeps F a (b.setCell p v) :=
  ⟨h.os, h.tape, h.output, by simpa using h.size, fun i hi hf => (Below.heap_setCell _ _ _ _ (fun e => hf (by rw [e]; exact hp))).trans (h.block i hi hf)⟩
theorem Keeps.alloc {F : Nat → Prop} {a b : World} (h : Keeps F a b) (o : Obj) : Keeps F a (b.alloc o) :=
  ⟨h.os, h.tape, h.output, by have := h.size; simp; omega, fun i hi hf => (Below.heap_alloc _ _ _ (Nat.lt_of_lt_of_le hi h.size)).trans (h.block i hi hf)⟩
theorem Keeps.dn {F : Nat → Prop} {a b : World} (h : Keeps F a b) (n : Nat) : Keeps F a (b.drewN n) :=
  h.trans (Keeps.of_below (Below.dn (Below.refl _ _) n))
theorem Keeps.drew {F : Nat → Prop} {a b : World} (h : Keeps F a b) : Keeps F a b.drew := h.dn 1

/-- block B has the cells cs, of the type t -/
def Boxs (W : World) (B : Nat) (t : TypeId) (cs : Array Value) : Prop := W.heap[B]? = some (.cells cs t (0, 0))
theorem Boxs.lt {W : World} {B : Nat} {t : TypeId} {cs : Array Value} (h : Boxs W B t cs) : B < W.heap.size := (Array.getElem?_eq_some_iff.1 h).1
theorem Boxs.cell {W : World} {B : Nat} {t : TypeId} {cs : Array Value} (h : Boxs W B t cs) (o : Nat) : W.cell? ⟨B, o, none⟩ = cs[o]? := by simp [World.cell?, show W.heap[B]? = _ from h]
theorem Boxs.frozen {W : World} {B : Nat} {t : TypeId} {cs : Array Value} (h : Boxs W B t cs) (o : Nat) : W.frozen? ⟨B, o, none⟩ = false := by simp [World.frozen?, show W.heap[B]? = _ from h]
theorem Boxs.new (W : World) (t : TypeId) (cs : Array Value) : Boxs (W.alloc (.cells cs t)) W.heap.size t cs := heap_alloc_new W _
theorem Boxs.keeps {W W' : World} {F : Nat → Prop} {B : Nat} {t : TypeId} {cs : Array Value} (h : Boxs W B t cs) (hk : Keeps F W W') (hB : ¬ F B) : Boxs W' B t cs := (hk.block B h.lt hB).trans h
theorem Boxs.put {W : World} {B : Nat} {t : TypeId} {cs : Array Value} (h : Boxs W B t cs) (o : Nat) (u : Value) : Boxs (W.setCell ⟨B, o, none⟩ u) B t (cs.setIfInBounds o u) := by
  unfold Boxs at h ⊢
  simp [World.setCell, Array.getElem?_modify, h]

/-! ### slices that read as lists -/
def Rd (w : World) (v : Value) (cs : List Value) : Prop :=
  ∃ a cap, v = .slice a cs.length cap ∧ cs.length ≤ cap ∧ cap ≤ 9223372036854775807 ∧
    (cs.length = 0 ∨ ∃ b off, a = some ⟨b, off, none⟩ ∧ b < w.heap.size ∧ ∀ j u, cs[j]? = some u → w.cell? ⟨b, off + j, none⟩ = some u)
theorem Rd.below {w w' : World} {v : Value} {cs : List Value} (h : Rd w v cs) (hb : Below w.heap.size w w') : Rd w' v cs := by
  obtain ⟨a, cap, h2, h3, h4, h5⟩ := h
  refine ⟨a, cap, h2, h3, h4, ?_⟩
  rcases h5 with h5 | ⟨b, off, h5, h6, h7⟩
  · exact .inl h5
  · exact .inr ⟨b, off, h5, Nat.lt_of_lt_of_le h6 hb.size, fun j u hu => (hb.cell (p := ⟨b, off + j, none⟩) h6).trans (h7 j u hu)⟩
theorem Rd_of_owns {w : World} {base : Nat} {e : TypeId} {v : Value} {n : Nat} {cs : List Value} (h : w.ownsRow base e 1 v n cs) : Rd w v cs := by
  have hl : cs.length = n := by have := h.1; omega
  subst hl
  rcases h.2 with ⟨rfl, h0⟩ | ⟨g, cap, cur, rfl, hb, hg, hn, hc, hs, ht⟩
  · exact ⟨none, 0, by rw [h0], by omega, by omega, .inl h0⟩
  · refine ⟨_, cap, rfl, hn, by unfold maxLen at hc; omega, .inr ⟨g, 0, rfl, (Array.getElem?_eq_some_iff.1 hg).1, fun j u hu => ?_⟩⟩
    have := World.ownsRow.cells h (g := g) rfl j u hu
    have hadd : (⟨g, 0, none⟩ : Addr).add j = ⟨g, j, none⟩ := by unfold Addr.add; split <;> simp_all
    rw [hadd] at this
    rw [Nat.zero_add]; exact this
theorem Rd_block {W : World} {B : Nat} {cs : Array Value} {t : TypeId} {n : Nat} (h : Boxs W B t cs) (hn : cs.size = n) (hm : n ≤ 9223372036854775807) : Rd W (.slice (some ⟨B, 0, none⟩) n n) cs.toList := by
  subst hn
  refine ⟨_, cs.size, rfl, Nat.le_refl _, hm, .inr ⟨B, 0, rfl, h.lt, fun j u hu => ?_⟩⟩
  rw [h.cell, Nat.zero_add, ← Array.getElem?_toList]
  exact hu
def ints (xs : List Int) : List Value := xs.map (.int .i64)
def strs (l : List ByteArray) : List Value := l.map .string
theorem ints_len (xs : List Int) : (ints xs).length = xs.length := List.length_map ..
theorem strs_len (xs : List ByteArray) : (strs xs).length = xs.length := List.length_map ..
def RdI (w : World) (v : Value) (xs : List Int) : Prop := Rd w v (ints xs)
def RdS (w : World) (v : Value) (xs : List ByteArray) : Prop := Rd w v (strs xs)
theorem RdI.below {w w' : World} {v : Value} {xs : List Int} (h : RdI w v xs) (hb : Below w.heap.size w w') : RdI w' v xs := Rd.below h hb
theorem RdS.below {w w' : World} {v : Value} {xs : List ByteArray} (h : RdS w v xs) (hb : Below w.heap.size w w') : RdS w' v xs := Rd.below h hb
theorem RdI.none (w : World) : RdI w (.slice .none 0 0) [] := ⟨.none, 0, rfl, Nat.le_refl _, by omega, .inl rfl⟩
theorem RdS.none (w : World) : RdS w (.slice .none 0 0) [] := ⟨.none, 0, rfl, Nat.le_refl _, by omega, .inl rfl⟩
theorem RdI.open {w : World} {v : Value} {xs : List Int} (h : RdI w v xs) : ∃ a cap, v = .slice a xs.length cap ∧ xs.length ≤ 9223372036854775807 ∧
    (∀ k x, xs[k]? = some x → ∃ b off, a = some ⟨b, off, .none⟩ ∧ b < w.heap.size ∧ w.cell? ⟨b, off + k, .none⟩ = some (.int .i64 x)) := by
  obtain ⟨a, cap, h2, h3, h4, h5⟩ := h
  rw [ints_len] at h2 h3 h5
  refine ⟨a, cap, h2, by omega, fun k x hk => ?_⟩
  rcases h5 with h5 | ⟨b, off, h5, h6, h7⟩
  · have := (List.getElem?_eq_some_iff.1 hk).1; omega
  · exact ⟨b, off, h5, h6, h7 k _ (by simp [ints, hk])⟩
theorem RdS.open {w : World} {v : Value} {xs : List ByteArray} (h : RdS w v xs) : ∃ a cap, v = .slice a xs.length cap ∧ xs.length ≤ 9223372036854775807 ∧
    (∀ k x, xs[k]? = some x → ∃ b off, a = some ⟨b, off, .none⟩ ∧ b < w.heap.size ∧ w.cell? ⟨b, off + k, .none⟩ = some (.string x)) := by
  obtain ⟨a, cap, h2, h3, h4, h5⟩ := h
  rw [strs_len] at h2 h3 h5
  refine ⟨a, cap, h2, by omega, fun k x hk => ?_⟩
  rcases h5 with h5 | ⟨b, off, h5, h6, h7⟩
  · have := (List.getElem?_eq_some_iff.1 hk).1; omega
  · exact ⟨b, off, h5, h6, h7 k _ (by simp [strs, hk])⟩
theorem RdI.le {w : World} {v : Value} {xs : List Int} (h : RdI w v xs) : xs.length ≤ 9223372036854775807 := by
  obtain ⟨_, _, _, h, _⟩ := h.open; exact h

theorem take_succ_at {α : Type} {l : List α} {k : Nat} {x : α} (h : l[k]? = some x) : l.take (k + 1) = l.take k ++ [x] := by
  rw [List.take_add_one, h]; rfl
theorem elem_at {α : Type} {l : List α} {k : Nat} (h : k < l.length) : ∃ x, l[k]? = some x := ⟨_, List.getElem?_eq_getElem h⟩
theorem take_same {α : Type} {xs ys : List α} {k : Nat} {x : α} (h : xs.take k = ys.take k) (hx : xs[k]? = some x) (hy : ys[k]? = some x) : xs.take (k + 1) = ys.take (k + 1) := by
  rw [List.take_add_one, List.take_add_one, hx, hy, h]
theorem take_all {α : Type} {xs ys : List α} {k : Nat} (h : xs.take k = ys.take k) (hx : xs.length ≤ k) (hy : ys.length ≤ k) : xs = ys := by
  rw [List.take_of_length_le hx, List.take_of_length_le hy] at h; exact h
theorem ne_at {α : Type} {xs ys : List α} {k : Nat} {x y : α} (hx : xs[k]? = some x) (hy : ys[k]? = some y) (h : x ≠ y) : xs ≠ ys := by
  rintro rfl; rw [hx] at hy; exact h (Option.some.inj hy)
theorem bytes_ne {x y : ByteArray} (h : x ≠ y) : (x.toList == y.toList) = false := by
  refine beq_eq_false_iff_ne.2 fun e => h ?_
  rw [ByteArray.toList_eq, ByteArray.toList_eq] at e
  cases x; cases y
  exact congrArg ByteArray.mk (Array.toList_inj.1 e)

def around (n m : Int) : Int := (if n < 0 then -(n + 1) else n) % m
theorem around_bd (n m : Int) (hm : 0 < m) : 0 ≤ around n m ∧ around n m < m := by
  unfold around; exact ⟨Int.emod_nonneg _ (by omega), Int.emod_lt_of_pos _ hm⟩

set_option maxHeartbeats 400000 in
theorem around_any (n m : Int) (w : World) (hn : -9223372036854775808 ≤ n) (hn' : n ≤ 9223372036854775807) (hm : 0 < m) (hm' : m ≤ 1000000000) :
    Calls Try.prog 22 #[.int .i64 n, .int .i64 m] w fun e w' => e = .returned (.int .i64 (around n m)) ∧ w = w' := by
  by_cases h : n < 0
  · have hx : around n m = -((n + 1).tmod m) := by unfold around; rw [if_pos h, ← Int.neg_tmod, Int.tmod_eq_emod_of_nonneg (by omega)]
    have HX := Lib.hid hx; clear hx
    go_enter Try.func22, Try.ntmps22
    go_wp2
    go_ret
    exact ⟨ret_int (by rw [HX.out]), rfl⟩
  · have hx : around n m = n % m := by unfold around; rw [if_neg h]
    have HX := Lib.hid hx; clear hx
    go_enter Try.func22, Try.ntmps22
    go_wp2
    go_ret
    exact ⟨ret_int (by rw [HX.out]), rfl⟩
end Go.Proofs.Ytmkkegigajmhkaa

namespace Go.Proofs.Ytmkkegigajmhkaa
open Go.RowKit Go.Maps

def atF (l : List Int) (i m : Int) : Int := if i < 0 then 0 else match l[i.toNat]? with | some x => around x m | none => 0

set_option maxHeartbeats 400000 in
theorem at_any (v : Value) (l : List Int) (i m : Int) (w : World) (h : RdI w v l) (hl : ∀ x, x ∈ l → -9223372036854775808 ≤ x ∧ x ≤ 9223372036854775807) (hi : 0 ≤ i) (hi' : i ≤ 1000000000) (hm : 0 < m) (hm' : m ≤ 1000000000) :
    Calls Try.prog 37 #[v, .int .i64 i, .int .i64 m] w fun e w' => e = .returned (.int .i64 (atF l i m)) ∧ Below w.heap.size w w' := by
  obtain ⟨a, c, rfl, l1, f1⟩ := h.open
  clear h
  have F1 := Lib.hid f1; clear f1
  obtain ⟨k, rfl⟩ : ∃ k : Nat, i = k := ⟨i.toNat, by omega⟩
  by_cases hk : k < l.length
  · obtain ⟨x, hx⟩ := elem_at hk
    obtain ⟨b, o, rfl, _, g⟩ := F1.out k x hx
    have hr : atF l k m = around x m := by unfold atF; rw [if_neg (by omega)]; simp [hx]
    have hxb := hl x (List.mem_of_getElem? hx)
    have AR := around_any x m w hxb.1 hxb.2 hm hm'
    have HR := Lib.hid hr; clear hr hx
    have hlt : (k : Int) < (l.length : Int) := by omega
    go_enter Try.func37, Try.ntmps37
    go_wp2_with fail
    refine AR.mono ?_
    rintro e w1 ⟨rfl, rfl⟩
    go_wp2_with fail
    go_ret
    exact ⟨ret_int (by rw [HR.out]), Below.refl _ _⟩
  · have hr : atF l k m = 0 := by unfold atF; rw [if_neg (by omega)]; simp [show l[k]? = none from List.getElem?_eq_none (by omega)]
    have HR := Lib.hid hr; clear hr
    have hlt : ¬ (k : Int) < (l.length : Int) := by omega
    go_enter Try.func37, Try.ntmps37
    go_wp2_with fail
    go_ret
    exact ⟨ret_int (by rw [HR.out]), Below.refl _ _⟩

/-! ### the alphabet -/

set_option maxHeartbeats 400000 in
theorem sameInts_any (v1 v2 : Value) (xs ys : List Int) (w : World) (h1 : RdI w v1 xs) (h2 : RdI w v2 ys) :
    Calls Try.prog 20 #[v1, v2] w fun e w' => e = .returned (.bool (decide (xs = ys))) ∧ Below w.heap.size w w' := by
  obtain ⟨a1, c1, rfl, l1, f1⟩ := h1.open
  obtain ⟨a2, c2, rfl, l2, f2⟩ := h2.open
  clear h1 h2
  by_cases hl : xs.length = ys.length
  · have hl' : (((xs.length : Nat) : Int) != ((ys.length : Nat) : Int)) = false := by rw [hl]; simp
    have HL := Lib.hid hl; clear hl
    have F1 := Lib.hid f1; have F2 := Lib.hid f2; clear f1 f2
    go_enter Try.func20, Try.ntmps20
    go_wp2
    go_loopw [5] (fun i wr => ∃ k : Nat, k ≤ xs.length ∧ i = .int .i64 k ∧ xs.take k = ys.take k ∧ ∃ nq, wr = w.drewN nq) (fun i _ => xs.length - (intOf i).toNat)
    case atStart => exact ⟨0, Nat.zero_le _, rfl, by simp, 0, rfl⟩
    case round =>
      obtain ⟨k, hk, rfl, he, nq, rfl⟩ := hrel
      have HE := Lib.hid he; clear he
      by_cases hlt : k < xs.length
      · obtain ⟨x, hx⟩ := elem_at hlt
        obtain ⟨y, hy⟩ := elem_at (show k < ys.length by rw [← HL.out]; exact hlt)
        obtain ⟨b1, o1, rfl, _, g1⟩ := F1.out k x hx
        obtain ⟨b2, o2, rfl, _, g2⟩ := F2.out k y hy
        have hlt2 : k < ys.length := by rw [← HL.out]; exact hlt
        have HX := Lib.hid hx; have HY := Lib.hid hy; clear hx hy
        by_cases hxy : x = y
        · subst hxy
          have hxy' : (x != x) = false := by simp
          go_wp2
          go_quiet (fail)
          go_wp2
          go_roundw
          case rel => exact ⟨k + 1, by omega, by go_num, take_same HE.out HX.out HY.out, _, rfl⟩
          case measure => simp [intOf]; omega
        · have hxy' : (x != y) = true := by simpa using hxy
          have hr : decide (xs = ys) = false := decide_eq_false (ne_at HX.out HY.out hxy)
          have HR := Lib.hid hr; clear hr
          go_wp2
          go_quiet (fail)
          go_wp2
          go_ret
          exact ⟨ret_bool (by rw [HR.out]), by repeat (first | exact Below.refl _ _ | refine Below.dn ?_ _)⟩
      · have hr : decide (xs = ys) = true := decide_eq_true (take_all HE.out (by omega) (by rw [← HL.out]; omega))
        have HR := Lib.hid hr; clear hr
        go_wp2
        go_ret
        exact ⟨ret_bool (by rw [HR.out]), by repeat (first | exact Below.refl _ _ | refine Below.dn ?_ _)⟩
  · have hl' : (((xs.length : Nat) : Int) != ((ys.length : Nat) : Int)) = true := by simp; omega
    have hr : decide (xs = ys) = false := decide_eq_false (fun e => hl (by rw [e]))
    have HR := Lib.hid hr; clear hr
    clear hl f1 f2
    go_enter Try.func20, Try.ntmps20
    go_wp2
    go_ret
    exact ⟨ret_bool (by rw [HR.out]), Below.refl _ _⟩
end Go.Proofs.Ytmkkegigajmhkaa

