/- Sectors as bytes; what a step of the disk keeps; a map from small numbers. -/
import Derived.Test.YtdanhfanepmhkaaProg
import Derived.WalkKit
import Derived.WalkSpells
import Derived.WalkLawsBesides
import Derived.Handy
import Derived.Deep.QuietTactic
import Derived.BigQuiet
import Derived.Lib.Hide
import Derived.Maps.OwnSet
import Derived.Maps.OwnOps
import Derived.Lib.SlKeysI
import Derived.Lib.SlBytesRow
import Derived.Deep.MidRow
import Derived.Deep.WholeRow
import Derived.Laws.Tables
namespace Go.Proofs.Ytdanhfanepmhkaa
open Go.RowKit Go.Maps

theorem ret_int {k : IntKind} {a b : Int} (h : a = b) : Ending.returned (.int k a) = .returned (.int k b) := by rw [h]
theorem ret_bool {a b : Bool} (h : a = b) : Ending.returned (.bool a) = .returned (.bool b) := by rw [h]

theorem Below.dn {B : Nat} {a w : World} (h : Below B a w) (n : Nat) : Below B a (w.drewN n) := ⟨h.os, h.tape, h.output, h.size, h.block⟩
theorem cell_al {w : World} {a : Addr} {v : Value} (o : Obj) (h : w.cell? a = some v) : (w.alloc o).cell? a = some v := by
  rw [World.cell?_alloc_lt _ _ _ (World.block_lt_of_cell? w a h)]; exact h
theorem cell_dr {w : World} {a : Addr} {v : Value} (h : w.cell? a = some v) : w.drew.cell? a = some v := h
theorem cell_dn {w : World} {a : Addr} {v : Value} (n : Nat) (h : w.cell? a = some v) : (w.drewN n).cell? a = some v := h
theorem cell_sc {w : World} {p a : Addr} {u v : Value} (hne : p.block ≠ a.block) (h : w.cell? a = some v) : (w.setCell p u).cell? a = some v :=
  (World.cell?_of_block (Below.heap_setCell _ _ _ _ (Ne.symm hne))).trans h
theorem cell_bl {w w' : World} {a : Addr} {v : Value} (hb : Below w.heap.size w w') (h : w.cell? a = some v) : w'.cell? a = some v :=
  (hb.cell (World.block_lt_of_cell? w a h)).trans h

/-! ### bytes -/
def bytesV (s : ByteArray) : List Value := s.data.toList.map fun b => .int .u8 b.toNat
def blkV (s : ByteArray) : Value := .agg (bytesV s).toArray
theorem bytesV_len (s : ByteArray) : (bytesV s).length = s.size := by
  unfold bytesV
  rw [List.length_map, Array.length_toList]; rfl
theorem bytesV_one (s : ByteArray) : ∀ v, v ∈ bytesV s → v.oneCell' = true := by
  intro v hv
  obtain ⟨b, _, rfl⟩ := List.mem_map.1 hv
  rfl

def byteOf : Value → Option UInt8
  | .int .u8 n => if 0 ≤ n ∧ n < 256 then some (UInt8.ofNat n.toNat) else none
  | _ => none
theorem byteOf_mk (b : UInt8) : byteOf (.int .u8 b.toNat) = some b := by
  have h := b.toNat_lt
  unfold byteOf
  simp only
  rw [if_pos ⟨by omega, by omega⟩]
  simp
theorem byteOf_inv {v : Value} {b : UInt8} (h : byteOf v = some b) : v = .int .u8 b.toNat := by
  unfold byteOf at h
  split at h
  · rename_i n
    split at h
    · rename_i hn
      cases h
      congr 1
      have : n.toNat < 256 := by omega
      simp [Nat.mod_eq_of_lt this]
      omega
    · cases h
  · cases h

/-- how a sector in a map reads -/
def Rb (v : Value) : Option (DataW Unit × List MemPlace) := match v with
  | .agg cs => (cs.toList.mapM byteOf).map fun l => (.lit (.string l), [])
  | _ => none
theorem mapM_mk (l : List UInt8) : (l.map fun b : UInt8 => Value.int .u8 b.toNat).mapM byteOf = some l := by
  induction l with
  | nil => rfl
  | cons a r ih => simp only [List.map_cons, List.mapM_cons, byteOf_mk, ih]; rfl
theorem mapM_inv : ∀ (cs : List Value) (l : List UInt8), cs.mapM byteOf = some l → cs = l.map fun b : UInt8 => Value.int .u8 b.toNat
  | [], l, h => by simp at h; subst h; rfl
  | v :: r, l, h => by
    rw [List.mapM_cons] at h
    cases hv : byteOf v with
    | none => simp [hv] at h
    | some b =>
      cases hr : r.mapM byteOf with
      | none => simp [hv, hr] at h
      | some l' =>
        simp [hv, hr] at h
        subst h
        rw [byteOf_inv hv, mapM_inv r l' hr]; rfl
theorem Rb_mk (s : ByteArray) : Rb (blkV s) = some (.lit (.string s.data.toList), []) := by
  unfold Rb blkV bytesV
  simp only [mapM_mk]; rfl
theorem Rb_inv {v : Value} {s : ByteArray} {ps : List MemPlace} (h : Rb v = some (.lit (.string s.data.toList), ps)) : v = blkV s := by
  unfold Rb at h
  split at h
  · rename_i cs
    cases hc : cs.toList.mapM byteOf with
    | none => simp [hc] at h
    | some l =>
      simp [hc] at h
      have := mapM_inv _ _ hc
      unfold blkV bytesV
      rw [← h.1, ← this]
  · cases h

/-! ### what is kept -/
/-- every block that was there is as it was, but for those of F -/
structure Keeps (F : Nat → Prop) (w w' : World) : Prop where
  os : w'.os = w.os
  tape : w'.tape = w.tape
  output : w'.output = w.output
  size : w.heap.size ≤ w'.heap.size
  block : ∀ b, b < w.heap.size → ¬ F b → w'.heap[b]? = w.heap[b]?
theorem Keeps.refl (F : Nat → Prop) (w : World) : Keeps F w w := ⟨rfl, rfl, rfl, Nat.le_refl _, fun _ _ _ => rfl⟩
theorem Keeps.trans {F : Nat → Prop} {a b c : World} (h : Keeps F a b) (k : Keeps F b c) : Keeps F a c :=
  ⟨k.os.trans h.os, k.tape.trans h.tape, k.output.trans h.output, Nat.le_trans h.size k.size, fun i hi hf => (k.block i (Nat.lt_of_lt_of_le hi h.size) hf).trans (h.block i hi hf)⟩
theorem Keeps.mono {F G : Nat → Prop} {a b : World} (h : Keeps F a b) (hFG : ∀ i, i < a.heap.size → F i → G i) : Keeps G a b :=
  ⟨h.os, h.tape, h.output, h.size, fun i hi hf => h.block i hi (fun hF => hf (hFG i hi hF))⟩
theorem Keeps.of_grown {F : Nat → Prop} {a b : World} {row : Option Nat} (h : a.grownBy b row) (hr : ∀ i, row = some i → F i) : Keeps F a b :=
  ⟨h.os, h.tape, h.output, h.size, fun i hi hf => h.block i hi (fun e => hf (hr i e.symm))⟩
theorem Keeps.of_below {F : Nat → Prop} {a b : World} (h : Below a.heap.size a b) : Keeps F a b :=
  ⟨h.os, h.tape, h.output, h.size, fun i hi _ => h.block i hi⟩
theorem Keeps.below {F : Nat → Prop} {a b : World} {n : Nat} (h : Keeps F a b) (hn : n ≤ a.heap.size) (hF : ∀ i, i < a.heap.size → F i → n ≤ i) : Below n a b :=
  ⟨h.os, h.tape, h.output, h.size, fun i hi => h.block i (by omega) (fun hf => by have := hF i (by omega) hf; omega)⟩
theorem Keeps.setCell {F : Nat → Prop} {a b : World} (h : Keeps F a b) {p : Addr} (hp : F p.block) (v : Value) : Keeps F a (b.setCell p v) :=
  ⟨h.os, h.tape, h.output, by simpa using h.size, fun i hi hf => (Below.heap_setCell _ _ _ _ (fun e => hf (by rw [e]; exact hp))).trans (h.block i hi hf)⟩
theorem Keeps.alloc {F : Nat → Prop} {a b : World} (h : Keeps F a b) (o : Obj) : Keeps F a (b.alloc o) :=
  ⟨h.os, h.tape, h.output, by have := h.size; simp; omega, fun i hi hf => (Below.heap_alloc _ _ _ (Nat.lt_of_lt_of_le hi h.size)).trans (h.block i hi hf)⟩
theorem Keeps.dn {F : Nat → Prop} {a b : World} (h : Keeps F a b) (n : Nat) : Keeps F a (b.drewN n) :=
  h.trans (Keeps.of_below (Below.dn (Below.refl _ _) n))
theorem Keeps.drew {F : Nat → Prop} {a b : World} (h : Keeps F a b) : Keeps F a b.drew := h.dn 1

/-! ### maps -/
theorem law3 : Keyed Try.prog 3 := int_keyed Try.underlying3
theorem wf64 {a : Int} (h : -9223372036854775808 ≤ a ∧ a ≤ 9223372036854775807) : (Lit.int .i64 a).wf = true := WalkArith.wf_i64 h
theorem keyN {k : Nat} (h : k < 100000) : keyOf Try.prog 3 (.int .i64 (k : Int)) = some (.int .i64 (k : Int)) := keyOf_int_mk Try.underlying3 (wf64 (by omega))
theorem isKey (a : Int) : WideAt.IsKeyLit (.int .i64 a) := trivial
theorem lit_ne {k j : Nat} (h : k ≠ j) : (Lit.int .i64 (k : Int)) ≠ .int .i64 (j : Int) := by
  intro e; simp at e; omega

/-- block b is a map whose keys are numbers below N; at k it has f k -/
def MapIs (R : Value → Option (DataW Unit × List MemPlace)) (w : World) (b N : Nat) (f : Nat → Option (DataW Unit)) : Prop :=
  ∃ D, (∃ n, w.ownsMap Try.prog 3 R b n D) ∧ (∀ a : Int, has D (.int .i64 a) = true → ∃ k : Nat, a = k ∧ k < N ∧ (f k).isSome = true) ∧
    (∀ k d, k < N → f k = some d → has D (.int .i64 (k : Int)) = true ∧ ∀ z, D.atKey (.int .i64 (k : Int)) z = d)

section
variable {R : Value → Option (DataW Unit × List MemPlace)} {w : World} {b N : Nat} {f : Nat → Option (DataW Unit)}

theorem MapIs.made (R : Value → Option (DataW Unit × List MemPlace)) (w : World) (N : Nat) : MapIs R (w.alloc (.map #[] 0)) w.heap.size N (fun _ => none) :=
  ⟨.map [], ⟨0, World.ownsMap_made _ _ _ _⟩, fun a h => by simp [has_eq] at h, fun k d _ h => by cases h⟩
theorem MapIs.lt (h : MapIs R w b N f) : b < w.heap.size := by obtain ⟨D, ⟨n, h1⟩, _⟩ := h; exact h1.lt
theorem MapIs.keeps {w' : World} {F : Nat → Prop} (h : MapIs R w b N f) (hk : Keeps F w w') (hb : ¬ F b) : MapIs R w' b N f := by
  have hl := h.lt
  obtain ⟨D, ⟨n, h1⟩, h2⟩ := h
  obtain ⟨es, clock, e1, e2⟩ := h1
  exact ⟨D, ⟨n, es, clock, (hk.block b hl hb).trans e1, e2⟩, h2⟩
theorem MapIs.same {g : Nat → Option (DataW Unit)} (h : MapIs R w b N f) (e : ∀ k, k < N → f k = g k) : MapIs R w b N g := by
  obtain ⟨D, h1, h2, h3⟩ := h
  refine ⟨D, h1, fun a ha => ?_, fun k d hk hg => h3 k d hk ((e k hk).trans hg)⟩
  obtain ⟨k, e1, e2, e3⟩ := h2 a ha
  exact ⟨k, e1, e2, by rw [← e k e2]; exact e3⟩
theorem MapIs.none_has {D : DataW Unit} (h2 : ∀ a : Int, has D (.int .i64 a) = true → ∃ k : Nat, a = k ∧ k < N ∧ (f k).isSome = true) {k : Nat} (hf : f k = none) : has D (.int .i64 (k : Int)) = false := by
  cases hh : has D (.int .i64 (k : Int)) with
  | false => rfl
  | true =>
    obtain ⟨j, e1, _, e3⟩ := h2 _ hh
    have : j = k := by omega
    subst this
    rw [hf] at e3; cases e3

theorem MapIs.look (h : MapIs R w b N f) {t e : TypeId} (ht : Try.prog.underlying t = some (.map 3 e)) {z : Value} (hz : (zeroValue e).run Try.prog w = .ok z w) {zd : DataW Unit} {zp : List MemPlace} (hzd : R z = some (zd, zp)) {k : Nat} (hk : k < N) (hN : N ≤ 100000) :
    ∃ v ps, (Instr.lookup t (.map (some b)) (.int .i64 (k : Int)) false).run Try.prog w = .ok v w ∧ R v = some ((f k).getD zd, ps) := by
  obtain ⟨D, ⟨n, h1⟩, h2, h3⟩ := h
  obtain ⟨v, ps, hr, hv⟩ := h1.lookup law3 ht hz hzd (keyN (k := k) (by omega))
  refine ⟨v, ps, hr, ?_⟩
  rw [hv]
  cases hf : f k with
  | none => rw [atKey_of_not_has (MapIs.none_has h2 hf)]; rfl
  | some d => rw [(h3 k d hk hf).2]; rfl

theorem MapIs.lookOk (h : MapIs R w b N f) {t e : TypeId} (ht : Try.prog.underlying t = some (.map 3 e)) {z : Value} (hz : (zeroValue e).run Try.prog w = .ok z w) {zd : DataW Unit} {zp : List MemPlace} (hzd : R z = some (zd, zp)) {k : Nat} (hk : k < N) (hN : N ≤ 100000) :
    ∃ v ps, (Instr.lookup t (.map (some b)) (.int .i64 (k : Int)) true).run Try.prog w = .ok (.tuple #[v, .bool (f k).isSome]) w ∧ R v = some ((f k).getD zd, ps) := by
  obtain ⟨D, ⟨n, h1⟩, h2, h3⟩ := h
  obtain ⟨v, ps, hr, hv⟩ := h1.look_ok law3 ht hz hzd (keyN (k := k) (by omega))
  cases hf : f k with
  | none =>
    have hh := MapIs.none_has h2 hf
    rw [hh] at hr
    exact ⟨v, ps, hr, by rw [hv, atKey_of_not_has hh]; rfl⟩
  | some d =>
    obtain ⟨a1, a2⟩ := h3 k d hk hf
    rw [a1] at hr
    exact ⟨v, ps, hr, by rw [hv, a2]; rfl⟩

theorem MapIs.put {D : DataW Unit} {w' : World} {n k : Nat} {d : DataW Unit} (h1 : w'.ownsMap Try.prog 3 R b n (D.put (.int .i64 (k : Int)) d)) (hD : IsMap D) (hk : k < N)
    (h2 : ∀ a : Int, has D (.int .i64 a) = true → ∃ k : Nat, a = k ∧ k < N ∧ (f k).isSome = true) (h3 : ∀ k d, k < N → f k = some d → has D (.int .i64 (k : Int)) = true ∧ ∀ z, D.atKey (.int .i64 (k : Int)) z = d) :
    MapIs R w' b N (fun j => if j = k then some d else f j) := by
  refine ⟨_, ⟨n, h1⟩, fun a ha => ?_, fun j d' hj hf => ?_⟩
  · by_cases e : a = (k : Int)
    · exact ⟨k, e, hk, by simp⟩
    · rw [has_put_other (by simpa using e)] at ha
      obtain ⟨j, e1, e2, e3⟩ := h2 a ha
      exact ⟨j, e1, e2, by dsimp only; rw [if_neg (by omega)]; exact e3⟩
  · by_cases e : j = k
    · subst e
      dsimp only at hf
      rw [if_pos rfl] at hf
      cases hf
      exact ⟨has_put_same hD (isKey _) _, fun z => atKey_put_same hD (isKey _) _ _⟩
    · dsimp only at hf
      rw [if_neg e] at hf
      obtain ⟨a1, a2⟩ := h3 j d' hj hf
      exact ⟨by rw [has_put_other (lit_ne e)]; exact a1, fun z => by rw [atKey_put_other (lit_ne e)]; exact a2 z⟩

theorem MapIs.del {D : DataW Unit} {w' : World} {n k : Nat} (h1 : w'.ownsMap Try.prog 3 R b n (D.del (.int .i64 (k : Int))))
    (h2 : ∀ a : Int, has D (.int .i64 a) = true → ∃ k : Nat, a = k ∧ k < N ∧ (f k).isSome = true) (h3 : ∀ k d, k < N → f k = some d → has D (.int .i64 (k : Int)) = true ∧ ∀ z, D.atKey (.int .i64 (k : Int)) z = d) :
    MapIs R w' b N (fun j => if j = k then none else f j) := by
  refine ⟨_, ⟨n, h1⟩, fun a ha => ?_, fun j d' hj hf => ?_⟩
  · by_cases e : a = (k : Int)
    · subst e; rw [has_del_same] at ha; cases ha
    · rw [has_del_other (by simpa using e)] at ha
      obtain ⟨j, e1, e2, e3⟩ := h2 a ha
      exact ⟨j, e1, e2, by dsimp only; rw [if_neg (by omega)]; exact e3⟩
  · by_cases e : j = k
    · dsimp only at hf
      rw [if_pos e] at hf; cases hf
    · dsimp only at hf
      rw [if_neg e] at hf
      obtain ⟨a1, a2⟩ := h3 j d' hj hf
      exact ⟨by rw [has_del_other (lit_ne e)]; exact a1, fun z => by rw [atKey_del_other (lit_ne e)]; exact a2 z⟩

/-- the keys, rising -/
def keysOf (N : Nat) (f : Nat → Option (DataW Unit)) : List Int := ((List.range N).filter fun k => (f k).isSome).map fun k : Nat => (k : Int)
theorem keysOf_nodup (N : Nat) (f : Nat → Option (DataW Unit)) : (keysOf N f).Nodup := by
  unfold keysOf
  refine List.pairwise_map.2 ((List.nodup_range.filter _).imp fun h e => h (by omega))
theorem keysOf_len (N : Nat) (f : Nat → Option (DataW Unit)) : (keysOf N f).length ≤ N := by
  unfold keysOf
  rw [List.length_map]
  have := List.length_filter_le (fun k => (f k).isSome) (List.range N)
  simpa using this
theorem keysOf_sorted (N : Nat) (f : Nat → Option (DataW Unit)) : (keysOf N f).mergeSort leI = keysOf N f := by
  refine List.mergeSort_of_pairwise ?_
  unfold keysOf
  refine List.pairwise_map.2 ?_
  have h := (List.pairwise_lt_range (n := N)).filter fun k => (f k).isSome
  exact h.imp fun h => by simp; omega

theorem MapIs.keys (h : MapIs R w b N f) : ∃ D, w.ownsMap Try.prog 3 R b N D ∧ (intKeys D).Perm (keysOf N f) ∧ Maps.size D ≤ N := by
  obtain ⟨D, ⟨n, h1⟩, h2, h3⟩ := h
  obtain ⟨es, hD, hpw, _⟩ := h1.entries law3
  obtain ⟨es', hD', hko⟩ := h1.keysOf
  obtain rfl : es = es' := by rw [hD] at hD'; simpa using hD'
  have hp : (keysOf N f).Perm (intKeys D) := by
    rw [hD]
    refine perm_intKeys hpw (fun p hp => by obtain ⟨v, hv⟩ := hko p hp; obtain ⟨x, _, hx, _⟩ := Maps.keyOf_i64 Try.underlying3 hv; exact ⟨x, hx⟩) (keysOf_nodup N f) (fun x => ?_)
    rw [← hD]
    constructor
    · intro hx
      unfold keysOf at hx
      obtain ⟨k, hk, rfl⟩ := List.mem_map.1 hx
      obtain ⟨k1, k2⟩ := List.mem_filter.1 hk
      obtain ⟨d, hd⟩ := Option.isSome_iff_exists.1 k2
      exact (h3 k d (List.mem_range.1 k1) hd).1
    · intro hx
      obtain ⟨k, rfl, e2, e3⟩ := h2 x hx
      unfold keysOf
      exact List.mem_map.2 ⟨k, List.mem_filter.2 ⟨List.mem_range.2 e2, e3⟩, rfl⟩
  have hsz : Maps.size D = (intKeys D).length := by rw [hD]; simp [Maps.size, intKeys]
  have hle : Maps.size D ≤ N := by rw [hsz, ← hp.length_eq]; exact keysOf_len N f
  refine ⟨D, ?_, hp.symm, hle⟩
  obtain ⟨es2, clock, e1, e2, e3, e4⟩ := h1
  refine ⟨es2, clock, e1, e2, ?_, e4⟩
  have : Maps.size D = es2.size := by rw [e4]; simp [Maps.size, length_sorted]
  omega
end

theorem wpMap_store {R : Value → Option (DataW Unit × List MemPlace)} {ops : Array Oper} {rest : List Oper} {o : Oper} {a : Act} {Q : Exit → Act → World → Prop} (w : World) {t e : TypeId} (ht : Try.prog.underlying t = some (.map 3 e))
    (hg : o.guard = none) (m x v : Operand) (hop : o.op = Op.mapUpdate t m x v) (b N : Nat) (f : Nat → Option (DataW Unit))
    (hm : a.eval m = .map (some b)) (hown : MapIs R w b N f) (hN : N ≤ 100000) (k : Nat) (hk : k < N) (hx : a.eval x = .int .i64 (k : Int)) (val : Value) (hv : a.eval v = val) (d : DataW Unit) (ps : List MemPlace) (hR : R val = some (d, ps))
    (hK : ∀ w', MapIs R w' b N (fun j => if j = k then some d else f j) → w.grownBy w' (some b) → wpList Try.prog ops Q rest (a.put o.dst undef) w') :
    wpList Try.prog ops Q (o :: rest) a w := by
  obtain ⟨D, g1, g2, g3⟩ := hown.keys
  obtain ⟨D', ⟨n, h1⟩, h2, h3⟩ := hown
  have hDD : D' = D := by
    obtain ⟨es, clock, e1, _, _, e4⟩ := g1
    obtain ⟨es', clock', e1', _, _, e4'⟩ := h1
    rw [e1] at e1'
    cases e1'
    rw [e4, e4']
  subst hDD
  exact wpList_mapUpdate_own w hg m x v t hop 3 e law3 ht _ b N D' hm g1 (by unfold maxLen; omega) _ _ _ hx hv (keyN (by omega)) d ps hR (fun w' h hg' => hK w' (MapIs.put h h1.isMap hk h2 h3) hg')

theorem wpMap_del {R : Value → Option (DataW Unit × List MemPlace)} {ops : Array Oper} {rest : List Oper} {o : Oper} {a : Act} {Q : Exit → Act → World → Prop} (w : World) {t e : TypeId} (ht : Try.prog.underlying t = some (.map 3 e))
    (hg : o.guard = none) (m x : Operand) (hop : o.op = Op.call { callee := Callee.builtin Builtin.delete, args := #[m, x], argTypes := #[t, 3] }) (b N : Nat) (f : Nat → Option (DataW Unit))
    (hm : a.eval m = .map (some b)) (hown : MapIs R w b N f) (hN : N ≤ 100000) (k : Nat) (hk : k < N) (hx : a.eval x = .int .i64 (k : Int))
    (hK : ∀ w', MapIs R w' b N (fun j => if j = k then none else f j) → w.grownBy w' (some b) → wpList Try.prog ops Q rest (a.put o.dst (.tuple #[])) w') :
    wpList Try.prog ops Q (o :: rest) a w := by
  obtain ⟨D, ⟨n, h1⟩, h2, h3⟩ := hown
  exact wpList_delete_own w hg m x t 3 hop e law3 ht _ b n D hm h1 _ _ hx (keyN (by omega)) (fun w' h ht' => hK w' (MapIs.del h h2 h3) ht'.grown)
end Go.Proofs.Ytdanhfanepmhkaa
