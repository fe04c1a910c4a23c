/- Maps with integer keys and elements of whatever kind, as functions. Worlds: those of one class, the answers that they give, those with an answer (plain law). Worlds of one class (both); the worlds of a table (both); their set. The worlds with an answer (With); all worlds (program); the set of some worlds. -/
import Derived.Test.YtmkkegigajmhkaaN06
import Derived.MapKept
import Derived.WideMake
set_option linter.unusedVariables false
namespace Go.Proofs.Ytmkkegigajmhkaa
open Go.RowKit Go.Maps

def intKeyed (q : IntKind) (l : List MapEntry) : Prop := ∀ e, e ∈ l → ∃ k : Int, e.key = .int q k
/-- the element under a key -/
def getE (q : IntKind) (x : Int) : List MapEntry → Option Value
  | [] => none
  | e :: r => match Instr.sameNow (.int q) (.int q x) e.key with | some true => some e.val | _ => getE q x r
theorem findNow_int (q : IntKind) (x : Int) : ∀ (l : List MapEntry) (i : Nat), intKeyed q l →
    (getE q x l = none ∧ Instr.findNow (.int q) (.int q x) l i = some none) ∨
    (∃ (j : Nat) (e : MapEntry), l[j]? = some e ∧ e.key = .int q x ∧ getE q x l = some e.val ∧ Instr.findNow (.int q) (.int q x) l i = some (some (i + j, e.val)) ∧ (∀ y, y ≠ x → ∀ v, getE q y (l.modify j fun e => { key := .int q x, val := v, born := e.born }) = getE q y l) ∧ ∀ v, getE q x (l.modify j fun e => { key := .int q x, val := v, born := e.born }) = some v)
  | [], i, _ => .inl ⟨rfl, rfl⟩
  | e :: r, i, h => by
    obtain ⟨k, hk⟩ := h e (by simp)
    by_cases hx : x = k
    · subst hx
      have hs : Instr.sameNow (.int q) (.int q x) e.key = some true := by rw [hk]; simp [Instr.sameNow]
      refine .inr ⟨0, e, rfl, hk, ?_, ?_, fun y hy v => ?_, fun v => ?_⟩
      · unfold getE; rw [hs]
      · unfold Instr.findNow; rw [hs]; rfl
      · have hs2 : Instr.sameNow (.int q) (.int q y) (.int q x) = some false := by simp [Instr.sameNow, hy]
        simp only [List.modify_zero_cons]
        unfold getE
        rw [hk]
        simp only [hs2]
      · have hs2 : Instr.sameNow (.int q) (.int q x) (.int q x) = some true := by simp [Instr.sameNow]
        simp only [List.modify_zero_cons]
        unfold getE
        simp only [hs2]
    · have hs : Instr.sameNow (.int q) (.int q x) e.key = some false := by rw [hk]; simp [Instr.sameNow, hx]
      have hg : getE q x (e :: r) = getE q x r := by conv => lhs; unfold getE; rw [hs]
      rcases findNow_int q x r (i + 1) (fun e' he' => h e' (by simp [he'])) with ⟨h1, h2⟩ | ⟨j, e', h1, h2, h3, h4, h5, h6⟩
      · refine .inl ⟨hg.trans h1, ?_⟩
        unfold Instr.findNow; rw [hs]; exact h2
      · refine .inr ⟨j + 1, e', by simpa using h1, h2, hg.trans h3, ?_, fun y hy v => ?_, fun v => ?_⟩
        · unfold Instr.findNow; rw [hs]
          rw [show i + (j + 1) = i + 1 + j by omega]; exact h4
        · simp only [List.modify_succ_cons]
          have := h5 y hy v
          unfold getE
          rw [this]
        · simp only [List.modify_succ_cons]
          have := h6 v
          conv => lhs; unfold getE; rw [hs]
          exact this
theorem getE_push (q : IntKind) (x y : Int) (v : Value) (c : Nat) : ∀ l : List MapEntry, getE q y (l ++ [{ key := .int q x, val := v, born := c }]) = match getE q y l with | some u => some u | none => if y = x then some v else none
  | [] => by
    show getE q y [_] = _
    unfold getE
    by_cases h : y = x
    · subst h; simp [Instr.sameNow]
    · simp [Instr.sameNow, h, getE]
  | e :: r => by
    show getE q y (e :: (r ++ _)) = _
    unfold getE
    split
    · rfl
    · exact getE_push q x y v c r
/-- block b is a map with keys of an integer kind, whose elements are given by a function -/
def MapF (W : World) (b : Nat) (q : IntKind) (f : Int → Option Value) : Prop :=
  ∃ arr clock, W.heap[b]? = some (.map arr clock) ∧ intKeyed q arr.toList ∧ ∀ x, getE q x arr.toList = f x
theorem MapF.lt {W : World} {b : Nat} {q : IntKind} {f : Int → Option Value} (h : MapF W b q f) : b < W.heap.size := by
  obtain ⟨_, _, h1, _⟩ := h; exact (Array.getElem?_eq_some_iff.1 h1).1
theorem MapF.below {W W' : World} {b : Nat} {q : IntKind} {f : Int → Option Value} (h : MapF W b q f) (hb : Below W.heap.size W W') : MapF W' b q f := by
  have hl := h.lt
  obtain ⟨arr, c, h1, h2, h3⟩ := h
  exact ⟨arr, c, (hb.block b hl).trans h1, h2, h3⟩
theorem MapF.keep {W W' : World} {b : Nat} {q : IntKind} {f : Int → Option Value} (h : MapF W b q f) (hb : W'.heap[b]? = W.heap[b]?) : MapF W' b q f := by
  obtain ⟨arr, c, h1, h2, h3⟩ := h
  exact ⟨arr, c, hb.trans h1, h2, h3⟩
theorem MapF.new (W : World) (q : IntKind) : MapF (W.alloc (.map #[] 0)) W.heap.size q (fun _ => none) :=
  ⟨#[], 0, heap_alloc_new W _, fun e he => by simp at he, fun x => rfl⟩
theorem MapF.not_own {W : World} {b : Nat} {q : IntKind} {f : Int → Option Value} (h : MapF W b q f) {base s n : Nat} {e : TypeId} {v : Value} {xs : List Value} (hr : W.ownsRow base e s v n xs) : v.ownBlock ≠ some b := by
  obtain ⟨arr, c, h1, _, _⟩ := h
  rcases hr.2 with ⟨rfl, _⟩ | ⟨g, cap, cur, rfl, _, hg, _⟩
  · simp [Value.ownBlock]
  · intro hb
    have : g = b := by simpa [Value.ownBlock] using hb
    subst this
    rw [h1] at hg
    cases hg
theorem MapF.app {N : Nat} {W W' : World} {b : Nat} {q : IntKind} {f : Int → Option Value} (h : MapF W b q f) {e : TypeId} {v v' : Value} {n m : Nat} {vs zs : List Value} (ho : W.ownsRow N e 1 v n vs) (ha : AppOut N e W v m zs v' W') : MapF W' b q f :=
  h.keep (ha.2.1.block b h.lt (Ne.symm (h.not_own ho)))
theorem run_look {W : World} {b : Nat} {q : IntKind} {f : Int → Option Value} (h : MapF W b q f) {t kt e : TypeId} (ht : Try.prog.underlying t = some (.map kt e)) (hk : Try.prog.underlying kt = some (.int q)) {z : Value} (hz : (zeroValue e).run Try.prog W = .ok z W) (x : Int) (ok : Bool) :
    (Instr.lookup t (.map (some b)) (.int q x) ok).run Try.prog W = .ok (if ok then .tuple #[(f x).getD z, .bool (f x).isSome] else (f x).getD z) W := by
  obtain ⟨arr, c, h1, h2, h3⟩ := h
  have hkey : MapKept.IsKey (.int q) (.int q x) := by simp [MapKept.IsKey]
  rw [← h3 x]
  unfold Instr.lookup
  rcases findNow_int q x arr.toList 0 h2 with ⟨g1, g2⟩ | ⟨j, e', g1, g2, g3, g4, _⟩
  · rw [g1]
    simp only [Sem.run_bind, run_underlying ht, Result.andThen_ok, MapKept.run_getObj_map h1, Sem.run_pure, MapKept.run_checkKey hk hkey, MapKept.run_findKey hk g2, hz]
    cases ok <;> rfl
  · rw [g3]
    simp only [Sem.run_bind, run_underlying ht, Result.andThen_ok, MapKept.run_getObj_map h1, Sem.run_pure, MapKept.run_checkKey hk hkey, MapKept.run_findKey hk g4]
    cases ok <;> rfl
theorem run_upd {W : World} {b : Nat} {q : IntKind} {f : Int → Option Value} (h : MapF W b q f) {t kt e : TypeId} (ht : Try.prog.underlying t = some (.map kt e)) (hk : Try.prog.underlying kt = some (.int q)) (x : Int) (v : Value) :
    ∃ W', (Instr.mapUpdate t (.map (some b)) (.int q x) v).run Try.prog W = .ok () W' ∧ MapF W' b q (fun y => if y = x then some v else f y) ∧ W.grownBy W' (some b) := by
  obtain ⟨arr, c, h1, h2, h3⟩ := h
  have hkey : MapKept.IsKey (.int q) (.int q x) := by simp [MapKept.IsKey]
  have hgr : ∀ o : Obj, W.grownBy { W with heap := W.heap.setIfInBounds b o } (some b) := fun o =>
    ⟨rfl, rfl, rfl, by simp, fun i hi hne => (MapKept.heap_set h1).2 i (fun e => hne (by rw [e]))⟩
  rcases findNow_int q x arr.toList 0 h2 with ⟨g1, g2⟩ | ⟨j, e', g1, g2, g3, g4, g5, g6⟩
  · refine ⟨{ W with heap := W.heap.setIfInBounds b (.map (arr.push { key := .int q x, val := v, born := c }) (c + 1)) }, ?_, ⟨_, _, (MapKept.heap_set h1).1, ?_, fun y => ?_⟩, hgr _⟩
    · unfold Instr.mapUpdate
      simp only [Sem.run_bind, run_underlying ht, Result.andThen_ok, MapKept.run_getObj_map h1, MapKept.run_checkKey hk hkey, MapKept.run_findKey hk g2, MapKept.run_setObj_map _ h1]
    · intro e he
      rw [Array.toList_push] at he
      rcases List.mem_append.1 he with he | he
      · exact h2 e he
      · simp at he; subst he; exact ⟨x, rfl⟩
    · rw [Array.toList_push, getE_push, h3 y]
      by_cases hy : y = x
      · subst hy; rw [← h3, g1]; simp
      · simp only [if_neg hy]; cases f y <;> rfl
  · refine ⟨{ W with heap := W.heap.setIfInBounds b (.map (arr.modify j fun e => { key := .int q x, val := v, born := e.born }) c) }, ?_, ⟨_, _, (MapKept.heap_set h1).1, ?_, fun y => ?_⟩, hgr _⟩
    · have hj : arr[j]? = some e' := by rw [← Array.getElem?_toList]; exact g1
      have hstay : (Instr.keyThatStays (.int q x) (.int q x)).run Try.prog W = .ok (.int q x) W := by
        unfold Instr.keyThatStays
        rw [if_pos (by simp [Instr.sameBits])]
        rfl
      unfold Instr.mapUpdate
      simp only [Sem.run_bind, run_underlying ht, Result.andThen_ok, MapKept.run_getObj_map h1, MapKept.run_checkKey hk hkey, MapKept.run_findKey hk g4, Nat.zero_add, hj, Option.map_some, Option.getD_some, g2, hstay, MapKept.run_setObj_map _ h1]
    · intro e he
      rw [Array.toList_modify] at he
      obtain ⟨i, hi⟩ := List.mem_iff_getElem?.1 he
      rw [List.getElem?_modify] at hi
      cases ho : arr.toList[i]? with
      | none => rw [ho] at hi; cases hi
      | some e0 =>
        rw [ho] at hi
        simp only [Option.map_eq_map, Option.map_some, Option.some.injEq] at hi
        by_cases hij : j = i
        · rw [if_pos hij] at hi; subst hi; exact ⟨x, rfl⟩
        · rw [if_neg hij] at hi; subst hi; exact h2 _ (List.mem_of_getElem? ho)
    · rw [Array.toList_modify]
      by_cases hy : y = x
      · subst hy; rw [g6 v]; simp
      · rw [g5 y hy v, h3 y]; simp [hy]
end Go.Proofs.Ytmkkegigajmhkaa

namespace Go.Proofs.Ytmkkegigajmhkaa
open Go.RowKit Go.Maps

def nI (ws : List Nat) : List Int := ws.map fun (n : Nat) => (n : Int)
theorem nI_len (ws : List Nat) : (nI ws).length = ws.length := by simp [nI]
theorem nI_at {ws : List Nat} {j i : Nat} (h : ws[j]? = some i) : (nI ws)[j]? = some (i : Int) := by simp [nI, h]
theorem nI_app (xs ys : List Nat) : nI (xs ++ ys) = nI xs ++ nI ys := by simp [nI]
theorem nI_inj : ∀ {xs ys : List Nat}, nI xs = nI ys → xs = ys
  | [], [], _ => rfl
  | [], y :: s, h => by simp [nI] at h
  | x :: r, [], h => by simp [nI] at h
  | x :: r, y :: s, h => by
    have h1 : (x : Int) = y ∧ nI r = nI s := by simpa [nI] using h
    rw [nI_inj h1.2, Int.ofNat_inj.1 h1.1]
/-- the answer of a world to a question -/
def ansAt (T : Tb) (i k : Nat) : Int := (rowAt T i)[k]?.getD 0
def single (T : Tb) (ws : List Nat) : Bool := ws.all fun i => clsAt T i == clsAt T (ws.headD 0)
def withW (T : Tb) (ws : List Nat) (k : Nat) (a : Int) : List Nat := ws.filter fun i => decide (ansAt T i k = a)
/-- a number put into a strictly increasing list -/
def insU (a : Int) : List Int → List Int
  | [] => [a]
  | x :: r => if a < x then a :: x :: r else if a = x then x :: r else x :: insU a r
def givenF (T : Tb) (k : Nat) (out : List Int) (ws : List Nat) : List Int := ws.foldl (fun out i => insU (ansAt T i k) out) out
def given (T : Tb) (ws : List Nat) (k : Nat) : List Int := givenF T k [] ws
def WsOk (T : Tb) (ws : List Nat) : Prop := ∀ i, i ∈ ws → i < T.rows.length
theorem insU_mem (a b : Int) : ∀ l : List Int, b ∈ insU a l ↔ b = a ∨ b ∈ l
  | [] => by simp [insU]
  | x :: r => by
    unfold insU
    split
    · simp
    · split
      · rename_i h; subst h; simp
      · simp only [List.mem_cons, insU_mem a b r]
        constructor
        · rintro (h | h | h)
          · exact .inr (.inl h)
          · exact .inl h
          · exact .inr (.inr h)
        · rintro (h | h | h)
          · exact .inr (.inl h)
          · exact .inl h
          · exact .inr (.inr h)
theorem insU_sorted (a : Int) : ∀ l : List Int, l.Pairwise (· < ·) → (insU a l).Pairwise (· < ·)
  | [], _ => by simp [insU]
  | x :: r, h => by
    rw [List.pairwise_cons] at h
    unfold insU
    split
    · rename_i h1
      rw [List.pairwise_cons]
      refine ⟨fun y hy => ?_, by rw [List.pairwise_cons]; exact h⟩
      rcases List.mem_cons.1 hy with rfl | hy
      · exact h1
      · have := h.1 y hy; omega
    · split
      · rw [List.pairwise_cons]; exact h
      · rename_i h1 h2
        rw [List.pairwise_cons]
        refine ⟨fun y hy => ?_, insU_sorted a r h.2⟩
        rcases (insU_mem a y r).1 hy with rfl | hy
        · omega
        · exact h.1 y hy
theorem insU_len (a : Int) : ∀ l : List Int, (insU a l).length ≤ l.length + 1
  | [] => by simp [insU]
  | x :: r => by
    have := insU_len a r
    unfold insU
    split
    · simp
    · split
      · simp
      · simp; omega
theorem givenF_sorted (T : Tb) (k : Nat) : ∀ (ws : List Nat) (out : List Int), out.Pairwise (· < ·) → (givenF T k out ws).Pairwise (· < ·)
  | [], _, h => h
  | i :: r, out, h => givenF_sorted T k r _ (insU_sorted _ _ h)
theorem givenF_mem (T : Tb) (k : Nat) (b : Int) : ∀ (ws : List Nat) (out : List Int), b ∈ givenF T k out ws ↔ b ∈ out ∨ ∃ i, i ∈ ws ∧ ansAt T i k = b
  | [], out => by simp [givenF]
  | i :: r, out => by
    have := givenF_mem T k b r (insU (ansAt T i k) out)
    unfold givenF at this ⊢
    rw [List.foldl_cons, this, insU_mem]
    constructor
    · rintro ((h | h) | ⟨j, hj, h⟩)
      · exact .inr ⟨i, by simp, h.symm⟩
      · exact .inl h
      · exact .inr ⟨j, by simp [hj], h⟩
    · rintro (h | ⟨j, hj, h⟩)
      · exact .inl (.inr h)
      · rcases List.mem_cons.1 hj with rfl | hj
        · exact .inl (.inl h.symm)
        · exact .inr ⟨j, hj, h⟩
theorem given_sorted (T : Tb) (ws : List Nat) (k : Nat) : (given T ws k).Pairwise (· < ·) := givenF_sorted T k ws [] List.Pairwise.nil
theorem given_mem (T : Tb) (ws : List Nat) (k : Nat) (b : Int) : b ∈ given T ws k ↔ ∃ i, i ∈ ws ∧ ansAt T i k = b := by
  unfold given; rw [givenF_mem]; simp
theorem givenF_len (T : Tb) (k : Nat) : ∀ (ws : List Nat) (out : List Int), (givenF T k out ws).length ≤ out.length + ws.length
  | [], _ => by simp [givenF]
  | i :: r, out => by
    have h1 := givenF_len T k r (insU (ansAt T i k) out)
    have h2 := insU_len (ansAt T i k) out
    unfold givenF at h1 ⊢
    rw [List.foldl_cons, List.length_cons]; omega
theorem given_len (T : Tb) (ws : List Nat) (k : Nat) : (given T ws k).length ≤ ws.length := by
  have := givenF_len T k ws []; simpa [given] using this
theorem given_succ {T : Tb} {ws : List Nat} {k j i : Nat} (h : ws[j]? = some i) : given T (ws.take (j + 1)) k = insU (ansAt T i k) (given T (ws.take j) k) := by
  unfold given givenF
  rw [take_succ_at h, List.foldl_append]; rfl
/-- two strictly increasing lists with the same members are equal -/
theorem sorted_ext : ∀ (xs ys : List Int), xs.Pairwise (· < ·) → ys.Pairwise (· < ·) → (∀ b, b ∈ xs ↔ b ∈ ys) → xs = ys
  | [], [], _, _, _ => rfl
  | [], y :: s, _, _, h => by have := (h y).2 (by simp); cases this
  | x :: r, [], _, _, h => by have := (h x).1 (by simp); cases this
  | x :: r, y :: s, hx, hy, h => by
    rw [List.pairwise_cons] at hx hy
    have e : x = y := by
      have h1 := (h x).1 (by simp)
      have h2 := (h y).2 (by simp)
      rcases List.mem_cons.1 h1 with h1 | h1
      · exact h1
      · rcases List.mem_cons.1 h2 with h2 | h2
        · exact h2.symm
        · have := hx.1 y h2; have := hy.1 x h1; omega
    subst e
    congr 1
    refine sorted_ext r s hx.2 hy.2 fun b => ?_
    have hb := h b
    simp only [List.mem_cons] at hb
    constructor
    · intro h1
      rcases hb.1 (.inr h1) with h2 | h2
      · subst h2; have := hx.1 b h1; omega
      · exact h2
    · intro h1
      rcases hb.2 (.inr h1) with h2 | h2
      · subst h2; have := hy.1 b h1; omega
      · exact h2
theorem withW_mem {T : Tb} {ws : List Nat} {k : Nat} {a : Int} {i : Nat} : i ∈ withW T ws k a ↔ i ∈ ws ∧ ansAt T i k = a := by
  unfold withW; rw [List.mem_filter]; simp
theorem withW_ok {T : Tb} {ws : List Nat} (h : WsOk T ws) (k : Nat) (a : Int) : WsOk T (withW T ws k a) := fun i hi => h i (withW_mem.1 hi).1
theorem withW_ne {T : Tb} {ws : List Nat} {k : Nat} {a : Int} (h : a ∈ given T ws k) : withW T ws k a ≠ [] := by
  obtain ⟨i, hi, e⟩ := (given_mem T ws k a).1 h
  intro h0
  have : i ∈ withW T ws k a := withW_mem.2 ⟨hi, e⟩
  rw [h0] at this; cases this
/-- where two answers are given, fewer worlds give each of them -/
theorem withW_lt {T : Tb} {ws : List Nat} {k : Nat} {a : Int} (h2 : 2 ≤ (given T ws k).length) : (withW T ws k a).length < ws.length := by
  have hs := given_sorted T ws k
  obtain ⟨x, y, r, e⟩ : ∃ x y r, given T ws k = x :: y :: r := by
    cases h : given T ws k with
    | nil => rw [h] at h2; simp at h2
    | cons x r => cases r with
      | nil => rw [h] at h2; simp at h2
      | cons y r => exact ⟨x, y, r, rfl⟩
  rw [e, List.pairwise_cons] at hs
  have hxy := hs.1 y (by simp)
  have hx := (given_mem T ws k x).1 (by rw [e]; simp)
  have hy := (given_mem T ws k y).1 (by rw [e]; simp)
  obtain ⟨b, hb, hne⟩ : ∃ b, (∃ i, i ∈ ws ∧ ansAt T i k = b) ∧ b ≠ a := by
    by_cases h : x = a
    · exact ⟨y, hy, by omega⟩
    · exact ⟨x, hx, h⟩
  obtain ⟨i, hi, he⟩ := hb
  unfold withW
  refine List.length_filter_lt_length_iff_exists.2 ⟨i, hi, ?_⟩
  simp; omega
theorem withW_le (T : Tb) (ws : List Nat) (k : Nat) (a : Int) : (withW T ws k a).length ≤ ws.length := List.length_filter_le _ _
theorem withW_succ {T : Tb} {ws : List Nat} {k j i : Nat} {a : Int} (h : ws[j]? = some i) : withW T (ws.take (j + 1)) k a = withW T (ws.take j) k a ++ (if ansAt T i k = a then [i] else []) := by
  unfold withW
  rw [take_succ_at h, List.filter_append]
  by_cases ha : ansAt T i k = a <;> simp [ha]
end Go.Proofs.Ytmkkegigajmhkaa

namespace Go.Proofs.Ytmkkegigajmhkaa
open Go.RowKit Go.Maps

theorem nI_elem {W : World} {a : Option Addr} {n c : Nat} {ws : List Nat} (h : RdI W (.slice a n c) (nI ws)) {j i : Nat} (hj : ws[j]? = some i) : ∃ b off, a = some ⟨b, off, none⟩ ∧ b < W.heap.size ∧ W.cell? ⟨b, off + j, none⟩ = some (.int .i64 (i : Int)) := ints_at h (nI_at hj)
def difC (T : Tb) (ws : List Nat) (x : Int) : Bool := clsAt T x.toNat != clsAt T (ws.headD 0)
theorem difC_any (T : Tb) (ws : List Nat) : (nI ws).any (difC T ws) = !single T ws := by
  unfold single difC nI
  rw [List.any_map, List.not_all_eq_any_not]
  simp [Function.comp_def, bne]
set_option maxRecDepth 100000 in
set_option maxHeartbeats 4000000 in
theorem v76_any (i : Nat) (B Bw : Nat) (va vc vk vw : Value) (T : Tb) (ws : List Nat) (w : World) (hT : BoxT w B va vc vk T) (hi : i < T.cls.length) (hw : w.cell? ⟨Bw, 0, none⟩ = some vw) (hr : RdI w vw (nI ws)) (hn : ws ≠ []) (hok : ∀ j, j ∈ ws → j < T.cls.length) :
    Calls Try.prog 76 #[.int .i64 (i : Int), .pointer (some ⟨B, 0, none⟩), .pointer (some ⟨Bw, 0, none⟩)] w fun e w' => e = .returned (.bool (difC T ws (i : Int))) ∧ Below w.heap.size w w' := by
  obtain ⟨i0, rest, hws⟩ : ∃ x rest, ws = x :: rest := by cases ws with | nil => exact absurd rfl hn | cons a r => exact ⟨a, r, rfl⟩
  have h00 := hok i0 (by rw [hws]; simp)
  obtain ⟨aw, cw, rfl⟩ := hr.form
  obtain ⟨ak, ck, rfl⟩ := hT.tb.cls.form
  obtain ⟨bw, ow, rfl, _, cw0⟩ := nI_elem hr (show ws[0]? = some i0 by rw [hws]; rfl)
  rw [Nat.add_zero] at cw0
  obtain ⟨x, hx⟩ := elem_at hi
  obtain ⟨y, hy⟩ := elem_at h00
  obtain ⟨bk, ok, rfl, _, qx⟩ := ints_at hT.tb.cls hx
  obtain ⟨bk', ok', e, _, qy⟩ := ints_at hT.tb.cls hy
  cases e
  have c2 := hT.c2
  have hres : difC T ws (i : Int) = (x != y) := by unfold difC; rw [hws]; simp [clsAt_of hx, clsAt_of hy]
  have HR := Lib.hid hres
  have hi1 : (i : Int) < (T.cls.length : Int) := by omega
  have hi2 : (i0 : Int) < (T.cls.length : Int) := by omega
  have hi3 : (0 : Int) ≤ (i0 : Int) := Int.natCast_nonneg _
  have hi4 : (0 : Int) ≤ (i : Int) := Int.natCast_nonneg _
  have hn' : 0 < (nI ws).length := by rw [hws]; simp [nI]
  clear hres hx hy hws hT hr hok hn
  go_enter Try.func76, Try.ntmps76
  go_wp2_with fail
  go_quiet (fail)
  go_wp2_with fail
  go_ret
  exact ⟨ret_bool HR.out.symm, Below.dn (Below.refl _ _) _⟩

set_option maxRecDepth 100000 in
set_option maxHeartbeats 4000000 in
theorem single_any (va vc vk v : Value) (T : Tb) (ws : List Nat) (w : World) (h : TbR w va vc vk T) (hr : RdI w v (nI ws)) (hok : ∀ j, j ∈ ws → j < T.cls.length) :
    Calls Try.prog 54 #[.agg #[va, vc, vk], v] w fun e w' => e = .returned (.bool (single T ws)) ∧ Below w.heap.size w w' := by
  obtain ⟨aa, ca, rfl⟩ := h.rows.form
  obtain ⟨ac, cc, rfl⟩ := h.costs.form
  obtain ⟨ak, ck, rfl⟩ := h.cls.form
  obtain ⟨aw, cw, rfl⟩ := hr.form
  have HB := Lib.hid ((alloc_below w (.cells #[.slice aa T.rows.length ca, .slice ac T.costs.length cc, .slice ak T.cls.length ck] 33)).alloc (by rw [World.size_alloc]; omega) (.cells #[.slice aw (nI ws).length cw] 22))
  have HT := Lib.hid ((BoxT.new h 33).below (alloc_below _ (.cells #[.slice aw (nI ws).length cw] 22)))
  have b5 := Boxs.new (w.alloc (.cells #[.slice aa T.rows.length ca, .slice ac T.costs.length cc, .slice ak T.cls.length ck] 33)) 22 #[.slice aw (nI ws).length cw]
  rw [World.size_alloc] at b5
  have c5 := b5.cell 0
  have l5 := b5.lt
  have hr2 := hr.below HB.out
  have CK := con76_any (.pointer (some ⟨w.heap.size, 0, none⟩)) (.pointer (some ⟨w.heap.size + 1, 0, none⟩)) (difC T ws) (.slice aw (nI ws).length cw) (nI ws) _ hr2 (fun k x W hx hb => by
    obtain ⟨i, hi, rfl⟩ : ∃ i, i ∈ ws ∧ (i : Int) = x := by
      have := List.mem_of_getElem? hx
      unfold nI at this
      obtain ⟨i, hi, e⟩ := List.mem_map.1 this
      exact ⟨i, hi, e⟩
    exact v76_any i w.heap.size (w.heap.size + 1) _ _ _ _ T ws W (HT.out.below hb) (hok i hi) ((hb.cell (p := ⟨w.heap.size + 1, 0, none⟩) l5).trans c5) (hr2.below hb) (List.ne_nil_of_mem hi) hok)
  rw [difC_any] at CK
  clear h hr hr2 b5 l5
  go_enter Try.func54, Try.ntmps54
  go_wp2_with fail
  refine CK.mono ?_
  rintro e w2 ⟨rfl, hb9⟩
  go_wp2_with fail
  go_ret
  exact ⟨ret_bool (by simp), HB.out.trans (hb9.mono HB.out.size)⟩

theorem single_no {T : Tb} {ws : List Nat} {j i : Nat} (hj : ws[j]? = some i) (h : clsAt T i ≠ clsAt T (ws.headD 0)) : single T ws = false := by
  unfold single
  rw [List.all_eq_false]
  exact ⟨i, List.mem_of_getElem? hj, by simpa using h⟩
theorem head_at {ws : List Nat} {i0 : Nat} (h : ws[0]? = some i0) : ws.headD 0 = i0 := by
  cases ws with
  | nil => simp at h
  | cons a r => simpa using h
set_option maxRecDepth 100000 in
set_option maxHeartbeats 4000000 in
theorem rsingle_any (va vc vk v : Value) (T : Tb) (ws : List Nat) (w : World) (h : TbR w va vc vk T) (hr : RdI w v (nI ws)) (hok : ∀ j, j ∈ ws → j < T.cls.length) (hlen : ws.length ≤ 1000) :
    Calls Try.prog 78 #[.agg #[va, vc, vk], v] w fun e w' => e = .returned (.bool (single T ws)) ∧ Below w.heap.size w w' := by
  obtain ⟨aa, ca, rfl⟩ := h.rows.form
  obtain ⟨ac, cc, rfl⟩ := h.costs.form
  obtain ⟨ak, ck, rfl⟩ := h.cls.form
  obtain ⟨aw, cw, rfl⟩ := hr.form
  have HB := Lib.hid (alloc_below w (.cells #[.slice aa T.rows.length ca, .slice ac T.costs.length cc, .slice ak T.cls.length ck] 25))
  have HT := Lib.hid (BoxT.new h 25)
  have HR := Lib.hid (hr.below HB.out)
  have hnl := nI_len ws
  clear h hr
  go_enter Try.func78, Try.ntmps78
  go_wp2_with fail
  obtain ⟨B, hB⟩ : ∃ B, w.heap.size = B := ⟨_, rfl⟩
  rw [hB] at HT ⊢
  generalize w.alloc (.cells #[.slice aa T.rows.length ca, .slice ac T.costs.length cc, .slice ak T.cls.length ck] 25) = w1 at *
  go_loopw [5] (fun jv wr => ∃ j : Nat, j ≤ ws.length ∧ jv = .int .i64 j ∧ (∀ i, i ∈ ws.take j → clsAt T i = clsAt T (ws.headD 0)) ∧ ∃ nq, wr = w1.drewN nq) (fun jv _ => ws.length - (intOf jv).toNat)
  case atStart => exact ⟨0, Nat.zero_le _, rfl, fun i hi => by simp at hi, 0, rfl⟩
  case round =>
    obtain ⟨j, hj, rfl, hall, nq0, rfl⟩ := hrel
    have HALL := Lib.hid hall
    have hj0 : (0 : Int) ≤ (j : Int) := Int.natCast_nonneg _
    have hbq := Below.dn (Below.refl w1.heap.size w1) nq0
    have HT2 := HT.out.below hbq
    by_cases hlt : j < ws.length
    · have hj1 : (j : Int) < ((nI ws).length : Int) := by omega
      have hj2 : 0 < (nI ws).length := by omega
      obtain ⟨i, hi⟩ := elem_at hlt
      obtain ⟨i0, hi0⟩ := elem_at (show 0 < ws.length by omega)
      have hik := hok i (List.mem_of_getElem? hi)
      have hik0 := hok i0 (List.mem_of_getElem? hi0)
      obtain ⟨bw, ow, rfl, _, q1⟩ := nI_elem HR.out hi
      obtain ⟨bw', ow', e, _, q2⟩ := nI_elem HR.out hi0
      cases e
      rw [Nat.add_zero] at q2
      obtain ⟨x, hx⟩ := elem_at hik
      obtain ⟨y, hy⟩ := elem_at hik0
      obtain ⟨bk, ok, rfl, _, qx⟩ := ints_at HT.out.tb.cls hx
      obtain ⟨bk', ok', e, _, qy⟩ := ints_at HT.out.tb.cls hy
      cases e
      have c2 := HT.out.c2
      have e1 := clsAt_of hx
      have e2 : clsAt T (ws.headD 0) = y := by rw [head_at hi0]; exact clsAt_of hy
      have hi1 : (i : Int) < (T.cls.length : Int) := by omega
      have hi2 : (i0 : Int) < (T.cls.length : Int) := by omega
      have hi3 : (0 : Int) ≤ (i0 : Int) := Int.natCast_nonneg _
      have hi4 : (0 : Int) ≤ (i : Int) := Int.natCast_nonneg _
      have HI := Lib.hid hi; have E1 := Lib.hid e1; have E2 := Lib.hid e2
      clear hall HT2 hi hi0 hx hy e1 e2 hbq
      by_cases hxy : x = y
      · have hxy' : (x != y) = false := by simpa using hxy
        have hs : ∀ i', i' ∈ ws.take (j + 1) → clsAt T i' = clsAt T (ws.headD 0) := fun i' hi' => by
          rw [take_succ_at HI.out] at hi'
          rcases List.mem_append.1 hi' with h | h
          · exact HALL.out i' h
          · simp at h; subst h; rw [E1.out, E2.out, hxy]
        have HS := Lib.hid hs
        clear hxy hs
        go_wp2_with fail
        go_quiet (fail)
        go_wp2_with fail
        go_roundw
        case rel => exact ⟨j + 1, by omega, by go_num, HS.out, _, rfl⟩
        case measure => simp [intOf]; omega
      · have hxy' : (x != y) = true := by simpa using hxy
        have hs : single T ws = false := single_no HI.out (by rw [E1.out, E2.out]; exact hxy)
        have HS := Lib.hid hs
        clear hxy hs
        go_wp2_with fail
        go_quiet (fail)
        go_wp2_with fail
        go_ret
        exact ⟨ret_bool HS.out.symm, by first | exact Below.dn (Below.dn HB.out _) _ | (subst hB; exact Below.dn (Below.dn HB.out _) _)⟩
    · have hj1 : ¬ (j : Int) < ((nI ws).length : Int) := by omega
      have hs : single T ws = true := by
        unfold single
        rw [List.all_eq_true]
        intro i hi
        have := hall i (by rw [List.take_of_length_le (by omega)]; exact hi)
        simpa using this
      have HS := Lib.hid hs
      clear hall hs hbq HT2
      go_wp2_with fail
      go_ret
      exact ⟨ret_bool HS.out.symm, by first | exact Below.dn HB.out _ | (subst hB; exact Below.dn HB.out _)⟩

def allW (T : Tb) : List Nat := List.range T.rows.length
theorem range_succ' (n : Nat) : nI (List.range (n + 1)) = nI (List.range n) ++ [(n : Int)] := by rw [List.range_succ, nI_app]; rfl
set_option maxRecDepth 100000 in
set_option maxHeartbeats 4000000 in
theorem rall_any (va vc vk : Value) (T : Tb) (w : World) (h : TbR w va vc vk T) (hlen : T.rows.length ≤ 1000) :
    Calls Try.prog 61 #[.agg #[va, vc, vk]] w fun e w' => ∃ v, e = .returned v ∧ w'.ownsRow w.heap.size 3 1 v T.rows.length (ints (nI (allW T))) ∧ Below w.heap.size w w' := by
  obtain ⟨aa, ca, rfl⟩ := h.rows.form
  obtain ⟨ac, cc, rfl⟩ := h.costs.form
  obtain ⟨ak, ck, rfl⟩ := h.cls.form
  have HB := Lib.hid (alloc_below w (.cells #[.slice aa T.rows.length ca, .slice ac T.costs.length cc, .slice ak T.cls.length ck] 25))
  have b1 := Boxs.new w 25 #[.slice aa T.rows.length ca, .slice ac T.costs.length cc, .slice ak T.cls.length ck]
  have HX := Lib.hid b1
  clear h b1
  go_enter Try.func61, Try.ntmps61
  go_wp2_with fail
  obtain ⟨B, hB⟩ : ∃ B, w.heap.size = B := ⟨_, rfl⟩
  have hwB : w.heap.size ≤ B := by omega
  rw [hB] at HX ⊢
  generalize w.alloc (.cells #[.slice aa T.rows.length ca, .slice ac T.costs.length cc, .slice ak T.cls.length ck] 25) = w1 at *
  have hs1 := HB.out.size
  go_loopw [3, 4] (fun v jv wr => ∃ j : Nat, j ≤ T.rows.length ∧ jv = .int .i64 j ∧ wr.ownsRow w.heap.size 3 1 v j (ints (nI (List.range j))) ∧ Boxs wr B 25 #[.slice aa T.rows.length ca, .slice ac T.costs.length cc, .slice ak T.cls.length ck] ∧ Below w.heap.size w wr) (fun _ jv _ => T.rows.length - (intOf jv).toNat)
  case atStart => exact ⟨0, Nat.zero_le _, rfl, World.ownsRow_nil _ _ _ _, HX.out, HB.out⟩
  case round =>
    obtain ⟨j, hj, rfl, hown, hbx, hbl⟩ := hrel
    have hj0 : (0 : Int) ≤ (j : Int) := Int.natCast_nonneg _
    have c0 := hbx.cell 0
    simp at c0
    obtain ⟨av, cv, rfl⟩ := owns_form hown
    have HO := Lib.hid hown; have HX := Lib.hid hbx; have HBL := Lib.hid hbl
    have hsr : w.heap.size ≤ wr.heap.size := hbl.size
    clear hown hbx hbl
    by_cases hlt : j < T.rows.length
    · have hj1 : (j : Int) < (T.rows.length : Int) := by omega
      have hnl : (nI (List.range j)).length = j := by rw [nI_len, List.length_range]
      go_wp2_with (at_builtin; refine wpList_appI (base := w.heap.size) rfl _ _ rfl (.slice av j cv) (nI (List.range j)) rfl (by rw [nI_len, List.length_range]; exact HO.out.alloc _) (.slice (some ⟨wr.heap.size, 0, none⟩) 1 1) [(j : Int)] rfl (Rd_fresh wr 3 #[.int .i64 (j : Int)] 1 rfl (by omega)) (by rw [nI_len, List.length_range]; simp; omega) (by simp; omega) ?_; intro v4 w4 happ)
      have hX4 := Boxs.app (Boxs.below HX.out (alloc_below wr (.cells #[.int .i64 (j : Int)] 3))) (HO.out.alloc (.cells #[.int .i64 (j : Int)] 3)) happ (by decide)
      have hB4 := happ.below (HBL.out.alloc hsr (.cells #[.int .i64 (j : Int)] 3)) (HO.out.alloc (.cells #[.int .i64 (j : Int)] 3)) (Nat.le_refl _) (by simp; omega)
      have hO4 := happ.1
      rw [← range_succ', nI_len, List.length_range] at hO4
      have HO4 := Lib.hid hO4; have HX4 := Lib.hid hX4; have HB4 := Lib.hid hB4
      clear hX4 hB4 hO4 happ
      go_roundw
      case rel => exact ⟨j + 1, by omega, by go_num, HO4.out, HX4.out, HB4.out⟩
      case measure => simp [intOf]; omega
    · obtain rfl : j = T.rows.length := by omega
      have hj1 : ¬ (T.rows.length : Int) < (T.rows.length : Int) := by omega
      go_wp2_with fail
      go_ret
      subst hB
      exact ⟨_, rfl, HO.out, HBL.out⟩
end Go.Proofs.Ytmkkegigajmhkaa

namespace Go.Proofs.Ytmkkegigajmhkaa
open Go.RowKit Go.Maps

theorem ansAt_of {T : Tb} {i k : Nat} {r : List Int} {x : Int} (h : T.rows[i]? = some r) (hx : r[k]? = some x) : ansAt T i k = x := by
  unfold ansAt; rw [rowAt_of h, hx]; rfl
/-- the cells that a look at an answer reads -/
theorem ans_cells {W : World} {aa : Option Addr} {ca : Nat} {T : Tb} {i k : Nat} (h : RdR W (.slice aa T.rows.length ca) T.rows) (ho : OkT T) (hi : i < T.rows.length) (hk : k < T.costs.length) :
    ∃ br or bu ou nu cu, aa = some ⟨br, or, none⟩ ∧ W.cell? ⟨br, or + i, none⟩ = some (.slice (some ⟨bu, ou, none⟩) nu cu) ∧ W.cell? ⟨bu, ou + k, none⟩ = some (.int .i64 (ansAt T i k)) ∧ br < W.heap.size ∧ bu < W.heap.size ∧ k < nu := by
  obtain ⟨r, hr⟩ := elem_at hi
  obtain ⟨br, or, u, rfl, hlt, li, hu⟩ := rows_at h hr
  have hrl := ho.rl r (List.mem_of_getElem? hr)
  obtain ⟨x, hx⟩ := elem_at (show k < r.length by omega)
  obtain ⟨au, cu, rfl⟩ := hu.form
  obtain ⟨bu, ou, rfl, hlt2, q⟩ := ints_at hu hx
  exact ⟨br, or, bu, ou, r.length, cu, rfl, li, by rw [ansAt_of hr hx]; exact q, hlt, hlt2, by omega⟩
def OwnI (base : Nat) (w' : World) (e : Ending) (xs : List Int) : Prop := ∃ v, e = .returned v ∧ w'.ownsRow base 3 1 v xs.length (ints xs)
set_option maxRecDepth 100000 in
set_option maxHeartbeats 4000000 in
theorem with_any (va vc vk v : Value) (T : Tb) (ws : List Nat) (k : Nat) (a : Int) (w : World) (h : TbR w va vc vk T) (ho : OkT T) (hr : RdI w v (nI ws)) (hok : WsOk T ws) (hlen : ws.length ≤ 1000) (hk : k < T.costs.length) :
    Calls Try.prog 80 #[.agg #[va, vc, vk], v, .int .i64 (k : Int), .int .i64 a] w fun e w' => OwnI w.heap.size w' e (nI (withW T ws k a)) ∧ Below w.heap.size w w' := by
  obtain ⟨aa, ca, rfl⟩ := h.rows.form
  obtain ⟨ac, cc, rfl⟩ := h.costs.form
  obtain ⟨ak, ck, rfl⟩ := h.cls.form
  obtain ⟨aw, cw, rfl⟩ := hr.form
  have HB := Lib.hid (alloc_below w (.cells #[.slice aa T.rows.length ca, .slice ac T.costs.length cc, .slice ak T.cls.length ck] 25))
  have HT := Lib.hid (BoxT.new h 25)
  have HR := Lib.hid (hr.below HB.out)
  have HO := Lib.hid ho
  have hk64 := ho.c64
  clear h hr ho
  go_enter Try.func80, Try.ntmps80
  go_wp2_with fail
  obtain ⟨B, hB⟩ : ∃ B, w.heap.size = B := ⟨_, rfl⟩
  rw [hB] at HT ⊢
  generalize w.alloc (.cells #[.slice aa T.rows.length ca, .slice ac T.costs.length cc, .slice ak T.cls.length ck] 25) = w1 at *
  obtain ⟨N, hN⟩ : ∃ N, w1.heap.size = N := ⟨_, rfl⟩
  have hwN : w.heap.size ≤ N := by rw [← hN]; exact HB.out.size
  have HBK := Lib.hid (fun (W : World) (hw : Below N w1 W) => HT.out.below (w' := W) (by rw [hN]; exact hw))
  have HRK := Lib.hid (fun (W : World) (hw : Below N w1 W) => HR.out.below (w' := W) (by rw [hN]; exact hw))
  have HNK := Lib.hid (fun (W : World) (hw : Below N w1 W) => (show N ≤ W.heap.size by have := hw.size; omega))
  clear HT HR
  go_loopw [9, 10] (fun v jv wr => ∃ j : Nat, j ≤ ws.length ∧ jv = .int .i64 j ∧ wr.ownsRow N 3 1 v (nI (withW T (ws.take j) k a)).length (ints (nI (withW T (ws.take j) k a))) ∧ Below N w1 wr) (fun _ jv _ => ws.length - (intOf jv).toNat)
  case atStart => exact ⟨0, Nat.zero_le _, rfl, World.ownsRow_nil _ _ _ _, Below.refl _ _⟩
  case round =>
    obtain ⟨j, hj, rfl, hown, hbl⟩ := hrel
    have hj0 : (0 : Int) ≤ (j : Int) := Int.natCast_nonneg _
    have hwl : (withW T (ws.take j) k a).length ≤ j := by have := withW_le T (ws.take j) k a; rw [List.length_take] at this; omega
    obtain ⟨av, cv, rfl⟩ := owns_form hown
    have HOW := Lib.hid hown; have HBL := Lib.hid hbl
    by_cases hlt : j < ws.length
    · have hj1 : (j : Int) < ((nI ws).length : Int) := by have := nI_len ws; omega
      obtain ⟨i, hi⟩ := elem_at hlt
      have hir := hok i (List.mem_of_getElem? hi)
      obtain ⟨bw, ow, rfl, _, q1⟩ := nI_elem (HRK.out _ hbl) hi
      have hbt := HBK.out _ hbl
      obtain ⟨br, or, bu, ou, nu, cu, rfl, li, qa, _, _, hku⟩ := ans_cells hbt.tb.rows HO.out hir hk
      have c0 := hbt.c0
      have hsu := withW_succ (T := T) (k := k) (a := a) hi
      obtain ⟨x, hx⟩ : ∃ x, ansAt T i k = x := ⟨_, rfl⟩
      rw [hx] at hsu qa
      have hi1 : (i : Int) < (T.rows.length : Int) := by omega
      have hi0 : (0 : Int) ≤ (i : Int) := Int.natCast_nonneg _
      have hk0 : (0 : Int) ≤ (k : Int) := Int.natCast_nonneg _
      have hku1 : (k : Int) < (nu : Int) := by omega
      have HSU := Lib.hid hsu
      clear hown hbl hbt hsu hi hx
      by_cases hxa : x = a
      · have hxa' : (x == a) = true := by simpa using hxa
        rw [if_pos hxa] at HSU
        clear hxa
        go_wp2_with fail
        go_quiet (fail)
        have HOW := Lib.hid (owns_below HOW.out (Below.dn (Below.refl wr.heap.size wr) nq)); have HBL := Lib.hid (Below.dn HBL.out nq)
        have q2 : (wr.drewN nq).cell? ⟨bw, ow + j, none⟩ = some (.int .i64 (i : Int)) := q1
        clear q1 c0 li qa
        obtain ⟨w5, hw5⟩ : ∃ w5, wr.drewN nq = w5 := ⟨_, rfl⟩
        rw [hw5] at HOW HBL q2 ⊢
        clear hw5
        have hs5 := HNK.out _ HBL.out
        go_wp2_with (at_builtin; refine wpList_appI (base := N) rfl _ _ rfl (.slice av _ cv) (nI (withW T (ws.take j) k a)) rfl (HOW.out.alloc _) (.slice (some ⟨w5.heap.size, 0, none⟩) 1 1) [(i : Int)] rfl (Rd_fresh w5 3 #[.int .i64 (i : Int)] 1 rfl (by omega)) (by rw [nI_len]; simp; omega) (by simp; omega) ?_; intro v4 w4 happ)
        have hB4 := happ.below (HBL.out.alloc hs5 (.cells #[.int .i64 (i : Int)] 3)) (HOW.out.alloc (.cells #[.int .i64 (i : Int)] 3)) (Nat.le_refl _) (by simp; omega)
        have hO4 := happ.1
        rw [show nI (withW T (ws.take j) k a) ++ [(i : Int)] = nI (withW T (ws.take (j + 1)) k a) by rw [HSU.out, nI_app]; rfl] at hO4
        have HO4 := Lib.hid hO4; have HB4 := Lib.hid hB4
        clear hB4 hO4 happ
        go_roundw
        case rel => exact ⟨j + 1, by omega, by go_num, HO4.out, HB4.out⟩
        case measure => simp [intOf]; omega
      · have hxa' : (x == a) = false := by simpa using hxa
        rw [if_neg hxa, List.append_nil] at HSU
        clear hxa
        go_wp2_with fail
        go_quiet (fail)
        go_wp2_with fail
        go_roundw
        case rel => exact ⟨j + 1, by omega, by go_num, by rw [HSU.out]; exact owns_below HOW.out (Below.dn (Below.refl _ _) _), Below.dn HBL.out _⟩
        case measure => simp [intOf]; omega
    · have hj1 : ¬ (j : Int) < ((nI ws).length : Int) := by have := nI_len ws; omega
      have hta : ws.take j = ws := List.take_of_length_le (by omega)
      rw [hta] at HOW ⊢
      clear hown hbl
      go_wp2_with fail
      go_ret
      subst hB
      exact ⟨⟨_, rfl, owns_lower HOW.out hwN⟩, HB.out.trans (HBL.out.mono hwN)⟩

theorem ints_rep (n : Nat) : (madeCells #[.int .i64 0] n).toList = ints (List.replicate n 0) := by
  rw [toList_madeCells_one]; unfold ints; rw [List.map_replicate]
/-- the first j places have their own numbers -/
def upTo (n j : Nat) : List Int := nI (List.range j) ++ List.replicate (n - j) 0
theorem upTo_len {n j : Nat} (h : j ≤ n) : (upTo n j).length = n := by unfold upTo; rw [List.length_append, nI_len, List.length_range, List.length_replicate]; omega
theorem upTo_set {n j : Nat} (h : j < n) : (upTo n j).set j (j : Int) = upTo n (j + 1) := by
  unfold upTo
  have hl : (nI (List.range j)).length = j := by rw [nI_len, List.length_range]
  rw [List.set_append_right _ _ (by omega), hl, Nat.sub_self, range_succ', List.append_assoc]
  congr 1
  obtain ⟨m, hm⟩ : ∃ m, n - j = m + 1 := ⟨n - j - 1, by omega⟩
  rw [hm, List.replicate_succ, show n - (j + 1) = m by omega]
  rfl
theorem upTo_all (n : Nat) : upTo n n = nI (List.range n) := by unfold upTo; simp
set_option maxRecDepth 100000 in
set_option maxHeartbeats 4000000 in
theorem all_any (va vc vk : Value) (T : Tb) (w : World) (h : TbR w va vc vk T) (hlen : T.rows.length ≤ 1000) :
    Calls Try.prog 57 #[.agg #[va, vc, vk]] w fun e w' => OwnI w.heap.size w' e (nI (allW T)) ∧ Below w.heap.size w w' := by
  obtain ⟨aa, ca, rfl⟩ := h.rows.form
  obtain ⟨ac, cc, rfl⟩ := h.costs.form
  obtain ⟨ak, ck, rfl⟩ := h.cls.form
  have HB := Lib.hid (alloc_below w (.cells #[.slice aa T.rows.length ca, .slice ac T.costs.length cc, .slice ak T.cls.length ck] 33))
  have hmk := fun (W : World) => run_make_row' 22 3 (.int .i64 0) 8 Try.underlying22 Try.info3 rfl .i64 .i64 T.rows.length (by omega) (by omega) W
  clear h
  go_enter Try.func57, Try.ntmps57
  go_wp2_with fail
  have hbx := (alloc_below (w.alloc (.cells #[.slice aa T.rows.length ca, .slice ac T.costs.length cc, .slice ak T.cls.length ck] 33)) (.cells (madeCells #[.int .i64 0] T.rows.length) 3))
  have hown : ((w.alloc (.cells #[.slice aa T.rows.length ca, .slice ac T.costs.length cc, .slice ak T.cls.length ck] 33)).alloc (.cells (madeCells #[.int .i64 0] T.rows.length) 3)).ownsRow w.heap.size 3 1 (.slice (some ⟨w.heap.size + 1, 0, none⟩) T.rows.length T.rows.length) T.rows.length (ints (upTo T.rows.length 0)) := by
    have := owns_block (base := w.heap.size) (xs := ints (upTo T.rows.length 0)) (size := 1) (n := T.rows.length) (Boxs.new (w.alloc (.cells #[.slice aa T.rows.length ca, .slice ac T.costs.length cc, .slice ak T.cls.length ck] 33)) 3 (madeCells #[.int .i64 0] T.rows.length)) (by simp) (by rw [ints_rep]; unfold upTo; simp [nI]) (by rw [ints_len, upTo_len (by omega)]; omega) (by omega)
    rwa [World.size_alloc] at this
  have HBL := Lib.hid (HB.out.trans (hbx.mono (by simp)))
  have HO := Lib.hid hown
  clear hbx hown
  generalize (w.alloc (.cells #[.slice aa T.rows.length ca, .slice ac T.costs.length cc, .slice ak T.cls.length ck] 33)).alloc (.cells (madeCells #[.int .i64 0] T.rows.length) 3) = w1 at *
  go_loopw [11] (fun jv wr => ∃ j : Nat, j ≤ T.rows.length ∧ jv = .int .i64 j ∧ wr.ownsRow w.heap.size 3 1 (.slice (some ⟨w.heap.size + 1, 0, none⟩) T.rows.length T.rows.length) T.rows.length (ints (upTo T.rows.length j)) ∧ Below w.heap.size w wr) (fun jv _ => T.rows.length - (intOf jv).toNat)
  case atStart => exact ⟨0, Nat.zero_le _, rfl, HO.out, HBL.out⟩
  case round =>
    clear HO HBL
    obtain ⟨j, hj, rfl, hown, hbl⟩ := hrel
    have hj0 : (0 : Int) ≤ (j : Int) := Int.natCast_nonneg _
    have HO := Lib.hid hown; have HBL := Lib.hid hbl
    by_cases hlt : j < T.rows.length
    · have hj1 : (j : Int) < (T.rows.length : Int) := by omega
      obtain ⟨z, hz⟩ := elem_at (show j < (upTo T.rows.length j).length by rw [upTo_len hj]; exact hlt)
      have cz := own_cell hown hz
      have yz := hown.frozenAt j
      have lz := (hown.lt _ rfl).2
      have hst := (hown.stored j (.int .i64 (j : Int))).1
      rw [show (ints (upTo T.rows.length j)).set j (.int .i64 (j : Int)) = ints (upTo T.rows.length (j + 1)) by rw [← upTo_set hlt]; unfold ints; rw [List.map_set]] at hst
      have HO := Lib.hid hst
      clear hown hbl hst hz
      go_wp2_with fail
      have HBL := Lib.hid (HBL.out.setCell (p := ⟨w.heap.size + 1, j, none⟩) (by simp) (.int .i64 (j : Int)))
      go_roundw
      case rel => exact ⟨j + 1, by omega, by go_num, HO.out, HBL.out⟩
      case measure => simp [intOf]; omega
    · obtain rfl : j = T.rows.length := by omega
      have hj1 : ¬ (T.rows.length : Int) < (T.rows.length : Int) := by omega
      rw [upTo_all] at hown
      have HO := Lib.hid hown
      clear hown hbl
      go_wp2_with fail
      go_ret
      exact ⟨⟨_, rfl, by unfold allW; rw [nI_len, List.length_range]; exact HO.out⟩, HBL.out⟩
end Go.Proofs.Ytmkkegigajmhkaa

