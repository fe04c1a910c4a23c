/- Trees: as plain values; the tree of a table by a choice of questions; a tree in memory. The tree of a table whose questions a function chooses (program). The best question: a plain function of worlds; sets of worlds (plain law). The best question (program): the closure that notes what it found. Which tables are to be solved (program); the best question as a function of worlds (program). Best (program). What is a tree (plain); slices.ContainsFunc over children (program). -/
import Derived.Test.YtmkkegigajmhkaaN11
set_option linter.unusedVariables false
namespace Go.Proofs.Ytmkkegigajmhkaa
open Go.RowKit Go.Maps

inductive Tr where
  | nil : Tr
  | node (ask cls : Int) (ans : List Int) (kids : List Tr) : Tr
/-- the tree for some worlds, where a function chooses the questions -/
def treeF (choose : List Nat → Int) (T : Tb) : Nat → List Nat → Tr
  | 0, _ => .nil
  | n + 1, ws => if single T ws = true then .node (-1) (clsAt T (ws.headD 0)) [] []
    else .node (choose ws) 0 (given T ws (choose ws).toNat) ((given T ws (choose ws).toNat).map fun a => treeF choose T n (withW T ws (choose ws).toNat a))
/-- a function chooses questions that part the worlds -/
def ChooseOk (choose : List Nat → Int) (T : Tb) : Prop := ∀ ws, WsOk T ws → single T ws = false → ∃ k : Nat, choose ws = k ∧ k < T.costs.length ∧ 2 ≤ (given T ws k).length
/-- a tree in memory, in blocks of some kind -/
inductive TreeIn (τ : TypeId) (F : Nat → Prop) (W : World) : Value → Tr → Prop
  | nil : TreeIn τ F W (.pointer none) .nil
  | node {b : Nat} {a c : Int} {ans : List Int} {kids : List Tr} {us : List Value} {va vk : Value} (hF : F b) (hB : Boxs W b τ #[.int .i64 a, .int .i64 c, va, vk])
      (ha : RdIn F W va (ints ans)) (hk : RdIn F W vk us) (hl : us.length = kids.length) (hs : ∀ (k : Nat) (u : Value) (t : Tr), us[k]? = some u → kids[k]? = some t → TreeIn τ F W u t) :
      TreeIn τ F W (.pointer (some ⟨b, 0, none⟩)) (.node a c ans kids)
theorem Boxs.block {W W' : World} {b : Nat} {t : TypeId} {cs : Array Value} (h : Boxs W b t cs) (hk : W'.heap[b]? = W.heap[b]?) : Boxs W' b t cs := hk.trans h
theorem TreeIn.block {τ : TypeId} {F : Nat → Prop} {W W' : World} {v : Value} {t : Tr} (h : TreeIn τ F W v t) (hk : ∀ i, i < W.heap.size → F i → W'.heap[i]? = W.heap[i]?) : TreeIn τ F W' v t := by
  induction h with
  | nil => exact .nil
  | node hF hB ha hk2 hl hs ih => exact .node hF (hB.block (hk _ hB.lt hF)) (ha.block hk) (hk2.block hk) hl ih
theorem TreeIn.mono {τ : TypeId} {F G : Nat → Prop} {W : World} {v : Value} {t : Tr} (h : TreeIn τ F W v t) (hFG : ∀ i, i < W.heap.size → F i → G i) : TreeIn τ G W v t := by
  induction h with
  | nil => exact .nil
  | node hF hB ha hk2 hl hs ih => exact .node (hFG _ hB.lt hF) hB (ha.mono hFG) (hk2.mono hFG) hl ih
theorem TreeIn.le {τ : TypeId} {n m : Nat} {W : World} {v : Value} {t : Tr} (h : TreeIn τ (n ≤ ·) W v t) (hnm : m ≤ n) : TreeIn τ (m ≤ ·) W v t :=
  h.mono (fun _ _ hi => Nat.le_trans hnm hi)
theorem TreeIn.under {τ : TypeId} {F : Nat → Prop} {W W' : World} {v : Value} {t : Tr} (h : TreeIn τ F W v t) (hb : Below W.heap.size W W') : TreeIn τ F W' v t := h.block fun i hi _ => hb.block i hi
/-- a list of trees in memory -/
def Trees (τ : TypeId) (F : Nat → Prop) (W : World) (us : List Value) (ts : List Tr) : Prop := us.length = ts.length ∧ ∀ (k : Nat) (u : Value) (t : Tr), us[k]? = some u → ts[k]? = some t → TreeIn τ F W u t
theorem Trees.block {τ : TypeId} {F : Nat → Prop} {W W' : World} {us : List Value} {ts : List Tr} (h : Trees τ F W us ts) (hk : ∀ i, i < W.heap.size → F i → W'.heap[i]? = W.heap[i]?) : Trees τ F W' us ts :=
  ⟨h.1, fun k u t hu ht => (h.2 k u t hu ht).block hk⟩
theorem Trees.mono {τ : TypeId} {F G : Nat → Prop} {W : World} {us : List Value} {ts : List Tr} (h : Trees τ F W us ts) (hFG : ∀ i, i < W.heap.size → F i → G i) : Trees τ G W us ts :=
  ⟨h.1, fun k u t hu ht => (h.2 k u t hu ht).mono hFG⟩
theorem Trees.nil (τ : TypeId) (F : Nat → Prop) (W : World) : Trees τ F W [] [] := ⟨rfl, fun k u t hu => by simp at hu⟩
theorem Trees.snoc {τ : TypeId} {F : Nat → Prop} {W : World} {us : List Value} {ts : List Tr} {u : Value} {t : Tr} (h : Trees τ F W us ts) (hu : TreeIn τ F W u t) : Trees τ F W (us ++ [u]) (ts ++ [t]) := by
  refine ⟨by simp [h.1], fun k u' t' h1 h2 => ?_⟩
  by_cases hk : k < us.length
  · rw [List.getElem?_append_left hk] at h1
    rw [List.getElem?_append_left (by rw [← h.1]; exact hk)] at h2
    exact h.2 k u' t' h1 h2
  · rw [List.getElem?_append_right (by omega)] at h1
    rw [List.getElem?_append_right (by rw [← h.1]; omega), ← h.1] at h2
    have e0 : k - us.length = 0 := by have := (List.getElem?_eq_some_iff.1 h1).1; simp at this; omega
    rw [e0] at h1 h2
    simp at h1 h2
    subst h1; subst h2; exact hu
theorem Trees.one {τ : TypeId} {F : Nat → Prop} {W : World} {us : List Value} {ts : List Tr} (h : Trees τ F W us ts) : ∀ u ∈ us, u.oneCell' = true := by
  intro u hu
  obtain ⟨k, hk⟩ := List.mem_iff_getElem?.1 hu
  obtain ⟨t, ht⟩ := elem_at (show k < ts.length by rw [← h.1]; exact (List.getElem?_eq_some_iff.1 hk).1)
  have := h.2 k u t hk ht
  cases this <;> rfl
theorem TreeIn.of {τ : TypeId} {F : Nat → Prop} {W : World} {b : Nat} {a c : Int} {ans : List Int} {kids : List Tr} {us : List Value} {va vk : Value} (hF : F b) (hB : Boxs W b τ #[.int .i64 a, .int .i64 c, va, vk])
    (ha : RdIn F W va (ints ans)) (hk : RdIn F W vk us) (h : Trees τ F W us kids) : TreeIn τ F W (.pointer (some ⟨b, 0, none⟩)) (.node a c ans kids) := .node hF hB ha hk h.1 h.2
theorem TreeIn.form {τ : TypeId} {F : Nat → Prop} {W : World} {v : Value} {t : Tr} (h : TreeIn τ F W v t) : ∃ p, v = .pointer p := by cases h <;> exact ⟨_, rfl⟩
theorem TreeIn.open {τ : TypeId} {F : Nat → Prop} {W : World} {v : Value} {a c : Int} {ans : List Int} {kids : List Tr} (h : TreeIn τ F W v (.node a c ans kids)) :
    ∃ b us va vk, v = .pointer (some ⟨b, 0, none⟩) ∧ F b ∧ Boxs W b τ #[.int .i64 a, .int .i64 c, va, vk] ∧ RdIn F W va (ints ans) ∧ RdIn F W vk us ∧ Trees τ F W us kids := by
  cases h with
  | node hF hB ha hk hl hs => exact ⟨_, _, _, _, rfl, hF, hB, ha, hk, hl, hs⟩
theorem TreeIn.isNil {τ : TypeId} {F : Nat → Prop} {W : World} {v : Value} (h : TreeIn τ F W v .nil) : v = .pointer none := by cases h; rfl
theorem RdIn.nil (F : Nat → Prop) (W : World) : RdIn F W (.slice none 0 0) [] := ⟨RdI.none W, fun h => absurd rfl h⟩
/-- a node to which children are added -/
structure NodeU (τ ε : TypeId) (n0 : Nat) (W : World) (bx : Nat) (a : Int) (va kv : Value) (us : List Value) (ts : List Tr) : Prop where
  hb : n0 ≤ bx
  sz : n0 ≤ W.heap.size
  box : Boxs W bx τ #[.int .i64 a, .int .i64 0, va, kv]
  row : W.ownsRow n0 ε 1 kv us.length us
  trees : Trees τ (fun i => n0 ≤ i ∧ i ≠ bx ∧ kv.ownBlock ≠ some i) W us ts
theorem owns_same {base : Nat} {W W' : World} {e : TypeId} {s n : Nat} {v : Value} {xs : List Value} (h : W.ownsRow base e s v n xs) (hk : ∀ i, i < W.heap.size → base ≤ i → W'.heap[i]? = W.heap[i]?) : W'.ownsRow base e s v n xs := by
  refine ⟨h.1, ?_⟩
  rcases h.2 with h2 | ⟨g, cap, cur, h1, h2, h3, h4⟩
  · exact .inl h2
  · exact .inr ⟨g, cap, cur, h1, h2, (hk g (Array.getElem?_eq_some_iff.1 h3).1 h2).trans h3, h4⟩
section
variable {τ ε : TypeId} {n0 : Nat} {W W' : World} {bx : Nat} {a : Int} {va kv : Value} {us : List Value} {ts : List Tr}
theorem NodeU.same (h : NodeU τ ε n0 W bx a va kv us ts) (hs : W.heap.size ≤ W'.heap.size) (hk : ∀ i, i < W.heap.size → n0 ≤ i → W'.heap[i]? = W.heap[i]?) : NodeU τ ε n0 W' bx a va kv us ts :=
  ⟨h.hb, Nat.le_trans h.sz hs, h.box.block (hk _ h.box.lt h.hb), owns_same h.row hk, h.trees.block fun i hi hF => hk i hi hF.1⟩
theorem NodeU.under (h : NodeU τ ε n0 W bx a va kv us ts) (hb : Below W.heap.size W W') : NodeU τ ε n0 W' bx a va kv us ts := h.same hb.size fun i hi _ => hb.block i hi
theorem NodeU.cell (h : NodeU τ ε n0 W bx a va kv us ts) : W.cell? ⟨bx, 3, none⟩ = some kv := h.box.cell 3
/-- one child more: W is the world behind buildSlice -/
theorem NodeU.app {kv' pt : Value} {t : Tr} (h : NodeU τ ε n0 W bx a va kv us ts) (hne : τ ≠ ε) (ht : TreeIn τ (fun i => n0 ≤ i ∧ i ≠ bx ∧ kv.ownBlock ≠ some i) W pt t)
    (ha : AppOut n0 ε W kv (us.length + 1) (us ++ [pt]) kv' W') : NodeU τ ε n0 (W'.setCell ⟨bx, 3, none⟩ kv') bx a va kv' (us ++ [pt]) (ts ++ [t]) := by
  have hsz := ha.size
  have hbx' : Boxs W' bx τ #[.int .i64 a, .int .i64 0, va, kv] := Boxs.app h.box h.row ha hne
  have hT := (h.trees.snoc ht).mono (G := fun i => (n0 ≤ i ∧ i ≠ bx ∧ kv.ownBlock ≠ some i) ∧ kv'.ownBlock ≠ some i) fun i hi hF => ⟨hF, fun he => by
    rcases ha.2.2 with h2 | h2
    · exact hF.2.2 (h2 ▸ he)
    · rw [h2] at he; cases he; omega⟩
  refine ⟨h.hb, by simpa using Nat.le_trans h.sz hsz, ?_, ?_, ?_⟩
  · simpa using hbx'.put 3 kv'
  · have := owns_boxset (o := 3) ha.1 hbx' hne kv'
    simpa using this
  · refine (hT.block (W' := W'.setCell ⟨bx, 3, none⟩ kv') fun i hi hF => ?_).mono fun i _ hF => ⟨hF.1.1, hF.1.2.1, hF.2⟩
    rw [Below.heap_setCell _ _ _ _ hF.1.2.1]
    exact ha.2.1.block i hi fun e => hF.1.2.2 e.symm
theorem NodeU.done {ans : List Int} (h : NodeU τ ε n0 W bx a va kv us ts) (ha : RdIn (n0 ≤ ·) W va (ints ans)) : TreeIn τ (n0 ≤ ·) W (.pointer (some ⟨bx, 0, none⟩)) (.node a 0 ans ts) :=
  .of h.hb h.box ha (RdIn_owns h.row) (h.trees.mono fun i _ hF => hF.1)
end
theorem Keeps.app {F : Nat → Prop} {w0 W W' : World} {N n : Nat} {e : TypeId} {v v' : Value} {zs : List Value} (h : Keeps F w0 W) (ha : AppOut N e W v n zs v' W') (hv : ∀ b, v.ownBlock = some b → w0.heap.size ≤ b) : Keeps F w0 W' :=
  ⟨ha.2.1.os.trans h.os, ha.2.1.tape.trans h.tape, ha.2.1.output.trans h.output, Nat.le_trans h.size ha.2.1.size, fun i hi hf => (ha.2.1.block i (Nat.lt_of_lt_of_le hi h.size) (fun e => by have := hv i e.symm; omega)).trans (h.block i hi hf)⟩
theorem Keeps.join {F G : Nat → Prop} {a b c : World} (h : Keeps F a b) (k : Keeps G b c) (hG : ∀ i, i < a.heap.size → G i → F i) : Keeps F a c :=
  ⟨k.os.trans h.os, k.tape.trans h.tape, k.output.trans h.output, Nat.le_trans h.size k.size, fun i hi hf => (k.block i (Nat.lt_of_lt_of_le hi h.size) (fun hg => hf (hG i hi hg))).trans (h.block i hi hf)⟩
/-- two assignments that come up last, in either order -/
theorem wpAnyE_pair {P : Program} {ops : Array Oper} {Q : Exit → Act → World → Prop} {md : Region.Mode} {S : World → Prop} {fuel : Nat} {listed : Array Bool} {a : Act} {w : World} (i j : Nat) (di dj : Option Nat) {oi oj : Oper} (vi vj : Value)
    (hr : Region.ready md ops listed = [i, j]) (hri : Region.ready md ops (listed.setIfInBounds i true) = [j]) (hrj : Region.ready md ops (listed.setIfInBounds j true) = [i])
    (hre : Region.ready md ops ((listed.setIfInBounds i true).setIfInBounds j true) = []) (hre' : Region.ready md ops ((listed.setIfInBounds j true).setIfInBounds i true) = [])
    (hup : allUpB ops ((listed.setIfInBounds i true).setIfInBounds j true) = true) (hup' : allUpB ops ((listed.setIfInBounds j true).setIfInBounds i true) = true)
    (hoi : ops[i]? = some oi) (hdi : oi.dst = di) (hoj : ops[j]? = some oj) (hdj : oj.dst = dj)
    (wi : Region.wanted oi (yielded ops a.tmps) = true) (wi' : Region.wanted oi (yielded ops (a.put dj vj).tmps) = true) (wj : Region.wanted oj (yielded ops a.tmps) = true) (wj' : Region.wanted oj (yielded ops (a.put di vi).tmps) = true)
    (ei : (execOp a.eval oi).run P w = .ok (.value vi) w) (ei' : (execOp (a.put dj vj).eval oi).run P w = .ok (.value vi) w) (ej : (execOp a.eval oj).run P w = .ok (.value vj) w) (ej' : (execOp (a.put di vi).eval oj).run P w = .ok (.value vj) w)
    (hc : (a.put dj vj).put di vi = (a.put di vi).put dj vj) (hS : S w) (h : Q .normal ((a.put di vi).put dj vj) w) : wpAnyE P md ops Q S (fuel + 2) listed a w :=
  wpAnyEBoth i j hr
    (wpOpRun' di hoi hdi wi ei ⟨.inl hS, wpAnyEOne j hri (wpOpRun' dj hoj hdj wj' ej' ⟨.inr (allUp_of hup), wpAnyE_done hre h _⟩)⟩)
    (wpOpRun' dj hoj hdj wj ej ⟨.inl hS, wpAnyEOne i hrj (wpOpRun' di hoi hdi wi' ei' ⟨.inr (allUp_of hup'), wpAnyE_done hre' (by rw [hc]; exact h) _⟩)⟩)
end Go.Proofs.Ytmkkegigajmhkaa

namespace Go.Proofs.Ytmkkegigajmhkaa
open Go.RowKit Go.Maps

theorem Try.underlying106 : Try.prog.underlying 106 = some (.slice 45) := by kernel_rfl
theorem Try.info45 : (Try.prog.info? 45).map (fun i => (i.zero, i.size, i.bytes)) = some (some (.pointer none), 1, 8) := by kernel_rfl
theorem info_parts45 : ∃ i0 : TypeInfo, Try.prog.info? 45 = some i0 ∧ i0.zero = some (.pointer none) ∧ i0.size = 1 ∧ i0.bytes = 8 := info_parts Try.info45
theorem exec_appT {w : World} {o : Oper} {a : Act} {base : Nat} (s x : Operand) (ho : o.op = .call { callee := .builtin .append, args := #[s, x], argTypes := #[106, 106] })
    (v : Value) (n : Nat) (us : List Value) (hs : a.eval s = v) (hown : w.ownsRow base 45 1 v n us) (vx : Value) (ys : List Value) (hx : a.eval x = vx) (hrd : Rd w vx ys) (h1 : ∀ u ∈ ys, u.oneCell' = true) (hlen : n + ys.length ≤ 1000000) (hbase : base ≤ w.heap.size) :
    ∃ v' w', (execOp a.eval o).run Try.prog w = .ok (.value v') w' ∧ AppOut base 45 w v (n + ys.length) (us ++ ys) v' w' := by
  obtain ⟨i0, hi0, hz0, hz1, hz2⟩ := info_parts45
  exact exec_append_rd (w := w) (o := o) (a := a) (base := base) s x 106 45 i0 _ 8 ho Try.underlying106 hi0 hz0 hz1 hz2 rfl (by omega) v n us hs hown vx ys hx hrd h1 hlen hbase
section
variable {ops : Array Oper} {Q : Exit → Act → World → Prop} {K : Act → World → Prop} {a : Act} {w : World} {o : Oper} {base : Nat}
theorem wpOpAppT (i : Nat) (d : Option Nat) (hoi : ops[i]? = some o) (hd : o.dst = d) (hw : Region.wanted o (yielded ops a.tmps) = true) (s x : Operand) (ho : o.op = .call { callee := .builtin .append, args := #[s, x], argTypes := #[106, 106] })
    (v : Value) (n : Nat) (us : List Value) (hs : a.eval s = v) (hown : w.ownsRow base 45 1 v n us) (vx : Value) (ys : List Value) (hx : a.eval x = vx) (hrd : Rd w vx ys) (h1 : ∀ u ∈ ys, u.oneCell' = true) (hlen : n + ys.length ≤ 1000000) (hbase : base ≤ w.heap.size)
    (hk : ∀ v' w', AppOut base 45 w v (n + ys.length) (us ++ ys) v' w' → K (a.put d v') w') : wpOp Try.prog ops Q i K a w := by
  obtain ⟨v', w', h, h2⟩ := exec_appT (base := base) s x ho v n us hs hown vx ys hx hrd h1 hlen hbase
  exact wpOpRun' d hoi hd hw h (hk v' w' h2)
end
theorem single_nil (T : Tb) : single T [] = true := rfl
theorem clsAt_head {T : Tb} {ws : List Nat} {i : Nat} {x : Int} (h : ws[0]? = some i) (hx : T.cls[i]? = some x) : clsAt T (ws.headD 0) = x := by
  cases ws with
  | nil => simp at h
  | cons a r => simp at h; subst h; exact clsAt_of hx
/-- the result of the tree functions -/
def TreeOut (τ : TypeId) (n0 N0 : Nat) (Inv : World → Prop) (w : World) (t : Tr) (e : Ending) (w' : World) : Prop := ∃ p, e = .returned p ∧ TreeIn τ (n0 ≤ ·) w' p t ∧ Inv w' ∧ Keeps (· < N0) w w'
theorem keeps_same {N : Nat} {W W' : World} (h : Keeps (· < N) W W') {n0 : Nat} (hn : N ≤ n0) : ∀ i, i < W.heap.size → n0 ≤ i → W'.heap[i]? = W.heap[i]? := fun i hi hn0 => h.block i hi (by omega)
set_option maxRecDepth 100000 in
set_option maxHeartbeats 16000000 in
theorem tree65_any (w1 : World) (va vc vk : Value) (T : Tb) (ho : OkT T) (hT : TbR w1 va vc vk T) (N0 : Nat) (Inv : World → Prop) (hInv1 : ∀ W, Inv W → Below w1.heap.size w1 W) (hInv2 : ∀ W W', Inv W → Below N0 W W' → Inv W')
    (pc : Value) (choose : List Nat → Int) (hch : ChooseOk choose T)
    (hf : ∀ ws v W, WsOk T ws → ws.length ≤ 64 → ws.Pairwise (· < ·) → single T ws = false → Inv W → N0 ≤ W.heap.size → RdIn (N0 ≤ ·) W v (ints (nI ws)) → Calls Try.prog 65 #[v, pc] W fun e W' => e = .returned (.int .i64 (choose ws)) ∧ Inv W' ∧ Keeps (· < N0) W W') :
    ∀ (n : Nat) (ws : List Nat) (v : Value) (w : World), ws.length ≤ n → ws ≠ [] → ws.length ≤ 64 → ws.Pairwise (· < ·) → WsOk T ws → Inv w → N0 ≤ w.heap.size → RdIn (N0 ≤ ·) w v (ints (nI ws)) →
      Calls Try.prog 58 #[.agg #[va, vc, vk], v, .func (.func 65) #[] #[pc]] w fun e w' => TreeOut 108 w.heap.size N0 Inv w (treeF choose T n ws) e w' := by
  obtain ⟨aa, ca, rfl⟩ := hT.rows.form
  obtain ⟨ac, cc, rfl⟩ := hT.costs.form
  obtain ⟨ak, ck, rfl⟩ := hT.cls.form
  have HTB := Lib.hid fun W (h : Inv W) => hT.below (hInv1 W h)
  have HI2 := Lib.hid hInv2; have HF := Lib.hid hf; have HCH := Lib.hid hch; have HO := Lib.hid ho
  clear hInv1 hInv2 hf hch ho hT
  intro n
  induction n with
  | zero => intro ws v w h0 hne; exact absurd (List.length_eq_zero_iff.1 (by omega)) hne
  | succ n ih =>
  intro ws v w hn hne h64 hsrt hok hinv hN0 hr
  have IH := Lib.hid ih
  obtain ⟨aw, cw, rfl⟩ := RdI.form (show RdI w v (nI ws) from hr.1)
  obtain ⟨B, hB⟩ : ∃ B, w.heap.size = B := ⟨_, rfl⟩
  have HB := Lib.hid (alloc_below w (.cells #[.slice aa T.rows.length ca, .slice ac T.costs.length cc, .slice ak T.cls.length ck] 33))
  have HINV := Lib.hid (HI2.out _ _ hinv (HB.out.mono hN0))
  have BX := Lib.hid (Boxs.new w 33 #[.slice aa T.rows.length ca, .slice ac T.costs.length cc, .slice ak T.cls.length ck])
  have HR := Lib.hid (hr.below HB.out)
  have HK := Lib.hid (Keeps.of_below (F := (· < N0)) HB.out)
  have HNE := Lib.hid hne
  have HSRT := Lib.hid hsrt
  clear hsrt
  have hsz0 : w.heap.size < (w.alloc (.cells #[.slice aa T.rows.length ca, .slice ac T.costs.length cc, .slice ak T.cls.length ck] 33)).heap.size := by simp
  clear hr hinv hne ih HB
  go_enter Try.func58, Try.ntmps58
  go_wp2_with fail
  rw [hB] at BX hsz0 hN0
  generalize w.alloc (.cells #[.slice aa T.rows.length ca, .slice ac T.costs.length cc, .slice ak T.cls.length ck] 33) = wb at *
  have hN0' : N0 ≤ wb.heap.size := by omega
  have SG := single_any _ _ _ _ T ws wb (HTB.out wb HINV.out) HR.out.1 (fun j hj => by rw [HO.out.kl]; exact hok j hj)
  have bc0 := BX.out.cell 0
  have bc1 := BX.out.cell 1
  have bc2 := BX.out.cell 2
  simp only [List.getElem?_toArray, List.getElem?_cons_zero, List.getElem?_cons_succ] at bc0 bc1 bc2
  go_wp2_with fail
  refine SG.mono ?_
  rintro e w2 ⟨rfl, hb2⟩
  have HINV2 := Lib.hid (HI2.out _ _ HINV.out (hb2.mono hN0'))
  have BX2 := Lib.hid (Boxs.below BX.out hb2)
  have HR2 := Lib.hid (HR.out.below hb2)
  have HK2 := Lib.hid (HK.out.trans (Keeps.of_below hb2))
  have hsz2 : B < w2.heap.size := BX2.out.lt
  have hN2 : N0 ≤ w2.heap.size := by omega
  clear hb2 SG bc0 bc1 bc2 HINV BX HR HK
  obtain ⟨sg, hsg⟩ : ∃ b, single T ws = b := ⟨_, rfl⟩
  have HSG := Lib.hid hsg
  have htr : treeF choose T (n + 1) ws = if single T ws = true then .node (-1) (clsAt T (ws.headD 0)) [] [] else .node (choose ws) 0 (given T ws (choose ws).toNat) ((given T ws (choose ws).toNat).map fun a => treeF choose T n (withW T ws (choose ws).toNat a)) := rfl
  rw [hsg] at htr ⊢
  have HTR := Lib.hid htr
  clear htr hsg
  cases sg
  · obtain ⟨k, hck, hk, hg2⟩ := HCH.out ws hok HSG.out
    have CH := HF.out ws _ w2 hok h64 HSRT.out HSG.out HINV2.out hN2 HR2.out
    rw [hck] at CH
    have htr := HTR.out
    simp only [Bool.false_eq_true, if_false] at htr
    rw [hck, Int.toNat_natCast] at htr
    have HTR := Lib.hid htr
    clear hck htr
    go_wp2_with fail
    refine CH.mono ?_
    rintro e w3 ⟨rfl, hi3, hk3⟩
    have BX3 := Lib.hid (Boxs.block BX2.out (hk3.block _ hsz2 (by omega)))
    have HR3 := Lib.hid (HR2.out.block fun i hi hF => hk3.block i hi (by omega))
    have HK3 := Lib.hid (HK2.out.trans hk3)
    have hsz3 := hk3.size
    have HINV3 := Lib.hid hi3
    clear CH hi3 hk3 BX2 HR2 HK2 HINV2
    go_wp2_with fail
    obtain ⟨bx, hbx⟩ : ∃ b, w3.heap.size = b := ⟨_, rfl⟩
    have HB4 := Lib.hid (alloc_below w3 (.cells #[.int .i64 (k : Int), .int .i64 0, .slice none 0 0, .slice none 0 0] 108))
    have BXX := Boxs.new w3 108 #[.int .i64 (k : Int), .int .i64 0, .slice none 0 0, .slice none 0 0]
    have hs4 : w3.heap.size < (w3.alloc (.cells #[.int .i64 (k : Int), .int .i64 0, .slice none 0 0, .slice none 0 0] 108)).heap.size := by simp
    rw [hbx] at BXX hs4 hsz3 ⊢
    have BXX := Lib.hid BXX
    have BX := Lib.hid (Boxs.below BX3.out HB4.out)
    have HR4 := Lib.hid (HR3.out.below HB4.out)
    have HK4 := Lib.hid (HK3.out.trans (Keeps.of_below HB4.out))
    have HINV4 := Lib.hid (HI2.out _ _ HINV3.out (HB4.out.mono (by omega)))
    clear BX3 HR3 HK3 HINV3 HB4
    have hN4 : N0 ≤ (w3.alloc (.cells #[.int .i64 (k : Int), .int .i64 0, .slice none 0 0, .slice none 0 0] 108)).heap.size := by omega
    generalize w3.alloc (.cells #[.int .i64 (k : Int), .int .i64 0, .slice none 0 0, .slice none 0 0] 108) = w4 at *
    have hd4 := Below.dn (Below.refl w4.heap.size w4) 1
    have PA := parts_any _ _ _ _ T ws k (w4.drewN 1) ((HTB.out w4 HINV4.out).below hd4) HO.out (HR4.out.below hd4).1 hok (by omega) hk
    have hgl := given_len T ws k
    have HLT := Lib.hid fun a => withW_lt (T := T) (ws := ws) (k := k) (a := a) hg2
    have HNW := Lib.hid fun a => withW_ne (T := T) (ws := ws) (k := k) (a := a)
    obtain ⟨G, hG⟩ : ∃ G, given T ws k = G := ⟨_, rfl⟩
    unfold PartsOut at PA
    rw [hG] at PA HTR hgl hg2 HNW
    have c0 := BX.out.cell 0; have c1 := BX.out.cell 1; have c2 := BX.out.cell 2; have cx := BXX.out.cell 0
    simp only [List.getElem?_toArray, List.getElem?_cons_zero, List.getElem?_cons_succ] at c0 c1 c2 cx
    clear hG hd4
    refine wp_region_E (fun W => W.cell? ⟨B, 0, none⟩ = some (.slice aa T.rows.length ca) ∧ W.cell? ⟨B, 1, none⟩ = some (.slice ac T.costs.length cc) ∧ W.cell? ⟨B, 2, none⟩ = some (.slice ak T.cls.length ck) ∧ W.cell? ⟨bx, 0, none⟩ = some (.int .i64 (k : Int))) (by kernel_rfl) ?_
    have hdr : (w4).drew = { w4 with drawn := (w4).drawn + 1 } := rfl
    rw [← hdr]
    clear hdr
    change wpAnyE _ _ _ _ _ _ _ _ (w4.drewN 1)
    refine tk 0 30 rfl rfl (.agg #[.slice aa T.rows.length ca, .slice ac T.costs.length cc, .slice ak T.cls.length ck]) (fun W hW => by obtain ⟨c0, c1, c2, cx⟩ := hW; go_simp) ⟨c0, c1, c2, cx⟩ ?_
    try simp only [pa, pl]
    refine tm 1 31 rfl rfl (.slice aw (nI ws).length cw) ⟨c0, c1, c2, cx⟩ ?_
    try simp only [pa, pl]
    refine tm 2 32 rfl rfl (.pointer (some ⟨bx, 0, none⟩)) ⟨c0, c1, c2, cx⟩ ?_
    try simp only [pa, pl]
    refine tg 3 33 rfl rfl (.pointer (some ⟨bx, 0, none⟩)) ⟨c0, c1, c2, cx⟩ ?_
    try simp only [pa, pl]
    refine tg 4 34 rfl rfl (.pointer (some ⟨bx, 0, none⟩)) ⟨c0, c1, c2, cx⟩ ?_
    try simp only [pa, pl]
    refine tk 5 35 rfl rfl (.int .i64 (k : Int)) (fun W hW => by obtain ⟨c0, c1, c2, cx⟩ := hW; go_simp) ⟨c0, c1, c2, cx⟩ ?_
    try simp only [pa, pl]
    refine wpAnyEOne 6 (by kernel_rfl) ?_
    refine wpOpCall (some 36) 56 #[.agg #[.slice aa T.rows.length ca, .slice ac T.costs.length cc, .slice ak T.cls.length ck], .slice aw (nI ws).length cw, .int .i64 (k : Int)] rfl rfl rfl (by go_simp) (PA) ?_
    rintro e w5 ⟨⟨v1, v2, rfl, hg1, hg2'⟩, hb9⟩
    have hb45 := (Below.dn (Below.refl w4.heap.size w4) 1).trans hb9
    obtain ⟨a1, c1', e1⟩ := RdI.form (show RdI w5 v1 G from hg1.1)
    obtain ⟨a2, c2', e2⟩ := hg2'.rd.form
    subst e1; subst e2
    have bxt := Boxs.below BX.out hb45
    have bxx := Boxs.below BXX.out hb45
    clear hb9
    refine ⟨_, rfl, ?_⟩
    refine ⟨.inl (⟨bxt.cell 0, bxt.cell 1, bxt.cell 2, bxx.cell 0⟩), ?_⟩
    try simp only [pa, pl]
    refine tm 7 29 rfl rfl (.tuple #[.slice a1 G.length c1', .slice a2 (partsW T ws k G).length c2']) ⟨bxt.cell 0, bxt.cell 1, bxt.cell 2, bxx.cell 0⟩ ?_
    try simp only [pa, pl]
    refine tg 8 37 rfl rfl ((.slice a1 G.length c1')) ⟨bxt.cell 0, bxt.cell 1, bxt.cell 2, bxx.cell 0⟩ ?_
    try simp only [pa, pl]
    refine tg 9 38 rfl rfl ((.slice a2 (partsW T ws k G).length c2')) ⟨bxt.cell 0, bxt.cell 1, bxt.cell 2, bxx.cell 0⟩ ?_
    try simp only [pa, pl]
    refine wpAnyEOne 10 (by kernel_rfl) ?_
    refine wpOpRun' (v := .slice a1 G.length c1') (w' := w5) (some 8) rfl rfl rfl (by rfl) ?_
    refine ⟨.inl ⟨bxt.cell 0, bxt.cell 1, bxt.cell 2, bxx.cell 0⟩, ?_⟩
    try simp only [pa, pl]
    refine wpAnyEOne 11 (by kernel_rfl) ?_
    refine wpOpRun' (v := .slice a2 (partsW T ws k G).length c2') (w' := w5) (some 9) rfl rfl rfl (by rfl) ?_
    refine ⟨.inr (allUp_of (by kernel_rfl)), ?_⟩
    try simp only [pa, pl]
    refine wpAnyE_done (by kernel_rfl) ?_ _
    have BXT5 := Lib.hid bxt
    have HK5 := Lib.hid (HK4.out.trans (Keeps.of_below hb45))
    have HINV5 := Lib.hid (HI2.out _ _ HINV4.out (hb45.mono hN4))
    have hn2 : N0 ≤ B := by have := HINV4; omega
    have HG1 := Lib.hid hg1; have HG2 := Lib.hid hg2'
    have BXX5 := Lib.hid bxx
    have hs5 := hb45.size
    have bxc := bxx.cell 2
    have bxf := bxx.frozen 2
    simp only [List.getElem?_toArray, List.getElem?_cons_zero, List.getElem?_cons_succ] at bxc
    clear bxt bxx c0 c1 c2 cx hg1 hg2' hb45
    go_wp2_with fail
    have hbxB : B ≤ bx := by omega
    have hbne : B ≠ bx := by omega
    have hbn0 : N0 ≤ bx := by omega
    have NU0 : NodeU 108 45 B (w5.setCell ⟨bx, 2, none⟩ (.slice a1 G.length c1')) bx k (.slice a1 G.length c1') (.slice none 0 0) [] [] := by
      refine ⟨hbxB, by simpa using (by omega : B ≤ w5.heap.size), ?_, World.ownsRow_nil _ _ _ _, Trees.nil _ _ _⟩
      have := BXX5.out.put 2 (.slice a1 G.length c1')
      simpa using this
    have NU0 := Lib.hid NU0
    have BXT6 := Lib.hid (Boxs.setOther BXT5.out hbne (.slice a1 G.length c1') (o := 2))
    have HK6 := Lib.hid (Keeps.setCell (F := fun i => i < N0 ∨ i = bx) (p := ⟨bx, 2, none⟩) (Keeps.refl _ w5) (.inr rfl) (.slice a1 G.length c1'))
    have HINV6 := Lib.hid (HI2.out _ _ HINV5.out (Below.setCell (p := ⟨bx, 2, none⟩) (Below.refl N0 w5) hbn0 (.slice a1 G.length c1')))
    obtain ⟨w6, hw6⟩ : ∃ w6, w5.setCell ⟨bx, 2, none⟩ (.slice a1 G.length c1') = w6 := ⟨_, rfl⟩
    rw [hw6] at NU0 BXT6 HK6 HINV6 ⊢
    clear hw6 bxc bxf HINV5
    have HKB0 := Lib.hid (show ∀ b, (Value.slice none 0 0).ownBlock = some b → w5.heap.size ≤ b from fun b hb => by cases hb)
    go_loopw [45] (fun iv wr => ∃ (q : Nat) (us : List Value) (kv : Value), q ≤ G.length ∧ iv = .int .i64 q ∧ us.length = q ∧ (∀ b, kv.ownBlock = some b → w5.heap.size ≤ b) ∧ NodeU 108 45 B wr bx k (.slice a1 G.length c1') kv us ((G.take q).map fun a => treeF choose T n (withW T ws k a)) ∧ Boxs wr B 33 #[.slice aa T.rows.length ca, .slice ac T.costs.length cc, .slice ak T.cls.length ck] ∧ Inv wr ∧ Keeps (fun i => i < N0 ∨ i = bx) w5 wr) (fun iv _ => G.length - (intOf iv).toNat)
    case atStart => exact ⟨0, [], _, Nat.zero_le _, rfl, rfl, HKB0.out, NU0.out, BXT6.out, HINV6.out, HK6.out⟩
    case round =>
      clear NU0 BXT6 HK6 HINV6 BXX5 BXT5
      obtain ⟨q, us, kv, hq, rfl, hus, hkb, hnu, hbt, hiv, hkp⟩ := hrel
      have HKB := Lib.hid hkb
      have hq0 : (0 : Int) ≤ (q : Int) := Int.natCast_nonneg _
      have NU := Lib.hid hnu; have BXT := Lib.hid hbt; have HINV := Lib.hid hiv; have HKP := Lib.hid hkp
      have HUS := Lib.hid hus
      have hBr := hbt.lt
      have hsr := hkp.size
      have hpl : (partsW T ws k G).length = G.length := by unfold partsW; rw [List.length_map]
      have HPL := Lib.hid hpl
      clear hpl hnu hbt hiv hkp hus hkb
      by_cases hqg : q < G.length
      · have hq1 : (q : Int) < ((partsW T ws k G).length : Int) := by have := HPL.out; omega
        obtain ⟨y, hy⟩ := elem_at hqg
        have hg2r := HG2.out.block (W' := wr) fun i hi hF => HKP.out.block i hi (by have hF' : w4.heap.size ≤ i := hF; omega)
        obtain ⟨b3, o3, u, rfl, hb3, _, qu, hu⟩ := hg2r.at (partsW_at hy)
        obtain ⟨au, cu, rfl⟩ := RdI.form (show RdI wr u (nI (withW T ws k y)) from hu.1)
        obtain ⟨akv, ckv, hkv⟩ := owns_form NU.out.row
        rw [HUS.out] at hkv
        subst hkv
        have hnB : N0 ≤ B := hn2
        have c0 := BXT.out.cell 0; have c1 := BXT.out.cell 1; have c2 := BXT.out.cell 2; have cx := NU.out.cell
        simp only [List.getElem?_toArray, List.getElem?_cons_zero, List.getElem?_cons_succ] at c0 c1 c2
        have hdr := Below.dn (Below.refl wr.heap.size wr) 1
        have hyG := List.mem_of_getElem? hy
        have TC := IH.out (withW T ws k y) (.slice au (nI (withW T ws k y)).length cu) (wr.drewN 1) (by have := HLT.out y; omega) (HNW.out y hyG) (by have := HLT.out y; omega) (HSRT.out.sublist List.filter_sublist) (withW_ok hok k y) (HI2.out _ _ HINV.out (hdr.mono (by omega))) (by simp; omega) ((hu.mono (G := (N0 ≤ ·)) fun i _ hi => by have hi' : w4.heap.size ≤ i := hi; show N0 ≤ i; omega).below hdr)
        unfold TreeOut at TC
        have HTK := Lib.hid (show (G.take (q + 1)).map (fun a => treeF choose T n (withW T ws k a)) = (G.take q).map (fun a => treeF choose T n (withW T ws k a)) ++ [treeF choose T n (withW T ws k y)] by rw [take_succ_at hy, List.map_append]; rfl)
        clear hg2r hu hy hyG
        go_wp2_with fail
        refine wp_region_E (fun W => W.cell? ⟨B, 0, none⟩ = some (.slice aa T.rows.length ca) ∧ W.cell? ⟨B, 1, none⟩ = some (.slice ac T.costs.length cc) ∧ W.cell? ⟨B, 2, none⟩ = some (.slice ak T.cls.length ck) ∧ W.cell? ⟨bx, 3, none⟩ = some (.slice akv q ckv)) (by kernel_rfl) ?_
        have hdr : (wr).drew = { wr with drawn := (wr).drawn + 1 } := rfl
        rw [← hdr]
        clear hdr
        change wpAnyE _ _ _ _ _ _ _ _ (wr.drewN 1)
        refine tm 0 49 rfl rfl (.pointer (some ⟨bx, 0, none⟩)) ⟨c0, c1, c2, cx⟩ ?_
        try simp only [pa, pl]
        refine tm 1 50 rfl rfl (.pointer (some ⟨bx, 0, none⟩)) ⟨c0, c1, c2, cx⟩ ?_
        try simp only [pa, pl]
        refine tg 2 51 rfl rfl (.pointer (some ⟨bx, 0, none⟩)) ⟨c0, c1, c2, cx⟩ ?_
        try simp only [pa, pl]
        refine tg 3 52 rfl rfl (.pointer (some ⟨bx, 3, none⟩)) ⟨c0, c1, c2, cx⟩ ?_
        try simp only [pa, pl]
        refine tk 4 53 rfl rfl (.slice akv q ckv) (fun W hW => by obtain ⟨c0, c1, c2, cx⟩ := hW; go_simp) ⟨c0, c1, c2, cx⟩ ?_
        try simp only [pa, pl]
        refine tk 5 54 rfl rfl (.agg #[.slice aa T.rows.length ca, .slice ac T.costs.length cc, .slice ak T.cls.length ck]) (fun W hW => by obtain ⟨c0, c1, c2, cx⟩ := hW; go_simp) ⟨c0, c1, c2, cx⟩ ?_
        try simp only [pa, pl]
        refine tm 6 55 rfl rfl (.slice au (nI (withW T ws k y)).length cu) ⟨c0, c1, c2, cx⟩ ?_
        try simp only [pa, pl]
        refine tm 7 56 rfl rfl (.func (.func 65) #[] #[pc]) ⟨c0, c1, c2, cx⟩ ?_
        try simp only [pa, pl]
        refine wpAnyEOne 8 (by kernel_rfl) ?_
        refine wpOpCall (some 57) 58 #[.agg #[.slice aa T.rows.length ca, .slice ac T.costs.length cc, .slice ak T.cls.length ck], .slice au (nI (withW T ws k y)).length cu, .func (.func 65) #[] #[pc]] rfl rfl rfl (by go_simp) (TC) ?_
        rintro e w7 ⟨pt, rfl, ht7, hi7, hk7⟩
        have NU7 := (NU.out.under hdr).same hk7.size (keeps_same hk7 hnB)
        have bxt := Boxs.block (BXT.out.dn 1) (hk7.block _ (by simpa using hBr) (by omega))
        have cx := NU7.cell
        obtain ⟨ptp, rfl⟩ := ht7.form
        refine ⟨_, rfl, ?_⟩
        refine ⟨.inl (⟨bxt.cell 0, bxt.cell 1, bxt.cell 2, cx⟩), ?_⟩
        try simp only [pa, pl]
        refine wpAnyEOne 9 (by kernel_rfl) ?_
        refine wpOpRun' (v := .slice (some ⟨w7.heap.size, 0, none⟩) 1 1) (w' := (w7.alloc (.cells #[.pointer ptp] 45))) (some 58) rfl rfl rfl (by go_simp <;> rfl) ?_
        have NU8 := NU7.under (alloc_below w7 (.cells #[.pointer ptp] 45))
        have bxt8 := Boxs.below bxt (alloc_below w7 (.cells #[.pointer ptp] 45))
        refine ⟨.inl (⟨bxt8.cell 0, bxt8.cell 1, bxt8.cell 2, NU8.cell⟩), ?_⟩
        try simp only [pa, pl]
        refine wpAnyEOne 10 (by kernel_rfl) ?_
        refine wpOpAppT (base := B) 10 (some 59) rfl rfl rfl (.tmp 53) (.tmp 58) rfl (.slice akv q ckv) q us rfl (by have := NU8.row; rw [HUS.out] at this; exact this) (.slice (some ⟨w7.heap.size, 0, none⟩) 1 1) [.pointer ptp] rfl (Rd_fresh w7 45 #[.pointer ptp] 1 rfl (by omega)) (by intro u hu; rw [List.mem_singleton.1 hu]; rfl) (by simp only [List.length_cons, List.length_nil]; omega) NU8.sz fun kv' w9 happ => ?_
        obtain ⟨akv', ckv', rfl⟩ := happ.form
        have happ : AppOut B 45 (w7.alloc (.cells #[.pointer ptp] 45)) (.slice akv q ckv) (q + 1) (us ++ [.pointer ptp]) (.slice akv' (q + 1) ckv') w9 := happ
        have hsz9 := happ.size
        have bxt9 := Boxs.app bxt8 NU8.row happ (by decide)
        have bxx9 := Boxs.app NU8.box NU8.row happ (by decide)
        have cx9 := bxx9.cell 3
        have cf9 := bxx9.frozen 3
        simp only [List.getElem?_toArray, List.getElem?_cons_zero, List.getElem?_cons_succ] at cx9
        refine ⟨.inl (⟨bxt9.cell 0, bxt9.cell 1, bxt9.cell 2, bxx9.cell 3⟩), ?_⟩
        try simp only [pa, pl]
        refine tg 11 60 rfl rfl (.pointer (some ⟨bx, 0, none⟩)) ⟨bxt9.cell 0, bxt9.cell 1, bxt9.cell 2, bxx9.cell 3⟩ ?_
        try simp only [pa, pl]
        refine tg 12 61 rfl rfl (.pointer (some ⟨bx, 3, none⟩)) ⟨bxt9.cell 0, bxt9.cell 1, bxt9.cell 2, bxx9.cell 3⟩ ?_
        try simp only [pa, pl]
        refine wpAnyEOne 13 (by kernel_rfl) ?_
        refine wpOpSkip (w' := w9.setCell ⟨bx, 3, none⟩ (.slice akv' (q + 1) ckv')) 13 rfl rfl rfl (by go_simp <;> rfl) ?_
        refine ⟨.inr (allUp_of (by kernel_rfl)), ?_⟩
        try simp only [pa, pl]
        refine wpAnyE_done (by kernel_rfl) ?_ _
        have happ' : AppOut B 45 (w7.alloc (.cells #[.pointer ptp] 45)) (.slice akv q ckv) (us.length + 1) (us ++ [.pointer ptp]) (.slice akv' (q + 1) ckv') w9 := by rw [HUS.out]; exact happ
        have hT8 := (ht7.mono (G := fun i => B ≤ i ∧ i ≠ bx ∧ (Value.slice akv q ckv).ownBlock ≠ some i) fun i _ hi => by
          have hi' : wr.heap.size ≤ i := hi
          exact ⟨by omega, by have := NU.out.box.lt; omega, fun he => by have := (NU.out.row.lt i he).2; omega⟩).under (alloc_below w7 (.cells #[.pointer ptp] 45))
        have NUN := NU8.app (by decide) hT8 happ'
        rw [← HTK.out] at NUN
        have HNU := Lib.hid NUN
        have HBT := Lib.hid (Boxs.setOther (o := 3) bxt9 hbne (.slice akv' (q + 1) ckv'))
        have h7s : wr.heap.size ≤ w7.heap.size := hk7.size
        have HIV := Lib.hid (HI2.out _ _ hi7 ((happ'.below ((alloc_below w7 (.cells #[.pointer ptp] 45)).mono (by omega)) NU8.row hnB (by have := NU8.sz; omega)).setCell (p := ⟨bx, 3, none⟩) hbn0 (.slice akv' (q + 1) ckv')))
        have HKN := Lib.hid (((((HKP.out.dn 1).trans (hk7.mono fun i _ hi => .inl hi)).trans (Keeps.of_below (alloc_below w7 (.cells #[.pointer ptp] 45)))).app happ' HKB.out).setCell (p := ⟨bx, 3, none⟩) (.inr rfl) (.slice akv' (q + 1) ckv'))
        have HKB2 := Lib.hid (show ∀ b, (Value.slice akv' (q + 1) ckv').ownBlock = some b → w5.heap.size ≤ b from fun b hb => by
          rcases happ'.2.2 with h2 | h2
          · exact HKB.out b (h2 ▸ hb)
          · rw [h2] at hb; cases hb
            have h7 := hk7.size
            have h8 := (alloc_below w7 (.cells #[.pointer ptp] 45)).size
            have h9 : wr.heap.size ≤ w7.heap.size := h7
            omega)
        have HUS2 := Lib.hid (show (us ++ [Value.pointer ptp]).length = q + 1 by rw [List.length_append, HUS.out]; rfl)
        clear happ happ' hT8 NUN NU7 NU8 bxt bxt8 bxt9 bxx9 ht7 hi7 hk7 cx c0 c1 c2 hdr qu
        go_wp2_with fail
        go_roundw
        case rel => exact ⟨q + 1, _, _, by omega, by go_num, HUS2.out, HKB2.out, HNU.out, HBT.out, HIV.out, HKN.out⟩
        case measure => simp [intOf]; omega
      · obtain rfl : q = G.length := by omega
        have hq1 : ¬ (G.length : Int) < ((partsW T ws k G).length : Int) := by have := HPL.out; omega
        clear IH HF HCH
        go_wp2_with fail
        go_ret
        rw [HTR.out]
        have hnu := NU.out
        rw [List.take_length] at hnu
        have hans : RdIn (B ≤ ·) wr (.slice a1 G.length c1') (ints G) := (HG1.out.block fun i hi hF => HKP.out.block i hi (by have hF' : w4.heap.size ≤ i := hF; omega)).mono fun i _ hF => by
          have hF' : w4.heap.size ≤ i := hF
          show B ≤ i; omega
        subst hB
        exact ⟨_, rfl, hnu.done hans, HINV.out, HK5.out.join HKP.out fun i hi hG => by
          rcases hG with h | h
          · exact h
          · omega⟩
  · clear HF HCH
    obtain ⟨i0, rest, hws⟩ : ∃ x rest, ws = x :: rest := by cases hw0 : ws with | nil => exact absurd hw0 HNE.out | cons a r => exact ⟨a, r, rfl⟩
    have htb := HTB.out w2 HINV2.out
    have h00 := hok i0 (by rw [hws]; simp)
    obtain ⟨bw, ow, rfl, hwlt, qw⟩ := nI_elem HR2.out.1 (show ws[0]? = some i0 by rw [hws]; rfl)
    rw [Nat.add_zero] at qw
    obtain ⟨x, hx⟩ := elem_at (show i0 < T.cls.length by rw [HO.out.kl]; exact h00)
    obtain ⟨bk, ok, rfl, hklt, qk⟩ := ints_at htb.cls hx
    have c2 := BX2.out.cell 2
    simp only [List.getElem?_toArray, List.getElem?_cons_zero, List.getElem?_cons_succ] at c2
    have hi1 : (i0 : Int) < (T.cls.length : Int) := by have := HO.out.kl; omega
    have hi0 : (0 : Int) ≤ (i0 : Int) := Int.natCast_nonneg _
    have hn0 : 0 < (nI ws).length := by rw [hws]; simp [nI]
    have hn1 : (0 : Int) < ((nI ws).length : Int) := by omega
    have HX := Lib.hid (clsAt_head (show ws[0]? = some i0 by rw [hws]; rfl) hx)
    clear htb hx hws
    go_wp2_with fail
    refine wp_region_E (fun W => W.cell? ⟨B, 2, none⟩ = some (.slice (some ⟨bk, ok, none⟩) T.cls.length ck) ∧ W.cell? ⟨bw, ow, none⟩ = some (.int .i64 (i0 : Int)) ∧ W.cell? ⟨bk, ok + i0, none⟩ = some (.int .i64 x)) (by kernel_rfl) ?_
    have hdr : (w2).drew = { w2 with drawn := (w2).drawn + 1 } := rfl
    rw [← hdr]
    clear hdr
    change wpAnyE _ _ _ _ _ _ _ _ (w2.drewN 1)
    refine tg 0 15 rfl rfl (.pointer (some ⟨B, 2, none⟩)) ⟨c2, qw, qk⟩ ?_
    try simp only [pa, pl]
    refine tk 1 16 rfl rfl (.slice (some ⟨bk, ok, none⟩) T.cls.length ck) (fun W hW => by obtain ⟨c2, qw, qk⟩ := hW; go_simp) ⟨c2, qw, qk⟩ ?_
    try simp only [pa, pl]
    refine tm 2 17 rfl rfl (.slice (some ⟨bw, ow, none⟩) (nI ws).length cw) ⟨c2, qw, qk⟩ ?_
    try simp only [pa, pl]
    refine tk 3 18 rfl rfl (.pointer (some ⟨bw, ow, none⟩)) (fun _ _ => by go_simp <;> omega) ⟨c2, qw, qk⟩ ?_
    try simp only [pa, pl]
    refine tk 4 19 rfl rfl (.int .i64 (i0 : Int)) (fun W hW => by obtain ⟨c2, qw, qk⟩ := hW; go_simp) ⟨c2, qw, qk⟩ ?_
    try simp only [pa, pl]
    refine tk 5 20 rfl rfl (.pointer (some ⟨bk, ok + i0, none⟩)) (fun _ _ => by go_simp <;> omega) ⟨c2, qw, qk⟩ ?_
    try simp only [pa, pl]
    refine tk 6 21 rfl rfl (.int .i64 x) (fun W hW => by obtain ⟨c2, qw, qk⟩ := hW; go_simp) ⟨c2, qw, qk⟩ ?_
    try simp only [pa, pl]
    refine tk 7 22 rfl rfl (.agg #[.int .i64 (-1), .int .i64 x, .slice none 0 0, .slice none 0 0]) (fun _ _ => by go_simp <;> rfl) ⟨c2, qw, qk⟩ ?_
    try simp only [pa, pl]
    refine wpAnyEOne 8 (by kernel_rfl) ?_
    refine wpOpRun' (v := .pointer (some ⟨w2.heap.size, 0, none⟩)) (w' := ((w2.drewN 1).alloc (.cells #[.int .i64 (-1), .int .i64 x, .slice none 0 0, .slice none 0 0] 108))) (some 23) rfl rfl rfl (by go_simp <;> rfl) ?_
    have b9 := alloc_below (w2.drewN 1) (.cells #[.int .i64 (-1), .int .i64 x, .slice none 0 0, .slice none 0 0] 108)
    refine ⟨.inl (⟨(b9.cell (p := ⟨B, 2, none⟩) hsz2).trans c2, (b9.cell (p := ⟨bw, ow, none⟩) hwlt).trans qw, (b9.cell (p := ⟨bk, ok + i0, none⟩) hklt).trans qk⟩), ?_⟩
    try simp only [pa, pl]
    refine wpAnyEOne 9 (by kernel_rfl) ?_
    refine wpOpRun' (v := .pointer (some ⟨w2.heap.size, 0, none⟩)) (w' := ((w2.drewN 1).alloc (.cells #[.int .i64 (-1), .int .i64 x, .slice none 0 0, .slice none 0 0] 108))) (some 6) rfl rfl rfl (by rfl) ?_
    refine ⟨.inr (allUp_of (by kernel_rfl)), ?_⟩
    try simp only [pa, pl]
    refine wpAnyE_done (by kernel_rfl) ?_ _
    have htr := HTR.out
    simp only [if_true] at htr
    rw [HX.out] at htr
    have HTR := Lib.hid htr
    clear htr qw qk c2
    go_wp2_with fail
    go_ret
    rw [HTR.out]
    have hbl := (Below.dn (Below.refl w2.heap.size w2) 1).trans (alloc_below (w2.drewN 1) (.cells #[.int .i64 (-1), .int .i64 x, .slice none 0 0, .slice none 0 0] 108))
    subst hB
    exact ⟨_, rfl, .of (us := []) (by show w.heap.size ≤ w2.heap.size; omega) (Boxs.new (w2.drewN 1) 108 _) (RdIn.nil _ _) (RdIn.nil _ _) (Trees.nil _ _ _), HI2.out _ _ HINV2.out (hbl.mono hN2), HK2.out.trans (Keeps.of_below hbl)⟩
set_option maxRecDepth 100000 in
set_option maxHeartbeats 16000000 in
theorem tree59_any (w1 : World) (va vc vk : Value) (T : Tb) (ho : OkT T) (hT : TbR w1 va vc vk T) (N0 : Nat) (Inv : World → Prop) (hInv1 : ∀ W, Inv W → Below w1.heap.size w1 W) (hInv2 : ∀ W W', Inv W → Below N0 W W' → Inv W')
    (pc : Value) (choose : List Nat → Int) (hch : ChooseOk choose T)
    (hf : ∀ ws v W, WsOk T ws → ws.length ≤ 64 → ws.Pairwise (· < ·) → single T ws = false → Inv W → N0 ≤ W.heap.size → RdIn (N0 ≤ ·) W v (ints (nI ws)) → Calls Try.prog 59 #[v, pc] W fun e W' => e = .returned (.int .i64 (choose ws)) ∧ Inv W' ∧ Keeps (· < N0) W W') :
    ∀ (n : Nat) (ws : List Nat) (v : Value) (w : World), ws.length ≤ n → ws ≠ [] → ws.length ≤ 64 → ws.Pairwise (· < ·) → WsOk T ws → Inv w → N0 ≤ w.heap.size → RdIn (N0 ≤ ·) w v (ints (nI ws)) →
      Calls Try.prog 58 #[.agg #[va, vc, vk], v, .func (.func 59) #[] #[pc]] w fun e w' => TreeOut 108 w.heap.size N0 Inv w (treeF choose T n ws) e w' := by
  obtain ⟨aa, ca, rfl⟩ := hT.rows.form
  obtain ⟨ac, cc, rfl⟩ := hT.costs.form
  obtain ⟨ak, ck, rfl⟩ := hT.cls.form
  have HTB := Lib.hid fun W (h : Inv W) => hT.below (hInv1 W h)
  have HI2 := Lib.hid hInv2; have HF := Lib.hid hf; have HCH := Lib.hid hch; have HO := Lib.hid ho
  clear hInv1 hInv2 hf hch ho hT
  intro n
  induction n with
  | zero => intro ws v w h0 hne; exact absurd (List.length_eq_zero_iff.1 (by omega)) hne
  | succ n ih =>
  intro ws v w hn hne h64 hsrt hok hinv hN0 hr
  have IH := Lib.hid ih
  obtain ⟨aw, cw, rfl⟩ := RdI.form (show RdI w v (nI ws) from hr.1)
  obtain ⟨B, hB⟩ : ∃ B, w.heap.size = B := ⟨_, rfl⟩
  have HB := Lib.hid (alloc_below w (.cells #[.slice aa T.rows.length ca, .slice ac T.costs.length cc, .slice ak T.cls.length ck] 33))
  have HINV := Lib.hid (HI2.out _ _ hinv (HB.out.mono hN0))
  have BX := Lib.hid (Boxs.new w 33 #[.slice aa T.rows.length ca, .slice ac T.costs.length cc, .slice ak T.cls.length ck])
  have HR := Lib.hid (hr.below HB.out)
  have HK := Lib.hid (Keeps.of_below (F := (· < N0)) HB.out)
  have HNE := Lib.hid hne
  have HSRT := Lib.hid hsrt
  clear hsrt
  have hsz0 : w.heap.size < (w.alloc (.cells #[.slice aa T.rows.length ca, .slice ac T.costs.length cc, .slice ak T.cls.length ck] 33)).heap.size := by simp
  clear hr hinv hne ih HB
  go_enter Try.func58, Try.ntmps58
  go_wp2_with fail
  rw [hB] at BX hsz0 hN0
  generalize w.alloc (.cells #[.slice aa T.rows.length ca, .slice ac T.costs.length cc, .slice ak T.cls.length ck] 33) = wb at *
  have hN0' : N0 ≤ wb.heap.size := by omega
  have SG := single_any _ _ _ _ T ws wb (HTB.out wb HINV.out) HR.out.1 (fun j hj => by rw [HO.out.kl]; exact hok j hj)
  have bc0 := BX.out.cell 0
  have bc1 := BX.out.cell 1
  have bc2 := BX.out.cell 2
  simp only [List.getElem?_toArray, List.getElem?_cons_zero, List.getElem?_cons_succ] at bc0 bc1 bc2
  go_wp2_with fail
  refine SG.mono ?_
  rintro e w2 ⟨rfl, hb2⟩
  have HINV2 := Lib.hid (HI2.out _ _ HINV.out (hb2.mono hN0'))
  have BX2 := Lib.hid (Boxs.below BX.out hb2)
  have HR2 := Lib.hid (HR.out.below hb2)
  have HK2 := Lib.hid (HK.out.trans (Keeps.of_below hb2))
  have hsz2 : B < w2.heap.size := BX2.out.lt
  have hN2 : N0 ≤ w2.heap.size := by omega
  clear hb2 SG bc0 bc1 bc2 HINV BX HR HK
  obtain ⟨sg, hsg⟩ : ∃ b, single T ws = b := ⟨_, rfl⟩
  have HSG := Lib.hid hsg
  have htr : treeF choose T (n + 1) ws = if single T ws = true then .node (-1) (clsAt T (ws.headD 0)) [] [] else .node (choose ws) 0 (given T ws (choose ws).toNat) ((given T ws (choose ws).toNat).map fun a => treeF choose T n (withW T ws (choose ws).toNat a)) := rfl
  rw [hsg] at htr ⊢
  have HTR := Lib.hid htr
  clear htr hsg
  cases sg
  · obtain ⟨k, hck, hk, hg2⟩ := HCH.out ws hok HSG.out
    have CH := HF.out ws _ w2 hok h64 HSRT.out HSG.out HINV2.out hN2 HR2.out
    rw [hck] at CH
    have htr := HTR.out
    simp only [Bool.false_eq_true, if_false] at htr
    rw [hck, Int.toNat_natCast] at htr
    have HTR := Lib.hid htr
    clear hck htr
    go_wp2_with fail
    refine CH.mono ?_
    rintro e w3 ⟨rfl, hi3, hk3⟩
    have BX3 := Lib.hid (Boxs.block BX2.out (hk3.block _ hsz2 (by omega)))
    have HR3 := Lib.hid (HR2.out.block fun i hi hF => hk3.block i hi (by omega))
    have HK3 := Lib.hid (HK2.out.trans hk3)
    have hsz3 := hk3.size
    have HINV3 := Lib.hid hi3
    clear CH hi3 hk3 BX2 HR2 HK2 HINV2
    go_wp2_with fail
    obtain ⟨bx, hbx⟩ : ∃ b, w3.heap.size = b := ⟨_, rfl⟩
    have HB4 := Lib.hid (alloc_below w3 (.cells #[.int .i64 (k : Int), .int .i64 0, .slice none 0 0, .slice none 0 0] 108))
    have BXX := Boxs.new w3 108 #[.int .i64 (k : Int), .int .i64 0, .slice none 0 0, .slice none 0 0]
    have hs4 : w3.heap.size < (w3.alloc (.cells #[.int .i64 (k : Int), .int .i64 0, .slice none 0 0, .slice none 0 0] 108)).heap.size := by simp
    rw [hbx] at BXX hs4 hsz3 ⊢
    have BXX := Lib.hid BXX
    have BX := Lib.hid (Boxs.below BX3.out HB4.out)
    have HR4 := Lib.hid (HR3.out.below HB4.out)
    have HK4 := Lib.hid (HK3.out.trans (Keeps.of_below HB4.out))
    have HINV4 := Lib.hid (HI2.out _ _ HINV3.out (HB4.out.mono (by omega)))
    clear BX3 HR3 HK3 HINV3 HB4
    have hN4 : N0 ≤ (w3.alloc (.cells #[.int .i64 (k : Int), .int .i64 0, .slice none 0 0, .slice none 0 0] 108)).heap.size := by omega
    generalize w3.alloc (.cells #[.int .i64 (k : Int), .int .i64 0, .slice none 0 0, .slice none 0 0] 108) = w4 at *
    have hd4 := Below.dn (Below.refl w4.heap.size w4) 1
    have PA := parts_any _ _ _ _ T ws k (w4.drewN 1) ((HTB.out w4 HINV4.out).below hd4) HO.out (HR4.out.below hd4).1 hok (by omega) hk
    have hgl := given_len T ws k
    have HLT := Lib.hid fun a => withW_lt (T := T) (ws := ws) (k := k) (a := a) hg2
    have HNW := Lib.hid fun a => withW_ne (T := T) (ws := ws) (k := k) (a := a)
    obtain ⟨G, hG⟩ : ∃ G, given T ws k = G := ⟨_, rfl⟩
    unfold PartsOut at PA
    rw [hG] at PA HTR hgl hg2 HNW
    have c0 := BX.out.cell 0; have c1 := BX.out.cell 1; have c2 := BX.out.cell 2; have cx := BXX.out.cell 0
    simp only [List.getElem?_toArray, List.getElem?_cons_zero, List.getElem?_cons_succ] at c0 c1 c2 cx
    clear hG hd4
    refine wp_region_E (fun W => W.cell? ⟨B, 0, none⟩ = some (.slice aa T.rows.length ca) ∧ W.cell? ⟨B, 1, none⟩ = some (.slice ac T.costs.length cc) ∧ W.cell? ⟨B, 2, none⟩ = some (.slice ak T.cls.length ck) ∧ W.cell? ⟨bx, 0, none⟩ = some (.int .i64 (k : Int))) (by kernel_rfl) ?_
    have hdr : (w4).drew = { w4 with drawn := (w4).drawn + 1 } := rfl
    rw [← hdr]
    clear hdr
    change wpAnyE _ _ _ _ _ _ _ _ (w4.drewN 1)
    refine tk 0 30 rfl rfl (.agg #[.slice aa T.rows.length ca, .slice ac T.costs.length cc, .slice ak T.cls.length ck]) (fun W hW => by obtain ⟨c0, c1, c2, cx⟩ := hW; go_simp) ⟨c0, c1, c2, cx⟩ ?_
    try simp only [pa, pl]
    refine tm 1 31 rfl rfl (.slice aw (nI ws).length cw) ⟨c0, c1, c2, cx⟩ ?_
    try simp only [pa, pl]
    refine tm 2 32 rfl rfl (.pointer (some ⟨bx, 0, none⟩)) ⟨c0, c1, c2, cx⟩ ?_
    try simp only [pa, pl]
    refine tg 3 33 rfl rfl (.pointer (some ⟨bx, 0, none⟩)) ⟨c0, c1, c2, cx⟩ ?_
    try simp only [pa, pl]
    refine tg 4 34 rfl rfl (.pointer (some ⟨bx, 0, none⟩)) ⟨c0, c1, c2, cx⟩ ?_
    try simp only [pa, pl]
    refine tk 5 35 rfl rfl (.int .i64 (k : Int)) (fun W hW => by obtain ⟨c0, c1, c2, cx⟩ := hW; go_simp) ⟨c0, c1, c2, cx⟩ ?_
    try simp only [pa, pl]
    refine wpAnyEOne 6 (by kernel_rfl) ?_
    refine wpOpCall (some 36) 56 #[.agg #[.slice aa T.rows.length ca, .slice ac T.costs.length cc, .slice ak T.cls.length ck], .slice aw (nI ws).length cw, .int .i64 (k : Int)] rfl rfl rfl (by go_simp) (PA) ?_
    rintro e w5 ⟨⟨v1, v2, rfl, hg1, hg2'⟩, hb9⟩
    have hb45 := (Below.dn (Below.refl w4.heap.size w4) 1).trans hb9
    obtain ⟨a1, c1', e1⟩ := RdI.form (show RdI w5 v1 G from hg1.1)
    obtain ⟨a2, c2', e2⟩ := hg2'.rd.form
    subst e1; subst e2
    have bxt := Boxs.below BX.out hb45
    have bxx := Boxs.below BXX.out hb45
    clear hb9
    refine ⟨_, rfl, ?_⟩
    refine ⟨.inl (⟨bxt.cell 0, bxt.cell 1, bxt.cell 2, bxx.cell 0⟩), ?_⟩
    try simp only [pa, pl]
    refine tm 7 29 rfl rfl (.tuple #[.slice a1 G.length c1', .slice a2 (partsW T ws k G).length c2']) ⟨bxt.cell 0, bxt.cell 1, bxt.cell 2, bxx.cell 0⟩ ?_
    try simp only [pa, pl]
    refine tg 8 37 rfl rfl ((.slice a1 G.length c1')) ⟨bxt.cell 0, bxt.cell 1, bxt.cell 2, bxx.cell 0⟩ ?_
    try simp only [pa, pl]
    refine tg 9 38 rfl rfl ((.slice a2 (partsW T ws k G).length c2')) ⟨bxt.cell 0, bxt.cell 1, bxt.cell 2, bxx.cell 0⟩ ?_
    try simp only [pa, pl]
    refine wpAnyEOne 10 (by kernel_rfl) ?_
    refine wpOpRun' (v := .slice a1 G.length c1') (w' := w5) (some 8) rfl rfl rfl (by rfl) ?_
    refine ⟨.inl ⟨bxt.cell 0, bxt.cell 1, bxt.cell 2, bxx.cell 0⟩, ?_⟩
    try simp only [pa, pl]
    refine wpAnyEOne 11 (by kernel_rfl) ?_
    refine wpOpRun' (v := .slice a2 (partsW T ws k G).length c2') (w' := w5) (some 9) rfl rfl rfl (by rfl) ?_
    refine ⟨.inr (allUp_of (by kernel_rfl)), ?_⟩
    try simp only [pa, pl]
    refine wpAnyE_done (by kernel_rfl) ?_ _
    have BXT5 := Lib.hid bxt
    have HK5 := Lib.hid (HK4.out.trans (Keeps.of_below hb45))
    have HINV5 := Lib.hid (HI2.out _ _ HINV4.out (hb45.mono hN4))
    have hn2 : N0 ≤ B := by have := HINV4; omega
    have HG1 := Lib.hid hg1; have HG2 := Lib.hid hg2'
    have BXX5 := Lib.hid bxx
    have hs5 := hb45.size
    have bxc := bxx.cell 2
    have bxf := bxx.frozen 2
    simp only [List.getElem?_toArray, List.getElem?_cons_zero, List.getElem?_cons_succ] at bxc
    clear bxt bxx c0 c1 c2 cx hg1 hg2' hb45
    go_wp2_with fail
    have hbxB : B ≤ bx := by omega
    have hbne : B ≠ bx := by omega
    have hbn0 : N0 ≤ bx := by omega
    have NU0 : NodeU 108 45 B (w5.setCell ⟨bx, 2, none⟩ (.slice a1 G.length c1')) bx k (.slice a1 G.length c1') (.slice none 0 0) [] [] := by
      refine ⟨hbxB, by simpa using (by omega : B ≤ w5.heap.size), ?_, World.ownsRow_nil _ _ _ _, Trees.nil _ _ _⟩
      have := BXX5.out.put 2 (.slice a1 G.length c1')
      simpa using this
    have NU0 := Lib.hid NU0
    have BXT6 := Lib.hid (Boxs.setOther BXT5.out hbne (.slice a1 G.length c1') (o := 2))
    have HK6 := Lib.hid (Keeps.setCell (F := fun i => i < N0 ∨ i = bx) (p := ⟨bx, 2, none⟩) (Keeps.refl _ w5) (.inr rfl) (.slice a1 G.length c1'))
    have HINV6 := Lib.hid (HI2.out _ _ HINV5.out (Below.setCell (p := ⟨bx, 2, none⟩) (Below.refl N0 w5) hbn0 (.slice a1 G.length c1')))
    obtain ⟨w6, hw6⟩ : ∃ w6, w5.setCell ⟨bx, 2, none⟩ (.slice a1 G.length c1') = w6 := ⟨_, rfl⟩
    rw [hw6] at NU0 BXT6 HK6 HINV6 ⊢
    clear hw6 bxc bxf HINV5
    have HKB0 := Lib.hid (show ∀ b, (Value.slice none 0 0).ownBlock = some b → w5.heap.size ≤ b from fun b hb => by cases hb)
    go_loopw [45] (fun iv wr => ∃ (q : Nat) (us : List Value) (kv : Value), q ≤ G.length ∧ iv = .int .i64 q ∧ us.length = q ∧ (∀ b, kv.ownBlock = some b → w5.heap.size ≤ b) ∧ NodeU 108 45 B wr bx k (.slice a1 G.length c1') kv us ((G.take q).map fun a => treeF choose T n (withW T ws k a)) ∧ Boxs wr B 33 #[.slice aa T.rows.length ca, .slice ac T.costs.length cc, .slice ak T.cls.length ck] ∧ Inv wr ∧ Keeps (fun i => i < N0 ∨ i = bx) w5 wr) (fun iv _ => G.length - (intOf iv).toNat)
    case atStart => exact ⟨0, [], _, Nat.zero_le _, rfl, rfl, HKB0.out, NU0.out, BXT6.out, HINV6.out, HK6.out⟩
    case round =>
      clear NU0 BXT6 HK6 HINV6 BXX5 BXT5
      obtain ⟨q, us, kv, hq, rfl, hus, hkb, hnu, hbt, hiv, hkp⟩ := hrel
      have HKB := Lib.hid hkb
      have hq0 : (0 : Int) ≤ (q : Int) := Int.natCast_nonneg _
      have NU := Lib.hid hnu; have BXT := Lib.hid hbt; have HINV := Lib.hid hiv; have HKP := Lib.hid hkp
      have HUS := Lib.hid hus
      have hBr := hbt.lt
      have hsr := hkp.size
      have hpl : (partsW T ws k G).length = G.length := by unfold partsW; rw [List.length_map]
      have HPL := Lib.hid hpl
      clear hpl hnu hbt hiv hkp hus hkb
      by_cases hqg : q < G.length
      · have hq1 : (q : Int) < ((partsW T ws k G).length : Int) := by have := HPL.out; omega
        obtain ⟨y, hy⟩ := elem_at hqg
        have hg2r := HG2.out.block (W' := wr) fun i hi hF => HKP.out.block i hi (by have hF' : w4.heap.size ≤ i := hF; omega)
        obtain ⟨b3, o3, u, rfl, hb3, _, qu, hu⟩ := hg2r.at (partsW_at hy)
        obtain ⟨au, cu, rfl⟩ := RdI.form (show RdI wr u (nI (withW T ws k y)) from hu.1)
        obtain ⟨akv, ckv, hkv⟩ := owns_form NU.out.row
        rw [HUS.out] at hkv
        subst hkv
        have hnB : N0 ≤ B := hn2
        have c0 := BXT.out.cell 0; have c1 := BXT.out.cell 1; have c2 := BXT.out.cell 2; have cx := NU.out.cell
        simp only [List.getElem?_toArray, List.getElem?_cons_zero, List.getElem?_cons_succ] at c0 c1 c2
        have hdr := Below.dn (Below.refl wr.heap.size wr) 1
        have hyG := List.mem_of_getElem? hy
        have TC := IH.out (withW T ws k y) (.slice au (nI (withW T ws k y)).length cu) (wr.drewN 1) (by have := HLT.out y; omega) (HNW.out y hyG) (by have := HLT.out y; omega) (HSRT.out.sublist List.filter_sublist) (withW_ok hok k y) (HI2.out _ _ HINV.out (hdr.mono (by omega))) (by simp; omega) ((hu.mono (G := (N0 ≤ ·)) fun i _ hi => by have hi' : w4.heap.size ≤ i := hi; show N0 ≤ i; omega).below hdr)
        unfold TreeOut at TC
        have HTK := Lib.hid (show (G.take (q + 1)).map (fun a => treeF choose T n (withW T ws k a)) = (G.take q).map (fun a => treeF choose T n (withW T ws k a)) ++ [treeF choose T n (withW T ws k y)] by rw [take_succ_at hy, List.map_append]; rfl)
        clear hg2r hu hy hyG
        go_wp2_with fail
        refine wp_region_E (fun W => W.cell? ⟨B, 0, none⟩ = some (.slice aa T.rows.length ca) ∧ W.cell? ⟨B, 1, none⟩ = some (.slice ac T.costs.length cc) ∧ W.cell? ⟨B, 2, none⟩ = some (.slice ak T.cls.length ck) ∧ W.cell? ⟨bx, 3, none⟩ = some (.slice akv q ckv)) (by kernel_rfl) ?_
        have hdr : (wr).drew = { wr with drawn := (wr).drawn + 1 } := rfl
        rw [← hdr]
        clear hdr
        change wpAnyE _ _ _ _ _ _ _ _ (wr.drewN 1)
        refine tm 0 49 rfl rfl (.pointer (some ⟨bx, 0, none⟩)) ⟨c0, c1, c2, cx⟩ ?_
        try simp only [pa, pl]
        refine tm 1 50 rfl rfl (.pointer (some ⟨bx, 0, none⟩)) ⟨c0, c1, c2, cx⟩ ?_
        try simp only [pa, pl]
        refine tg 2 51 rfl rfl (.pointer (some ⟨bx, 0, none⟩)) ⟨c0, c1, c2, cx⟩ ?_
        try simp only [pa, pl]
        refine tg 3 52 rfl rfl (.pointer (some ⟨bx, 3, none⟩)) ⟨c0, c1, c2, cx⟩ ?_
        try simp only [pa, pl]
        refine tk 4 53 rfl rfl (.slice akv q ckv) (fun W hW => by obtain ⟨c0, c1, c2, cx⟩ := hW; go_simp) ⟨c0, c1, c2, cx⟩ ?_
        try simp only [pa, pl]
        refine tk 5 54 rfl rfl (.agg #[.slice aa T.rows.length ca, .slice ac T.costs.length cc, .slice ak T.cls.length ck]) (fun W hW => by obtain ⟨c0, c1, c2, cx⟩ := hW; go_simp) ⟨c0, c1, c2, cx⟩ ?_
        try simp only [pa, pl]
        refine tm 6 55 rfl rfl (.slice au (nI (withW T ws k y)).length cu) ⟨c0, c1, c2, cx⟩ ?_
        try simp only [pa, pl]
        refine tm 7 56 rfl rfl (.func (.func 59) #[] #[pc]) ⟨c0, c1, c2, cx⟩ ?_
        try simp only [pa, pl]
        refine wpAnyEOne 8 (by kernel_rfl) ?_
        refine wpOpCall (some 57) 58 #[.agg #[.slice aa T.rows.length ca, .slice ac T.costs.length cc, .slice ak T.cls.length ck], .slice au (nI (withW T ws k y)).length cu, .func (.func 59) #[] #[pc]] rfl rfl rfl (by go_simp) (TC) ?_
        rintro e w7 ⟨pt, rfl, ht7, hi7, hk7⟩
        have NU7 := (NU.out.under hdr).same hk7.size (keeps_same hk7 hnB)
        have bxt := Boxs.block (BXT.out.dn 1) (hk7.block _ (by simpa using hBr) (by omega))
        have cx := NU7.cell
        obtain ⟨ptp, rfl⟩ := ht7.form
        refine ⟨_, rfl, ?_⟩
        refine ⟨.inl (⟨bxt.cell 0, bxt.cell 1, bxt.cell 2, cx⟩), ?_⟩
        try simp only [pa, pl]
        refine wpAnyEOne 9 (by kernel_rfl) ?_
        refine wpOpRun' (v := .slice (some ⟨w7.heap.size, 0, none⟩) 1 1) (w' := (w7.alloc (.cells #[.pointer ptp] 45))) (some 58) rfl rfl rfl (by go_simp <;> rfl) ?_
        have NU8 := NU7.under (alloc_below w7 (.cells #[.pointer ptp] 45))
        have bxt8 := Boxs.below bxt (alloc_below w7 (.cells #[.pointer ptp] 45))
        refine ⟨.inl (⟨bxt8.cell 0, bxt8.cell 1, bxt8.cell 2, NU8.cell⟩), ?_⟩
        try simp only [pa, pl]
        refine wpAnyEOne 10 (by kernel_rfl) ?_
        refine wpOpAppT (base := B) 10 (some 59) rfl rfl rfl (.tmp 53) (.tmp 58) rfl (.slice akv q ckv) q us rfl (by have := NU8.row; rw [HUS.out] at this; exact this) (.slice (some ⟨w7.heap.size, 0, none⟩) 1 1) [.pointer ptp] rfl (Rd_fresh w7 45 #[.pointer ptp] 1 rfl (by omega)) (by intro u hu; rw [List.mem_singleton.1 hu]; rfl) (by simp only [List.length_cons, List.length_nil]; omega) NU8.sz fun kv' w9 happ => ?_
        obtain ⟨akv', ckv', rfl⟩ := happ.form
        have happ : AppOut B 45 (w7.alloc (.cells #[.pointer ptp] 45)) (.slice akv q ckv) (q + 1) (us ++ [.pointer ptp]) (.slice akv' (q + 1) ckv') w9 := happ
        have hsz9 := happ.size
        have bxt9 := Boxs.app bxt8 NU8.row happ (by decide)
        have bxx9 := Boxs.app NU8.box NU8.row happ (by decide)
        have cx9 := bxx9.cell 3
        have cf9 := bxx9.frozen 3
        simp only [List.getElem?_toArray, List.getElem?_cons_zero, List.getElem?_cons_succ] at cx9
        refine ⟨.inl (⟨bxt9.cell 0, bxt9.cell 1, bxt9.cell 2, bxx9.cell 3⟩), ?_⟩
        try simp only [pa, pl]
        refine tg 11 60 rfl rfl (.pointer (some ⟨bx, 0, none⟩)) ⟨bxt9.cell 0, bxt9.cell 1, bxt9.cell 2, bxx9.cell 3⟩ ?_
        try simp only [pa, pl]
        refine tg 12 61 rfl rfl (.pointer (some ⟨bx, 3, none⟩)) ⟨bxt9.cell 0, bxt9.cell 1, bxt9.cell 2, bxx9.cell 3⟩ ?_
        try simp only [pa, pl]
        refine wpAnyEOne 13 (by kernel_rfl) ?_
        refine wpOpSkip (w' := w9.setCell ⟨bx, 3, none⟩ (.slice akv' (q + 1) ckv')) 13 rfl rfl rfl (by go_simp <;> rfl) ?_
        refine ⟨.inr (allUp_of (by kernel_rfl)), ?_⟩
        try simp only [pa, pl]
        refine wpAnyE_done (by kernel_rfl) ?_ _
        have happ' : AppOut B 45 (w7.alloc (.cells #[.pointer ptp] 45)) (.slice akv q ckv) (us.length + 1) (us ++ [.pointer ptp]) (.slice akv' (q + 1) ckv') w9 := by rw [HUS.out]; exact happ
        have hT8 := (ht7.mono (G := fun i => B ≤ i ∧ i ≠ bx ∧ (Value.slice akv q ckv).ownBlock ≠ some i) fun i _ hi => by
          have hi' : wr.heap.size ≤ i := hi
          exact ⟨by omega, by have := NU.out.box.lt; omega, fun he => by have := (NU.out.row.lt i he).2; omega⟩).under (alloc_below w7 (.cells #[.pointer ptp] 45))
        have NUN := NU8.app (by decide) hT8 happ'
        rw [← HTK.out] at NUN
        have HNU := Lib.hid NUN
        have HBT := Lib.hid (Boxs.setOther (o := 3) bxt9 hbne (.slice akv' (q + 1) ckv'))
        have h7s : wr.heap.size ≤ w7.heap.size := hk7.size
        have HIV := Lib.hid (HI2.out _ _ hi7 ((happ'.below ((alloc_below w7 (.cells #[.pointer ptp] 45)).mono (by omega)) NU8.row hnB (by have := NU8.sz; omega)).setCell (p := ⟨bx, 3, none⟩) hbn0 (.slice akv' (q + 1) ckv')))
        have HKN := Lib.hid (((((HKP.out.dn 1).trans (hk7.mono fun i _ hi => .inl hi)).trans (Keeps.of_below (alloc_below w7 (.cells #[.pointer ptp] 45)))).app happ' HKB.out).setCell (p := ⟨bx, 3, none⟩) (.inr rfl) (.slice akv' (q + 1) ckv'))
        have HKB2 := Lib.hid (show ∀ b, (Value.slice akv' (q + 1) ckv').ownBlock = some b → w5.heap.size ≤ b from fun b hb => by
          rcases happ'.2.2 with h2 | h2
          · exact HKB.out b (h2 ▸ hb)
          · rw [h2] at hb; cases hb
            have h7 := hk7.size
            have h8 := (alloc_below w7 (.cells #[.pointer ptp] 45)).size
            have h9 : wr.heap.size ≤ w7.heap.size := h7
            omega)
        have HUS2 := Lib.hid (show (us ++ [Value.pointer ptp]).length = q + 1 by rw [List.length_append, HUS.out]; rfl)
        clear happ happ' hT8 NUN NU7 NU8 bxt bxt8 bxt9 bxx9 ht7 hi7 hk7 cx c0 c1 c2 hdr qu
        go_wp2_with fail
        go_roundw
        case rel => exact ⟨q + 1, _, _, by omega, by go_num, HUS2.out, HKB2.out, HNU.out, HBT.out, HIV.out, HKN.out⟩
        case measure => simp [intOf]; omega
      · obtain rfl : q = G.length := by omega
        have hq1 : ¬ (G.length : Int) < ((partsW T ws k G).length : Int) := by have := HPL.out; omega
        clear IH HF HCH
        go_wp2_with fail
        go_ret
        rw [HTR.out]
        have hnu := NU.out
        rw [List.take_length] at hnu
        have hans : RdIn (B ≤ ·) wr (.slice a1 G.length c1') (ints G) := (HG1.out.block fun i hi hF => HKP.out.block i hi (by have hF' : w4.heap.size ≤ i := hF; omega)).mono fun i _ hF => by
          have hF' : w4.heap.size ≤ i := hF
          show B ≤ i; omega
        subst hB
        exact ⟨_, rfl, hnu.done hans, HINV.out, HK5.out.join HKP.out fun i hi hG => by
          rcases hG with h | h
          · exact h
          · omega⟩
  · clear HF HCH
    obtain ⟨i0, rest, hws⟩ : ∃ x rest, ws = x :: rest := by cases hw0 : ws with | nil => exact absurd hw0 HNE.out | cons a r => exact ⟨a, r, rfl⟩
    have htb := HTB.out w2 HINV2.out
    have h00 := hok i0 (by rw [hws]; simp)
    obtain ⟨bw, ow, rfl, hwlt, qw⟩ := nI_elem HR2.out.1 (show ws[0]? = some i0 by rw [hws]; rfl)
    rw [Nat.add_zero] at qw
    obtain ⟨x, hx⟩ := elem_at (show i0 < T.cls.length by rw [HO.out.kl]; exact h00)
    obtain ⟨bk, ok, rfl, hklt, qk⟩ := ints_at htb.cls hx
    have c2 := BX2.out.cell 2
    simp only [List.getElem?_toArray, List.getElem?_cons_zero, List.getElem?_cons_succ] at c2
    have hi1 : (i0 : Int) < (T.cls.length : Int) := by have := HO.out.kl; omega
    have hi0 : (0 : Int) ≤ (i0 : Int) := Int.natCast_nonneg _
    have hn0 : 0 < (nI ws).length := by rw [hws]; simp [nI]
    have hn1 : (0 : Int) < ((nI ws).length : Int) := by omega
    have HX := Lib.hid (clsAt_head (show ws[0]? = some i0 by rw [hws]; rfl) hx)
    clear htb hx hws
    go_wp2_with fail
    refine wp_region_E (fun W => W.cell? ⟨B, 2, none⟩ = some (.slice (some ⟨bk, ok, none⟩) T.cls.length ck) ∧ W.cell? ⟨bw, ow, none⟩ = some (.int .i64 (i0 : Int)) ∧ W.cell? ⟨bk, ok + i0, none⟩ = some (.int .i64 x)) (by kernel_rfl) ?_
    have hdr : (w2).drew = { w2 with drawn := (w2).drawn + 1 } := rfl
    rw [← hdr]
    clear hdr
    change wpAnyE _ _ _ _ _ _ _ _ (w2.drewN 1)
    refine tg 0 15 rfl rfl (.pointer (some ⟨B, 2, none⟩)) ⟨c2, qw, qk⟩ ?_
    try simp only [pa, pl]
    refine tk 1 16 rfl rfl (.slice (some ⟨bk, ok, none⟩) T.cls.length ck) (fun W hW => by obtain ⟨c2, qw, qk⟩ := hW; go_simp) ⟨c2, qw, qk⟩ ?_
    try simp only [pa, pl]
    refine tm 2 17 rfl rfl (.slice (some ⟨bw, ow, none⟩) (nI ws).length cw) ⟨c2, qw, qk⟩ ?_
    try simp only [pa, pl]
    refine tk 3 18 rfl rfl (.pointer (some ⟨bw, ow, none⟩)) (fun _ _ => by go_simp <;> omega) ⟨c2, qw, qk⟩ ?_
    try simp only [pa, pl]
    refine tk 4 19 rfl rfl (.int .i64 (i0 : Int)) (fun W hW => by obtain ⟨c2, qw, qk⟩ := hW; go_simp) ⟨c2, qw, qk⟩ ?_
    try simp only [pa, pl]
    refine tk 5 20 rfl rfl (.pointer (some ⟨bk, ok + i0, none⟩)) (fun _ _ => by go_simp <;> omega) ⟨c2, qw, qk⟩ ?_
    try simp only [pa, pl]
    refine tk 6 21 rfl rfl (.int .i64 x) (fun W hW => by obtain ⟨c2, qw, qk⟩ := hW; go_simp) ⟨c2, qw, qk⟩ ?_
    try simp only [pa, pl]
    refine tk 7 22 rfl rfl (.agg #[.int .i64 (-1), .int .i64 x, .slice none 0 0, .slice none 0 0]) (fun _ _ => by go_simp <;> rfl) ⟨c2, qw, qk⟩ ?_
    try simp only [pa, pl]
    refine wpAnyEOne 8 (by kernel_rfl) ?_
    refine wpOpRun' (v := .pointer (some ⟨w2.heap.size, 0, none⟩)) (w' := ((w2.drewN 1).alloc (.cells #[.int .i64 (-1), .int .i64 x, .slice none 0 0, .slice none 0 0] 108))) (some 23) rfl rfl rfl (by go_simp <;> rfl) ?_
    have b9 := alloc_below (w2.drewN 1) (.cells #[.int .i64 (-1), .int .i64 x, .slice none 0 0, .slice none 0 0] 108)
    refine ⟨.inl (⟨(b9.cell (p := ⟨B, 2, none⟩) hsz2).trans c2, (b9.cell (p := ⟨bw, ow, none⟩) hwlt).trans qw, (b9.cell (p := ⟨bk, ok + i0, none⟩) hklt).trans qk⟩), ?_⟩
    try simp only [pa, pl]
    refine wpAnyEOne 9 (by kernel_rfl) ?_
    refine wpOpRun' (v := .pointer (some ⟨w2.heap.size, 0, none⟩)) (w' := ((w2.drewN 1).alloc (.cells #[.int .i64 (-1), .int .i64 x, .slice none 0 0, .slice none 0 0] 108))) (some 6) rfl rfl rfl (by rfl) ?_
    refine ⟨.inr (allUp_of (by kernel_rfl)), ?_⟩
    try simp only [pa, pl]
    refine wpAnyE_done (by kernel_rfl) ?_ _
    have htr := HTR.out
    simp only [if_true] at htr
    rw [HX.out] at htr
    have HTR := Lib.hid htr
    clear htr qw qk c2
    go_wp2_with fail
    go_ret
    rw [HTR.out]
    have hbl := (Below.dn (Below.refl w2.heap.size w2) 1).trans (alloc_below (w2.drewN 1) (.cells #[.int .i64 (-1), .int .i64 x, .slice none 0 0, .slice none 0 0] 108))
    subst hB
    exact ⟨_, rfl, .of (us := []) (by show w.heap.size ≤ w2.heap.size; omega) (Boxs.new (w2.drewN 1) 108 _) (RdIn.nil _ _) (RdIn.nil _ _) (Trees.nil _ _ _), HI2.out _ _ HINV2.out (hbl.mono hN2), HK2.out.trans (Keeps.of_below hbl)⟩
end Go.Proofs.Ytmkkegigajmhkaa

namespace Go.Proofs.Ytmkkegigajmhkaa
open Go.RowKit Go.Maps

/-- the greatest cost of what is left behind a question -/
def mostC (g : List Nat → Int) (T : Tb) (ws : List Nat) (k : Nat) (G : List Int) : Int := G.foldl (fun n a => max n (g (withW T ws k a))) 0
theorem mostC_succ {g : List Nat → Int} {T : Tb} {ws : List Nat} {k q : Nat} {G : List Int} {a : Int} (h : G[q]? = some a) : mostC g T ws k (G.take (q + 1)) = max (mostC g T ws k (G.take q)) (g (withW T ws k a)) := by
  unfold mostC; rw [take_succ_at h, List.foldl_append]; rfl
theorem mostC_bd {g : List Nat → Int} {T : Tb} {ws : List Nat} {k : Nat} {M : Int} (hM : 0 ≤ M) (hg : ∀ a, g (withW T ws k a) ≤ M) (G : List Int) : 0 ≤ mostC g T ws k G ∧ mostC g T ws k G ≤ M := by
  have key : ∀ (G : List Int) (n : Int), 0 ≤ n → n ≤ M → 0 ≤ G.foldl (fun n a => max n (g (withW T ws k a))) n ∧ G.foldl (fun n a => max n (g (withW T ws k a))) n ≤ M := by
    intro G
    induction G with
    | nil => intro n h1 h2; exact ⟨h1, h2⟩
    | cons a r ih =>
      intro n h1 h2
      have := hg a
      exact ih _ (show 0 ≤ max n (g (withW T ws k a)) by omega) (show max n (g (withW T ws k a)) ≤ M by omega)
  exact key G 0 (by omega) hM
theorem mostC_congr {g g' : List Nat → Int} {T : Tb} {ws : List Nat} {k : Nat} (h : ∀ a, g (withW T ws k a) = g' (withW T ws k a)) (G : List Int) : mostC g T ws k G = mostC g' T ws k G := by
  unfold mostC
  congr 1
  funext n a
  rw [h a]
def bStep (g : List Nat → Int) (T : Tb) (ws : List Nat) (s : Int × Int) (k : Nat) : Int × Int :=
  if (given T ws k).length < 2 then s
  else if s.1 < 0 ∨ costAt T k + mostC g T ws k (given T ws k) < s.2 then ((k : Int), costAt T k + mostC g T ws k (given T ws k)) else s
def bState (g : List Nat → Int) (T : Tb) (ws : List Nat) : Nat → Int × Int
  | 0 => (-1, 0)
  | k + 1 => bStep g T ws (bState g T ws k) k
theorem bState_congr {g g' : List Nat → Int} {T : Tb} {ws : List Nat} (h : ∀ k a, 2 ≤ (given T ws k).length → g (withW T ws k a) = g' (withW T ws k a)) : ∀ j, bState g T ws j = bState g' T ws j
  | 0 => rfl
  | k + 1 => by
    unfold bState bStep
    rw [bState_congr h k]
    by_cases h2 : (given T ws k).length < 2
    · rw [if_pos h2, if_pos h2]
    · rw [if_neg h2, if_neg h2, mostC_congr (fun a => h k a (by omega))]
def bestF (T : Tb) : Nat → List Nat → Int × Int
  | 0, _ => (-1, 0)
  | n + 1, ws => if single T ws = true then (-1, 0) else bState (fun u => (bestF T n u).2) T ws T.costs.length
def bestV (T : Tb) (ws : List Nat) : Int × Int := bestF T ws.length ws
theorem bestF_single {T : Tb} {ws : List Nat} (h : single T ws = true) : ∀ n, bestF T n ws = (-1, 0)
  | 0 => rfl
  | n + 1 => by unfold bestF; rw [if_pos h]
theorem bestF_fuel (T : Tb) : ∀ (n m : Nat) (ws : List Nat), ws.length ≤ n → ws.length ≤ m → bestF T n ws = bestF T m ws
  | 0, m, ws, hn, _ => by
    have : ws = [] := List.length_eq_zero_iff.1 (by omega)
    subst this
    rw [bestF_single rfl, bestF_single rfl]
  | n + 1, 0, ws, _, hm => by
    have : ws = [] := List.length_eq_zero_iff.1 (by omega)
    subst this
    rw [bestF_single rfl, bestF_single rfl]
  | n + 1, m + 1, ws, hn, hm => by
    unfold bestF
    by_cases h : single T ws = true
    · rw [if_pos h, if_pos h]
    · rw [if_neg h, if_neg h]
      refine bState_congr (fun k a h2 => ?_) _
      have := withW_lt (T := T) (ws := ws) (k := k) (a := a) h2
      rw [bestF_fuel T n m _ (by omega) (by omega)]
theorem bestV_single {T : Tb} {ws : List Nat} (h : single T ws = true) : bestV T ws = (-1, 0) := bestF_single h _
theorem bestV_eq {T : Tb} {ws : List Nat} (h : single T ws = false) : bestV T ws = bState (fun u => (bestV T u).2) T ws T.costs.length := by
  have hne : ws.length ≠ 0 := fun h0 => by rw [List.length_eq_zero_iff.1 h0] at h; cases h
  obtain ⟨n, hn⟩ : ∃ n, ws.length = n + 1 := ⟨ws.length - 1, by omega⟩
  unfold bestV
  rw [hn]
  conv => lhs; unfold bestF
  rw [if_neg (by rw [h]; simp)]
  refine bState_congr (fun k a h2 => ?_) _
  have := withW_lt (T := T) (ws := ws) (k := k) (a := a) h2
  rw [bestF_fuel T n _ _ (by omega) (Nat.le_refl _)]
theorem bestF_bd {T : Tb} (ho : OkT T) : ∀ (n : Nat) (ws : List Nat), (-1 ≤ (bestF T n ws).1 ∧ (bestF T n ws).1 ≤ 64) ∧ 0 ≤ (bestF T n ws).2 ∧ (bestF T n ws).2 ≤ 1024 * n
  | 0, ws => by unfold bestF; simp
  | n + 1, ws => by
    unfold bestF
    by_cases h : single T ws = true
    · rw [if_pos h]; simp; omega
    · rw [if_neg h]
      have hc := ho.c64
      have key : ∀ j, j ≤ T.costs.length → (-1 ≤ (bState (fun u => (bestF T n u).2) T ws j).1 ∧ (bState (fun u => (bestF T n u).2) T ws j).1 ≤ j) ∧ 0 ≤ (bState (fun u => (bestF T n u).2) T ws j).2 ∧ (bState (fun u => (bestF T n u).2) T ws j).2 ≤ 1024 * (n + 1) := by
        intro j
        induction j with
        | zero => intro _; unfold bState; simp; omega
        | succ k ih =>
          intro hk
          have hi := ih (by omega)
          obtain ⟨x, hx⟩ := elem_at (show k < T.costs.length by omega)
          have hxb := ho.cb x (List.mem_of_getElem? hx)
          have hm := mostC_bd (g := fun u => (bestF T n u).2) (T := T) (ws := ws) (k := k) (M := 1024 * n) (by omega) (fun a => (bestF_bd ho n _).2.2) (given T ws k)
          unfold bState bStep
          split
          · omega
          · split
            · rw [costAt_of hx]; simp only []; omega
            · omega
      have := key _ (Nat.le_refl _)
      push_cast
      omega
theorem bestV_bd {T : Tb} (ho : OkT T) (ws : List Nat) : (-1 ≤ (bestV T ws).1 ∧ (bestV T ws).1 ≤ 64) ∧ 0 ≤ (bestV T ws).2 ∧ (bestV T ws).2 ≤ 1024 * ws.length := bestF_bd ho _ ws
/-- worlds of different classes have different rows -/
def NoTw (T : Tb) : Prop := ∀ i j, i < T.rows.length → j < T.rows.length → clsAt T i ≠ clsAt T j → rowAt T i ≠ rowAt T j
theorem given_two {T : Tb} {ws : List Nat} {k i j : Nat} (hi : i ∈ ws) (hj : j ∈ ws) (h : ansAt T i k ≠ ansAt T j k) : 2 ≤ (given T ws k).length := by
  have h1 := (given_mem T ws k _).2 ⟨i, hi, rfl⟩
  have h2 := (given_mem T ws k _).2 ⟨j, hj, rfl⟩
  cases hG : given T ws k with
  | nil => rw [hG] at h1; cases h1
  | cons x r => cases r with
    | nil => rw [hG] at h1 h2; simp at h1 h2; exact absurd (h1.trans h2.symm) h
    | cons y s => simp
theorem part_of {T : Tb} (ho : OkT T) (hn : NoTw T) {ws : List Nat} (hok : WsOk T ws) (h : single T ws = false) : ∃ k, k < T.costs.length ∧ 2 ≤ (given T ws k).length := by
  unfold single at h
  rw [List.all_eq_false] at h
  obtain ⟨i, hi, hc⟩ := h
  have hne : clsAt T i ≠ clsAt T (ws.headD 0) := by simpa using hc
  have hhead : ws.headD 0 ∈ ws := by cases ws with | nil => cases hi | cons a r => simp
  have hr := hn i (ws.headD 0) (hok i hi) (hok _ hhead) hne
  obtain ⟨r1, e1⟩ := elem_at (hok i hi)
  obtain ⟨r2, e2⟩ := elem_at (hok _ hhead)
  rw [rowAt_of e1, rowAt_of e2] at hr
  have l1 := ho.rl r1 (List.mem_of_getElem? e1)
  have l2 := ho.rl r2 (List.mem_of_getElem? e2)
  obtain ⟨k, hk, hd⟩ : ∃ k, k < T.costs.length ∧ r1[k]? ≠ r2[k]? := by
    refine Classical.byContradiction fun hcon => hr ?_
    refine List.ext_getElem? fun k => ?_
    by_cases hk : k < T.costs.length
    · exact Classical.byContradiction fun h => hcon ⟨k, hk, h⟩
    · rw [List.getElem?_eq_none (by omega), List.getElem?_eq_none (by omega)]
  refine ⟨k, hk, given_two hi hhead ?_⟩
  unfold ansAt
  rw [rowAt_of e1, rowAt_of e2]
  obtain ⟨x, hx⟩ := elem_at (show k < r1.length by omega)
  obtain ⟨y, hy⟩ := elem_at (show k < r2.length by omega)
  rw [hx, hy] at hd ⊢
  simpa using hd
theorem bState_ask {g : List Nat → Int} {T : Tb} {ws : List Nat} : ∀ j, ((bState g T ws j).1 = -1 ∧ ∀ k, k < j → (given T ws k).length < 2) ∨ ∃ k : Nat, (bState g T ws j).1 = k ∧ k < j ∧ 2 ≤ (given T ws k).length
  | 0 => .inl ⟨rfl, fun k hk => by omega⟩
  | j + 1 => by
    have ih := bState_ask (g := g) (T := T) (ws := ws) j
    unfold bState bStep
    by_cases h2 : (given T ws j).length < 2
    · rw [if_pos h2]
      rcases ih with ⟨h, h'⟩ | ⟨k, h, h', h''⟩
      · exact .inl ⟨h, fun k hk => by
          by_cases e : k = j
          · subst e; exact h2
          · exact h' k (by omega)⟩
      · exact .inr ⟨k, h, by omega, h''⟩
    · rw [if_neg h2]
      split
      · exact .inr ⟨j, rfl, by omega, by omega⟩
      · rename_i hc
        rcases ih with ⟨h, h'⟩ | ⟨k, h, h', h''⟩
        · exact absurd (.inl (by omega)) hc
        · exact .inr ⟨k, h, by omega, h''⟩
theorem best_choose {T : Tb} (ho : OkT T) (hn : NoTw T) : ChooseOk (fun ws => (bestV T ws).1) T := by
  intro ws hok hs
  obtain ⟨k, hk, h2⟩ := part_of ho hn hok hs
  show ∃ k : Nat, (bestV T ws).1 = k ∧ _
  rw [bestV_eq hs]
  rcases bState_ask (g := fun u => (bestV T u).2) (T := T) (ws := ws) T.costs.length with ⟨_, h⟩ | h
  · have := h k hk; omega
  · exact h
theorem gState_ask {T : Tb} {ws : List Nat} : ∀ j, ((gState T ws j).1 = -1 ∧ ∀ k, k < j → (given T ws k).length < 2) ∨ ∃ k : Nat, (gState T ws j).1 = k ∧ k < j ∧ 2 ≤ (given T ws k).length
  | 0 => .inl ⟨rfl, fun k hk => by omega⟩
  | j + 1 => by
    have ih := gState_ask (T := T) (ws := ws) j
    unfold gState gStep
    by_cases h2 : (given T ws j).length < 2
    · rw [if_pos h2]
      rcases ih with ⟨h, h'⟩ | ⟨k, h, h', h''⟩
      · exact .inl ⟨h, fun k hk => by
          by_cases e : k = j
          · subst e; exact h2
          · exact h' k (by omega)⟩
      · exact .inr ⟨k, h, by omega, h''⟩
    · rw [if_neg h2]
      split
      · exact .inr ⟨j, rfl, by omega, by omega⟩
      · rename_i hc
        rcases ih with ⟨h, h'⟩ | ⟨k, h, h', h''⟩
        · exact absurd (.inl (by omega)) hc
        · exact .inr ⟨k, h, by omega, h''⟩
theorem greedy_choose {T : Tb} (ho : OkT T) (hn : NoTw T) : ChooseOk (greedyA T) T := by
  intro ws hok hs
  obtain ⟨k, hk, h2⟩ := part_of ho hn hok hs
  unfold greedyA
  rcases gState_ask (T := T) (ws := ws) T.costs.length with ⟨_, h⟩ | h
  · have := h k hk; omega
  · exact h
/-! ### sets -/
theorem setW_bit : ∀ (ws : List Nat) (s i : Nat), (ws.foldl (fun s i => s ||| 2 ^ i) s).testBit i = (s.testBit i || decide (i ∈ ws))
  | [], s, i => by simp
  | x :: r, s, i => by
    rw [List.foldl_cons, setW_bit r, Nat.testBit_or, Nat.testBit_two_pow, Bool.or_assoc]
    congr 1
    by_cases h : x = i
    · subst h; simp
    · have : i ≠ x := fun e => h e.symm
      simp [h, this]
theorem setW_mem (ws : List Nat) (i : Nat) : (setW ws).testBit i = decide (i ∈ ws) := by
  unfold setW; rw [setW_bit]; simp
theorem nat_sorted_ext : ∀ (xs ys : List Nat), xs.Pairwise (· < ·) → ys.Pairwise (· < ·) → (∀ b, b ∈ xs ↔ b ∈ ys) → xs = ys
  | [], [], _, _, _ => rfl
  | [], y :: s, _, _, h => by have := (h y).2 (by simp); cases this
  | x :: r, [], _, _, h => by have := (h x).1 (by simp); cases this
  | x :: r, y :: s, hx, hy, h => by
    rw [List.pairwise_cons] at hx hy
    have e : x = y := by
      have h1 := (h x).1 (by simp)
      have h2 := (h y).2 (by simp)
      rcases List.mem_cons.1 h1 with h1 | h1
      · exact h1
      · rcases List.mem_cons.1 h2 with h2 | h2
        · exact h2.symm
        · have := hx.1 y h2; have := hy.1 x h1; omega
    subst e
    congr 1
    refine nat_sorted_ext r s hx.2 hy.2 fun b => ?_
    have hb := h b
    simp only [List.mem_cons] at hb
    constructor
    · intro h1
      rcases hb.1 (.inr h1) with h2 | h2
      · subst h2; have := hx.1 b h1; omega
      · exact h2
    · intro h1
      rcases hb.2 (.inr h1) with h2 | h2
      · subst h2; have := hy.1 b h1; omega
      · exact h2
theorem setW_inj {xs ys : List Nat} (hx : xs.Pairwise (· < ·)) (hy : ys.Pairwise (· < ·)) (h : setW xs = setW ys) : xs = ys := by
  refine nat_sorted_ext xs ys hx hy fun b => ?_
  have h1 := setW_mem xs b
  have h2 := setW_mem ys b
  rw [h, h2] at h1
  simpa using h1.symm
theorem withW_sorted {T : Tb} {ws : List Nat} (h : ws.Pairwise (· < ·)) (k : Nat) (a : Int) : (withW T ws k a).Pairwise (· < ·) := h.sublist List.filter_sublist
theorem allW_sorted (T : Tb) : (allW T).Pairwise (· < ·) := by unfold allW; exact List.pairwise_lt_range
theorem allW_ok (T : Tb) : WsOk T (allW T) := fun i hi => by unfold allW at hi; simpa using hi
theorem allW_len (T : Tb) : (allW T).length = T.rows.length := by unfold allW; simp
/-- the noted choices are right -/
def KnownOk (T : Tb) (f : Int → Option Value) : Prop := ∀ s v, f s = some v → ∃ ws, WsOk T ws ∧ ws.Pairwise (· < ·) ∧ s = (setW ws : Nat) ∧ v = .agg #[.int .i64 (bestV T ws).1, .int .i64 (bestV T ws).2]
theorem KnownOk.hit {T : Tb} {f : Int → Option Value} (h : KnownOk T f) {ws : List Nat} (hs : ws.Pairwise (· < ·)) {v : Value} (hv : f (setW ws : Nat) = some v) : v = .agg #[.int .i64 (bestV T ws).1, .int .i64 (bestV T ws).2] := by
  obtain ⟨us, _, h2, h3, h4⟩ := h _ _ hv
  rw [setW_inj hs h2 (by exact_mod_cast h3)]
  exact h4
theorem KnownOk.put {T : Tb} {f : Int → Option Value} (h : KnownOk T f) {ws : List Nat} (hok : WsOk T ws) (hs : ws.Pairwise (· < ·)) : KnownOk T (fun y => if y = (setW ws : Nat) then some (.agg #[.int .i64 (bestV T ws).1, .int .i64 (bestV T ws).2]) else f y) := by
  intro s v hv
  by_cases e : s = (setW ws : Nat)
  · simp only [e, if_true, Option.some.injEq] at hv
    exact ⟨ws, hok, hs, e, hv.symm⟩
  · simp only [if_neg e] at hv
    exact h s v hv
end Go.Proofs.Ytmkkegigajmhkaa

namespace Go.Proofs.Ytmkkegigajmhkaa
open Go.RowKit Go.Maps

theorem zero85 (W : World) : (zeroValue 85).run Try.prog W = .ok (.agg #[.int .i64 0, .int .i64 0]) W := (zero_of_info (t := 85) (v := .agg #[.int .i64 0, .int .i64 0]) (n := 2) (by kernel_rfl)).1 W
@[go_sem high] theorem Try.field85_0 (p q : Int) (w : World) : (Instr.field 85 (.agg #[.int .i64 p, .int .i64 q]) 0).run Try.prog w = .ok (.int .i64 p) w := by kernel_rfl
@[go_sem high] theorem Try.field85_1 (p q : Int) (w : World) : (Instr.field 85 (.agg #[.int .i64 p, .int .i64 q]) 1).run Try.prog w = .ok (.int .i64 q) w := by kernel_rfl
/-- where the variables of Best lie -/
structure BPos (N1 N0 B bM bF mB : Nat) : Prop where
  n1 : N1 ≤ mB
  n0 : N1 ≤ N0
  b : B < N0
  m : bM < N0
  f : bF < N0
  mp : mB < N0
def bestFn (B bM bF : Nat) : Value := .func (.func 53) #[] #[.pointer (some ⟨B, 0, none⟩), .pointer (some ⟨bM, 0, none⟩), .pointer (some ⟨bF, 0, none⟩)]
/-- the variables of Best -/
structure BInv (w1 : World) (va vc vk : Value) (T : Tb) (B bM bF mB : Nat) (W : World) : Prop where
  bel : Below w1.heap.size w1 W
  bt : Boxs W B 33 #[va, vc, vk]
  bm : Boxs W bM 82 #[.map (some mB)]
  bf : Boxs W bF 83 #[.func (.func 53) #[] #[.pointer (some ⟨B, 0, none⟩), .pointer (some ⟨bM, 0, none⟩), .pointer (some ⟨bF, 0, none⟩)]]
  mp : ∃ f, MapF W mB .u64 f ∧ KnownOk T f
theorem BInv.under {w1 W W' : World} {va vc vk : Value} {T : Tb} {N0 B bM bF mB : Nat} (hp : BPos w1.heap.size N0 B bM bF mB) (h : BInv w1 va vc vk T B bM bF mB W) (hb : Below N0 W W') : BInv w1 va vc vk T B bM bF mB W' := by
  obtain ⟨f, hf, hk⟩ := h.mp
  exact ⟨h.bel.trans (hb.mono hp.n0), h.bt.block (hb.block _ hp.b), h.bm.block (hb.block _ hp.m), h.bf.block (hb.block _ hp.f), f, hf.keep (hb.block _ hp.mp), hk⟩
theorem MapF.not_box {W : World} {b b' : Nat} {q : IntKind} {f : Int → Option Value} {t : TypeId} {cs : Array Value} (h : MapF W b q f) (hb : Boxs W b' t cs) : b' ≠ b := by
  rintro rfl
  obtain ⟨arr, c, h1, _, _⟩ := h
  have := h1.symm.trans hb
  cases this
theorem Keeps.setNew {F : Nat → Prop} {a b : World} (h : Keeps F a b) {p : Addr} (hp : a.heap.size ≤ p.block) (v : Value) : Keeps F a (b.setCell p v) :=
  ⟨h.os, h.tape, h.output, by simpa using h.size, fun i hi hf => (Below.heap_setCell _ _ _ _ (by omega)).trans (h.block i hi hf)⟩
theorem two_put {W : World} {b : Nat} {a c a' c' : Value} (h : Boxs W b 85 #[a', c']) : Boxs ((W.setCell ⟨b, 0, none⟩ a).setCell ⟨b, 1, none⟩ c) b 85 #[a, c] := by
  simpa using (h.put 0 a).put 1 c
theorem BInv.two {w1 W : World} {va vc vk : Value} {T : Tb} {N0 B bM bF mB : Nat} (hp : BPos w1.heap.size N0 B bM bF mB) (h : BInv w1 va vc vk T B bM bF mB W) {b : Nat} (hb : N0 ≤ b) (x y : Value) : BInv w1 va vc vk T B bM bF mB ((W.setCell ⟨b, 0, none⟩ x).setCell ⟨b, 1, none⟩ y) :=
  h.under hp (((Below.refl N0 W).setCell (p := ⟨b, 0, none⟩) hb x).setCell (p := ⟨b, 1, none⟩) hb y)
theorem Keeps.two {F : Nat → Prop} {a W : World} (h : Keeps F a W) {b : Nat} (hb : a.heap.size ≤ b) (x y : Value) : Keeps F a ((W.setCell ⟨b, 0, none⟩ x).setCell ⟨b, 1, none⟩ y) := (h.setNew (p := ⟨b, 0, none⟩) hb x).setNew (p := ⟨b, 1, none⟩) hb y
/-- what the closure returns -/
def BestOut (w1 : World) (va vc vk : Value) (T : Tb) (N0 B bM bF mB : Nat) (w : World) (s : Int × Int) (e : Ending) (w' : World) : Prop :=
  e = .returned (.agg #[.int .i64 s.1, .int .i64 s.2]) ∧ BInv w1 va vc vk T B bM bF mB w' ∧ Keeps (· < N0) w w'
set_option maxRecDepth 100000 in
set_option maxHeartbeats 16000000 in
theorem best_any (w1 : World) (va vc vk : Value) (T : Tb) (ho : OkT T) (h10 : T.rows.length ≤ 10) (hT : TbR w1 va vc vk T) (N0 B bM bF mB : Nat) (hp : BPos w1.heap.size N0 B bM bF mB) :
    ∀ (n : Nat) (ws : List Nat) (v : Value) (w : World), ws.length < n → ws.length ≤ 64 → WsOk T ws → ws.Pairwise (· < ·) → BInv w1 va vc vk T B bM bF mB w → N0 ≤ w.heap.size → RdIn (N0 ≤ ·) w v (ints (nI ws)) →
      Calls Try.prog 53 #[v, .pointer (some ⟨B, 0, none⟩), .pointer (some ⟨bM, 0, none⟩), .pointer (some ⟨bF, 0, none⟩)] w fun e w' => BestOut w1 va vc vk T N0 B bM bF mB w (bestV T ws) e w' := by
  obtain ⟨aa, ca, rfl⟩ := hT.rows.form
  obtain ⟨ac, cc, rfl⟩ := hT.costs.form
  obtain ⟨ak, ck, rfl⟩ := hT.cls.form
  have HT := Lib.hid hT; have HO := Lib.hid ho; have HP := Lib.hid hp
  have hk64 := ho.c64
  clear hT ho
  intro n
  induction n with
  | zero => intro ws v w h0; omega
  | succ n ih =>
  intro ws v w hn h64 hok hsrt hinv hN0 hr
  have IH := Lib.hid ih
  obtain ⟨aw, cw, rfl⟩ := RdI.form (show RdI w v (nI ws) from hr.1)
  obtain ⟨bR, hB⟩ : ∃ b, w.heap.size = b := ⟨_, rfl⟩
  have HB := Lib.hid (alloc_below w (.cells #[.int .i64 0, .int .i64 0] 85))
  have HINV := Lib.hid (hinv.under hp (HB.out.mono hN0))
  have BR := Lib.hid (Boxs.new w 85 #[.int .i64 0, .int .i64 0])
  have HR := Lib.hid ((hr.mono (G := fun i => N0 ≤ i ∧ i < w.heap.size) fun i hi hF => ⟨hF, hi⟩).below HB.out)
  have HK := Lib.hid (Keeps.of_below (F := (· < N0)) HB.out)
  have HS := Lib.hid hsrt
  have hsz0 : w.heap.size < (w.alloc (.cells #[.int .i64 0, .int .i64 0] 85)).heap.size := by simp
  clear hr hinv ih HB hsrt hp
  have c0 := HINV.out.bt.cell 0; have c1 := HINV.out.bt.cell 1; have c2 := HINV.out.bt.cell 2
  simp only [List.getElem?_toArray, List.getElem?_cons_zero, List.getElem?_cons_succ] at c0 c1 c2
  have SG := single_any _ _ _ _ T ws _ (HT.out.below HINV.out.bel) HR.out.1 (fun j hj => by rw [HO.out.kl]; exact hok j hj)
  rw [hB] at BR hsz0
  go_enter Try.func53, Try.ntmps53
  go_wp2_with fail
  generalize w.alloc (.cells #[.int .i64 0, .int .i64 0] 85) = wb at *
  have hN0' : N0 ≤ wb.heap.size := by omega
  refine SG.mono ?_
  rintro e w2 ⟨rfl, hb2⟩
  have HINV2 := Lib.hid (HINV.out.under HP.out (hb2.mono hN0'))
  have BR2 := Lib.hid (Boxs.below BR.out hb2)
  have HR2 := Lib.hid (HR.out.below hb2)
  have HK2 := Lib.hid (HK.out.trans (Keeps.of_below hb2))
  have hsz2 : bR < w2.heap.size := BR2.out.lt
  have hN2 : N0 ≤ w2.heap.size := by omega
  have hNR : N0 ≤ bR := by omega
  clear hb2 SG c0 c1 c2 HINV BR HR HK
  obtain ⟨sg, hsg⟩ : ∃ b, single T ws = b := ⟨_, rfl⟩
  have HSG := Lib.hid hsg
  rw [hsg]
  clear hsg
  cases sg
  · have SA := set_any _ ws w2 HR2.out.1 (fun i hi => by have := hok i hi; omega) (by omega)
    have hbv := bestV_eq HSG.out
    have hbb := bestV_bd HO.out ws
    have HBV := Lib.hid hbv
    clear hbv
    go_wp2_with fail
    refine SA.mono ?_
    rintro e w3 ⟨rfl, hb3⟩
    have HINV3 := Lib.hid (HINV2.out.under HP.out (hb3.mono hN2))
    have BR3 := Lib.hid (Boxs.below BR2.out hb3)
    have HR3 := Lib.hid (HR2.out.below hb3)
    have HK3 := Lib.hid (HK2.out.trans (Keeps.of_below hb3))
    have hs3 := hb3.size
    have hltR : bR < w3.heap.size := BR3.out.lt
    have cr0 := BR3.out.cell 0; have cr1 := BR3.out.cell 1; have fr0 := BR3.out.frozen 0; have fr1 := BR3.out.frozen 1
    simp only [List.getElem?_toArray, List.getElem?_cons_zero, List.getElem?_cons_succ] at cr0 cr1
    clear hb3 SA HINV2 BR2 HR2 HK2
    obtain ⟨f, hmf, hkn⟩ := HINV3.out.mp
    have hlk := run_look hmf (t := 82) Try.underlying82 Try.underlying86 (zero85 w3) (setW ws : Nat) true
    have cm := HINV3.out.bm.cell 0
    simp only [List.getElem?_toArray, List.getElem?_cons_zero] at cm
    have HKN := Lib.hid hkn; have HMF := Lib.hid hmf
    clear hkn hmf
    obtain ⟨ov, hov⟩ : ∃ o, f (setW ws : Nat) = o := ⟨_, rfl⟩
    have HOV := Lib.hid hov
    rw [hov] at hlk
    clear hov
    cases ov with
    | some u =>
      have hu := HKN.out.hit HS.out HOV.out
      subst hu
      obtain ⟨⟨ask, cost⟩, hbe⟩ : ∃ s, bestV T ws = s := ⟨_, rfl⟩
      rw [hbe] at hlk
      simp only [Option.getD_some, Option.isSome_some, if_true] at hlk
      have HBE := Lib.hid hbe
      clear hbe hbb IH
      go_wp2_with fail
      have HX := Boxs.below (two_put (a := .int .i64 ask) (c := .int .i64 cost) BR3.out) (alloc_below _ (.cells #[.int .i64 ask, .int .i64 cost] 85))
      have e0 := HX.cell 0
      have e1 := HX.cell 1
      simp only [List.getElem?_toArray, List.getElem?_cons_zero, List.getElem?_cons_succ] at e0 e1
      refine bodyPost_ret (v := .agg #[.int .i64 ask, .int .i64 cost]) ?_ rfl ⟨by rw [HBE.out], (HINV3.out.two HP.out hNR (.int .i64 ask) (.int .i64 cost)).under HP.out ((alloc_below _ (.cells #[.int .i64 ask, .int .i64 cost] 85)).mono (by simp; omega)), (HK3.out.two (Nat.le_of_eq hB) (.int .i64 ask) (.int .i64 cost)).trans (Keeps.of_below (alloc_below _ (.cells #[.int .i64 ask, .int .i64 cost] 85)))⟩
      simp only [results, Try.results53]
      simp [go_sem, e0, e1]
    | none =>
      simp only [Option.getD_none, Option.isSome_none, if_true] at hlk
      have c1 := HINV3.out.bt.cell 1
      simp only [List.getElem?_toArray, List.getElem?_cons_zero, List.getElem?_cons_succ] at c1
      have hltB := HINV3.out.bt.lt
      go_wp2_with fail
      have hb4 := (alloc_below w3 (.cells #[.int .i64 0, .int .i64 0] 85)).trans ((alloc_below (w3.alloc (.cells #[.int .i64 0, .int .i64 0] 85)) (.cells #[.int .i64 (-1), .int .i64 0] 85)).mono (by simp))
      have HINV := Lib.hid (HINV3.out.under HP.out (hb4.mono (by omega)))
      have HR4 := Lib.hid (HR3.out.below hb4)
      have HK := Lib.hid (HK3.out.trans (Keeps.of_below hb4))
      have BR := Lib.hid (Boxs.below BR3.out hb4)
      have BO0 := Boxs.new (w3.alloc (.cells #[.int .i64 0, .int .i64 0] 85)) 85 #[.int .i64 (-1), .int .i64 0]
      have hbo : (w3.alloc (.cells #[.int .i64 0, .int .i64 0] 85)).heap.size = w3.heap.size + 1 := by simp
      rw [hbo] at BO0
      obtain ⟨bO, hO⟩ : ∃ b, w3.heap.size + 1 = b := ⟨_, rfl⟩
      rw [hO] at BO0 ⊢
      have BO := Lib.hid BO0
      have hROne : bR ≠ bO := by omega
      have hs4 := hb4.size
      have hNO : N0 ≤ bO := by omega
      have hNwO : w.heap.size ≤ bO := by omega
      have hgl : w3.heap.size < ((w3.alloc (.cells #[.int .i64 0, .int .i64 0] 85)).alloc (.cells #[.int .i64 (-1), .int .i64 0] 85)).heap.size := by simp; omega
      have hsrt : bState (fun u => (bestV T u).2) T ws 0 = (-1, 0) := rfl
      clear BO0 hbo hb4 HINV3 HR3 HK3 BR3 cr0 cr1 fr0 fr1 hlk cm c1 hltB hltR hO HKN HMF HOV
      generalize (w3.alloc (.cells #[.int .i64 0, .int .i64 0] 85)).alloc (.cells #[.int .i64 (-1), .int .i64 0] 85) = w4 at *
      go_loopw [35] (fun iv wr => ∃ k : Nat, k ≤ T.costs.length ∧ iv = .int .i64 k ∧ BInv w1 (.slice aa T.rows.length ca) (.slice ac T.costs.length cc) (.slice ak T.cls.length ck) T B bM bF mB wr ∧ Keeps (· < N0) w wr ∧ Keeps (fun i => i < N0 ∨ i = bO) w4 wr ∧ Boxs wr bR 85 #[.int .i64 0, .int .i64 0] ∧ Boxs wr bO 85 #[.int .i64 (bState (fun u => (bestV T u).2) T ws k).1, .int .i64 (bState (fun u => (bestV T u).2) T ws k).2]) (fun iv _ => T.costs.length - (intOf iv).toNat)
      case atStart => exact ⟨0, Nat.zero_le _, rfl, HINV.out, HK.out, Keeps.refl _ _, BR.out, BO.out⟩
      case round =>
        clear HINV HK BR BO
        obtain ⟨k, hk, rfl, hinv, hkp, hk4, hbr, hbo⟩ := hrel
        have hk0 : (0 : Int) ≤ (k : Int) := Int.natCast_nonneg _
        have hs4r := hk4.size
        have HR := Lib.hid (HR4.out.block (W' := wr) fun i hi hF => hk4.block i hi (by have h1 := hF.1; have h2 := hF.2; omega))
        have hst : bState (fun u => (bestV T u).2) T ws (k + 1) = bStep (fun u => (bestV T u).2) T ws (bState (fun u => (bestV T u).2) T ws k) k := rfl
        obtain ⟨⟨ask, least⟩, hgs⟩ : ∃ s, bState (fun u => (bestV T u).2) T ws k = s := ⟨_, rfl⟩
        rw [hgs] at hst hbo
        unfold bStep at hst
        simp only at hst
        have HST := Lib.hid hst
        have HGS := Lib.hid hgs
        have HINV := Lib.hid hinv; have HKP := Lib.hid hkp; have HK4 := Lib.hid hk4; have BR := Lib.hid hbr; have BO := Lib.hid hbo
        clear hst hgs hinv hkp hk4 hbr hbo
        by_cases hlt : k < T.costs.length
        · have hk1 : (k : Int) < (T.costs.length : Int) := by omega
          obtain ⟨x, hx⟩ := elem_at hlt
          have hxb := HO.out.cb x (List.mem_of_getElem? hx)
          have htb := HT.out.below HINV.out.bel
          have PA := parts_any _ _ _ _ T ws k wr htb HO.out HR.out.1 hok (by omega) hlt
          obtain ⟨bc, oc, rfl, _, qc⟩ := ints_at htb.costs hx
          have c0 := HINV.out.bt.cell 0; have c1 := HINV.out.bt.cell 1; have c2 := HINV.out.bt.cell 2
          simp only [List.getElem?_toArray, List.getElem?_cons_zero, List.getElem?_cons_succ] at c0 c1 c2
          have hxx := costAt_of hx
          have HXX := Lib.hid hxx
          have HLT := Lib.hid fun (h2 : 2 ≤ (given T ws k).length) a => withW_lt (T := T) (ws := ws) (k := k) (a := a) h2
          unfold PartsOut at PA
          clear htb hx hxx
          go_wp2_with fail
          refine PA.mono ?_
          rintro e w5 ⟨⟨v1, v2, rfl, hg1, hg2⟩, hb9⟩
          obtain ⟨a1, c1', rfl⟩ := RdI.form (show RdI w5 v1 (given T ws k) from hg1.1)
          obtain ⟨a2, c2', rfl⟩ := hg2.rd.form
          have hs5 := hb9.size
          have HINV5 := Lib.hid (HINV.out.under HP.out (hb9.mono (by omega)))
          have HKP5 := Lib.hid (HKP.out.trans (Keeps.of_below hb9))
          have HK45 := Lib.hid (HK4.out.trans (Keeps.of_below hb9))
          have BR5 := Lib.hid (Boxs.below BR.out hb9)
          have BO5 := Lib.hid (Boxs.below BO.out hb9)
          have HG2 := Lib.hid hg2
          have hpl : (partsW T ws k (given T ws k)).length = (given T ws k).length := by unfold partsW; rw [List.length_map]
          have HPL := Lib.hid hpl
          have hgl := given_len T ws k
          clear PA hg1 hg2 hb9 c0 c1 c2 qc hpl HINV HKP HK4 BR BO
          by_cases h2 : (given T ws k).length < 2
          · have h2' : ((partsW T ws k (given T ws k)).length : Int) < 2 := by have := HPL.out; omega
            rw [if_pos h2] at HST
            go_wp2_with fail
            go_roundw
            case rel => exact ⟨k + 1, by omega, by go_num, HINV5.out, HKP5.out, HK45.out, BR5.out, by rw [HST.out]; exact BO5.out⟩
            case measure => simp [intOf]; omega
          · have h2' : ¬ ((partsW T ws k (given T ws k)).length : Int) < 2 := by have := HPL.out; omega
            rw [if_neg h2] at HST
            have HLT := Lib.hid (HLT.out (by omega))
            obtain ⟨G, hG⟩ : ∃ G, given T ws k = G := ⟨_, rfl⟩
            rw [hG] at HST HG2 HPL hgl h2' ⊢
            clear h2 hG
            go_wp2_with fail
            obtain ⟨wo, hwo⟩ : ∃ wo, wo = w5 := ⟨_, rfl⟩
            go_loopw [14, 52] (fun nv qv wr' => ∃ q : Nat, q ≤ G.length ∧ qv = .int .i64 q ∧ nv = .int .i64 (mostC (fun u => (bestV T u).2) T ws k (G.take q)) ∧ BInv w1 (.slice aa T.rows.length ca) (.slice (some ⟨bc, oc, none⟩) T.costs.length cc) (.slice ak T.cls.length ck) T B bM bF mB wr' ∧ Keeps (· < N0) w5 wr') (fun _ qv _ => G.length - (intOf qv).toNat)
            case atStart => exact ⟨0, Nat.zero_le _, rfl, rfl, HINV5.out, Keeps.refl _ _⟩
            case round =>
              rename World => w6
              obtain ⟨q, hq, rfl, rfl, hinv, hk6⟩ := hrel
              have hq0 : (0 : Int) ≤ (q : Int) := Int.natCast_nonneg _
              have HINV6 := Lib.hid hinv; have HK6 := Lib.hid hk6
              have hs6 := hk6.size
              have hmb := mostC_bd (g := fun u => (bestV T u).2) (T := T) (ws := ws) (k := k) (M := 1024 * 64) (by omega) (fun a => by have h1 := (bestV_bd HO.out (withW T ws k a)).2.2; have h2 := withW_le T ws k a; omega) (G.take q)
              clear hinv hk6 HINV5
              by_cases hqg : q < G.length
              · have hq1 : (q : Int) < ((partsW T ws k G).length : Int) := by have := HPL.out; omega
                obtain ⟨y, hy⟩ := elem_at hqg
                have hg2r := HG2.out.block (W' := w6) fun i hi hF => HK6.out.block i hi (by have hF' : wr.heap.size ≤ i := hF; omega)
                obtain ⟨b3, o3, u, rfl, hb3, _, qu, hu⟩ := hg2r.at (partsW_at hy)
                obtain ⟨au, cu, rfl⟩ := RdI.form (show RdI w6 u (nI (withW T ws k y)) from hu.1)
                have cf := HINV6.out.bf.cell 0
                simp only [List.getElem?_toArray, List.getElem?_cons_zero] at cf
                have hwl := withW_le T ws k y
                have BC := IH.out (withW T ws k y) (.slice au (nI (withW T ws k y)).length cu) w6 (by have := HLT.out y; omega) (by omega) (withW_ok hok k y) (withW_sorted HS.out k y) HINV6.out (by omega) (hu.mono (G := (N0 ≤ ·)) fun i _ hi => by have hi' : wr.heap.size ≤ i := hi; show N0 ≤ i; omega)
                unfold BestOut at BC
                have hms := mostC_succ (g := fun u => (bestV T u).2) (T := T) (ws := ws) (k := k) hy
                have hvb := bestV_bd HO.out (withW T ws k y)
                obtain ⟨⟨p1, p2⟩, hpe⟩ : ∃ s, bestV T (withW T ws k y) = s := ⟨_, rfl⟩
                rw [hpe] at BC hms hvb
                obtain ⟨mn, hmn⟩ : ∃ n, mostC (fun u => (bestV T u).2) T ws k (G.take q) = n := ⟨_, rfl⟩
                rw [hmn] at hms hmb ⊢
                have HMS := Lib.hid hms
                clear hg2r hu hy hms hmn hpe
                go_wp2_with fail
                refine BC.mono ?_
                rintro e w7 ⟨rfl, hi7, hk7⟩
                have HI7 := Lib.hid hi7
                have HK7 := Lib.hid (HK6.out.trans hk7)
                clear BC hi7 hk7 cf qu
                go_wp2_with fail
                go_roundw
                case rel => exact ⟨q + 1, by omega, by go_num, by rw [HMS.out], HI7.out, HK7.out⟩
                case measure => simp [intOf]; omega
              · obtain rfl : q = G.length := by omega
                have hq1 : ¬ (G.length : Int) < ((partsW T ws k G).length : Int) := by have := HPL.out; omega
                rw [List.take_length] at hmb ⊢
                have BR6 := Lib.hid (Boxs.block BR5.out (HK6.out.block _ BR5.out.lt (by omega)))
                have BO6 := Lib.hid (Boxs.block BO5.out (HK6.out.block _ BO5.out.lt (by omega)))
                have HKP6 := Lib.hid (HKP5.out.trans HK6.out)
                have HK46 := Lib.hid (HK45.out.trans (HK6.out.mono (G := fun i => i < N0 ∨ i = bO) fun i _ h => .inl h))
                have co0 := BO6.out.cell 0; have co1 := BO6.out.cell 1; have cp0 := BO6.out.frozen 0; have cp1 := BO6.out.frozen 1
                simp only [List.getElem?_toArray, List.getElem?_cons_zero, List.getElem?_cons_succ] at co0 co1
                obtain ⟨mn, hmn⟩ : ∃ n, mostC (fun u => (bestV T u).2) T ws k G = n := ⟨_, rfl⟩
                rw [hmn, HXX.out] at HST
                rw [hmn] at hmb ⊢
                clear hmn HK6 HKP5 HK45 BR5 BO5
                by_cases ha : ask < 0 ∨ x + mn < least
                · rw [if_pos ha] at HST
                  have HN := Lib.hid (two_put (a := .int .i64 k) (c := .int .i64 (x + mn)) BO6.out)
                  have HRN := Lib.hid (Boxs.setOther (o := 1) (Boxs.setOther (o := 0) BR6.out hROne (.int .i64 k)) hROne (.int .i64 (x + mn)))
                  have HIN := Lib.hid (HINV6.out.two HP.out hNO (.int .i64 k) (.int .i64 (x + mn)))
                  have HKN := Lib.hid (HKP6.out.two hNwO (.int .i64 k) (.int .i64 (x + mn)))
                  have HK4N := Lib.hid ((HK46.out.setCell (p := ⟨bO, 0, none⟩) (.inr rfl) (.int .i64 k)).setCell (p := ⟨bO, 1, none⟩) (.inr rfl) (.int .i64 (x + mn)))
                  clear HINV6 HKP6 HK46 BR6 BO6
                  by_cases ha1 : ask < 0
                  · clear ha
                    go_wp2_with fail
                    go_roundw
                    case rel => exact ⟨k + 1, by omega, by go_num, HIN.out, HKN.out, HK4N.out, HRN.out, by rw [HST.out]; exact HN.out⟩
                    case measure => simp [intOf]; omega
                  · have ha2 : x + mn < least := by omega
                    clear ha
                    go_wp2_with fail
                    go_roundw
                    case rel => exact ⟨k + 1, by omega, by go_num, HIN.out, HKN.out, HK4N.out, HRN.out, by rw [HST.out]; exact HN.out⟩
                    case measure => simp [intOf]; omega
                · rw [if_neg ha] at HST
                  have ha1 : ¬ ask < 0 := fun h => ha (.inl h)
                  have ha2 : ¬ x + mn < least := fun h => ha (.inr h)
                  clear ha
                  go_wp2_with fail
                  go_roundw
                  case rel => exact ⟨k + 1, by omega, by go_num, HINV6.out, HKP6.out, HK46.out, BR6.out, by rw [HST.out]; exact BO6.out⟩
                  case measure => simp [intOf]; omega
        · obtain rfl : k = T.costs.length := by omega
          have hk1 : ¬ (T.costs.length : Int) < (T.costs.length : Int) := by omega
          rw [← HBV.out] at HGS
          obtain ⟨f, hmf, hkn⟩ := HINV.out.mp
          have cm := HINV.out.bm.cell 0
          have co0 := BO.out.cell 0; have co1 := BO.out.cell 1
          simp only [List.getElem?_toArray, List.getElem?_cons_zero, List.getElem?_cons_succ] at cm co0 co1
          obtain ⟨w6, hup, hmf6, hg6⟩ := run_upd hmf (t := 82) Try.underlying82 Try.underlying86 (setW ws : Nat) (.agg #[.int .i64 ask, .int .i64 least])
          have hkn6 := hkn.put hok HS.out
          rw [HGS.out] at hkn6
          have hBr := hmf.not_box HINV.out.bt; have hMr := hmf.not_box HINV.out.bm; have hFr := hmf.not_box HINV.out.bf; have hRr := hmf.not_box BR.out; have hOr := hmf.not_box BO.out
          have hin6 : BInv w1 (.slice aa T.rows.length ca) (.slice ac T.costs.length cc) (.slice ak T.cls.length ck) T B bM bF mB w6 := ⟨HINV.out.bel.grown hg6 HINV.out.bel.size (fun q e => by cases e; exact HP.out.n1), HINV.out.bt.block (hg6.block _ HINV.out.bt.lt (by simpa using hBr)), HINV.out.bm.block (hg6.block _ HINV.out.bm.lt (by simpa using hMr)), HINV.out.bf.block (hg6.block _ HINV.out.bf.lt (by simpa using hFr)), _, hmf6, hkn6⟩
          have hk6 : Keeps (· < N0) w w6 := HKP.out.trans (Keeps.of_grown hg6 fun i e => by cases e; exact HP.out.mp)
          have BR6 := Boxs.block BR.out (hg6.block _ BR.out.lt (by simpa using hRr))
          have BO6 := Boxs.block BO.out (hg6.block _ BO.out.lt (by simpa using hOr))
          have cr0 := BR6.cell 0; have cr1 := BR6.cell 1; have fr0 := BR6.frozen 0; have fr1 := BR6.frozen 1
          have cq0 := BO6.cell 0; have cq1 := BO6.cell 1
          simp only [List.getElem?_toArray, List.getElem?_cons_zero, List.getElem?_cons_succ] at cr0 cr1 cq0 cq1
          have HIN6 := Lib.hid hin6; have HK6 := Lib.hid hk6
          clear hin6 hk6 hmf6 hg6 hkn6 hmf hkn
          go_wp2_with fail
          have HX := two_put (a := .int .i64 ask) (c := .int .i64 least) BR6
          have e0 := HX.cell 0
          have e1 := HX.cell 1
          simp only [List.getElem?_toArray, List.getElem?_cons_zero, List.getElem?_cons_succ] at e0 e1
          refine bodyPost_ret (v := .agg #[.int .i64 ask, .int .i64 least]) ?_ rfl ⟨by rw [HGS.out], HIN6.out.two HP.out hNR _ _, HK6.out.two (Nat.le_of_eq hB) _ _⟩
          simp only [results, Try.results53]
          simp [go_sem, e0, e1]
  · clear IH
    have cr0 := BR2.out.cell 0; have cr1 := BR2.out.cell 1; have fr0 := BR2.out.frozen 0; have fr1 := BR2.out.frozen 1
    simp only [List.getElem?_toArray, List.getElem?_cons_zero, List.getElem?_cons_succ] at cr0 cr1
    go_wp2_with fail
    have HX := two_put (a := .int .i64 (-1)) (c := .int .i64 0) BR2.out
    have e0 := HX.cell 0
    have e1 := HX.cell 1
    simp only [List.getElem?_toArray, List.getElem?_cons_zero, List.getElem?_cons_succ] at e0 e1
    refine bodyPost_ret (v := .agg #[.int .i64 (-1), .int .i64 0]) ?_ rfl ⟨by rw [bestV_single HSG.out], (HINV2.out).two HP.out hNR _ _, (HK2.out).two (Nat.le_of_eq hB) _ _⟩
    simp only [results, Try.results53]
    simp [go_sem, e0, e1]
end Go.Proofs.Ytmkkegigajmhkaa

namespace Go.Proofs.Ytmkkegigajmhkaa
open Go.RowKit Go.Maps

def hasTw (T : Tb) : Bool := (List.range T.rows.length).any fun a => (List.range T.rows.length).any fun b => decide (a < b) && twB T a b
theorem hasTw_hit {T : Tb} {a b : Nat} (h : TwHit T a b) : hasTw T = true := by
  unfold hasTw
  have h1 := h.ab
  have h2 := h.bn
  rw [List.any_eq_true]
  refine ⟨a, List.mem_range.2 (by omega), ?_⟩
  rw [List.any_eq_true]
  exact ⟨b, List.mem_range.2 h2, by rw [h.hit]; simpa using h1⟩
theorem hasTw_none {T : Tb} (h : ∀ a b, a < b → b < T.rows.length → twB T a b = false) : hasTw T = false := by
  unfold hasTw
  rw [List.any_eq_false]
  intro a ha
  rw [Bool.not_eq_true, List.any_eq_false]
  intro b hb
  by_cases hab : a < b
  · rw [h a b hab (List.mem_range.1 hb)]; simp
  · simp [hab]
theorem noTw_of {T : Tb} (h : hasTw T = false) : NoTw T := by
  have key : ∀ a b, a < b → b < T.rows.length → twB T a b = false := by
    intro a b hab hb
    unfold hasTw at h
    rw [List.any_eq_false] at h
    have h1 := h a (List.mem_range.2 (by omega))
    rw [Bool.not_eq_true, List.any_eq_false] at h1
    have h2 := h1 b (List.mem_range.2 hb)
    simpa [hab] using h2
  intro i j hi hj hne hrow
  rcases Nat.lt_trichotomy i j with h1 | h1 | h1
  · have := key i j h1 hj
    unfold twB at this
    rw [hrow] at this
    simp at this
    exact hne this
  · subst h1; exact hne rfl
  · have := key j i h1 hi
    unfold twB at this
    rw [hrow] at this
    simp at this
    exact hne this.symm
theorem TwRes.is {T : Tb} {x y : Int} {b : Bool} (h : TwRes T x y b) (hv : validE T = 0) : b = hasTw T := by
  cases h with
  | bad h => exact absurd hv h
  | none h hn => exact (hasTw_none hn).symm
  | hit h a b hh => exact (hasTw_hit hh).symm
/-- the error of a table that has to be solved -/
def exE (T : Tb) : Int := if validE T ≠ 0 then validE T else if hasTw T = true then 14 else 0
theorem exE_ok {T : Tb} (h : exE T = 0) : OkT T ∧ NoTw T := by
  unfold exE at h
  by_cases hv : validE T = 0
  · rw [if_neg (by simp [hv])] at h
    by_cases ht : hasTw T = true
    · rw [if_pos ht] at h; cases h
    · exact ⟨(okT_iff T).1 hv, noTw_of (by simpa using ht)⟩
  · rw [if_pos hv] at h; exact absurd h hv
set_option maxRecDepth 100000 in
set_option maxHeartbeats 4000000 in
theorem examine_any (va vc vk : Value) (T : Tb) (w : World) (h : TbR w va vc vk T) :
    Calls Try.prog 52 #[.agg #[va, vc, vk]] w fun e w' => e = .returned (.int .i64 (exE T)) ∧ Below w.heap.size w w' := by
  obtain ⟨aa, ca, rfl⟩ := h.rows.form
  obtain ⟨ac, cc, rfl⟩ := h.costs.form
  obtain ⟨ak, ck, rfl⟩ := h.cls.form
  have HB := Lib.hid (alloc_below w (.cells #[.slice aa T.rows.length ca, .slice ac T.costs.length cc, .slice ak T.cls.length ck] 33))
  have HBT := Lib.hid (BoxT.new h 33)
  obtain ⟨B, hB⟩ : ∃ B, w.heap.size = B := ⟨_, rfl⟩
  have hsz : w.heap.size ≤ (w.alloc (.cells #[.slice aa T.rows.length ca, .slice ac T.costs.length cc, .slice ak T.cls.length ck] 33)).heap.size := HB.out.size
  rw [hB] at HBT
  clear h
  have V := valid_any _ _ _ T _ HBT.out.tb
  have c0 := HBT.out.c0; have c1 := HBT.out.c1; have c2 := HBT.out.c2
  obtain ⟨x, hx⟩ : ∃ x, validE T = x := ⟨_, rfl⟩
  rw [hx] at V
  go_enter Try.func52, Try.ntmps52
  go_wp2_with fail
  generalize w.alloc (.cells #[.slice aa T.rows.length ca, .slice ac T.costs.length cc, .slice ak T.cls.length ck] 33) = wb at *
  refine V.mono ?_
  rintro e w2 ⟨rfl, hb2⟩
  have HBT2 := Lib.hid (HBT.out.below hb2)
  have HB2 := Lib.hid (HB.out.trans (hb2.mono hsz))
  have hs2 := hb2.size
  clear V c0 c1 c2 hb2 HB HBT
  by_cases hv : x = 0
  · subst hv
    have TW := twins_any _ _ _ T _ HBT2.out.tb
    have c0 := HBT2.out.c0; have c1 := HBT2.out.c1; have c2 := HBT2.out.c2
    have HX := Lib.hid hx
    clear hx
    go_wp2_with fail
    refine TW.mono ?_
    rintro e w3 ⟨⟨x, y, is, rfl, hres⟩, hb3⟩
    have his := hres.is HX.out
    have hex : exE T = if is = true then 14 else 0 := by unfold exE; rw [if_neg (by simp [HX.out]), his]
    have HE := Lib.hid hex
    have HB3 := Lib.hid (HB2.out.trans (hb3.mono (Nat.le_trans hsz hs2)))
    have hwz : w.heap.size ≤ w3.heap.size := HB3.out.size
    have hwz : B ≤ w3.heap.size := by omega
    clear hres his hex TW c0 c1 c2 hb3 HB2 HBT2
    cases is
    · go_wp2_with fail
      go_ret
      exact ⟨ret_int (by rw [HE.out]; rfl), HB3.out.trans ((alloc_below w3 (.cells #[.int .i64 x, .int .i64 y] 30)).mono (by omega))⟩
    · go_wp2_with fail
      go_ret
      exact ⟨ret_int (by rw [HE.out]; rfl), HB3.out.trans ((alloc_below w3 (.cells #[.int .i64 x, .int .i64 y] 30)).mono (by omega))⟩
  · have hv' : (x != 0) = true := by simpa using hv
    have hex : exE T = x := by unfold exE; rw [if_pos (by rw [hx]; exact hv), hx]
    have HE := Lib.hid hex
    clear hex hx hv
    go_wp2_with fail
    go_ret
    exact ⟨ret_int HE.out.symm, HB2.out⟩
set_option maxHeartbeats 4000000 in
theorem g59_any (w1 : World) (va vc vk : Value) (T : Tb) (ho : OkT T) (h10 : T.rows.length ≤ 10) (hT : TbR w1 va vc vk T) (N0 B bM bF mB : Nat) (hp : BPos w1.heap.size N0 B bM bF mB)
    (ws : List Nat) (v : Value) (w : World) (h64 : ws.length ≤ 64) (hok : WsOk T ws) (hs : ws.Pairwise (· < ·)) (hinv : BInv w1 va vc vk T B bM bF mB w) (hN0 : N0 ≤ w.heap.size) (hr : RdIn (N0 ≤ ·) w v (ints (nI ws))) :
    Calls Try.prog 59 #[v, .pointer (some ⟨bF, 0, none⟩)] w fun e w' => e = .returned (.int .i64 (bestV T ws).1) ∧ BInv w1 va vc vk T B bM bF mB w' ∧ Keeps (· < N0) w w' := by
  have BC := best_any w1 va vc vk T ho h10 hT N0 B bM bF mB hp (ws.length + 1) ws v w (by omega) h64 hok hs hinv hN0 hr
  unfold BestOut at BC
  have cf := hinv.bf.cell 0
  simp only [List.getElem?_toArray, List.getElem?_cons_zero] at cf
  obtain ⟨⟨p1, p2⟩, hpe⟩ : ∃ s, bestV T ws = s := ⟨_, rfl⟩
  rw [hpe] at BC ⊢
  clear hpe hinv hr hT hp
  go_enter Try.func59, Try.ntmps59
  go_wp2_with fail
  refine BC.mono ?_
  rintro e w2 ⟨rfl, h1, h2⟩
  have H1 := Lib.hid h1; have H2 := Lib.hid h2
  clear h1 h2 BC cf
  go_wp2_with fail
  go_ret
  exact ⟨rfl, H1.out, H2.out⟩
end Go.Proofs.Ytmkkegigajmhkaa

namespace Go.Proofs.Ytmkkegigajmhkaa
open Go.RowKit Go.Maps

@[go_sem] theorem run_store_func' {P : Program} {w : World} {a : Addr} {m : Mode} (f : Fn) (ts : Array Value) (cs : Array Value) : (store a (.func f ts cs) m).run P w = stored P w a (.func f ts cs) m := run_store P w a _ m rfl
theorem results_tmp3 {fn : Func} {t u v : Tmp} (h : fn.results = #[.tmp t, .tmp u, .tmp v]) (tmps : Array Value) (P : Program) (w : World) :
    (results fn tmps).run P w = .ok (.tuple #[tmps.getD t undef, tmps.getD u undef, tmps.getD v undef]) w := by simp [results, h]
def SolveOut (τ : TypeId) (n0 : Nat) (t : Tr) (c x : Int) (e : Ending) (w' : World) : Prop := ∃ p, e = .returned (.tuple #[p, .int .i64 c, .int .i64 x]) ∧ TreeIn τ (n0 ≤ ·) w' p t
def bestErr (T : Tb) : Int := if exE T ≠ 0 then exE T else if 10 < T.rows.length then 4 else 0
def bestTr (T : Tb) : Tr := if bestErr T = 0 then treeF (fun ws => (bestV T ws).1) T T.rows.length (allW T) else .nil
def bestC (T : Tb) : Int := if bestErr T = 0 then (bestV T (allW T)).2 else 0
set_option maxRecDepth 100000 in
set_option maxHeartbeats 8000000 in
theorem bestP_any (va vc vk : Value) (T : Tb) (w : World) (h : TbR w va vc vk T) :
    Calls Try.prog 23 #[.agg #[va, vc, vk]] w fun e w' => SolveOut 108 w.heap.size (bestTr T) (bestC T) (bestErr T) e w' ∧ Below w.heap.size w w' := by
  obtain ⟨aa, ca, rfl⟩ := h.rows.form
  obtain ⟨ac, cc, rfl⟩ := h.costs.form
  obtain ⟨ak, ck, rfl⟩ := h.cls.form
  have HB := Lib.hid (alloc_below w (.cells #[.slice aa T.rows.length ca, .slice ac T.costs.length cc, .slice ak T.cls.length ck] 33))
  have HBT := Lib.hid (Boxs.new w 33 #[.slice aa T.rows.length ca, .slice ac T.costs.length cc, .slice ak T.cls.length ck])
  have HT := Lib.hid h
  obtain ⟨B, hB⟩ : ∃ B, w.heap.size = B := ⟨_, rfl⟩
  have hsz : w.heap.size < (w.alloc (.cells #[.slice aa T.rows.length ca, .slice ac T.costs.length cc, .slice ak T.cls.length ck] 33)).heap.size := by simp
  rw [hB] at HBT hsz
  clear h
  have EX := examine_any _ _ _ T _ (HT.out.below HB.out)
  have c0 := HBT.out.cell 0; have c1 := HBT.out.cell 1; have c2 := HBT.out.cell 2
  simp only [List.getElem?_toArray, List.getElem?_cons_zero, List.getElem?_cons_succ] at c0 c1 c2
  obtain ⟨x, hx⟩ : ∃ x, exE T = x := ⟨_, rfl⟩
  rw [hx] at EX
  go_enter Try.func23, Try.ntmps23
  go_wp2_with fail
  generalize w.alloc (.cells #[.slice aa T.rows.length ca, .slice ac T.costs.length cc, .slice ak T.cls.length ck] 33) = wb at *
  refine EX.mono ?_
  rintro e w2 ⟨rfl, hb2⟩
  have HBT2 := Lib.hid (Boxs.below HBT.out hb2)
  have HB2 := Lib.hid (HB.out.trans (hb2.mono (by omega)))
  have hs2 := hb2.size
  clear EX c0 c1 c2 hb2 HB HBT
  by_cases hv : x = 0
  · subst hv
    obtain ⟨ho, hnt⟩ := exE_ok hx
    have HO := Lib.hid ho; have HN := Lib.hid hnt
    have c0 := HBT2.out.cell 0
    have hltB := HBT2.out.lt
    simp only [List.getElem?_toArray, List.getElem?_cons_zero] at c0
    by_cases h10 : 10 < T.rows.length
    · have he : bestErr T = 4 := by unfold bestErr; rw [if_neg (by simp [hx]), if_pos h10]
      have ht : bestTr T = .nil := by unfold bestTr; rw [he]; rfl
      have hc : bestC T = 0 := by unfold bestC; rw [he]; rfl
      have hg : (10 : Int) < (T.rows.length : Int) := by omega
      have HE := Lib.hid he; have HT := Lib.hid ht; have HC := Lib.hid hc
      clear he ht hc hx ho hnt h10
      go_wp2_with fail
      (try simp only [Exit.inBlock, Exit.then]); refine bodyPost_ret (results_tmp3 rfl _ _ _) rfl ?_
      exact ⟨⟨_, by rw [HE.out, HC.out]; rfl, by rw [HT.out]; exact .nil⟩, HB2.out⟩
    · have he : bestErr T = 0 := by unfold bestErr; rw [if_neg (by simp [hx]), if_neg h10]
      have ht : bestTr T = treeF (fun ws => (bestV T ws).1) T T.rows.length (allW T) := by unfold bestTr; rw [if_pos he]
      have hc : bestC T = (bestV T (allW T)).2 := by unfold bestC; rw [if_pos he]
      have hg : ¬ (10 : Int) < (T.rows.length : Int) := by omega
      have HE := Lib.hid he; have HTR := Lib.hid ht; have HC := Lib.hid hc
      clear he ht hc hx ho hnt
      have hh10 : T.rows.length ≤ 10 := by omega
      have hmm := fun (W : World) => Go.RowKit.run_makeMap (P := Try.prog) 82 W
      clear h10
      obtain ⟨mB, hmB⟩ : ∃ b, w2.heap.size = b := ⟨_, rfl⟩
      obtain ⟨bM, hbM⟩ : ∃ b, mB + 1 = b := ⟨_, rfl⟩
      obtain ⟨bF, hbF⟩ : ∃ b, bM + 1 = b := ⟨_, rfl⟩
      have h1 := alloc_below w2 (.map #[] 0)
      have h2 := alloc_below (w2.alloc (.map #[] 0)) (.cells #[.map (some mB)] 82)
      have h3 := alloc_below ((w2.alloc (.map #[] 0)).alloc (.cells #[.map (some mB)] 82)) (.cells #[.func (.func 53) #[] #[.pointer (some ⟨B, 0, none⟩), .pointer (some ⟨bM, 0, none⟩), .pointer (some ⟨bF, 0, none⟩)]] 83)
      have e1 : (w2.alloc (.map #[] 0)).heap.size = bM := by rw [World.size_alloc]; omega
      have e2 : ((w2.alloc (.map #[] 0)).alloc (.cells #[.map (some mB)] 82)).heap.size = bF := by rw [World.size_alloc]; omega
      have e3 : (((w2.alloc (.map #[] 0)).alloc (.cells #[.map (some mB)] 82)).alloc (.cells #[.func (.func 53) #[] #[.pointer (some ⟨B, 0, none⟩), .pointer (some ⟨bM, 0, none⟩), .pointer (some ⟨bF, 0, none⟩)]] 83)).heap.size = bF + 1 := by rw [World.size_alloc, e2]
      have m0 := MapF.new w2 .u64
      rw [hmB] at m0
      have x1 := Boxs.new (w2.alloc (.map #[] 0)) 82 #[.map (some mB)]
      rw [e1] at x1
      have x2 := Boxs.new ((w2.alloc (.map #[] 0)).alloc (.cells #[.map (some mB)] 82)) 83 #[.func (.func 53) #[] #[.pointer (some ⟨B, 0, none⟩), .pointer (some ⟨bM, 0, none⟩), .pointer (some ⟨bF, 0, none⟩)]]
      rw [e2] at x2
      have h12 := h1.trans (h2.mono h1.size)
      have h123 := h12.trans (h3.mono h12.size)
      obtain ⟨N0, hN0⟩ : ∃ n, bF + 1 = n := ⟨_, rfl⟩
      have hwB : w.heap.size ≤ w2.heap.size := HB2.out.size
      have HP := Lib.hid (show BPos w.heap.size N0 B bM bF mB from ⟨by omega, by omega, by omega, by omega, by omega, by omega⟩)
      have HI5 := Lib.hid (show BInv w (.slice aa T.rows.length ca) (.slice ac T.costs.length cc) (.slice ak T.cls.length ck) T B bM bF mB (((w2.alloc (.map #[] 0)).alloc (.cells #[.map (some mB)] 82)).alloc (.cells #[.func (.func 53) #[] #[.pointer (some ⟨B, 0, none⟩), .pointer (some ⟨bM, 0, none⟩), .pointer (some ⟨bF, 0, none⟩)]] 83)) from
        ⟨HB2.out.trans (h123.mono hwB), Boxs.below HBT2.out h123, Boxs.below x1 h3, x2, _, (m0.below h2).below h3, fun s v hv => by cases hv⟩)
      rw [hN0] at e3
      clear h1 h2 h3 h12 h123 x1 x2 m0 e1 e2
      go_wp2_with fail
      generalize ((w2.alloc (.map #[] 0)).alloc (.cells #[.map (some mB)] 82)).alloc (.cells #[.func (.func 53) #[] #[.pointer (some ⟨B, 0, none⟩), .pointer (some ⟨bM, 0, none⟩), .pointer (some ⟨bF, 0, none⟩)]] 83) = w5 at *
      clear hmB hbM hbF hN0 HB2 HBT2 hwB c0 hltB hmm hsz hs2
      have hlen := allW_len T
      have AL := fun (W : World) (hb : Below w.heap.size w W) => all_any _ _ _ T W (HT.out.below hb) (by omega)
      have BC := fun (v : Value) (W : World) => best_any w _ _ _ T HO.out hh10 HT.out N0 B bM bF mB HP.out ((allW T).length + 1) (allW T) v W (by omega) (by omega) (allW_ok T) (allW_sorted T)
      have TC := fun (v : Value) (W : World) (hi : BInv w (.slice aa T.rows.length ca) (.slice ac T.costs.length cc) (.slice ak T.cls.length ck) T B bM bF mB W) => tree59_any w _ _ _ T HO.out HT.out N0 (BInv w (.slice aa T.rows.length ca) (.slice ac T.costs.length cc) (.slice ak T.cls.length ck) T B bM bF mB) (fun W h => h.bel) (fun W W' h hb => h.under HP.out hb) (.pointer (some ⟨bF, 0, none⟩)) (fun ws => (bestV T ws).1) (best_choose HO.out HN.out)
        (fun ws v W h1 h2 h3 _ h5 h6 h7 => g59_any w _ _ _ T HO.out hh10 HT.out N0 B bM bF mB HP.out ws v W h2 h1 h3 h5 h6 h7) T.rows.length (allW T) v W (by omega) (fun h0 => by rw [h0] at hlen; have := HO.out.r1; simp at hlen; omega) (by omega) (allW_sorted T) (allW_ok T) hi
      unfold BestOut at BC
      unfold TreeOut at TC
      obtain ⟨⟨p1, cost⟩, hpe⟩ : ∃ s, bestV T (allW T) = s := ⟨_, rfl⟩
      rw [hpe] at HC
      rw [hpe] at BC
      clear hpe
      refine wp_region_E (fun W => W.cell? ⟨B, 0, none⟩ = some (.slice aa T.rows.length ca) ∧ W.cell? ⟨B, 1, none⟩ = some (.slice ac T.costs.length cc) ∧ W.cell? ⟨B, 2, none⟩ = some (.slice ak T.cls.length ck) ∧ W.cell? ⟨bF, 0, none⟩ = some (.func (.func 53) #[] #[.pointer (some ⟨B, 0, none⟩), .pointer (some ⟨bM, 0, none⟩), .pointer (some ⟨bF, 0, none⟩)])) (by kernel_rfl) ?_
      have hdr : (w5).drew = { w5 with drawn := (w5).drawn + 1 } := rfl
      rw [← hdr]
      clear hdr
      change wpAnyE _ _ _ _ _ _ _ _ (w5.drewN 1)
      refine tk 0 20 rfl rfl (.func (.func 53) #[] #[.pointer (some ⟨B, 0, none⟩), .pointer (some ⟨bM, 0, none⟩), .pointer (some ⟨bF, 0, none⟩)]) (fun W hW => by obtain ⟨c0, c1, c2, cf⟩ := hW; go_simp) ⟨HI5.out.bt.cell 0, HI5.out.bt.cell 1, HI5.out.bt.cell 2, HI5.out.bf.cell 0⟩ ?_
      try simp only [pa, pl]
      refine tk 1 21 rfl rfl (.agg #[.slice aa T.rows.length ca, .slice ac T.costs.length cc, .slice ak T.cls.length ck]) (fun W hW => by obtain ⟨c0, c1, c2, cf⟩ := hW; go_simp) ⟨HI5.out.bt.cell 0, HI5.out.bt.cell 1, HI5.out.bt.cell 2, HI5.out.bf.cell 0⟩ ?_
      try simp only [pa, pl]
      refine wpAnyEOne 2 (by kernel_rfl) ?_
      refine wpOpCall (some 22) 57 #[.agg #[.slice aa T.rows.length ca, .slice ac T.costs.length cc, .slice ak T.cls.length ck]] rfl rfl rfl (by go_simp) (AL (w5.drewN 1) (Below.dn HI5.out.bel 1)) ?_
      rintro e w6 ⟨⟨vl, rfl, hown⟩, hb9⟩
      obtain ⟨al, cl, rfl⟩ := owns_form hown
      have hb56 := (Below.dn (Below.refl w5.heap.size w5) 1).trans hb9
      have hi6 := HI5.out.under HP.out (hb56.mono (by omega))
      have hrl := RdIn_owns hown
      clear hb9
      refine ⟨_, rfl, ?_⟩
      refine ⟨.inl (⟨hi6.bt.cell 0, hi6.bt.cell 1, hi6.bt.cell 2, hi6.bf.cell 0⟩), ?_⟩
      try simp only [pa, pl]
      refine wpAnyEOne 3 (by kernel_rfl) ?_
      refine wpOpCall (some 23) 53 #[.slice al (nI (allW T)).length cl, .pointer (some ⟨B, 0, none⟩), .pointer (some ⟨bM, 0, none⟩), .pointer (some ⟨bF, 0, none⟩)] rfl rfl rfl (by go_simp) (BC _ _ hi6 (by have := hb56.size; omega) (hrl.mono (G := (N0 ≤ ·)) fun i _ hi => by have hi2 : w5.heap.size ≤ i := hi; show N0 ≤ i; omega)) ?_
      rintro e w7 ⟨rfl, hi7, hk7⟩
      have hb67 := hk7
      refine ⟨_, rfl, ?_⟩
      refine ⟨.inl (⟨hi7.bt.cell 0, hi7.bt.cell 1, hi7.bt.cell 2, hi7.bf.cell 0⟩), ?_⟩
      try simp only [pa, pl]
      refine tg 4 24 rfl rfl (.int .i64 cost) ⟨hi7.bt.cell 0, hi7.bt.cell 1, hi7.bt.cell 2, hi7.bf.cell 0⟩ ?_
      try simp only [pa, pl]
      refine wpAnyEOne 5 (by kernel_rfl) ?_
      refine wpOpRun' (v := .int .i64 cost) (w' := w7) (some 8) rfl rfl rfl (by rfl) ?_
      refine ⟨.inr (allUp_of (by kernel_rfl)), ?_⟩
      try simp only [pa, pl]
      refine wpAnyE_done (by kernel_rfl) ?_ _
      have HI7 := Lib.hid hi7
      have hs7 : N0 ≤ w7.heap.size := by have h6 := hb56.size; have h7 := hk7.size; omega
      have HB7 := Lib.hid hi7.bel
      clear BC hi6 hrl hown hb67 hk7 hi7 HI5 hb56
      go_wp2_with fail
      refine wp_region_E (fun W => W.cell? ⟨B, 0, none⟩ = some (.slice aa T.rows.length ca) ∧ W.cell? ⟨B, 1, none⟩ = some (.slice ac T.costs.length cc) ∧ W.cell? ⟨B, 2, none⟩ = some (.slice ak T.cls.length ck) ∧ W.cell? ⟨bF, 0, none⟩ = some (.func (.func 53) #[] #[.pointer (some ⟨B, 0, none⟩), .pointer (some ⟨bM, 0, none⟩), .pointer (some ⟨bF, 0, none⟩)])) (by kernel_rfl) ?_
      have hdr : (w7).drew = { w7 with drawn := (w7).drawn + 1 } := rfl
      rw [← hdr]
      clear hdr
      change wpAnyE _ _ _ _ _ _ _ _ (w7.drewN 1)
      refine tk 0 25 rfl rfl (.agg #[.slice aa T.rows.length ca, .slice ac T.costs.length cc, .slice ak T.cls.length ck]) (fun W hW => by obtain ⟨c0, c1, c2, cf⟩ := hW; go_simp) ⟨HI7.out.bt.cell 0, HI7.out.bt.cell 1, HI7.out.bt.cell 2, HI7.out.bf.cell 0⟩ ?_
      try simp only [pa, pl]
      refine tk 1 26 rfl rfl (.agg #[.slice aa T.rows.length ca, .slice ac T.costs.length cc, .slice ak T.cls.length ck]) (fun W hW => by obtain ⟨c0, c1, c2, cf⟩ := hW; go_simp) ⟨HI7.out.bt.cell 0, HI7.out.bt.cell 1, HI7.out.bt.cell 2, HI7.out.bf.cell 0⟩ ?_
      try simp only [pa, pl]
      refine tg 3 28 rfl rfl (.func (.func 59) #[] #[.pointer (some ⟨bF, 0, none⟩)]) ⟨HI7.out.bt.cell 0, HI7.out.bt.cell 1, HI7.out.bt.cell 2, HI7.out.bf.cell 0⟩ ?_
      try simp only [pa, pl]
      refine tm 5 30 rfl rfl (.int .i64 cost) ⟨HI7.out.bt.cell 0, HI7.out.bt.cell 1, HI7.out.bt.cell 2, HI7.out.bf.cell 0⟩ ?_
      try simp only [pa, pl]
      refine wpAnyEOne 2 (by kernel_rfl) ?_
      refine wpOpCall (some 27) 57 #[.agg #[.slice aa T.rows.length ca, .slice ac T.costs.length cc, .slice ak T.cls.length ck]] rfl rfl rfl (by go_simp) (AL (w7.drewN 1) (Below.dn HI7.out.bel 1)) ?_
      rintro e w8 ⟨⟨vl, rfl, hown⟩, hb9⟩
      obtain ⟨al2, cl2, rfl⟩ := owns_form hown
      have hb78 := (Below.dn (Below.refl w7.heap.size w7) 1).trans hb9
      have hi8 := HI7.out.under HP.out (hb78.mono (by omega))
      have hrl := RdIn_owns hown
      clear hb9
      refine ⟨_, rfl, ?_⟩
      refine ⟨.inl (⟨hi8.bt.cell 0, hi8.bt.cell 1, hi8.bt.cell 2, hi8.bf.cell 0⟩), ?_⟩
      try simp only [pa, pl]
      refine wpAnyEOne 4 (by kernel_rfl) ?_
      refine wpOpCall (some 29) 58 #[.agg #[.slice aa T.rows.length ca, .slice ac T.costs.length cc, .slice ak T.cls.length ck], .slice al2 (nI (allW T)).length cl2, .func (.func 59) #[] #[.pointer (some ⟨bF, 0, none⟩)]] rfl rfl rfl (by go_simp) (TC _ _ hi8 (by have := hb78.size; omega) (hrl.mono (G := (N0 ≤ ·)) fun i _ hi => by have hi2 : w7.heap.size ≤ i := hi; show N0 ≤ i; omega)) ?_
      rintro e w9 ⟨tp, rfl, ht9, hi9, hk9⟩
      obtain ⟨ptp, rfl⟩ := ht9.form
      have hs8 := hb78.size
      refine ⟨_, rfl, ?_⟩
      refine ⟨.inl (⟨hi9.bt.cell 0, hi9.bt.cell 1, hi9.bt.cell 2, hi9.bf.cell 0⟩), ?_⟩
      try simp only [pa, pl]
      refine wpAnyEOne 6 (by kernel_rfl) ?_
      refine wpOpRun' (v := .pointer ptp) (w' := w9) (some 2) rfl rfl rfl (by rfl) ?_
      refine ⟨.inl (⟨hi9.bt.cell 0, hi9.bt.cell 1, hi9.bt.cell 2, hi9.bf.cell 0⟩), ?_⟩
      try simp only [pa, pl]
      refine wpAnyEOne 7 (by kernel_rfl) ?_
      refine wpOpRun' (v := .int .i64 cost) (w' := w9) (some 3) rfl rfl rfl (by rfl) ?_
      refine ⟨.inl (⟨hi9.bt.cell 0, hi9.bt.cell 1, hi9.bt.cell 2, hi9.bf.cell 0⟩), ?_⟩
      try simp only [pa, pl]
      refine wpAnyEOne 8 (by kernel_rfl) ?_
      refine wpOpRun' (v := .int .i64 0) (w' := w9) (some 4) rfl rfl rfl (by rfl) ?_
      refine ⟨.inr (allUp_of (by kernel_rfl)), ?_⟩
      try simp only [pa, pl]
      refine wpAnyE_done (by kernel_rfl) ?_ _
      have hs7' : w.heap.size ≤ (w7.drewN 1).heap.size := HB7.out.size
      have HT9 := Lib.hid (ht9.le (show w.heap.size ≤ w8.heap.size by have := hb78.size; have := HB7.out.size; omega))
      have HB9 := Lib.hid hi9.bel
      clear TC AL hi8 hrl hown ht9 hi9 hk9 hb78 HI7
      go_wp2_with fail
      (try simp only [Exit.inBlock, Exit.then]); refine bodyPost_ret (results_tmp3 rfl _ _ _) rfl ?_
      exact ⟨⟨_, by rw [HE.out, HC.out]; rfl, by rw [HTR.out]; exact HT9.out⟩, HB9.out⟩
  · have hv' : (x != 0) = true := by simpa using hv
    have he : bestErr T = x := by unfold bestErr; rw [if_pos (by rw [hx]; exact hv), hx]
    have ht : bestTr T = .nil := by unfold bestTr; rw [he, if_neg hv]
    have hc : bestC T = 0 := by unfold bestC; rw [he, if_neg hv]
    have HE := Lib.hid he; have HT := Lib.hid ht; have HC := Lib.hid hc
    clear he ht hc hx hv
    go_wp2_with fail
    (try simp only [Exit.inBlock, Exit.then]); refine bodyPost_ret (results_tmp3 rfl _ _ _) rfl ?_
    exact ⟨⟨_, by rw [HE.out, HC.out]; rfl, by rw [HT.out]; exact .nil⟩, HB2.out⟩
end Go.Proofs.Ytmkkegigajmhkaa

namespace Go.Proofs.Ytmkkegigajmhkaa
open Go.RowKit Go.Maps

def incB : List Int → Bool
  | [] => true
  | [_] => true
  | x :: y :: r => decide (x < y) && incB (y :: r)
mutual
/-- a tree is right -/
def isT : Tr → Bool
  | .nil => false
  | .node a c ans kids =>
    if a = -1 then decide (0 ≤ c) && decide (c ≤ 63) && decide (ans.length = 0) && decide (kids.length = 0)
    else decide (0 ≤ a) && decide (a < 64) && decide (c = 0) && decide (ans.length ≠ 0) && decide (kids.length = ans.length) && incB ans && isTs kids
def isTs : List Tr → Bool
  | [] => true
  | t :: r => isT t && isTs r
end
theorem isTs_all : ∀ l : List Tr, isTs l = l.all isT
  | [] => rfl
  | t :: r => by unfold isTs; rw [isTs_all r, List.all_cons]
theorem isTs_any (l : List Tr) : isTs l = !(l.any fun t => !isT t) := by
  rw [isTs_all, List.not_any_eq_all_not]; simp
theorem isT_leaf {c : Int} {ans : List Int} {kids : List Tr} : isT (.node (-1) c ans kids) = (decide (0 ≤ c) && decide (c ≤ 63) && decide (ans.length = 0) && decide (kids.length = 0)) := by
  unfold isT; rw [if_pos rfl]
theorem isT_node {a c : Int} {ans : List Int} {kids : List Tr} (h : a ≠ -1) : isT (.node a c ans kids) = (decide (0 ≤ a) && decide (a < 64) && decide (c = 0) && decide (ans.length ≠ 0) && decide (kids.length = ans.length) && incB ans && isTs kids) := by
  rw [isT, if_neg h]
/-- a list that increases as far as some place -/
theorem incB_take : ∀ (l : List Int) (k : Nat), incB (l.take (k + 1)) = true → ∀ {x y : Int}, l[k]? = some x → l[k + 1]? = some y → incB (l.take (k + 2)) = decide (x < y)
  | [], k, _, x, y, hx, _ => by simp at hx
  | [a], k, _, x, y, _, hy => by simp at hy
  | a :: b :: r, 0, _, x, y, hx, hy => by
    simp at hx hy
    subst hx; subst hy
    simp [incB]
  | a :: b :: r, k + 1, h, x, y, hx, hy => by
    simp only [List.take_succ_cons] at h ⊢
    have h2 : incB ((b :: r).take (k + 1)) = true := by
      simp only [List.take_succ_cons]
      unfold incB at h
      exact (Bool.and_eq_true_iff.1 h).2
    have := incB_take (b :: r) k h2 (by simpa using hx) (by simpa using hy)
    simp only [List.take_succ_cons] at this
    unfold incB at h ⊢
    rw [(Bool.and_eq_true_iff.1 h).1, this]; rfl
theorem incB_pre : ∀ (l : List Int) (k : Nat), incB (l.take k) = false → incB l = false
  | [], k, h => by simp at h; exact h
  | [a], 0, h => by cases h
  | [a], k + 1, h => by simp [incB] at h
  | a :: b :: r, 0, h => by cases h
  | a :: b :: r, 1, h => by cases h
  | a :: b :: r, k + 2, h => by
    simp only [List.take_succ_cons] at h
    unfold incB at h ⊢
    rcases Bool.and_eq_false_iff.1 h with h1 | h1
    · rw [h1]; rfl
    · have := incB_pre (b :: r) (k + 1) (by simpa only [List.take_succ_cons] using h1)
      rw [this, Bool.and_false]
set_option maxRecDepth 100000 in
set_option maxHeartbeats 4000000 in
theorem idx83_any (p : Tr → Bool) (v : Value) (us : List Value) (xs : List Tr) (w : World) (h : Rd w v us) (hl : us.length = xs.length)
    (hK : ∀ (k : Nat) (u : Value) (x : Tr) (W : World), us[k]? = some u → xs[k]? = some x → Below w.heap.size w W → Calls Try.prog 83 #[u] W fun e W' => e = .returned (.bool (p x)) ∧ Below W.heap.size W W') :
    Calls Try.prog 87 #[v, .func (.func 83) #[] #[]] w fun e w' => e = .returned (.int .i64 (idxOf p xs)) ∧ Below w.heap.size w w' := by
  obtain ⟨a, c, rfl, l1, l2, f⟩ := h
  rw [hl] at l1 f ⊢
  have F := Lib.hid f; clear f
  have HK := Lib.hid hK; clear hK
  have HL := Lib.hid hl; clear hl
  go_enter Try.func87, Try.ntmps87
  go_wp2_with fail
  go_loopw [8] (fun i wr => ∃ k : Nat, k ≤ xs.length ∧ i = .int .i64 k ∧ (xs.take k).all (fun x => !p x) = true ∧ Below w.heap.size w wr) (fun i _ => xs.length - (intOf i).toNat)
  case atStart => exact ⟨0, Nat.zero_le _, rfl, rfl, Below.refl _ _⟩
  case round =>
    obtain ⟨k, hk, rfl, hnr, hbl⟩ := hrel
    have HNR := Lib.hid hnr; have HBL := Lib.hid hbl
    by_cases hlt : k < xs.length
    · obtain ⟨x, hx⟩ := elem_at hlt
      obtain ⟨u, hu⟩ := elem_at (show k < us.length by rw [HL.out]; exact hlt)
      rcases F.out with h0 | ⟨b1, o1, rfl, hb1, q0⟩
      · omega
      have g0 := (hbl.cell (p := ⟨b1, o1 + k, none⟩) hb1).trans (q0 k u hu)
      have hk1 : (k : Int) < (xs.length : Int) := by omega
      have hk0 : (0 : Int) ≤ (k : Int) := Int.natCast_nonneg _
      have hbz := hbl.size
      have HX := Lib.hid hx
      have BA := HK.out k u x wr hu hx hbl
      obtain ⟨b, hr⟩ : ∃ b, p x = b := ⟨_, rfl⟩
      rw [hr] at BA
      have HR := Lib.hid hr
      clear hnr hbl q0 hx hr hu
      cases b
      · go_wp2_with fail
        refine BA.mono ?_
        rintro e w1 ⟨rfl, hb2⟩
        go_wp2_with fail
        go_roundw
        case rel => exact ⟨k + 1, by omega, by go_num, none_step HNR.out HX.out HR.out, HBL.out.trans (hb2.mono hbz)⟩
        case measure => simp [intOf]; omega
      · go_wp2_with fail
        refine BA.mono ?_
        rintro e w1 ⟨rfl, hb2⟩
        go_wp2_with fail
        go_ret
        exact ⟨ret_int (idxOf_some HX.out HR.out HNR.out).symm, HBL.out.trans (hb2.mono hbz)⟩
    · obtain rfl : k = xs.length := by omega
      have hk1 : ¬ (xs.length : Int) < (xs.length : Int) := by omega
      have HN := Lib.hid hnr
      clear hnr hbl HNR
      go_wp2_with fail
      go_ret
      exact ⟨ret_int (idxOf_none HN.out).symm, HBL.out⟩
set_option maxHeartbeats 1000000 in
theorem con83_any (p : Tr → Bool) (v : Value) (us : List Value) (xs : List Tr) (w : World) (h : Rd w v us) (hl : us.length = xs.length)
    (hK : ∀ (k : Nat) (u : Value) (x : Tr) (W : World), us[k]? = some u → xs[k]? = some x → Below w.heap.size w W → Calls Try.prog 83 #[u] W fun e W' => e = .returned (.bool (p x)) ∧ Below W.heap.size W W') :
    Calls Try.prog 82 #[v, .func (.func 83) #[] #[]] w fun e w' => e = .returned (.bool (xs.any p)) ∧ Below w.heap.size w w' := by
  have I := idx83_any  p v us xs w h hl hK
  have hi := idxOf_any p xs
  obtain ⟨i, he⟩ : ∃ i, idxOf p xs = i := ⟨_, rfl⟩
  rw [he] at I hi
  rw [← hi]
  clear hK he hi h
  go_enter Try.func82, Try.ntmps82
  go_wp2_with fail
  refine I.mono ?_
  rintro e w1 ⟨rfl, hb⟩
  go_wp2_with fail
  go_ret
  exact ⟨rfl, hb⟩
end Go.Proofs.Ytmkkegigajmhkaa

