/- Helper steps for a region that draws its order, taken operation by operation. Tables of rows in memory; what a table is; slices of slices that read as lists of lists. slices.IndexFunc and ContainsFunc of a function whose answers are known. Valid: the program's. Valid: the reference's; own. -/
import Derived.Test.YtmkkegigajmhkaaN01
import Derived.Deep.OwnRows
import Derived.Deep.CutRange
import Derived.OneCell
import Derived.RegionTactic
import Derived.BigRegion
import Derived.OrdersHeld
import Derived.Laws.Cover3
import Derived.Laws.Cells
import Derived.StillTailTactics
set_option linter.unusedVariables false
namespace Go.Proofs.Ytmkkegigajmhkaa
open Go.RowKit Go.Maps

theorem wpOpRun {P : Program} {ops : Array Oper} {Q : Exit → Act → World → Prop} {i : Nat} {o : Oper} {K : Act → World → Prop} {a : Act} {w w' : World} {v : Value} (ho : ops[i]? = some o)
    (hw : Region.wanted o (yielded ops a.tmps) = true) (hr : (execOp a.eval o).run P w = .ok (.value v) w') (h : K (a.put o.dst v) w') : wpOp P ops Q i K a w :=
  wpOp_step ho fun K' hK => by
    rw [if_pos hw]
    unfold Oper.wp
    rw [hr]
    exact hK _ _ h
/-- one operation alone may come up -/
theorem wpAnyHOne {P : Program} {md : Region.Mode} {ops : Array Oper} {Q : Exit → Act → World → Prop} {S : World → Prop} {fuel : Nat} {listed : Array Bool} {a : Act} {w w' : World} (i : Nat) (d : Option Nat) {o : Oper} {v : Value} (hr : Region.ready md ops listed = [i]) (ho : ops[i]? = some o) (hd : o.dst = d)
    (hw : Region.wanted o (yielded ops a.tmps) = true) (hrun : (execOp a.eval o).run P w = .ok (.value v) w') (hS : S w')
    (h : wpAnyH P md ops Q S fuel (listed.setIfInBounds i true) (a.put d v) w') : wpAnyH P md ops Q S (fuel + 1) listed a w :=
  wpAnyH_all hr (by simp) fun j hj => by
    rw [List.mem_singleton.1 hj]
    subst hd
    exact wpOpRun ho hw hrun ⟨hS, h⟩
theorem wpAnyHSkip {P : Program} {md : Region.Mode} {ops : Array Oper} {Q : Exit → Act → World → Prop} {S : World → Prop} {fuel : Nat} {listed : Array Bool} {a : Act} {w w' : World} (i : Nat) (d : Option Nat) {o : Oper} (hr : Region.ready md ops listed = [i]) (ho : ops[i]? = some o) (hd : o.dst = d)
    (hw : Region.wanted o (yielded ops a.tmps) = true) (hrun : (execOp a.eval o).run P w = .ok .skip w') (hS : S w')
    (h : wpAnyH P md ops Q S fuel (listed.setIfInBounds i true) (a.put d undef) w') : wpAnyH P md ops Q S (fuel + 1) listed a w :=
  wpAnyH_all hr (by simp) fun j hj => by
    rw [List.mem_singleton.1 hj]
    subst hd
    exact wpOp_step ho fun K' hK => by
      rw [if_pos hw]
      unfold Oper.wp
      rw [hrun]
      exact hK _ _ ⟨hS, h⟩
/-- an operation that only looks is taken first -/
theorem wpAnyHTake {P : Program} {md : Region.Mode} {ops : Array Oper} {Q : Exit → Act → World → Prop} {S : World → Prop} {fuel : Nat} {listed : Array Bool} {a : Act} {w : World} (i : Nat) (d : Option Nat) {o : Oper} (v : Value) (hi : ops[i]? = some o) (hd : o.dst = d)
    (hs : Region.noSelect ops = true) (hf : Region.free md ops listed i = true) (hr : (Region.ready md ops listed).contains i = true)
    (hQ : ∀ c a w, Q (.panic c) (a.put d v) w → Q (.panic c) a w) (hw : Region.wanted o (yielded ops a.tmps) = true) (hy : ∀ w, S w → (execOp a.eval o).run P w = .ok (.value v) w) (hS : S w)
    (h : wpAnyH P md ops Q S fuel (listed.setIfInBounds i true) (a.put d v) w) : wpAnyH P md ops Q S (fuel + 1) listed a w := by
  subst hd
  exact wpAnyH_take hi hs hf hr hQ (.inl ⟨hw, hy⟩) hS h
theorem wpAnyHPass {P : Program} {md : Region.Mode} {ops : Array Oper} {Q : Exit → Act → World → Prop} {S : World → Prop} {fuel : Nat} {listed : Array Bool} {a : Act} {w : World} (i : Nat) (d : Option Nat) {o : Oper} (hi : ops[i]? = some o) (hd : o.dst = d)
    (hs : Region.noSelect ops = true) (hf : Region.free md ops listed i = true) (hr : (Region.ready md ops listed).contains i = true)
    (hQ : ∀ c a w, Q (.panic c) (a.put d undef) w → Q (.panic c) a w) (hw : Region.wanted o (yielded ops a.tmps) = false) (hS : S w)
    (h : wpAnyH P md ops Q S fuel (listed.setIfInBounds i true) (a.put d undef) w) : wpAnyH P md ops Q S (fuel + 1) listed a w := by
  subst hd
  exact wpAnyH_take hi hs hf hr hQ (.inr ⟨hw, rfl⟩) hS h

/-- a Go function is called, alone -/
theorem wpAnyHCall {P : Program} {md : Region.Mode} {ops : Array Oper} {Q : Exit → Act → World → Prop} {S : World → Prop} {fuel : Nat} {listed : Array Bool} {a : Act} {w : World} {R : Ending → World → Prop} (i : Nat) (d : Option Nat) (f : Nat) (args : Array Value) {o : Oper}
    (hr : Region.ready md ops listed = [i]) (ho : ops[i]? = some o) (hd : o.dst = d) (hw : Region.wanted o (yielded ops a.tmps) = true) (hrun : (execOp a.eval o).run P w = .ok (.enter f args) w) (hc : Calls P f args w R)
    (h : ∀ e w', R e w' → ∃ v, e = .returned v ∧ S w' ∧ wpAnyH P md ops Q S fuel (listed.setIfInBounds i true) (a.put d v) w') : wpAnyH P md ops Q S (fuel + 1) listed a w :=
  wpAnyH_all hr (by simp) fun j hj => by
    rw [List.mem_singleton.1 hj]
    subst hd
    refine wpOp_step ho fun K' hK => ?_
    rw [if_pos hw]
    unfold Oper.wp
    rw [hrun]
    refine Calls.mono hc fun e w' he => ?_
    obtain ⟨v, rfl, hS, hn⟩ := h e w' he
    exact hK _ _ ⟨hS, hn⟩

/-- one operation alone may come up: by a law on it -/
theorem wpAnyHOp {P : Program} {md : Region.Mode} {ops : Array Oper} {Q : Exit → Act → World → Prop} {S : World → Prop} {fuel : Nat} {listed : Array Bool} {a : Act} {w : World} (i : Nat) (d : Option Nat) {o : Oper} (hr : Region.ready md ops listed = [i]) (ho : ops[i]? = some o) (hd : o.dst = d)
    (h : ∀ K' : Act → World → Prop, (∀ v w', S w' → wpAnyH P md ops Q S fuel (listed.setIfInBounds i true) (a.put d v) w' → K' (a.put o.dst v) w') → if Region.wanted o (yielded ops a.tmps) = true then Oper.wp P o a w K' Q else K' (a.put o.dst undef) w) :
    wpAnyH P md ops Q S (fuel + 1) listed a w :=
  wpAnyH_all hr (by simp) fun j hj => by
    rw [List.mem_singleton.1 hj]
    exact wpOp_step ho fun K' hK => h K' fun v w' hS hn => hK _ _ ⟨hS, by rw [hd]; exact hn⟩

theorem Boxs.dn {W : World} {B : Nat} {t : TypeId} {cs : Array Value} (h : Boxs W B t cs) (n : Nat) : Boxs (W.drewN n) B t cs := h
theorem execOp_store {ρ : Operand → Value} {o : Oper} (t : TypeId) (a x : Operand) (ho : o.op = .store t a x) {p v : Value} (ha : ρ a = p) (hx : ρ x = v) {w w' : World} (h : (Instr.storeAt t p v).run Try.prog w = .ok () w') :
    (execOp ρ o).run Try.prog w = .ok .skip w' := by
  simp only [Instr.storeAt, Sem.run_bind] at h
  unfold execOp
  simp only [ho, ha, hx, Instr.storeAt, Sem.run_bind, Sem.run_pure, h, Result.andThen_ok]
/-- two operations may come up -/
theorem wpAnyHBoth {P : Program} {md : Region.Mode} {ops : Array Oper} {Q : Exit → Act → World → Prop} {S : World → Prop} {fuel : Nat} {listed : Array Bool} {a : Act} {w : World} (i j : Nat) (hr : Region.ready md ops listed = [i, j])
    (hi : wpOp P ops Q i (fun a' w' => S w' ∧ wpAnyH P md ops Q S fuel (listed.setIfInBounds i true) a' w') a w)
    (hj : wpOp P ops Q j (fun a' w' => S w' ∧ wpAnyH P md ops Q S fuel (listed.setIfInBounds j true) a' w') a w) : wpAnyH P md ops Q S (fuel + 1) listed a w :=
  wpAnyH_all hr (by simp) fun t ht => by
    rcases List.mem_cons.1 ht with rfl | ht
    · exact hi
    · rw [List.mem_singleton.1 ht]; exact hj
theorem wpOpRun' {P : Program} {ops : Array Oper} {Q : Exit → Act → World → Prop} {i : Nat} {o : Oper} {K : Act → World → Prop} {a : Act} {w w' : World} {v : Value} (d : Option Nat) (ho : ops[i]? = some o) (hd : o.dst = d)
    (hw : Region.wanted o (yielded ops a.tmps) = true) (hr : (execOp a.eval o).run P w = .ok (.value v) w') (h : K (a.put d v) w') : wpOp P ops Q i K a w := by
  subst hd; exact wpOpRun ho hw hr h
theorem wpOpCall {P : Program} {ops : Array Oper} {Q : Exit → Act → World → Prop} {K : Act → World → Prop} {a : Act} {w : World} {R : Ending → World → Prop} {i : Nat} (d : Option Nat) (f : Nat) (args : Array Value) {o : Oper}
    (ho : ops[i]? = some o) (hd : o.dst = d) (hw : Region.wanted o (yielded ops a.tmps) = true) (hrun : (execOp a.eval o).run P w = .ok (.enter f args) w) (hc : Calls P f args w R)
    (h : ∀ e w', R e w' → ∃ v, e = .returned v ∧ K (a.put d v) w') : wpOp P ops Q i K a w := by
  subst hd
  refine wpOp_step ho fun K' hK => ?_
  rw [if_pos hw]
  unfold Oper.wp
  rw [hrun]
  refine Calls.mono hc fun e w' he => ?_
  obtain ⟨v, rfl, hn⟩ := h e w' he
  exact hK _ _ hn
theorem owns_below {w w' : World} {base : Nat} {e : TypeId} {size : Nat} {v : Value} {n : Nat} {xs : List Value} (h : w.ownsRow base e size v n xs) (hb : Below w.heap.size w w') : w'.ownsRow base e size v n xs :=
  h.kept (row := none) ⟨hb.os, hb.tape, hb.output, hb.size, fun i hi _ => hb.block i hi⟩ (by by_cases h : v.ownBlock = none; exact .inl h; exact .inr h)
theorem owns_grown {base : Nat} {W W' : World} {e : TypeId} {s : Nat} {v : Value} {n : Nat} {xs : List Value} {row : Option Nat} (h : W.ownsRow base e s v n xs) (hg : W.grownBy W' row) (hd : ∀ g, v.ownBlock = some g → row ≠ some g) : W'.ownsRow base e s v n xs := by
  obtain ⟨h1, h2⟩ := h
  refine ⟨h1, ?_⟩
  rcases h2 with h2 | ⟨g, cap, cur, rfl, hb, hh, r⟩
  · exact .inl h2
  · refine .inr ⟨g, cap, cur, rfl, hb, ?_, r⟩
    have hlt : g < W.heap.size := (Array.getElem?_eq_some_iff.1 hh).1
    rw [hg.block g hlt (fun e => hd g rfl e.symm)]
    exact hh
theorem own_cell {base : Nat} {W : World} {L : List Int} {n g c k : Nat} {x : Int} (h : W.ownsRow base 3 1 (.slice (some ⟨g, 0, none⟩) n c) n (ints L)) (hx : L[k]? = some x) : W.cell? ⟨g, k, none⟩ = some (.int .i64 x) := by
  have := World.ownsRow.cells h (g := g) rfl k (.int .i64 x) (by unfold ints; rw [List.getElem?_map, hx]; rfl)
  have hadd : (⟨g, 0, none⟩ : Addr).add k = ⟨g, k, none⟩ := by unfold Addr.add; split <;> simp_all
  rw [hadd] at this
  exact this
end Go.Proofs.Ytmkkegigajmhkaa

namespace Go.Proofs.Ytmkkegigajmhkaa
open Go.RowKit Go.Maps

def inI (xs : List Int) : Prop := ∀ x, x ∈ xs → -9223372036854775808 ≤ x ∧ x ≤ 9223372036854775807
/-- a table: rows of answers, costs, classes -/
structure Tb where
  rows : List (List Int)
  costs : List Int
  cls : List Int
/-- it is valid but for the number of its worlds and questions -/
def fineT (T : Tb) : Bool := !T.rows.isEmpty && decide (T.cls.length = T.rows.length) && T.rows.all (fun r => decide (r.length = T.costs.length)) && T.costs.all (fun c => decide (1 ≤ c ∧ c ≤ 1024)) && T.cls.all (fun c => decide (0 ≤ c ∧ c ≤ 63))
def validE (T : Tb) : Int := if 64 < T.rows.length ∨ 64 < T.costs.length then 4 else if fineT T = true then 0 else 1
/-- a valid table -/
structure OkT (T : Tb) : Prop where
  r64 : T.rows.length ≤ 64
  c64 : T.costs.length ≤ 64
  r1 : 1 ≤ T.rows.length
  kl : T.cls.length = T.rows.length
  rl : ∀ r, r ∈ T.rows → r.length = T.costs.length
  cb : ∀ c, c ∈ T.costs → 1 ≤ c ∧ c ≤ 1024
  kb : ∀ c, c ∈ T.cls → 0 ≤ c ∧ c ≤ 63
theorem okT_iff (T : Tb) : validE T = 0 ↔ OkT T := by
  unfold validE fineT
  constructor
  · intro h
    split at h
    · cases h
    · rename_i h1
      split at h
      · rename_i h2
        simp only [Bool.and_eq_true, decide_eq_true_eq, List.all_eq_true, Bool.not_eq_true', List.isEmpty_eq_false_iff] at h2
        obtain ⟨⟨⟨⟨a, b⟩, c⟩, d⟩, e⟩ := h2
        have : 0 < T.rows.length := List.length_pos_iff.2 a
        exact ⟨by omega, by omega, by omega, b, c, d, e⟩
      · cases h
  · intro h
    have hr := h.r64; have hc := h.c64
    rw [if_neg (by omega), if_pos]
    simp only [Bool.and_eq_true, decide_eq_true_eq, List.all_eq_true, Bool.not_eq_true', List.isEmpty_eq_false_iff]
    exact ⟨⟨⟨⟨List.length_pos_iff.1 h.r1, h.kl⟩, h.rl⟩, h.cb⟩, h.kb⟩
theorem validE_cases (T : Tb) : validE T = 0 ∨ validE T = 4 ∨ validE T = 1 := by
  unfold validE; split
  · exact .inr (.inl rfl)
  · split
    · exact .inl rfl
    · exact .inr (.inr rfl)

/-- a slice of slices that reads as a list of lists -/
def RdR (w : World) (v : Value) (rows : List (List Int)) : Prop :=
  ∃ us : List Value, Rd w v us ∧ us.length = rows.length ∧ ∀ (k : Nat) (u : Value) (r : List Int), us[k]? = some u → rows[k]? = some r → RdI w u r
theorem RdR.below {w w' : World} {v : Value} {rows : List (List Int)} (h : RdR w v rows) (hb : Below w.heap.size w w') : RdR w' v rows := by
  obtain ⟨us, h1, h2, h3⟩ := h
  exact ⟨us, h1.below hb, h2, fun k u r hu hr => (h3 k u r hu hr).below hb⟩
theorem RdR.none (w : World) : RdR w (.slice .none 0 0) [] := ⟨[], ⟨.none, 0, rfl, Nat.le_refl _, by omega, .inl rfl⟩, rfl, fun k u r hu => by simp at hu⟩
theorem RdR.open {w : World} {v : Value} {rows : List (List Int)} (h : RdR w v rows) : ∃ a cap, v = .slice a rows.length cap ∧ rows.length ≤ 9223372036854775807 ∧
    (∀ k r, rows[k]? = some r → ∃ b off u, a = some ⟨b, off, .none⟩ ∧ b < w.heap.size ∧ w.cell? ⟨b, off + k, .none⟩ = some u ∧ RdI w u r) := by
  obtain ⟨us, ⟨a, cap, h2, h3, h4, h5⟩, hl, h6⟩ := h
  refine ⟨a, cap, by rw [h2, hl], by omega, fun k r hk => ?_⟩
  have hk' := (List.getElem?_eq_some_iff.1 hk).1
  rcases h5 with h5 | ⟨b, off, h5, h7, h8⟩
  · omega
  · obtain ⟨u, hu⟩ := elem_at (show k < us.length by omega)
    exact ⟨b, off, u, h5, h7, h8 k u hu, h6 k u r hu hk⟩
theorem RdI.form {w : World} {v : Value} {xs : List Int} (h : RdI w v xs) : ∃ a cap, v = .slice a xs.length cap := by
  obtain ⟨a, c, h, _⟩ := h.open; exact ⟨a, c, h⟩
theorem RdR.form {w : World} {v : Value} {xs : List (List Int)} (h : RdR w v xs) : ∃ a cap, v = .slice a xs.length cap := by
  obtain ⟨a, c, h, _⟩ := h.open; exact ⟨a, c, h⟩
/-- three slices that read as a table -/
structure TbR (w : World) (va vc vk : Value) (T : Tb) : Prop where
  rows : RdR w va T.rows
  costs : RdI w vc T.costs
  cls : RdI w vk T.cls
theorem TbR.below {w w' : World} {va vc vk : Value} {T : Tb} (h : TbR w va vc vk T) (hb : Below w.heap.size w w') : TbR w' va vc vk T := ⟨h.rows.below hb, h.costs.below hb, h.cls.below hb⟩
/-- numbers of worlds, questions: all that is in the table fits an int -/
structure InT (T : Tb) : Prop where
  rows : ∀ r, r ∈ T.rows → inI r
  costs : inI T.costs
  cls : inI T.cls

/-! ### the first element for which a function returns true -/
def idxOf {α : Type} (p : α → Bool) (l : List α) : Int := match l.findIdx? p with | some i => i | none => -1
theorem idxOf_none {α : Type} {p : α → Bool} {l : List α} (h : (l.take l.length).all (fun x => !p x) = true) : idxOf p l = -1 := by
  rw [List.take_length] at h
  unfold idxOf
  rw [List.findIdx?_eq_none_iff.2]
  intro x hx
  have := List.all_eq_true.1 h x hx
  simpa using this
theorem idxOf_some {α : Type} {p : α → Bool} {l : List α} {k : Nat} {x : α} (hx : l[k]? = some x) (hp : p x = true) (h : (l.take k).all (fun x => !p x) = true) : idxOf p l = k := by
  unfold idxOf
  have hlt := (List.getElem?_eq_some_iff.1 hx).1
  have : l.findIdx? p = some k := by
    rw [List.findIdx?_eq_some_iff_getElem]
    refine ⟨hlt, ?_, fun j hj => ?_⟩
    · have := (List.getElem?_eq_some_iff.1 hx).2
      rw [this]; exact hp
    · have hm : l[j] ∈ l.take k := by
        rw [List.mem_take_iff_getElem]
        exact ⟨j, by omega, rfl⟩
      have := List.all_eq_true.1 h _ hm
      simpa using this
  rw [this]
theorem none_step {α : Type} {p : α → Bool} {l : List α} {k : Nat} {x : α} (h : (l.take k).all (fun x => !p x) = true) (hx : l[k]? = some x) (hp : p x = false) : (l.take (k + 1)).all (fun x => !p x) = true := by
  rw [take_succ_at hx, List.all_append, h]; simp [hp]
theorem idxOf_any {α : Type} (p : α → Bool) (l : List α) : decide (idxOf p l ≥ 0) = l.any p := by
  unfold idxOf
  cases h : l.findIdx? p with
  | none =>
    rw [List.findIdx?_eq_none_iff] at h
    have : l.any p = false := by rw [List.any_eq_false]; intro x hx; simpa using h x hx
    rw [this]; rfl
  | some i =>
    have : l.any p = true := by
      rw [List.findIdx?_eq_some_iff_getElem] at h
      obtain ⟨hi, hp, _⟩ := h
      rw [List.any_eq_true]; exact ⟨_, List.getElem_mem hi, hp⟩
    rw [this]; simp
theorem idxOf_ge {α : Type} (p : α → Bool) (l : List α) : -1 ≤ idxOf p l := by
  unfold idxOf; split <;> omega
theorem idxOf_lt {α : Type} (p : α → Bool) (l : List α) : idxOf p l < l.length := by
  unfold idxOf
  split
  · rename_i i h
    have := (List.findIdx?_eq_some_iff_getElem.1 h).1
    omega
  · omega
end Go.Proofs.Ytmkkegigajmhkaa

namespace Go.Proofs.Ytmkkegigajmhkaa
open Go.RowKit Go.Maps

set_option maxRecDepth 100000 in
set_option maxHeartbeats 4000000 in
theorem idx47_any (p : Int → Bool) (v : Value) (xs : List (Int)) (w : World) (h : RdI w v xs)
    (hK : ∀ (k : Nat) (x : Int) (W : World), xs[k]? = some x → Below w.heap.size w W → Calls Try.prog 47 #[.int .i64 x] W fun e W' => e = .returned (.bool (p x)) ∧ Below W.heap.size W W') :
    Calls Try.prog 75 #[v, .func (.func 47) #[] #[]] w fun e w' => e = .returned (.int .i64 (idxOf p xs)) ∧ Below w.heap.size w w' := by
  obtain ⟨a, c, rfl, l1, f⟩ := h.open
  clear h
  have F := Lib.hid f; clear f
  have HK := Lib.hid hK; clear hK
  go_enter Try.func75, Try.ntmps75
  go_wp2_with fail
  go_loopw [8] (fun i wr => ∃ k : Nat, k ≤ xs.length ∧ i = .int .i64 k ∧ (xs.take k).all (fun x => !p x) = true ∧ Below w.heap.size w wr) (fun i _ => xs.length - (intOf i).toNat)
  case atStart => exact ⟨0, Nat.zero_le _, rfl, rfl, Below.refl _ _⟩
  case round =>
    obtain ⟨k, hk, rfl, hnr, hbl⟩ := hrel
    have HNR := Lib.hid hnr; have HBL := Lib.hid hbl
    by_cases hlt : k < xs.length
    · obtain ⟨x, hx⟩ := elem_at hlt
      obtain ⟨b1, o1, rfl, hb1, q0⟩ := F.out k _ hx
      have g0 := (hbl.cell (p := ⟨b1, o1 + k, none⟩) hb1).trans q0
      have hk1 : (k : Int) < (xs.length : Int) := by omega
      have hk0 : (0 : Int) ≤ (k : Int) := Int.natCast_nonneg _
      have hbz := hbl.size
      have hbl0 := hbl
      have HX := Lib.hid hx
      have BA := HK.out k x wr hx hbl
      obtain ⟨b, hr⟩ : ∃ b, p x = b := ⟨_, rfl⟩
      rw [hr] at BA
      have HR := Lib.hid hr
      clear hnr hbl hbl0 q0 hx hr
      cases b
      · go_wp2_with fail
        refine BA.mono ?_
        rintro e w1 ⟨rfl, hb2⟩
        go_wp2_with fail
        go_roundw
        case rel => exact ⟨k + 1, by omega, by go_num, none_step HNR.out HX.out HR.out, HBL.out.trans (hb2.mono hbz)⟩
        case measure => simp [intOf]; omega
      · go_wp2_with fail
        refine BA.mono ?_
        rintro e w1 ⟨rfl, hb2⟩
        go_wp2_with fail
        go_ret
        exact ⟨ret_int (idxOf_some HX.out HR.out HNR.out).symm, HBL.out.trans (hb2.mono hbz)⟩
    · obtain rfl : k = xs.length := by omega
      have hk1 : ¬ (xs.length : Int) < (xs.length : Int) := by omega
      have HN := Lib.hid hnr
      clear hnr hbl HNR
      go_wp2_with fail
      go_ret
      exact ⟨ret_int (idxOf_none HN.out).symm, HBL.out⟩

set_option maxHeartbeats 1000000 in
theorem con47_any (p : Int → Bool) (v : Value) (xs : List (Int)) (w : World) (h : RdI w v xs)
    (hK : ∀ (k : Nat) (x : Int) (W : World), xs[k]? = some x → Below w.heap.size w W → Calls Try.prog 47 #[.int .i64 x] W fun e W' => e = .returned (.bool (p x)) ∧ Below W.heap.size W W') :
    Calls Try.prog 46 #[v, .func (.func 47) #[] #[]] w fun e w' => e = .returned (.bool (xs.any p)) ∧ Below w.heap.size w w' := by
  have I := idx47_any  p v xs w h hK
  have hi := idxOf_any p xs
  obtain ⟨i, he⟩ : ∃ i, idxOf p xs = i := ⟨_, rfl⟩
  rw [he] at I hi
  rw [← hi]
  clear hK he hi h
  go_enter Try.func46, Try.ntmps46
  go_wp2_with fail
  refine I.mono ?_
  rintro e w1 ⟨rfl, hb⟩
  go_wp2_with fail
  go_ret
  exact ⟨rfl, hb⟩

set_option maxRecDepth 100000 in
set_option maxHeartbeats 4000000 in
theorem idx48_any (p : Int → Bool) (v : Value) (xs : List (Int)) (w : World) (h : RdI w v xs)
    (hK : ∀ (k : Nat) (x : Int) (W : World), xs[k]? = some x → Below w.heap.size w W → Calls Try.prog 48 #[.int .i64 x] W fun e W' => e = .returned (.bool (p x)) ∧ Below W.heap.size W W') :
    Calls Try.prog 75 #[v, .func (.func 48) #[] #[]] w fun e w' => e = .returned (.int .i64 (idxOf p xs)) ∧ Below w.heap.size w w' := by
  obtain ⟨a, c, rfl, l1, f⟩ := h.open
  clear h
  have F := Lib.hid f; clear f
  have HK := Lib.hid hK; clear hK
  go_enter Try.func75, Try.ntmps75
  go_wp2_with fail
  go_loopw [8] (fun i wr => ∃ k : Nat, k ≤ xs.length ∧ i = .int .i64 k ∧ (xs.take k).all (fun x => !p x) = true ∧ Below w.heap.size w wr) (fun i _ => xs.length - (intOf i).toNat)
  case atStart => exact ⟨0, Nat.zero_le _, rfl, rfl, Below.refl _ _⟩
  case round =>
    obtain ⟨k, hk, rfl, hnr, hbl⟩ := hrel
    have HNR := Lib.hid hnr; have HBL := Lib.hid hbl
    by_cases hlt : k < xs.length
    · obtain ⟨x, hx⟩ := elem_at hlt
      obtain ⟨b1, o1, rfl, hb1, q0⟩ := F.out k _ hx
      have g0 := (hbl.cell (p := ⟨b1, o1 + k, none⟩) hb1).trans q0
      have hk1 : (k : Int) < (xs.length : Int) := by omega
      have hk0 : (0 : Int) ≤ (k : Int) := Int.natCast_nonneg _
      have hbz := hbl.size
      have hbl0 := hbl
      have HX := Lib.hid hx
      have BA := HK.out k x wr hx hbl
      obtain ⟨b, hr⟩ : ∃ b, p x = b := ⟨_, rfl⟩
      rw [hr] at BA
      have HR := Lib.hid hr
      clear hnr hbl hbl0 q0 hx hr
      cases b
      · go_wp2_with fail
        refine BA.mono ?_
        rintro e w1 ⟨rfl, hb2⟩
        go_wp2_with fail
        go_roundw
        case rel => exact ⟨k + 1, by omega, by go_num, none_step HNR.out HX.out HR.out, HBL.out.trans (hb2.mono hbz)⟩
        case measure => simp [intOf]; omega
      · go_wp2_with fail
        refine BA.mono ?_
        rintro e w1 ⟨rfl, hb2⟩
        go_wp2_with fail
        go_ret
        exact ⟨ret_int (idxOf_some HX.out HR.out HNR.out).symm, HBL.out.trans (hb2.mono hbz)⟩
    · obtain rfl : k = xs.length := by omega
      have hk1 : ¬ (xs.length : Int) < (xs.length : Int) := by omega
      have HN := Lib.hid hnr
      clear hnr hbl HNR
      go_wp2_with fail
      go_ret
      exact ⟨ret_int (idxOf_none HN.out).symm, HBL.out⟩

set_option maxHeartbeats 1000000 in
theorem con48_any (p : Int → Bool) (v : Value) (xs : List (Int)) (w : World) (h : RdI w v xs)
    (hK : ∀ (k : Nat) (x : Int) (W : World), xs[k]? = some x → Below w.heap.size w W → Calls Try.prog 48 #[.int .i64 x] W fun e W' => e = .returned (.bool (p x)) ∧ Below W.heap.size W W') :
    Calls Try.prog 46 #[v, .func (.func 48) #[] #[]] w fun e w' => e = .returned (.bool (xs.any p)) ∧ Below w.heap.size w w' := by
  have I := idx48_any  p v xs w h hK
  have hi := idxOf_any p xs
  obtain ⟨i, he⟩ : ∃ i, idxOf p xs = i := ⟨_, rfl⟩
  rw [he] at I hi
  rw [← hi]
  clear hK he hi h
  go_enter Try.func46, Try.ntmps46
  go_wp2_with fail
  refine I.mono ?_
  rintro e w1 ⟨rfl, hb⟩
  go_wp2_with fail
  go_ret
  exact ⟨rfl, hb⟩

set_option maxRecDepth 100000 in
set_option maxHeartbeats 4000000 in
theorem idx76_any (q0 q1 : Value) (p : Int → Bool) (v : Value) (xs : List (Int)) (w : World) (h : RdI w v xs)
    (hK : ∀ (k : Nat) (x : Int) (W : World), xs[k]? = some x → Below w.heap.size w W → Calls Try.prog 76 #[.int .i64 x, q0, q1] W fun e W' => e = .returned (.bool (p x)) ∧ Below W.heap.size W W') :
    Calls Try.prog 75 #[v, .func (.func 76) #[] #[q0, q1]] w fun e w' => e = .returned (.int .i64 (idxOf p xs)) ∧ Below w.heap.size w w' := by
  obtain ⟨a, c, rfl, l1, f⟩ := h.open
  clear h
  have F := Lib.hid f; clear f
  have HK := Lib.hid hK; clear hK
  go_enter Try.func75, Try.ntmps75
  go_wp2_with fail
  go_loopw [8] (fun i wr => ∃ k : Nat, k ≤ xs.length ∧ i = .int .i64 k ∧ (xs.take k).all (fun x => !p x) = true ∧ Below w.heap.size w wr) (fun i _ => xs.length - (intOf i).toNat)
  case atStart => exact ⟨0, Nat.zero_le _, rfl, rfl, Below.refl _ _⟩
  case round =>
    obtain ⟨k, hk, rfl, hnr, hbl⟩ := hrel
    have HNR := Lib.hid hnr; have HBL := Lib.hid hbl
    by_cases hlt : k < xs.length
    · obtain ⟨x, hx⟩ := elem_at hlt
      obtain ⟨b1, o1, rfl, hb1, q0⟩ := F.out k _ hx
      have g0 := (hbl.cell (p := ⟨b1, o1 + k, none⟩) hb1).trans q0
      have hk1 : (k : Int) < (xs.length : Int) := by omega
      have hk0 : (0 : Int) ≤ (k : Int) := Int.natCast_nonneg _
      have hbz := hbl.size
      have hbl0 := hbl
      have HX := Lib.hid hx
      have BA := HK.out k x wr hx hbl
      obtain ⟨b, hr⟩ : ∃ b, p x = b := ⟨_, rfl⟩
      rw [hr] at BA
      have HR := Lib.hid hr
      clear hnr hbl hbl0 q0 hx hr
      cases b
      · go_wp2_with fail
        refine BA.mono ?_
        rintro e w1 ⟨rfl, hb2⟩
        go_wp2_with fail
        go_roundw
        case rel => exact ⟨k + 1, by omega, by go_num, none_step HNR.out HX.out HR.out, HBL.out.trans (hb2.mono hbz)⟩
        case measure => simp [intOf]; omega
      · go_wp2_with fail
        refine BA.mono ?_
        rintro e w1 ⟨rfl, hb2⟩
        go_wp2_with fail
        go_ret
        exact ⟨ret_int (idxOf_some HX.out HR.out HNR.out).symm, HBL.out.trans (hb2.mono hbz)⟩
    · obtain rfl : k = xs.length := by omega
      have hk1 : ¬ (xs.length : Int) < (xs.length : Int) := by omega
      have HN := Lib.hid hnr
      clear hnr hbl HNR
      go_wp2_with fail
      go_ret
      exact ⟨ret_int (idxOf_none HN.out).symm, HBL.out⟩

set_option maxHeartbeats 1000000 in
theorem con76_any (q0 q1 : Value) (p : Int → Bool) (v : Value) (xs : List (Int)) (w : World) (h : RdI w v xs)
    (hK : ∀ (k : Nat) (x : Int) (W : World), xs[k]? = some x → Below w.heap.size w W → Calls Try.prog 76 #[.int .i64 x, q0, q1] W fun e W' => e = .returned (.bool (p x)) ∧ Below W.heap.size W W') :
    Calls Try.prog 46 #[v, .func (.func 76) #[] #[q0, q1]] w fun e w' => e = .returned (.bool (xs.any p)) ∧ Below w.heap.size w w' := by
  have I := idx76_any q0 q1 p v xs w h hK
  have hi := idxOf_any p xs
  obtain ⟨i, he⟩ : ∃ i, idxOf p xs = i := ⟨_, rfl⟩
  rw [he] at I hi
  rw [← hi]
  clear hK he hi h
  go_enter Try.func46, Try.ntmps46
  go_wp2_with fail
  refine I.mono ?_
  rintro e w1 ⟨rfl, hb⟩
  go_wp2_with fail
  go_ret
  exact ⟨rfl, hb⟩

set_option maxRecDepth 100000 in
set_option maxHeartbeats 4000000 in
theorem idx45_any (q0 : Value) (p : List Int → Bool) (v : Value) (xs : List (List Int)) (w : World) (h : RdR w v xs)
    (hK : ∀ (k : Nat) (x : List Int) (W : World), xs[k]? = some x → Below w.heap.size w W → ∀ u : Value, RdI W u x → Calls Try.prog 45 #[u, q0] W fun e W' => e = .returned (.bool (p x)) ∧ Below W.heap.size W W') :
    Calls Try.prog 49 #[v, .func (.func 45) #[] #[q0]] w fun e w' => e = .returned (.int .i64 (idxOf p xs)) ∧ Below w.heap.size w w' := by
  obtain ⟨a, c, rfl, l1, f⟩ := h.open
  clear h
  have F := Lib.hid f; clear f
  have HK := Lib.hid hK; clear hK
  go_enter Try.func49, Try.ntmps49
  go_wp2_with fail
  go_loopw [8] (fun i wr => ∃ k : Nat, k ≤ xs.length ∧ i = .int .i64 k ∧ (xs.take k).all (fun x => !p x) = true ∧ Below w.heap.size w wr) (fun i _ => xs.length - (intOf i).toNat)
  case atStart => exact ⟨0, Nat.zero_le _, rfl, rfl, Below.refl _ _⟩
  case round =>
    obtain ⟨k, hk, rfl, hnr, hbl⟩ := hrel
    have HNR := Lib.hid hnr; have HBL := Lib.hid hbl
    by_cases hlt : k < xs.length
    · obtain ⟨x, hx⟩ := elem_at hlt
      obtain ⟨b1, o1, u, rfl, hb1, q0, hu⟩ := F.out k _ hx
      have g0 := (hbl.cell (p := ⟨b1, o1 + k, none⟩) hb1).trans q0
      have hk1 : (k : Int) < (xs.length : Int) := by omega
      have hk0 : (0 : Int) ≤ (k : Int) := Int.natCast_nonneg _
      have hbz := hbl.size
      have hbl0 := hbl
      have HX := Lib.hid hx
      have BA := HK.out k x wr hx hbl u (hu.below hbl0)
      obtain ⟨b, hr⟩ : ∃ b, p x = b := ⟨_, rfl⟩
      rw [hr] at BA
      have HR := Lib.hid hr
      clear hnr hbl hbl0 q0 hx hr
      cases b
      · go_wp2_with fail
        refine BA.mono ?_
        rintro e w1 ⟨rfl, hb2⟩
        go_wp2_with fail
        go_roundw
        case rel => exact ⟨k + 1, by omega, by go_num, none_step HNR.out HX.out HR.out, HBL.out.trans (hb2.mono hbz)⟩
        case measure => simp [intOf]; omega
      · go_wp2_with fail
        refine BA.mono ?_
        rintro e w1 ⟨rfl, hb2⟩
        go_wp2_with fail
        go_ret
        exact ⟨ret_int (idxOf_some HX.out HR.out HNR.out).symm, HBL.out.trans (hb2.mono hbz)⟩
    · obtain rfl : k = xs.length := by omega
      have hk1 : ¬ (xs.length : Int) < (xs.length : Int) := by omega
      have HN := Lib.hid hnr
      clear hnr hbl HNR
      go_wp2_with fail
      go_ret
      exact ⟨ret_int (idxOf_none HN.out).symm, HBL.out⟩

set_option maxHeartbeats 1000000 in
theorem con45_any (q0 : Value) (p : List Int → Bool) (v : Value) (xs : List (List Int)) (w : World) (h : RdR w v xs)
    (hK : ∀ (k : Nat) (x : List Int) (W : World), xs[k]? = some x → Below w.heap.size w W → ∀ u : Value, RdI W u x → Calls Try.prog 45 #[u, q0] W fun e W' => e = .returned (.bool (p x)) ∧ Below W.heap.size W W') :
    Calls Try.prog 44 #[v, .func (.func 45) #[] #[q0]] w fun e w' => e = .returned (.bool (xs.any p)) ∧ Below w.heap.size w w' := by
  have I := idx45_any q0 p v xs w h hK
  have hi := idxOf_any p xs
  obtain ⟨i, he⟩ : ∃ i, idxOf p xs = i := ⟨_, rfl⟩
  rw [he] at I hi
  rw [← hi]
  clear hK he hi h
  go_enter Try.func44, Try.ntmps44
  go_wp2_with fail
  refine I.mono ?_
  rintro e w1 ⟨rfl, hb⟩
  go_wp2_with fail
  go_ret
  exact ⟨rfl, hb⟩

set_option maxRecDepth 100000 in
set_option maxHeartbeats 4000000 in
theorem idx50_any (q0 q1 : Value) (p : List Int → Bool) (v : Value) (xs : List (List Int)) (w : World) (h : RdR w v xs)
    (hK : ∀ (k : Nat) (x : List Int) (W : World), xs[k]? = some x → Below w.heap.size w W → ∀ u : Value, RdI W u x → Calls Try.prog 50 #[u, q0, q1] W fun e W' => e = .returned (.bool (p x)) ∧ Below W.heap.size W W') :
    Calls Try.prog 49 #[v, .func (.func 50) #[] #[q0, q1]] w fun e w' => e = .returned (.int .i64 (idxOf p xs)) ∧ Below w.heap.size w w' := by
  obtain ⟨a, c, rfl, l1, f⟩ := h.open
  clear h
  have F := Lib.hid f; clear f
  have HK := Lib.hid hK; clear hK
  go_enter Try.func49, Try.ntmps49
  go_wp2_with fail
  go_loopw [8] (fun i wr => ∃ k : Nat, k ≤ xs.length ∧ i = .int .i64 k ∧ (xs.take k).all (fun x => !p x) = true ∧ Below w.heap.size w wr) (fun i _ => xs.length - (intOf i).toNat)
  case atStart => exact ⟨0, Nat.zero_le _, rfl, rfl, Below.refl _ _⟩
  case round =>
    obtain ⟨k, hk, rfl, hnr, hbl⟩ := hrel
    have HNR := Lib.hid hnr; have HBL := Lib.hid hbl
    by_cases hlt : k < xs.length
    · obtain ⟨x, hx⟩ := elem_at hlt
      obtain ⟨b1, o1, u, rfl, hb1, q0, hu⟩ := F.out k _ hx
      have g0 := (hbl.cell (p := ⟨b1, o1 + k, none⟩) hb1).trans q0
      have hk1 : (k : Int) < (xs.length : Int) := by omega
      have hk0 : (0 : Int) ≤ (k : Int) := Int.natCast_nonneg _
      have hbz := hbl.size
      have hbl0 := hbl
      have HX := Lib.hid hx
      have BA := HK.out k x wr hx hbl u (hu.below hbl0)
      obtain ⟨b, hr⟩ : ∃ b, p x = b := ⟨_, rfl⟩
      rw [hr] at BA
      have HR := Lib.hid hr
      clear hnr hbl hbl0 q0 hx hr
      cases b
      · go_wp2_with fail
        refine BA.mono ?_
        rintro e w1 ⟨rfl, hb2⟩
        go_wp2_with fail
        go_roundw
        case rel => exact ⟨k + 1, by omega, by go_num, none_step HNR.out HX.out HR.out, HBL.out.trans (hb2.mono hbz)⟩
        case measure => simp [intOf]; omega
      · go_wp2_with fail
        refine BA.mono ?_
        rintro e w1 ⟨rfl, hb2⟩
        go_wp2_with fail
        go_ret
        exact ⟨ret_int (idxOf_some HX.out HR.out HNR.out).symm, HBL.out.trans (hb2.mono hbz)⟩
    · obtain rfl : k = xs.length := by omega
      have hk1 : ¬ (xs.length : Int) < (xs.length : Int) := by omega
      have HN := Lib.hid hnr
      clear hnr hbl HNR
      go_wp2_with fail
      go_ret
      exact ⟨ret_int (idxOf_none HN.out).symm, HBL.out⟩
end Go.Proofs.Ytmkkegigajmhkaa

namespace Go.Proofs.Ytmkkegigajmhkaa
open Go.RowKit Go.Maps

set_option maxHeartbeats 1000000 in
theorem v1_any (u : Value) (r : List Int) (B n cc : Nat) (ac : Option Addr) (W : World) (hu : RdI W u r) (hc : W.cell? ⟨B, 1, none⟩ = some (.slice ac n cc)) :
    Calls Try.prog 45 #[u, .pointer (some ⟨B, 0, none⟩)] W fun e W' => e = .returned (.bool ((r.length : Int) != (n : Int))) ∧ Below W.heap.size W W' := by
  obtain ⟨a, c, rfl⟩ := hu.form
  clear hu
  go_enter Try.func45, Try.ntmps45
  go_wp2_with fail
  go_ret
  exact ⟨rfl, Below.refl _ _⟩
def badCost (c : Int) : Bool := !decide (1 ≤ c ∧ c ≤ 1024)
def badCls (c : Int) : Bool := !decide (0 ≤ c ∧ c ≤ 63)
set_option maxHeartbeats 1000000 in
theorem v2_any (x : Int) (W : World) :
    Calls Try.prog 47 #[.int .i64 x] W fun e W' => e = .returned (.bool (badCost x)) ∧ Below W.heap.size W W' := by
  by_cases h1 : x < 1
  · go_enter Try.func47, Try.ntmps47
    go_wp2_with fail
    go_ret
    exact ⟨ret_bool (by unfold badCost; simp; omega), Below.refl _ _⟩
  · by_cases h2 : 1024 < x
    · go_enter Try.func47, Try.ntmps47
      go_wp2_with fail
      go_ret
      exact ⟨ret_bool (by unfold badCost; simp; omega), Below.refl _ _⟩
    · go_enter Try.func47, Try.ntmps47
      go_wp2_with fail
      go_ret
      exact ⟨ret_bool (by unfold badCost; simp; omega), Below.refl _ _⟩
set_option maxHeartbeats 1000000 in
theorem v3_any (x : Int) (W : World) :
    Calls Try.prog 48 #[.int .i64 x] W fun e W' => e = .returned (.bool (badCls x)) ∧ Below W.heap.size W W' := by
  by_cases h1 : x < 0
  · go_enter Try.func48, Try.ntmps48
    go_wp2_with fail
    go_ret
    exact ⟨ret_bool (by unfold badCls; simp; omega), Below.refl _ _⟩
  · by_cases h2 : 63 < x
    · go_enter Try.func48, Try.ntmps48
      go_wp2_with fail
      go_ret
      exact ⟨ret_bool (by unfold badCls; simp; omega), Below.refl _ _⟩
    · go_enter Try.func48, Try.ntmps48
      go_wp2_with fail
      go_ret
      exact ⟨ret_bool (by unfold badCls; simp; omega), Below.refl _ _⟩

theorem fine_row {T : Tb} (h : (T.rows.any fun r => (r.length : Int) != (T.costs.length : Int)) = true) : fineT T = false := by
  obtain ⟨r, hr, h2⟩ := List.any_eq_true.1 h
  have h3 : ¬ (r.length = T.costs.length) := by intro e; rw [e] at h2; simp at h2
  refine Bool.eq_false_iff.2 fun hf => ?_
  unfold fineT at hf
  simp only [Bool.and_eq_true, List.all_eq_true, decide_eq_true_eq] at hf
  exact h3 (hf.1.1.2 r hr)
theorem fine_cost {T : Tb} (h : T.costs.any badCost = true) : fineT T = false := by
  obtain ⟨r, hr, h2⟩ := List.any_eq_true.1 h
  refine Bool.eq_false_iff.2 fun hf => ?_
  unfold fineT at hf
  simp only [Bool.and_eq_true, List.all_eq_true, decide_eq_true_eq] at hf
  have := hf.1.2 r hr
  unfold badCost at h2
  simp [this] at h2
theorem fine_cls {T : Tb} (h : T.cls.any badCls = true) : fineT T = false := by
  obtain ⟨r, hr, h2⟩ := List.any_eq_true.1 h
  refine Bool.eq_false_iff.2 fun hf => ?_
  unfold fineT at hf
  simp only [Bool.and_eq_true, List.all_eq_true, decide_eq_true_eq] at hf
  have := hf.2 r hr
  unfold badCls at h2
  simp [this] at h2
theorem fine_all {T : Tb} (h0 : T.rows.length ≠ 0) (h1 : T.cls.length = T.rows.length) (h2 : (T.rows.any fun r => (r.length : Int) != (T.costs.length : Int)) = false) (h3 : T.costs.any badCost = false) (h4 : T.cls.any badCls = false) : fineT T = true := by
  rw [List.any_eq_false] at h2 h3 h4
  unfold fineT
  simp only [Bool.and_eq_true, List.all_eq_true, decide_eq_true_eq, Bool.not_eq_true', List.isEmpty_eq_false_iff]
  refine ⟨⟨⟨⟨fun e => h0 (by rw [e]; rfl), h1⟩, fun r hr => ?_⟩, fun c hc => ?_⟩, fun c hc => ?_⟩
  · have := h2 r hr; simp at this; omega
  · have := h3 c hc; unfold badCost at this; simp at this; omega
  · have := h4 c hc; unfold badCls at this; simp at this; omega
theorem validE_big {T : Tb} (h : 64 < T.rows.length ∨ 64 < T.costs.length) : validE T = 4 := if_pos h
theorem validE_bad {T : Tb} (h1 : T.rows.length ≤ 64) (h2 : T.costs.length ≤ 64) (h : fineT T = false) : validE T = 1 := by
  unfold validE; rw [if_neg (by omega), h]; rfl
theorem validE_ok {T : Tb} (h1 : T.rows.length ≤ 64) (h2 : T.costs.length ≤ 64) (h : fineT T = true) : validE T = 0 := by
  unfold validE; rw [if_neg (by omega), h]; rfl

set_option maxRecDepth 100000 in
set_option maxHeartbeats 4000000 in
theorem valid_any (va vc vk : Value) (T : Tb) (w : World) (h : TbR w va vc vk T) :
    Calls Try.prog 16 #[.agg #[va, vc, vk]] w fun e w' => e = .returned (.int .i64 (validE T)) ∧ Below w.heap.size w w' := by
  obtain ⟨aa, ca, rfl⟩ := h.rows.form
  obtain ⟨ac, cc, rfl⟩ := h.costs.form
  obtain ⟨ak, ck, rfl⟩ := h.cls.form
  have H := Lib.hid h
  have bx := Boxs.new w 33 #[.slice aa T.rows.length ca, .slice ac T.costs.length cc, .slice ak T.cls.length ck]
  have HBX := Lib.hid ((Below.refl w.heap.size w).alloc (Nat.le_refl _) (.cells #[.slice aa T.rows.length ca, .slice ac T.costs.length cc, .slice ak T.cls.length ck] 33))
  have g0 := bx.cell 0
  have g1 := bx.cell 1
  have g2 := bx.cell 2
  have hlt := bx.lt
  have CR := con45_any (.pointer (some ⟨w.heap.size, 0, none⟩)) (fun r => (r.length : Int) != (T.costs.length : Int)) _ T.rows _ (H.out.rows.below HBX.out) (fun k r W hr hb u hu => v1_any u r w.heap.size T.costs.length cc ac W hu ((hb.cell (p := ⟨w.heap.size, 1, none⟩) hlt).trans g1))
  have CC := fun (v : Value) (W : World) hW => con47_any badCost v T.costs W hW (fun k x W hx hb => v2_any x W)
  have CK := fun (v : Value) (W : World) hW => con48_any badCls v T.cls W hW (fun k x W hx hb => v3_any x W)
  obtain ⟨bR, hbR⟩ : ∃ b, (T.rows.any fun r => (r.length : Int) != (T.costs.length : Int)) = b := ⟨_, rfl⟩
  obtain ⟨bC, hbC⟩ : ∃ b, T.costs.any badCost = b := ⟨_, rfl⟩
  obtain ⟨bK, hbK⟩ : ∃ b, T.cls.any badCls = b := ⟨_, rfl⟩
  rw [hbR] at CR
  rw [hbC] at CC
  rw [hbK] at CK
  have HR := Lib.hid hbR; have HC := Lib.hid hbC; have HK := Lib.hid hbK
  have G := Lib.hid (show _ ∧ _ from ⟨g1, g2⟩)
  clear h hbR hbC hbK bx g0 g1 g2
  have hsz := HBX.out.size
  by_cases h1 : (64 : Int) < (T.rows.length : Int)
  · go_enter Try.func16, Try.ntmps16
    go_wp2_with fail
    go_ret
    exact ⟨ret_int (validE_big (.inl (by omega))).symm, HBX.out⟩
  by_cases h2 : (64 : Int) < (T.costs.length : Int)
  · go_enter Try.func16, Try.ntmps16
    go_wp2_with fail
    go_ret
    exact ⟨ret_int (validE_big (.inr (by omega))).symm, HBX.out⟩
  by_cases h3 : (T.rows.length : Int) = 0
  · have h3' : ((T.rows.length : Int) == 0) = true := by simpa using h3
    have e := validE_bad (T := T) (by omega) (by omega) (by unfold fineT; simp [List.eq_nil_of_length_eq_zero (show T.rows.length = 0 by omega)])
    have E := Lib.hid e
    clear e h3
    go_enter Try.func16, Try.ntmps16
    go_wp2_with fail
    go_ret
    exact ⟨ret_int E.out.symm, HBX.out⟩
  have h3' : ((T.rows.length : Int) == 0) = false := by simpa using h3
  by_cases h4 : (T.cls.length : Int) = (T.rows.length : Int)
  · have h4' : ((T.cls.length : Int) != (T.rows.length : Int)) = false := by simpa using h4
    have H3 := Lib.hid h3; have H4 := Lib.hid h4; clear h3 h4
    go_enter Try.func16, Try.ntmps16
    go_wp2_with fail
    refine CR.mono ?_
    rintro e w1 ⟨rfl, hb1⟩
    have q := (hb1.cell (p := ⟨w.heap.size, 1, none⟩) hlt).trans G.out.1
    have q2 := Lib.hid ((hb1.cell (p := ⟨w.heap.size, 2, none⟩) hlt).trans G.out.2)
    have HB1 := Lib.hid (HBX.out.trans (hb1.mono hsz))
    have C := CC _ w1 (H.out.costs.below HB1.out)
    have hs1 := HB1.out.size
    have hlt1 : w.heap.size < w1.heap.size := Nat.lt_of_lt_of_le hlt hb1.size
    clear hb1 CR CC
    cases bR
    · go_wp2_with fail
      refine C.mono ?_
      rintro e w2 ⟨rfl, hb2⟩
      have q3 := (hb2.cell (p := ⟨w.heap.size, 2, none⟩) hlt1).trans q2.out
      have HB2 := Lib.hid (HB1.out.trans (hb2.mono hs1))
      have K := CK _ w2 (H.out.cls.below HB2.out)
      have hs2 := HB2.out.size
      clear hb2 C CK q
      cases bC
      · go_wp2_with fail
        refine K.mono ?_
        rintro e w3 ⟨rfl, hb3⟩
        cases bK
        · go_wp2_with fail
          go_ret
          exact ⟨ret_int (validE_ok (by omega) (by omega) (fine_all (by have := H3.out; omega) (by have := H4.out; omega) HR.out HC.out HK.out)).symm, HB2.out.trans (hb3.mono hs2)⟩
        · go_wp2_with fail
          go_ret
          exact ⟨ret_int (validE_bad (by omega) (by omega) (fine_cls HK.out)).symm, HB2.out.trans (hb3.mono hs2)⟩
      · go_wp2_with fail
        go_ret
        exact ⟨ret_int (validE_bad (by omega) (by omega) (fine_cost HC.out)).symm, HB2.out⟩
    · go_wp2_with fail
      go_ret
      exact ⟨ret_int (validE_bad (by omega) (by omega) (fine_row HR.out)).symm, HB1.out⟩
  · have h4' : ((T.cls.length : Int) != (T.rows.length : Int)) = true := by simpa using h4
    have e := validE_bad (T := T) (by omega) (by omega) (by unfold fineT; simp [show ¬ (T.cls.length = T.rows.length) by omega])
    have E := Lib.hid e
    clear e h3 h4
    go_enter Try.func16, Try.ntmps16
    go_wp2_with fail
    go_ret
    exact ⟨ret_int E.out.symm, HBX.out⟩
end Go.Proofs.Ytmkkegigajmhkaa

namespace Go.Proofs.Ytmkkegigajmhkaa
open Go.RowKit Go.Maps

theorem any_step {α : Type} {p : α → Bool} {l : List α} {k : Nat} {x : α} (h : (l.take k).any p = false) (hx : l[k]? = some x) (hp : p x = false) : (l.take (k + 1)).any p = false := by
  rw [take_succ_at hx, List.any_append, h]; simp [hp]
theorem any_hit {α : Type} {p : α → Bool} {l : List α} {k : Nat} {x : α} (hx : l[k]? = some x) (hp : p x = true) : l.any p = true :=
  List.any_eq_true.2 ⟨x, List.mem_of_getElem? hx, hp⟩
/-- the boxed table -/
structure BoxT (w : World) (B : Nat) (va vc vk : Value) (T : Tb) : Prop where
  lt : B < w.heap.size
  c0 : w.cell? ⟨B, 0, none⟩ = some va
  c1 : w.cell? ⟨B, 1, none⟩ = some vc
  c2 : w.cell? ⟨B, 2, none⟩ = some vk
  tb : TbR w va vc vk T
theorem BoxT.below {w w' : World} {B : Nat} {va vc vk : Value} {T : Tb} (h : BoxT w B va vc vk T) (hb : Below w.heap.size w w') : BoxT w' B va vc vk T :=
  ⟨Nat.lt_of_lt_of_le h.lt hb.size, (hb.cell (p := ⟨B, 0, none⟩) h.lt).trans h.c0, (hb.cell (p := ⟨B, 1, none⟩) h.lt).trans h.c1, (hb.cell (p := ⟨B, 2, none⟩) h.lt).trans h.c2, h.tb.below hb⟩
theorem BoxT.new {w : World} {va vc vk : Value} {T : Tb} (h : TbR w va vc vk T) (t : TypeId) : BoxT (w.alloc (.cells #[va, vc, vk] t)) w.heap.size va vc vk T := by
  have bx := Boxs.new w t #[va, vc, vk]
  exact ⟨bx.lt, bx.cell 0, bx.cell 1, bx.cell 2, h.below ((Below.refl w.heap.size w).alloc (Nat.le_refl _) _)⟩
theorem alloc_below (w : World) (o : Obj) : Below w.heap.size w (w.alloc o) := (Below.refl _ _).alloc (Nat.le_refl _) o

set_option maxRecDepth 100000 in
set_option maxHeartbeats 4000000 in
theorem rvalid_any (va vc vk : Value) (T : Tb) (w : World) (h : TbR w va vc vk T) :
    Calls Try.prog 17 #[.agg #[va, vc, vk]] w fun e w' => e = .returned (.int .i64 (validE T)) ∧ Below w.heap.size w w' := by
  obtain ⟨aa, ca, rfl⟩ := h.rows.form
  obtain ⟨ac, cc, rfl⟩ := h.costs.form
  obtain ⟨ak, ck, rfl⟩ := h.cls.form
  have HBT := Lib.hid (BoxT.new h 25)
  have HBX := Lib.hid (alloc_below w (.cells #[.slice aa T.rows.length ca, .slice ac T.costs.length cc, .slice ak T.cls.length ck] 25))
  have hsz := HBX.out.size
  clear h
  by_cases h1 : (64 : Int) < (T.rows.length : Int)
  · go_enter Try.func17, Try.ntmps17
    go_wp2_with fail
    go_ret
    exact ⟨ret_int (validE_big (.inl (by omega))).symm, HBX.out⟩
  by_cases h2 : (64 : Int) < (T.costs.length : Int)
  · go_enter Try.func17, Try.ntmps17
    go_wp2_with fail
    go_ret
    exact ⟨ret_int (validE_big (.inr (by omega))).symm, HBX.out⟩
  by_cases h3 : (T.rows.length : Int) = 0
  · have h3' : ((T.rows.length : Int) == 0) = true := by simpa using h3
    have e := validE_bad (T := T) (by omega) (by omega) (by unfold fineT; simp [List.eq_nil_of_length_eq_zero (show T.rows.length = 0 by omega)])
    have E := Lib.hid e
    clear e h3
    go_enter Try.func17, Try.ntmps17
    go_wp2_with fail
    go_ret
    exact ⟨ret_int E.out.symm, HBX.out⟩
  have h3' : ((T.rows.length : Int) == 0) = false := by simpa using h3
  by_cases h4 : (T.cls.length : Int) = (T.rows.length : Int)
  · have h4' : ((T.cls.length : Int) != (T.rows.length : Int)) = false := by simpa using h4
    have H3 := Lib.hid h3; have H4 := Lib.hid h4; clear h3 h4
    go_enter Try.func17, Try.ntmps17
    go_wp2_with fail
    obtain ⟨B, hB⟩ : ∃ B, w.heap.size = B := ⟨_, rfl⟩
    generalize w.alloc (.cells #[.slice aa T.rows.length ca, .slice ac T.costs.length cc, .slice ak T.cls.length ck] 25) = w1 at *
    rw [hB] at HBT ⊢
    go_loopw [3] (fun i wr => ∃ k : Nat, k ≤ T.rows.length ∧ i = .int .i64 k ∧ (T.rows.take k).any (fun r => (r.length : Int) != (T.costs.length : Int)) = false ∧ (T.cls.take k).any badCls = false ∧ BoxT wr B (.slice aa T.rows.length ca) (.slice ac T.costs.length cc) (.slice ak T.cls.length ck) T ∧ Below w.heap.size w wr) (fun i _ => T.rows.length - (intOf i).toNat)
    case atStart => exact ⟨0, Nat.zero_le _, rfl, rfl, rfl, HBT.out, HBX.out⟩
    case round =>
      obtain ⟨k, hk, rfl, hr1, hr2, hbt, hbl⟩ := hrel
      clear HBT HBX
      have HBT := Lib.hid hbt; have HBX := Lib.hid hbl
      have HR1 := Lib.hid hr1; have HR2 := Lib.hid hr2
      obtain ⟨hlt, c0, c1, c2, htb⟩ := hbt
      have hk0 : (0 : Int) ≤ (k : Int) := Int.natCast_nonneg _
      by_cases hlt : k < T.rows.length
      · have hk1 : (k : Int) < (T.rows.length : Int) := by omega
        have hk2 : (k : Int) < (T.cls.length : Int) := by have := H4.out; omega
        obtain ⟨r, hr⟩ := elem_at hlt
        obtain ⟨x, hx⟩ := elem_at (show k < T.cls.length by omega)
        obtain ⟨a1, c1', e1, _, f1⟩ := htb.rows.open
        cases e1
        obtain ⟨b1, o1, u, rfl, hb1, q1, hu⟩ := f1 k r hr
        obtain ⟨a2, c2', e2, _, f2⟩ := htb.cls.open
        cases e2
        obtain ⟨b2, o2, rfl, hb2, q2⟩ := f2 k x hx
        obtain ⟨au, cu, rfl⟩ := hu.form
        have HRk := Lib.hid hr; have HXk := Lib.hid hx
        clear hr1 hr2 hbl f1 f2 hu hr hx htb
        by_cases g1 : (r.length : Int) = (T.costs.length : Int)
        · have g1' : ((r.length : Int) != (T.costs.length : Int)) = false := by simpa using g1
          have G1 := Lib.hid g1'
          clear g1
          by_cases g2 : x < 0
          · go_wp2_with fail
            go_quiet (fail)
            go_wp2_with fail
            go_ret
            exact ⟨ret_int (validE_bad (by omega) (by omega) (fine_cls (any_hit HXk.out (by unfold badCls; simp; omega)))).symm, Below.dn HBX.out _⟩
          · by_cases g3 : 63 < x
            · go_wp2_with fail
              go_quiet (fail)
              go_wp2_with fail
              go_ret
              exact ⟨ret_int (validE_bad (by omega) (by omega) (fine_cls (any_hit HXk.out (by unfold badCls; simp; omega)))).symm, Below.dn HBX.out _⟩
            · go_wp2_with fail
              go_quiet (fail)
              go_wp2_with fail
              go_roundw
              case rel => exact ⟨k + 1, by omega, by go_num, any_step HR1.out HRk.out G1.out, any_step HR2.out HXk.out (by unfold badCls; simp; omega), HBT.out.below (Below.dn (Below.refl _ _) _), Below.dn HBX.out _⟩
              case measure => simp [intOf]; omega
        · have g1' : ((r.length : Int) != (T.costs.length : Int)) = true := by simpa using g1
          have G1 := Lib.hid g1'
          clear g1
          go_wp2_with fail
          go_quiet (fail)
          go_wp2_with fail
          go_ret
          exact ⟨ret_int (validE_bad (by omega) (by omega) (fine_row (any_hit HRk.out G1.out))).symm, Below.dn HBX.out _⟩
      · obtain rfl : k = T.rows.length := by omega
        have hk1 : ¬ (T.rows.length : Int) < (T.rows.length : Int) := by omega
        rw [List.take_length] at hr1
        rw [List.take_of_length_le (by have := H4.out; omega)] at hr2
        have HF1 := Lib.hid hr1; have HF2 := Lib.hid hr2
        clear hr1 hr2 HR1 HR2 hbl
        go_wp2_with fail
        clear c0 c1 c2 htb
        rename World => wq
        go_loopw [4] (fun i wr => ∃ k : Nat, k ≤ T.costs.length ∧ i = .int .i64 k ∧ (T.costs.take k).any badCost = false ∧ BoxT wr B (.slice aa T.rows.length ca) (.slice ac T.costs.length cc) (.slice ak T.cls.length ck) T ∧ Below w.heap.size w wr) (fun i _ => T.costs.length - (intOf i).toNat)
        case atStart => exact ⟨0, Nat.zero_le _, rfl, rfl, HBT.out, HBX.out⟩
        case round =>
          obtain ⟨k, hk, rfl, hr1, hbt, hbl⟩ := hrel
          clear HBT HBX
          have HBT := Lib.hid hbt; have HBX := Lib.hid hbl
          have HR1 := Lib.hid hr1
          obtain ⟨hlt, c0, c1, c2, htb⟩ := hbt
          have hk0 : (0 : Int) ≤ (k : Int) := Int.natCast_nonneg _
          by_cases hlt : k < T.costs.length
          · have hk1 : (k : Int) < (T.costs.length : Int) := by omega
            obtain ⟨x, hx⟩ := elem_at hlt
            obtain ⟨a2, c2', e2, _, f2⟩ := htb.costs.open
            cases e2
            obtain ⟨b2, o2, rfl, hb2, q2⟩ := f2 k x hx
            have HXk := Lib.hid hx
            clear hr1 hbl f2 hx htb
            by_cases g2 : x < 1
            · go_wp2_with fail
              go_ret
              exact ⟨ret_int (validE_bad (by omega) (by omega) (fine_cost (any_hit HXk.out (by unfold badCost; simp; omega)))).symm, HBX.out⟩
            · by_cases g3 : 1024 < x
              · go_wp2_with fail
                go_ret
                exact ⟨ret_int (validE_bad (by omega) (by omega) (fine_cost (any_hit HXk.out (by unfold badCost; simp; omega)))).symm, by rw [← hB]; exact HBX.out⟩
              · go_wp2_with fail
                go_roundw
                case rel => exact ⟨k + 1, by omega, by go_num, any_step HR1.out HXk.out (by unfold badCost; simp; omega), HBT.out, HBX.out⟩
                case measure => simp [intOf]; omega
          · obtain rfl : k = T.costs.length := by omega
            have hk1 : ¬ (T.costs.length : Int) < (T.costs.length : Int) := by omega
            rw [List.take_length] at hr1
            have HF3 := Lib.hid hr1
            clear hr1 hbl htb HR1
            go_wp2_with fail
            go_ret
            exact ⟨ret_int (validE_ok (by omega) (by omega) (fine_all (by have := H3.out; omega) (by have := H4.out; omega) HF1.out HF3.out HF2.out)).symm, by rw [← hB]; exact HBX.out⟩
  · have h4' : ((T.cls.length : Int) != (T.rows.length : Int)) = true := by simpa using h4
    have e := validE_bad (T := T) (by omega) (by omega) (by unfold fineT; simp [show ¬ (T.cls.length = T.rows.length) by omega])
    have E := Lib.hid e
    clear e h3 h4
    go_enter Try.func17, Try.ntmps17
    go_wp2_with fail
    go_ret
    exact ⟨ret_int E.out.symm, HBX.out⟩

set_option maxHeartbeats 1000000 in
theorem own_any (a1 a2 a3 : Option Addr) (n1 n2 n3 c1 c2 c3 : Nat) (w : World) :
    Calls Try.prog 14 #[.agg #[.slice a1 n1 c1, .slice a2 n2 c2, .slice a3 n3 c3]] w fun e w' => e = .returned (.agg #[.slice a1 n1 c1, .slice a2 n2 c2, .slice a3 n3 c3]) ∧ Below w.heap.size w w' := by
  go_enter Try.func14, Try.ntmps14
  go_wp2
  have b4 := Boxs.new (w.alloc (.cells #[.slice a1 n1 c1, .slice a2 n2 c2, .slice a3 n3 c3] 25)) 33 #[.slice a1 n1 c1, .slice a2 n2 c2, .slice a3 n3 c3]
  rw [World.size_alloc] at b4
  have e0 := b4.cell 0
  have e1 := b4.cell 1
  have e2 := b4.cell 2
  simp at e0 e1 e2
  refine bodyPost_ret (v := .agg #[.slice a1 n1 c1, .slice a2 n2 c2, .slice a3 n3 c3]) ?_ rfl ⟨rfl, ((Below.refl _ w).alloc (Nat.le_refl _) _).alloc (by simp) _⟩
  simp only [results, Try.results14]
  simp [go_sem]
end Go.Proofs.Ytmkkegigajmhkaa

