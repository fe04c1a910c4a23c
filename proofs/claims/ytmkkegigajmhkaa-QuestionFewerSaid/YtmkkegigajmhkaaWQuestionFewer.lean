/- A table with a world less or twice, a question more or twice, a lesser cost: what the best tree costs (plain law). A plain table has no twins (plain law). Several tables that a function makes, all in its own memory. QuestionFewer: small facts. Several tables as records. Rows that become other ones from the front. The walk of QuestionFewer. -/
import Derived.Test.YtmkkegigajmhkaaN30
import Derived.Test.YtmkkegigajmhkaaN14
import Derived.Test.YtmkkegigajmhkaaN22
import Derived.Deep.DeepCutAuto
set_option linter.unusedVariables false
namespace Go.Proofs.Ytmkkegigajmhkaa
open Go.RowKit Go.Maps

theorem Wc.costs {T T' : Tb} (hc : ∀ k, costAt T' k ≤ costAt T k) {r : List Int} {t : Tr} {c s : Int} (h : Wc T r t c s) : ∃ s', Wc T' r t c s' ∧ s' ≤ s := by
  induction h with
  | leaf h => exact ⟨0, .leaf h, Int.le_refl _⟩
  | @step a c ans kids y k t c' s h hy hk hf ht hr ih =>
    obtain ⟨s', h1, h2⟩ := ih
    have := hc a.toNat
    exact ⟨_, .step h hy hk hf ht h1, by omega⟩
theorem Wc.col {T T' : Tb} {r : List Int} {x : Int} (hl : r.length = T.costs.length) (hc : ∀ k, k < T.costs.length → costAt T' k = costAt T k) {t : Tr} {c s : Int} (h : Wc T r t c s) : Wc T' (r ++ [x]) t c s := by
  induction h with
  | leaf h => exact .leaf h
  | @step a c ans kids y k t c' s h hy hk hf ht hr ih =>
    have hlt := (List.getElem?_eq_some_iff.1 hy).1
    rw [← hc a.toNat (by omega)]
    exact .step h (by rw [List.getElem?_append_left hlt]; exact hy) hk hf ht ih
mutual
/-- a tree that asks the question k instead of the question n -/
def mapQ (n k : Nat) : Tr → Tr
  | .nil => .nil
  | .node a c ans kids => .node (if a = n then (k : Int) else a) c ans (mapQs n k kids)
def mapQs (n k : Nat) : List Tr → List Tr
  | [] => []
  | t :: r => mapQ n k t :: mapQs n k r
end
theorem mapQs_at (n k : Nat) : ∀ (l : List Tr) (j : Nat) (t : Tr), l[j]? = some t → (mapQs n k l)[j]? = some (mapQ n k t)
  | [], j, t, h => by simp at h
  | x :: r, 0, t, h => by simp at h; subst h; simp [mapQs]
  | x :: r, j + 1, t, h => by rw [mapQs, List.getElem?_cons_succ]; exact mapQs_at n k r j t (by simpa using h)
theorem Wc.both {T T' : Tb} {r : List Int} {k : Nat} {y0 : Int} (hk0 : r[k]? = some y0) (hc : ∀ j, j < r.length → costAt T' j = costAt T j) (hck : costAt T' r.length = costAt T k) {t : Tr} {c s : Int} (h : Wc T' (r ++ [y0]) t c s) : Wc T r (mapQ r.length k t) c s := by
  induction h with
  | leaf h =>
    rw [mapQ]
    refine .leaf ?_
    rw [if_neg (by omega)]; exact h
  | @step a c ans kids y j t c' s h hy hk hf ht hr ih =>
    rw [mapQ]
    have hlt := (List.getElem?_eq_some_iff.1 hy).1
    rw [List.length_append, List.length_singleton] at hlt
    by_cases ha : a = (r.length : Int)
    · rw [if_pos ha]
      have ht2 : a.toNat = r.length := by omega
      rw [ht2, get_last] at hy
      cases hy
      have h9 := Wc.step (T := T) (r := r) (a := (k : Int)) (c := c) (by omega) (by rw [Int.toNat_natCast]; exact hk0) hk hf (mapQs_at r.length k kids j t ht) ih
      rw [Int.toNat_natCast] at h9
      rw [ht2, hck]; exact h9
    · rw [if_neg ha]
      have hlt2 : a.toNat < r.length := by omega
      rw [hc a.toNat hlt2]
      exact .step h (by rwa [List.getElem?_append_left hlt2] at hy) hk hf (mapQs_at r.length k kids j t ht) ih
/-- whatever solves a table solves the other one -/
theorem best_mono {T T' : Tb} (h : bestErr T = 0) (ho : OkT T') (h10 : T'.rows.length ≤ 10) (f : Tr → Tr)
    (hw : ∀ i, i < T'.rows.length → ∃ j, j < T.rows.length ∧ clsAt T' i = clsAt T j ∧ ∀ t c s, Wc T (rowAt T j) t c s → ∃ s', Wc T' (rowAt T' i) (f t) c s' ∧ s' ≤ s) : bestErr T' = 0 ∧ bestC T' ≤ bestC T := by
  obtain ⟨_, hs, h0⟩ := bestTr_sv h
  have hs' : Sv T' (f (bestTr T)) (allW T') (bestC T) := fun i hi => by
    obtain ⟨j, hj, hc, hk⟩ := hw i (allW_ok T' i hi)
    obtain ⟨s, h1, h2⟩ := hs j (by unfold allW; simpa using hj)
    obtain ⟨s', h3, h4⟩ := hk _ _ _ h1
    rw [hc]
    exact ⟨s', h3, by omega⟩
  have hn := hs'.noTw
  have hex : exE T' = 0 := by
    unfold exE
    rw [if_neg (by simpa using (okT_iff T').2 ho)]
    cases ht : hasTw T' with
    | false => rfl
    | true =>
      exfalso
      unfold hasTw at ht
      rw [List.any_eq_true] at ht
      obtain ⟨a, ha, ht⟩ := ht
      rw [List.any_eq_true] at ht
      obtain ⟨b, hb, ht⟩ := ht
      unfold twB at ht
      simp only [Bool.and_eq_true, decide_eq_true_eq, bne_iff_ne] at ht
      exact hn a b (by simpa using ha) (by simpa using hb) ht.2.1 ht.2.2
  have hbe : bestErr T' = 0 := by unfold bestErr; rw [if_neg (by rw [hex]; simp), if_neg (by omega)]
  refine ⟨hbe, ?_⟩
  unfold bestC
  rw [if_pos hbe]
  have := best_least ho _ (f (bestTr T)) (allW T') (bestC T) (Nat.le_refl _) (allW_ok T') h0 hs'
  unfold bestC at this
  exact this
def lessT (T : Tb) (i : Nat) : Tb := ⟨T.rows.eraseIdx i, T.costs, T.cls.eraseIdx i⟩
def moreT (T : Tb) (c : Int) (col : Nat → Int) : Tb := ⟨lsF (fun j => rowAt T j ++ [col j]) T.rows.length, T.costs ++ [c], T.cls⟩
def cheapT (T : Tb) (k : Nat) (c : Int) : Tb := ⟨T.rows, T.costs.set k c, T.cls⟩
def twiceT (T : Tb) (i : Nat) : Tb := ⟨T.rows ++ [rowAt T i], T.costs, T.cls ++ [clsAt T i]⟩
def bothT (T : Tb) (k : Nat) : Tb := moreT T (costAt T k) (fun j => ansAt T j k)
theorem less_law {T : Tb} (h : bestErr T = 0) {i : Nat} (hi : i < T.rows.length) (h1 : 1 < T.rows.length) : bestErr (lessT T i) = 0 ∧ bestC (lessT T i) ≤ bestC T := by
  obtain ⟨ho, _, h10⟩ := bestErr_ok h
  have hl : (T.rows.eraseIdx i).length = T.rows.length - 1 := by rw [List.length_eraseIdx, if_pos hi]
  have hl2 : (T.cls.eraseIdx i).length = T.cls.length - 1 := by rw [List.length_eraseIdx, if_pos (by have := ho.kl; omega)]
  have hkl := ho.kl; have hr64 := ho.r64
  refine best_mono h ⟨by show (T.rows.eraseIdx i).length ≤ 64; omega, ho.c64, by show 1 ≤ (T.rows.eraseIdx i).length; omega, by show (T.cls.eraseIdx i).length = (T.rows.eraseIdx i).length; omega, fun r hr => ho.rl r (List.mem_of_mem_eraseIdx hr), ho.cb, fun c hc => ho.kb c (List.mem_of_mem_eraseIdx hc)⟩ (by show (T.rows.eraseIdx i).length ≤ 10; omega) id fun j hj => ?_
  have hj' : j < (T.rows.eraseIdx i).length := hj
  have hr : ∀ (j : Nat), rowAt (lessT T i) j = rowAt T (if j < i then j else j + 1) := fun j => by
    unfold rowAt lessT
    simp only [List.getElem?_eraseIdx]
    split <;> rfl
  have hc : ∀ (j : Nat), clsAt (lessT T i) j = clsAt T (if j < i then j else j + 1) := fun j => by
    unfold clsAt lessT
    simp only [List.getElem?_eraseIdx]
    split <;> rfl
  refine ⟨if j < i then j else j + 1, by split <;> omega, hc j, fun t c s hw => ?_⟩
  rw [hr j]
  exact Wc.costs (T := T) (T' := lessT T i) (fun k => Int.le_refl (costAt T k)) hw
theorem lsF_at {f : Nat → List Int} {n j : Nat} (h : j < n) : (lsF f n)[j]? = some (f j) := by unfold lsF; simp [h]
theorem more_law {T : Tb} (h : bestErr T = 0) {x : Int} (hx : 1 ≤ x ∧ x ≤ 1024) (col : Nat → Int) (h63 : T.costs.length ≤ 63) : bestErr (moreT T x col) = 0 ∧ bestC (moreT T x col) ≤ bestC T := by
  obtain ⟨ho, _, h10⟩ := bestErr_ok h
  have hl : (moreT T x col).rows.length = T.rows.length := lsF_len _ _
  have hcl : (moreT T x col).costs.length = T.costs.length + 1 := by show (T.costs ++ [x]).length = _; simp
  have hrow : ∀ j, j < T.rows.length → rowAt (moreT T x col) j = rowAt T j ++ [col j] := fun j hj => rowAt_of (lsF_at hj)
  refine best_mono h ⟨by have := ho.r64; omega, by omega, by have := ho.r1; omega, by rw [hl]; exact ho.kl, fun r hr => ?_, fun c hc => ?_, ho.kb⟩ (by omega) id fun j hj => ?_
  · obtain ⟨j, hj⟩ := List.getElem?_of_mem hr
    have hjl := (List.getElem?_eq_some_iff.1 hj).1
    rw [hl] at hjl
    have := hrow j hjl
    rw [rowAt_of hj] at this
    obtain ⟨r0, hr0⟩ := elem_at hjl
    rw [this, rowAt_of hr0, hcl, List.length_append, ho.rl r0 (List.mem_of_getElem? hr0)]; rfl
  · rcases List.mem_append.1 (show c ∈ T.costs ++ [x] from hc) with h9 | h9
    · exact ho.cb c h9
    · rw [List.mem_singleton.1 h9]; exact hx
  · have hj' : j < T.rows.length := by omega
    refine ⟨j, hj', rfl, fun t c s hw => ⟨s, ?_, Int.le_refl _⟩⟩
    rw [hrow j hj']
    obtain ⟨r0, hr0⟩ := elem_at hj'
    refine hw.col (by rw [rowAt_of hr0]; exact ho.rl r0 (List.mem_of_getElem? hr0)) fun k hk => ?_
    unfold costAt
    show (T.costs ++ [x])[k]?.getD 0 = _
    rw [List.getElem?_append_left hk]
theorem cheap_law {T : Tb} (h : bestErr T = 0) {k : Nat} {x : Int} (hx : 1 ≤ x ∧ x ≤ 1024) (hk : k < T.costs.length) (hle : x ≤ costAt T k) : bestErr (cheapT T k x) = 0 ∧ bestC (cheapT T k x) ≤ bestC T := by
  obtain ⟨ho, _, h10⟩ := bestErr_ok h
  have hcl : (T.costs.set k x).length = T.costs.length := List.length_set ..
  refine best_mono h ⟨ho.r64, by show (T.costs.set k x).length ≤ 64; rw [hcl]; exact ho.c64, ho.r1, ho.kl, fun r hr => by show r.length = (T.costs.set k x).length; rw [hcl]; exact ho.rl r hr, fun c hc => ?_, ho.kb⟩ h10 id fun j hj => ⟨j, hj, rfl, fun t c s hw => hw.costs fun q => ?_⟩
  · rcases List.mem_or_eq_of_mem_set (show c ∈ T.costs.set k x from hc) with h9 | h9
    · exact ho.cb c h9
    · rw [h9]; exact hx
  · unfold costAt
    show (T.costs.set k x)[q]?.getD 0 ≤ _
    by_cases e : k = q
    · subst e
      rw [List.getElem?_set_self hk]; exact hle
    · rw [List.getElem?_set_ne e]; exact Int.le_refl _
theorem twice_row {T : Tb} (i : Nat) {j : Nat} (hj : j < T.rows.length) : rowAt (twiceT T i) j = rowAt T j := by
  unfold rowAt
  show (T.rows ++ [_])[j]?.getD [] = _
  rw [List.getElem?_append_left hj]
theorem twice_cls {T : Tb} (ho : OkT T) (i : Nat) {j : Nat} (hj : j < T.rows.length) : clsAt (twiceT T i) j = clsAt T j := by
  unfold clsAt
  show (T.cls ++ [_])[j]?.getD 0 = _
  rw [List.getElem?_append_left (by rw [ho.kl]; exact hj)]
theorem twice_law {T : Tb} (h : bestErr T = 0) {i : Nat} (hi : i < T.rows.length) (h9 : T.rows.length ≤ 9) : bestErr (twiceT T i) = 0 ∧ bestC (twiceT T i) = bestC T := by
  obtain ⟨ho, _, h10⟩ := bestErr_ok h
  have hl : (twiceT T i).rows.length = T.rows.length + 1 := by show (T.rows ++ [_]).length = _; simp
  obtain ⟨r0, hr0⟩ := elem_at hi
  obtain ⟨c0, hc0⟩ := elem_at (show i < T.cls.length by rw [ho.kl]; exact hi)
  have ho' : OkT (twiceT T i) := by
    refine ⟨by omega, ho.c64, by omega, ?_, fun r hr => ?_, ho.cb, fun c hc => ?_⟩
    · show (T.cls ++ [_]).length = (T.rows ++ [_]).length
      rw [List.length_append, List.length_append, ho.kl]; rfl
    · rcases List.mem_append.1 (show r ∈ T.rows ++ [rowAt T i] from hr) with h8 | h8
      · exact ho.rl r h8
      · rw [List.mem_singleton.1 h8, rowAt_of hr0]; exact ho.rl r0 (List.mem_of_getElem? hr0)
    · rcases List.mem_append.1 (show c ∈ T.cls ++ [clsAt T i] from hc) with h8 | h8
      · exact ho.kb c h8
      · rw [List.mem_singleton.1 h8, clsAt_of hc0]; exact ho.kb c0 (List.mem_of_getElem? hc0)
  obtain ⟨h1, h2⟩ := best_mono (T' := twiceT T i) h ho' (by omega) id fun j hj => by
    by_cases hlt : j < T.rows.length
    · exact ⟨j, hlt, twice_cls ho i hlt, fun t c s hw => by rw [twice_row i hlt]; exact Wc.costs (T := T) (T' := twiceT T i) (fun k => Int.le_refl (costAt T k)) hw⟩
    · have e : j = T.rows.length := by omega
      refine ⟨i, hi, ?_, fun t c s hw => ?_⟩
      · unfold clsAt
        show (T.cls ++ [clsAt T i])[j]?.getD 0 = _
        rw [e, ← ho.kl, get_last]; rfl
      · have : rowAt (twiceT T i) j = rowAt T i := by
          unfold rowAt
          show (T.rows ++ [rowAt T i])[j]?.getD [] = _
          rw [e, get_last]; rfl
        rw [this]; exact Wc.costs (T := T) (T' := twiceT T i) (fun k => Int.le_refl (costAt T k)) hw
  obtain ⟨_, h3⟩ := best_mono (T' := T) h1 ho h10 id fun j hj => ⟨j, by omega, (twice_cls ho i hj).symm, fun t c s hw => by rw [twice_row i hj] at hw; exact Wc.costs (T := twiceT T i) (T' := T) (fun k => Int.le_refl (costAt T k)) hw⟩
  exact ⟨h1, by omega⟩
theorem both_law {T : Tb} (h : bestErr T = 0) {k : Nat} (hk : k < T.costs.length) (h63 : T.costs.length ≤ 63) : bestErr (bothT T k) = 0 ∧ bestC (bothT T k) = bestC T := by
  obtain ⟨ho, _, h10⟩ := bestErr_ok h
  obtain ⟨c0, hc0⟩ := elem_at hk
  have hb := ho.cb c0 (List.mem_of_getElem? hc0)
  obtain ⟨h1, h2⟩ := more_law h (x := costAt T k) (by rw [costAt_of hc0]; exact hb) (fun j => ansAt T j k) h63
  refine ⟨h1, ?_⟩
  obtain ⟨_, h3⟩ := best_mono (T' := T) h1 ho h10 (mapQ T.costs.length k) fun j hj => by
    refine ⟨j, by show j < (lsF _ _).length; rw [lsF_len]; exact hj, rfl, fun t c s hw => ⟨s, ?_, Int.le_refl _⟩⟩
    rw [show rowAt (moreT T (costAt T k) fun j => ansAt T j k) j = rowAt T j ++ [ansAt T j k] from rowAt_of (lsF_at hj)] at hw
    obtain ⟨r0, hr0⟩ := elem_at hj
    have hrl := ho.rl r0 (List.mem_of_getElem? hr0)
    obtain ⟨y, hy⟩ := elem_at (show k < r0.length by omega)
    have hya : ansAt T j k = y := ansAt_row (by rw [rowAt_of hr0]; exact hy)
    rw [rowAt_of hr0, hya] at hw
    rw [rowAt_of hr0, ← hrl]
    refine Wc.both hy (fun q hq => ?_) ?_ hw
    · unfold costAt
      show (T.costs ++ [_])[q]?.getD 0 = _
      rw [List.getElem?_append_left (by omega)]
    · rw [hrl]
      conv => lhs; unfold costAt
      show (T.costs ++ [costAt T k])[T.costs.length]?.getD 0 = _
      rw [get_last]; rfl
  have : bestC (bothT T k) = bestC (moreT T (costAt T k) fun j => ansAt T j k) := rfl
  omega
end Go.Proofs.Ytmkkegigajmhkaa

namespace Go.Proofs.Ytmkkegigajmhkaa
open Go.RowKit Go.Maps

theorem grp_in (T : Tb) : ∀ (n i : Nat), i < n → ∃ g, g ∈ groupsN T n ∧ (i : Int) ∈ g
  | 0, i, h => by omega
  | n + 1, i, h => by
    rw [groupsN, grpStep]
    by_cases hk : idxOf (grpP T (rowAt T n)) (groupsN T n) < 0
    · simp only [if_pos hk]
      by_cases hi : i < n
      · obtain ⟨g, h1, h2⟩ := grp_in T n i hi
        exact ⟨g, List.mem_append_left _ h1, h2⟩
      · have e : i = n := by omega
        subst e
        exact ⟨[(i : Int)], by simp, by simp⟩
    · simp only [if_neg hk]
      obtain ⟨k, x, e, hx, _, _⟩ := idxOf_pos (show 0 ≤ idxOf (grpP T (rowAt T n)) (groupsN T n) by omega)
      rw [e, Int.toNat_natCast, hx]
      have hkl := (List.getElem?_eq_some_iff.1 hx).1
      by_cases hi : i < n
      · obtain ⟨g, h1, h2⟩ := grp_in T n i hi
        obtain ⟨j, hj⟩ := List.getElem?_of_mem h1
        by_cases hjk : k = j
        · subst hjk
          rw [hx] at hj; cases hj
          exact ⟨_, List.mem_of_getElem? (List.getElem?_set_self hkl), by simp [h2]⟩
        · exact ⟨g, List.mem_of_getElem? (i := j) (by rw [List.getElem?_set_ne hjk]; exact hj), h2⟩
      · have e2 : i = n := by omega
        subst e2
        exact ⟨_, List.mem_of_getElem? (List.getElem?_set_self hkl), by simp⟩
theorem stepIn_at {h : Int} {c : List Int} {x : Int} (y : Nat) : (stepIn h c x)[y]? = if x.toNat = y ∧ y < c.length then some (c[h.toNat]?.getD 0) else c[y]? := by
  unfold stepIn
  by_cases e : x.toNat = y
  · subst e
    by_cases hl : x.toNat < c.length
    · rw [if_pos ⟨rfl, hl⟩, List.getElem?_set_self hl]
    · rw [if_neg (fun h => hl h.2), List.getElem?_eq_none (by simp; omega), List.getElem?_eq_none (by omega)]
  · rw [if_neg (fun h => e h.1), List.getElem?_set_ne e]
theorem foldIn_at {h : Int} : ∀ (g c : List Int), h.toNat < c.length → ∀ y : Nat, (g.foldl (stepIn h) c)[y]? = if (∃ x, x ∈ g ∧ x.toNat = y) ∧ y < c.length then c[h.toNat]? else c[y]?
  | [], c, hl, y => by simp
  | x :: r, c, hl, y => by
    obtain ⟨v, hv⟩ := elem_at hl
    have hh : (stepIn h c x)[h.toNat]? = c[h.toNat]? := by
      rw [stepIn_at]
      split
      · rw [hv]; rfl
      · rfl
    rw [List.foldl_cons, foldIn_at r (stepIn h c x) (by rw [stepIn_len]; exact hl) y, hh, stepIn_len, stepIn_at]
    by_cases h1 : (∃ x, x ∈ r ∧ x.toNat = y) ∧ y < c.length
    · obtain ⟨⟨z, hz, hz2⟩, h2⟩ := h1
      rw [if_pos ⟨⟨z, hz, hz2⟩, h2⟩, if_pos ⟨⟨z, by simp [hz], hz2⟩, h2⟩]
    · rw [if_neg h1]
      by_cases h2 : x.toNat = y ∧ y < c.length
      · rw [if_pos h2, if_pos ⟨⟨x, by simp, h2.1⟩, h2.2⟩, hv]; rfl
      · rw [if_neg h2, if_neg]
        rintro ⟨⟨z, hz, hz2⟩, h3⟩
        rcases List.mem_cons.1 hz with e | e
        · subst e; exact h2 ⟨hz2, h3⟩
        · exact h1 ⟨⟨z, e, hz2⟩, h3⟩
theorem foldG_at (ρ : Nat → List Int) : ∀ (G : List (List Int)) (c : List Int), (∀ g, g ∈ G → g ≠ [] ∧ (∀ x, x ∈ g → ρ x.toNat = ρ (g.headD 0).toNat) ∧ (g.headD 0).toNat < c.length) → (G.Pairwise fun g g' => ρ (g.headD 0).toNat ≠ ρ (g'.headD 0).toNat) →
    (∀ g, g ∈ G → ∀ x, x ∈ g → x.toNat < c.length → (G.foldl plainG c)[x.toNat]? = c[(g.headD 0).toNat]?) ∧ (∀ y : Nat, (∀ g, g ∈ G → ρ (g.headD 0).toNat ≠ ρ y) → (G.foldl plainG c)[y]? = c[y]?)
  | [], c, _, _ => ⟨fun g h => by simp at h, fun y _ => rfl⟩
  | g0 :: r, c, h, hp => by
    rw [List.pairwise_cons] at hp
    obtain ⟨hne, hrow, hlen⟩ := h g0 (by simp)
    have hl : (plainG c g0).length = c.length := plainG_len c g0
    obtain ⟨i1, i2⟩ := foldG_at ρ r (plainG c g0) (fun g hg => by rw [hl]; exact h g (by simp [hg])) hp.2
    have hat : ∀ y : Nat, (plainG c g0)[y]? = if (∃ x, x ∈ g0 ∧ x.toNat = y) ∧ y < c.length then c[(g0.headD 0).toNat]? else c[y]? := fun y => foldIn_at g0 c hlen y
    rw [List.foldl_cons]
    refine ⟨fun g hg x hx hxl => ?_, fun y hy => ?_⟩
    · rcases List.mem_cons.1 hg with e | e
      · subst e
        rw [i2 x.toNat (fun g' hg' e => hp.1 g' hg' (by rw [← hrow x hx]; exact e.symm)), hat, if_pos ⟨⟨x, hx, rfl⟩, hxl⟩]
      · rw [i1 g e x hx (by omega), hat, if_neg]
        rintro ⟨⟨z, hz, hz2⟩, _⟩
        have := hrow z hz
        rw [hz2] at this
        exact hp.1 g e this.symm
    · rw [i2 y (fun g' hg' => hy g' (by simp [hg'])), hat, if_neg]
      rintro ⟨⟨z, hz, hz2⟩, _⟩
      have := hrow z hz
      rw [hz2] at this
      exact hy g0 (by simp) this.symm
/-- what a plain table's classes are -/
theorem plain_cls {T : Tb} (ho : OkT T) : ∀ i, i < T.rows.length → ∃ g, g ∈ groups T ∧ (i : Int) ∈ g ∧ (g.headD 0).toNat < T.rows.length ∧ rowAt T (g.headD 0).toNat = rowAt T i ∧ clsAt (plainT T) i = clsAt T (g.headD 0).toNat := fun i hi => by
  have hG : groups T = groupsN T T.rows.length := by unfold groups; rw [if_pos ((okT_iff T).2 ho)]
  have hok := grpOk_N T T.rows.length
  have hhead : ∀ g, g ∈ groupsN T T.rows.length → g.headD 0 ∈ g := fun g hg => by
    cases g with
    | nil => exact absurd rfl (hok.mem [] hg).1
    | cons a r => simp
  have hprem : ∀ g, g ∈ groupsN T T.rows.length → g ≠ [] ∧ (∀ x, x ∈ g → rowAt T x.toNat = rowAt T (g.headD 0).toNat) ∧ (g.headD 0).toNat < T.cls.length := fun g hg => by
    have h1 := (hok.mem g hg).2 _ (hhead g hg)
    refine ⟨(hok.mem g hg).1, hok.row g hg, ?_⟩
    rw [ho.kl]; omega
  have hpair : (groupsN T T.rows.length).Pairwise fun g g' => rowAt T (g.headD 0).toNat ≠ rowAt T (g'.headD 0).toNat := by
    rw [List.pairwise_iff_getElem]
    intro j k hj hk hjk e
    have := hok.dis j k _ _ (List.getElem?_eq_getElem hj) (List.getElem?_eq_getElem hk) e
    omega
  obtain ⟨g, hg, hig⟩ := grp_in T T.rows.length i hi
  have h1 := (foldG_at (rowAt T) _ T.cls hprem hpair).1 g hg _ hig (by rw [ho.kl]; simpa using hi)
  rw [Int.toNat_natCast] at h1
  have h2 := (hok.mem g hg).2 _ (hhead g hg)
  refine ⟨g, by rw [hG]; exact hg, hig, by omega, ?_, ?_⟩
  · have := hok.row g hg _ hig
    rw [Int.toNat_natCast] at this; exact this.symm
  · unfold clsAt
    show ((groups T).foldl plainG T.cls)[i]?.getD 0 = _
    rw [hG, h1]
theorem plain_ok {T : Tb} (ho : OkT T) : OkT (plainT T) ∧ NoTw (plainT T) := by
  have hl : (plainT T).cls.length = T.cls.length := foldG_len _ _
  refine ⟨⟨ho.r64, ho.c64, ho.r1, by rw [hl]; exact ho.kl, ho.rl, ho.cb, fun c hc => ?_⟩, fun i j hi hj hne hr => ?_⟩
  · obtain ⟨i, hi⟩ := List.getElem?_of_mem hc
    have hil := (List.getElem?_eq_some_iff.1 hi).1
    obtain ⟨g, _, _, h1, _, h2⟩ := plain_cls ho i (by rw [hl, ho.kl] at hil; exact hil)
    rw [clsAt_of hi] at h2
    obtain ⟨c0, hc0⟩ := elem_at (show (g.headD 0).toNat < T.cls.length by rw [ho.kl]; exact h1)
    rw [h2, clsAt_of hc0]
    exact ho.kb c0 (List.mem_of_getElem? hc0)
  · obtain ⟨g, hg, _, _, r1, c1⟩ := plain_cls ho i hi
    obtain ⟨g', hg', _, _, r2, c2⟩ := plain_cls ho j hj
    have hG : groups T = groupsN T T.rows.length := by unfold groups; rw [if_pos ((okT_iff T).2 ho)]
    rw [hG] at hg hg'
    obtain ⟨a, ha⟩ := List.getElem?_of_mem hg
    obtain ⟨b, hb⟩ := List.getElem?_of_mem hg'
    have hr' : rowAt T i = rowAt T j := hr
    have := (grpOk_N T T.rows.length).dis a b g g' ha hb (by rw [r1, r2, hr'])
    subst this
    rw [ha] at hb; cases hb
    exact hne (by rw [c1, c2])
end Go.Proofs.Ytmkkegigajmhkaa

namespace Go.Proofs.Ytmkkegigajmhkaa
open Go.RowKit Go.Maps

/-- the tables' variables (bs), their rows' slices (os), all rows, costs, classes (vs) -/
structure HP (N : Nat) (w0 W : World) (bs : List (Nat × Array Value)) (os : List (Value × List Value)) (vs : List Value) (rows : List (List Int)) : Prop where
  bel : Below N w0 W
  sz : N ≤ W.heap.size
  box : ∀ (k b : Nat) (cs : Array Value), bs[k]? = some (b, cs) → N ≤ b ∧ Boxs W b 25 cs
  bne : ∀ (j k b : Nat) (cs cs' : Array Value), bs[j]? = some (b, cs) → bs[k]? = some (b, cs') → j = k
  out : ∀ (k : Nat) (v : Value) (us : List Value), os[k]? = some (v, us) → W.ownsRow N 22 1 v us.length us
  od : ∀ (j k : Nat) (v : Value) (us : List Value) (v' : Value) (us' : List Value) (g : Nat), os[j]? = some (v, us) → os[k]? = some (v', us') → v.ownBlock = some g → v'.ownBlock = some g → j = k
  rs : OwnRs N W vs rows
section
variable {N : Nat} {w0 W W' : World} {bs : List (Nat × Array Value)} {os : List (Value × List Value)} {vs : List Value} {rows : List (List Int)}
theorem HP.start (hN : N ≤ w0.heap.size) : HP N w0 w0 [] [] [] [] :=
  ⟨Below.refl _ _, hN, fun k b cs h => by simp at h, fun j k b cs cs' h => by simp at h, fun k v us h => by simp at h, fun j k v us v' us' g h => by simp at h, ⟨rfl, fun k u r h => by simp at h, fun j k u u' b h => by simp at h⟩⟩
theorem HP.under (h : HP N w0 W bs os vs rows) (hb : Below W.heap.size W W') : HP N w0 W' bs os vs rows :=
  ⟨h.bel.trans (hb.mono h.sz), Nat.le_trans h.sz hb.size, fun k b cs e => ⟨(h.box k b cs e).1, Boxs.below (h.box k b cs e).2 hb⟩, h.bne, fun k v us e => owns_below (h.out k v us e) hb, h.od, h.rs.below hb⟩
theorem HP.cell (h : HP N w0 W bs os vs rows) {k b : Nat} {cs : Array Value} (e : bs[k]? = some (b, cs)) (j : Nat) : W.cell? ⟨b, j, none⟩ = cs[j]? := (h.box k b cs e).2.cell j
theorem HP.frozen (h : HP N w0 W bs os vs rows) {k b : Nat} {cs : Array Value} (e : bs[k]? = some (b, cs)) (j : Nat) : W.frozen? ⟨b, j, none⟩ = false := (h.box k b cs e).2.frozen j
theorem HP.lt (h : HP N w0 W bs os vs rows) {k b : Nat} {cs : Array Value} (e : bs[k]? = some (b, cs)) : b < W.heap.size := (h.box k b cs e).2.lt
/-- one table more -/
theorem HP.table {va vc vk : Value} {us : List Value} {T : Tb} (h : HP N w0 W bs os vs rows) (hb : Below W.heap.size W W') (ho : OwnT W.heap.size W' va vc vk us T) :
    HP N w0 (W'.alloc (.cells #[va, vc, vk] 25)) (bs ++ [(W'.heap.size, #[va, vc, vk])]) (os ++ [(va, us)]) (vs ++ (vc :: vk :: us)) (rows ++ (T.costs :: T.cls :: T.rows)) := by
  have hal := alloc_below W' (.cells #[va, vc, vk] 25)
  have hba := hb.trans (hal.mono hb.size)
  have h2 := h.under hba
  have ho2 := ho.below hal
  have hul : us.length = T.rows.length := by have := ho.out.1; omega
  have hbs := hb.size
  refine ⟨h2.bel, h2.sz, fun k b cs e => ?_, fun j k b cs cs' e1 e2 => ?_, fun k v u e => ?_, fun j k v u v' u' g e1 e2 g1 g2 => ?_, ?_⟩
  · by_cases hk : k < bs.length
    · rw [List.getElem?_append_left hk] at e; exact h2.box k b cs e
    · have e0 : k = bs.length := by have := (List.getElem?_eq_some_iff.1 e).1; simp at this; omega
      subst e0; rw [get_last] at e; cases e
      exact ⟨Nat.le_trans h.sz hbs, Boxs.new _ _ _⟩
  · have lt : ∀ (k b : Nat) (cs : Array Value), k < bs.length → (bs ++ [(W'.heap.size, #[va, vc, vk])])[k]? = some (b, cs) → b < W'.heap.size := fun k b cs hk e => by
      rw [List.getElem?_append_left hk] at e
      have := h.lt e; omega
    by_cases hj : j < bs.length
    · by_cases hk : k < bs.length
      · rw [List.getElem?_append_left hj] at e1; rw [List.getElem?_append_left hk] at e2
        exact h.bne j k b cs cs' e1 e2
      · have e0 : k = bs.length := by have := (List.getElem?_eq_some_iff.1 e2).1; simp at this; omega
        have := lt j b cs hj e1
        subst e0; rw [get_last] at e2; cases e2; omega
    · have e0 : j = bs.length := by have := (List.getElem?_eq_some_iff.1 e1).1; simp at this; omega
      by_cases hk : k < bs.length
      · have := lt k b cs' hk e2
        subst e0; rw [get_last] at e1; cases e1; omega
      · have e9 : k = bs.length := by have := (List.getElem?_eq_some_iff.1 e2).1; simp at this; omega
        omega
  · by_cases hk : k < os.length
    · rw [List.getElem?_append_left hk] at e; exact h2.out k v u e
    · have e0 : k = os.length := by have := (List.getElem?_eq_some_iff.1 e).1; simp at this; omega
      subst e0; rw [get_last] at e; cases e
      have := owns_lower ho2.out h.sz
      rw [← hul] at this; exact this
  · have lt : ∀ (k : Nat) (v : Value) (u : List Value) (g : Nat), k < os.length → (os ++ [(va, us)])[k]? = some (v, u) → v.ownBlock = some g → g < W.heap.size := fun k v u g hk e hg => by
      rw [List.getElem?_append_left hk] at e
      exact ((h.out k v u e).lt g hg).2
    have ge : ∀ g, va.ownBlock = some g → W.heap.size ≤ g := fun g hg => (ho.out.lt g hg).1
    by_cases hj : j < os.length
    · by_cases hk : k < os.length
      · rw [List.getElem?_append_left hj] at e1; rw [List.getElem?_append_left hk] at e2
        exact h.od j k v u v' u' g e1 e2 g1 g2
      · have e0 : k = os.length := by have := (List.getElem?_eq_some_iff.1 e2).1; simp at this; omega
        have h7 := lt j v u g hj e1 g1
        subst e0; rw [get_last] at e2; cases e2
        have := ge g g2; omega
    · have e0 : j = os.length := by have := (List.getElem?_eq_some_iff.1 e1).1; simp at this; omega
      by_cases hk : k < os.length
      · have h7 := lt k v' u' g hk e2 g2
        subst e0; rw [get_last] at e1; cases e1
        have := ge g g1; omega
      · have e9 : k = os.length := by have := (List.getElem?_eq_some_iff.1 e2).1; simp at this; omega
        omega
  · have hl := h.rs.len
    have hl2 := ho.rs.len
    refine ⟨by rw [List.length_append, List.length_append, hl, hl2], fun k u r e1 e2 => ?_, fun j k u u' b e1 e2 g1 g2 => ?_⟩
    · by_cases hk : k < vs.length
      · rw [List.getElem?_append_left hk] at e1; rw [List.getElem?_append_left (by omega)] at e2
        exact h2.rs.inn k u r e1 e2
      · rw [List.getElem?_append_right (by omega)] at e1 e2
        rw [hl] at e1
        exact owns_lower (ho2.rs.inn _ u r e1 e2) h.sz
    · have lt : ∀ (k : Nat) (u : Value) (b : Nat), k < vs.length → (vs ++ (vc :: vk :: us))[k]? = some u → u.ownBlock = some b → b < W.heap.size := fun k u b hk e hg => by
        rw [List.getElem?_append_left hk] at e
        obtain ⟨r, hr⟩ := elem_at (show k < rows.length by omega)
        exact ((h.rs.inn k u r e hr).lt b hg).2
      have ge : ∀ (k : Nat) (u : Value) (b : Nat), ¬ k < vs.length → (vs ++ (vc :: vk :: us))[k]? = some u → u.ownBlock = some b → W.heap.size ≤ b := fun k u b hk e hg => by
        rw [List.getElem?_append_right (by omega)] at e
        obtain ⟨r, hr⟩ := elem_at (show k - vs.length < (T.costs :: T.cls :: T.rows).length by rw [← hl2]; exact (List.getElem?_eq_some_iff.1 e).1)
        exact ((ho.rs.inn _ u r e hr).lt b hg).1
      by_cases hj : j < vs.length
      · by_cases hk : k < vs.length
        · rw [List.getElem?_append_left hj] at e1; rw [List.getElem?_append_left hk] at e2
          exact h.rs.dis j k u u' b e1 e2 g1 g2
        · have := lt j u b hj e1 g1; have := ge k u' b hk e2 g2; omega
      · by_cases hk : k < vs.length
        · have := lt k u' b hk e2 g2; have := ge j u b hj e1 g1; omega
        · rw [List.getElem?_append_right (by omega)] at e1 e2
          have := ho.rs.dis _ _ u u' b e1 e2 g1 g2
          omega
/-- more numbers in a row -/
theorem HP.appRow (h : HP N w0 W bs os vs rows) {k : Nat} {u u0 v' : Value} {m : Nat} {xs : List Value} {zs : List Int} (hu : vs[k]? = some u) (h0 : W.ownsRow N 3 1 u0 m xs) (e0 : u0.ownBlock = u.ownBlock) (ha : AppOut N 3 W u0 zs.length (ints zs) v' W') :
    HP N w0 W' bs os (vs.set k v') (rows.set k zs) :=
  ⟨ha.below h.bel h0 (Nat.le_refl _) h.sz, Nat.le_trans h.sz ha.size, fun k b cs e => ⟨(h.box k b cs e).1, Boxs.app (h.box k b cs e).2 h0 ha (by decide)⟩, h.bne, fun k v us e => owns_app (h.out k v us e) h0 ha (by decide), h.od,
    h.rs.set hu ha.1 (by have := ha.2.1; rwa [e0] at this) (by rw [← e0]; exact ha.2.2) (Nat.le_refl _)⟩
/-- a table's slice of rows becomes another one -/
theorem HP.appOut (h : HP N w0 W bs os vs rows) {k : Nat} {v v0 v' : Value} {us us' : List Value} {m : Nat} {xs : List Value} (hk : os[k]? = some (v, us)) (h0 : W.ownsRow N 22 1 v0 m xs) (e0 : v0.ownBlock = v.ownBlock) (ha : AppOut N 22 W v0 us'.length us' v' W') :
    HP N w0 W' bs (os.set k (v', us')) vs rows := by
  have hkl := (List.getElem?_eq_some_iff.1 hk).1
  have hnew : ∀ g, v'.ownBlock = some g → v.ownBlock = some g ∨ W.heap.size ≤ g := fun g hg => by
    rcases ha.2.2 with h2 | h2
    · left; rw [← e0, ← h2]; exact hg
    · right; rw [h2] at hg; cases hg; exact Nat.le_refl _
  have hold : ∀ (j : Nat) (v1 : Value) (us1 : List Value) (g : Nat), os[j]? = some (v1, us1) → v1.ownBlock = some g → g < W.heap.size := fun j v1 us1 g e hg => ((h.out j v1 us1 e).lt g hg).2
  refine ⟨ha.below h.bel h0 (Nat.le_refl _) h.sz, Nat.le_trans h.sz ha.size, fun k b cs e => ⟨(h.box k b cs e).1, Boxs.app (h.box k b cs e).2 h0 ha (by decide)⟩, h.bne, fun j v1 us1 e => ?_, fun i j v1 us1 v2 us2 g e1 e2 g1 g2 => ?_, h.rs.appO h0 ha (by decide)⟩
  · by_cases hj : k = j
    · subst hj; rw [List.getElem?_set_self hkl] at e; cases e; exact ha.1
    · rw [List.getElem?_set_ne hj] at e
      refine owns_grown (h.out j v1 us1 e) ha.2.1 fun g hg e9 => ?_
      rw [e0] at e9
      exact hj (h.od k j v us v1 us1 g hk e e9 hg)
  · by_cases hi : k = i
    · by_cases hj : k = j
      · omega
      · subst hi
        rw [List.getElem?_set_self hkl] at e1; cases e1
        rw [List.getElem?_set_ne hj] at e2
        rcases hnew g g1 with h9 | h9
        · exact h.od k j v us v2 us2 g hk e2 h9 g2
        · have := hold j v2 us2 g e2 g2; omega
    · rw [List.getElem?_set_ne hi] at e1
      by_cases hj : k = j
      · subst hj
        rw [List.getElem?_set_self hkl] at e2; cases e2
        rcases hnew g g2 with h9 | h9
        · exact h.od i k v1 us1 v us g e1 hk g1 h9
        · have := hold i v1 us1 g e1 g1; omega
      · rw [List.getElem?_set_ne hj] at e2
        exact h.od i j v1 us1 v2 us2 g e1 e2 g1 g2
/-- a field of a table's variable is set -/
theorem HP.putBox (h : HP N w0 W bs os vs rows) {k b : Nat} {cs : Array Value} (hk : bs[k]? = some (b, cs)) (j : Nat) (x : Value) : HP N w0 (W.setCell ⟨b, j, none⟩ x) (bs.set k (b, cs.setIfInBounds j x)) os vs rows := by
  have hkl := (List.getElem?_eq_some_iff.1 hk).1
  obtain ⟨hb, hbx⟩ := h.box k b cs hk
  refine ⟨h.bel.setCell (p := ⟨b, j, none⟩) hb x, by simpa using h.sz, fun i b1 cs1 e => ?_, fun i i' b1 cs1 cs2 e1 e2 => ?_, fun i v us e => owns_boxset (h.out i v us e) hbx (by decide) x, h.od, h.rs.boxset hbx (by decide) x⟩
  · by_cases hi : k = i
    · subst hi; rw [List.getElem?_set_self hkl] at e; cases e; exact ⟨hb, hbx.put j x⟩
    · rw [List.getElem?_set_ne hi] at e
      have h1 := h.box i b1 cs1 e
      exact ⟨h1.1, h1.2.setOther (fun e9 => hi (by subst e9; exact h.bne k i b1 cs cs1 hk e)) x⟩
  · have old : ∀ (i b1 : Nat) (cs1 : Array Value), (bs.set k (b, cs.setIfInBounds j x))[i]? = some (b1, cs1) → ∃ cs0, bs[i]? = some (b1, cs0) := fun i b1 cs1 e => by
      by_cases hi : k = i
      · subst hi; rw [List.getElem?_set_self hkl] at e; cases e; exact ⟨cs, hk⟩
      · rw [List.getElem?_set_ne hi] at e; exact ⟨cs1, e⟩
    obtain ⟨c1, q1⟩ := old i b1 cs1 e1
    obtain ⟨c2, q2⟩ := old i' b1 cs2 e2
    exact h.bne i i' b1 c1 c2 q1 q2
/-- a row's header is set -/
theorem HP.putOut (h : HP N w0 W bs os vs rows) {k g n c : Nat} {us : List Value} (hk : os[k]? = some (.slice (some ⟨g, 0, none⟩) n c, us)) (j : Nat) (x : Value) : HP N w0 (W.setCell ⟨g, j, none⟩ x) bs (os.set k (.slice (some ⟨g, 0, none⟩) n c, us.set j x)) vs rows := by
  have hkl := (List.getElem?_eq_some_iff.1 hk).1
  have ho := h.out k _ us hk
  have hn : n = us.length := by
    obtain ⟨a, c', e⟩ := owns_form ho
    simp only [Value.slice.injEq] at e
    exact e.2.1
  subst hn
  clear hkl
  have hkl := (List.getElem?_eq_some_iff.1 hk).1
  refine ⟨h.bel.setCell (p := ⟨g, j, none⟩) ((ho.lt g rfl).1) x, by simpa using h.sz, fun i b1 cs1 e => ⟨(h.box i b1 cs1 e).1, (h.box i b1 cs1 e).2.setOther (fun e9 => (h.box i b1 cs1 e).2.not_own ho (by decide) (by rw [e9]; rfl)) x⟩, h.bne, fun i v1 us1 e => ?_, fun i i' v1 us1 v2 us2 g1 e1 e2 q1 q2 => ?_, ⟨h.rs.len, fun i u r e1 e2 => ownsRow_setCell_other (a := ⟨g, j, none⟩) (h.rs.inn i u r e1 e2) (fun e9 => owns_type (h.rs.inn i u r e1 e2) ho (by decide) e9 rfl) x, h.rs.dis⟩⟩
  · by_cases hi : k = i
    · subst hi; rw [List.getElem?_set_self hkl] at e; cases e
      have := (ho.stored j x).1
      rwa [List.length_set]
    · rw [List.getElem?_set_ne hi] at e
      exact ownsRow_setCell_other (a := ⟨g, j, none⟩) (h.out i v1 us1 e) (fun e9 => hi (h.od k i _ us v1 us1 g hk e rfl e9)) x
  · have old : ∀ (i : Nat) (v1 : Value) (us1 : List Value), (os.set k (.slice (some ⟨g, 0, none⟩) us.length c, us.set j x))[i]? = some (v1, us1) → ∃ us0, os[i]? = some (v1, us0) := fun i v1 us1 e => by
      by_cases hi : k = i
      · subst hi; rw [List.getElem?_set_self hkl] at e; cases e; exact ⟨us, hk⟩
      · rw [List.getElem?_set_ne hi] at e; exact ⟨us1, e⟩
    obtain ⟨c1, r1⟩ := old i v1 us1 e1
    obtain ⟨c2, r2⟩ := old i' v2 us2 e2
    exact h.od i i' v1 c1 v2 c2 g1 r1 r2 q1 q2
/-- a number of a row is set -/
theorem HP.putRow (h : HP N w0 W bs os vs rows) {k g n c : Nat} {r : List Int} (hk : vs[k]? = some (.slice (some ⟨g, 0, none⟩) n c)) (hr : rows[k]? = some r) (j : Nat) (x : Int) : HP N w0 (W.setCell ⟨g, j, none⟩ (.int .i64 x)) bs os vs (rows.set k (r.set j x)) := by
  have ho := h.rs.inn k _ r hk hr
  exact ⟨h.bel.setCell (p := ⟨g, j, none⟩) ((ho.lt g rfl).1) _, by simpa using h.sz, fun i b1 cs1 e => ⟨(h.box i b1 cs1 e).1, (h.box i b1 cs1 e).2.setOther (fun e9 => (h.box i b1 cs1 e).2.not_own ho (by decide) (by rw [e9]; rfl)) _⟩, h.bne,
    fun i v1 us1 e => ownsRow_setCell_other (a := ⟨g, j, none⟩) (h.out i v1 us1 e) (fun e9 => owns_type (h.out i v1 us1 e) ho (by decide) e9 rfl) _, h.od, h.rs.put hk hr x⟩
/-- a table of these as it reads -/
theorem HP.tb (h : HP N w0 W bs os vs rows) {k i j : Nat} {va vc vk : Value} {us : List Value} {T : Tb} (hk : os[k]? = some (va, us)) (hi : vs[i]? = some vc) (hi' : rows[i]? = some T.costs) (hj : vs[j]? = some vk) (hj' : rows[j]? = some T.cls) (hl : us.length = T.rows.length)
    (hr : ∀ (q : Nat) (u : Value) (r : List Int), us[q]? = some u → T.rows[q]? = some r → RdI W u r) : TbR W va vc vk T :=
  ⟨⟨us, Rd_of_owns (h.out k va us hk), hl, hr⟩, owns_ints (h.rs.inn i vc _ hi hi'), owns_ints (h.rs.inn j vk _ hj hj')⟩
theorem HP.row (h : HP N w0 W bs os vs rows) {i : Nat} {u : Value} {r : List Int} (hi : vs[i]? = some u) (hi' : rows[i]? = some r) : W.ownsRow N 3 1 u r.length (ints r) := h.rs.inn i u r hi hi'
end
end Go.Proofs.Ytmkkegigajmhkaa

namespace Go.Proofs.Ytmkkegigajmhkaa
open Go.RowKit Go.Maps

theorem Rd.dropA {W : World} {b off n c k : Nat} {xs : List Value} (h : Rd W (.slice (some ⟨b, off, Option.none⟩) n c) xs) (hk : k ≤ n) : Rd W (.slice (if c = k then some ⟨b, off, Option.none⟩ else some ⟨b, off + k, Option.none⟩) (n - k) (c - k)) (xs.drop k) := by
  obtain ⟨a', c', e, h3, h4, h5⟩ := h
  cases e
  refine ⟨_, c - k, by rw [List.length_drop], by rw [List.length_drop]; omega, by omega, ?_⟩
  rcases h5 with h5 | ⟨b', off', h5, h6, h7⟩
  · left; rw [List.length_drop]; omega
  · cases h5
    split
    · left; rw [List.length_drop]; omega
    · right
      refine ⟨b, off + k, rfl, h6, fun j u hu => ?_⟩
      rw [Nat.add_assoc]
      exact h7 (k + j) u (by rwa [List.getElem?_drop] at hu)
theorem owns_take {W : World} {N : Nat} {e : TypeId} {a : Option Addr} {n c : Nat} {xs : List Value} (h : W.ownsRow N e 1 (.slice a n c) n xs) (k : Nat) (hk : k ≤ n) (ha : a ≠ none) : W.ownsRow N e 1 (.slice a k c) k (xs.take k) := by
  have hl := h.1
  rcases h.2 with ⟨h', _⟩ | ⟨g', cap', cur, h', hb, hg, hnc, hcm, hcs, ht⟩
  · simp only [Value.slice.injEq] at h'; exact absurd h'.1 ha
  · simp only [Value.slice.injEq, true_and] at h'
    obtain ⟨rfl, rfl⟩ := h'
    refine ⟨by rw [List.length_take, hl]; omega, .inr ⟨g', c, cur, rfl, hb, hg, by omega, hcm, hcs, ?_⟩⟩
    rw [← ht, List.take_take, Nat.min_eq_left (by omega), Nat.mul_one]
theorem madeT_rows (l : List Int) : (madeT l).rows.length ≤ 7 := by
  have := nW_bd l
  unfold madeT
  rw [lsF_len]; omega
theorem madeT_costs (l : List Int) : (madeT l).costs.length ≤ 5 := by
  have := nA_bd l
  unfold madeT
  rw [lsF_len]; exact this
theorem best_plain {T : Tb} (ho : OkT T) (hn : NoTw T) (h10 : T.rows.length ≤ 10) : bestErr T = 0 := by
  have hex : exE T = 0 := by
    unfold exE
    rw [if_neg (by simpa using (okT_iff T).2 ho)]
    cases ht : hasTw T with
    | false => rfl
    | true =>
      exfalso
      unfold hasTw at ht
      rw [List.any_eq_true] at ht
      obtain ⟨a, ha, ht⟩ := ht
      rw [List.any_eq_true] at ht
      obtain ⟨b, hb, ht⟩ := ht
      unfold twB at ht
      simp only [Bool.and_eq_true, decide_eq_true_eq, bne_iff_ne] at ht
      exact hn a b (by simpa using ha) (by simpa using hb) ht.2.1 ht.2.2
  unfold bestErr
  rw [if_neg (by rw [hex]; simp), if_neg (by omega)]
end Go.Proofs.Ytmkkegigajmhkaa

namespace Go.Proofs.Ytmkkegigajmhkaa
open Go.RowKit Go.Maps

theorem fm_len {α β : Type} {f : α → List β} {m : Nat} : ∀ (ts : List α), (∀ t ∈ ts, (f t).length = m) → (ts.flatMap f).length = ts.length * m
  | [], h => by simp
  | t :: ts, h => by
    rw [List.flatMap_cons, List.length_append, fm_len ts (fun x hx => h x (by simp [hx])), h t (by simp), List.length_cons, Nat.succ_mul]; omega
theorem fm_at {α β : Type} {f : α → List β} {m : Nat} : ∀ (ts : List α) (k j : Nat) (t : α), (∀ t ∈ ts, (f t).length = m) → ts[k]? = some t → j < m → (ts.flatMap f)[k * m + j]? = (f t)[j]?
  | [], k, j, t, h, e, hj => by simp at e
  | x :: ts, 0, j, t, h, e, hj => by
    simp at e; subst e
    rw [List.flatMap_cons, Nat.zero_mul, Nat.zero_add, List.getElem?_append_left (by rw [h x (by simp)]; exact hj)]
  | x :: ts, k + 1, j, t, h, e, hj => by
    have h1 := h x (by simp)
    rw [List.flatMap_cons, List.getElem?_append_right (by rw [h1, Nat.succ_mul]; omega), h1, show (k + 1) * m + j - m = k * m + j by rw [Nat.succ_mul]; omega]
    exact fm_at ts k j t (fun y hy => h y (by simp [hy])) (by simpa using e) hj
theorem fm_set {α β : Type} {f : α → List β} {m : Nat} : ∀ (ts : List α) (k j : Nat) (t t' : α) (x : β), (∀ t ∈ ts, (f t).length = m) → ts[k]? = some t → j < m → f t' = (f t).set j x → (ts.set k t').flatMap f = (ts.flatMap f).set (k * m + j) x
  | [], k, j, t, t', x, h, e, hj, e2 => by simp at e
  | y :: ts, 0, j, t, t', x, h, e, hj, e2 => by
    simp at e; subst e
    rw [List.set_cons_zero, List.flatMap_cons, List.flatMap_cons, Nat.zero_mul, Nat.zero_add, List.set_append_left _ _ (by rw [h y (by simp)]; exact hj), e2]
  | y :: ts, k + 1, j, t, t', x, h, e, hj, e2 => by
    have h1 := h y (by simp)
    rw [List.set_cons_succ, List.flatMap_cons, List.flatMap_cons, List.set_append_right _ _ (by rw [h1, Nat.succ_mul]; omega), h1, show (k + 1) * m + j - m = k * m + j by rw [Nat.succ_mul]; omega, fm_set ts k j t t' x (fun z hz => h z (by simp [hz])) (by simpa using e) hj e2]
theorem fm_same {α β : Type} {f : α → List β} : ∀ (ts : List α) (k : Nat) (t t' : α), ts[k]? = some t → f t' = f t → (ts.set k t').flatMap f = ts.flatMap f
  | [], k, t, t', e, e2 => by simp at e
  | y :: ts, 0, t, t', e, e2 => by simp at e; subst e; rw [List.set_cons_zero, List.flatMap_cons, List.flatMap_cons, e2]
  | y :: ts, k + 1, t, t', e, e2 => by rw [List.set_cons_succ, List.flatMap_cons, List.flatMap_cons, fm_same ts k t t' (by simpa using e) e2]
theorem map_same {α β : Type} {f : α → β} {ts : List α} {k : Nat} {t t' : α} (e : ts[k]? = some t) (e2 : f t' = f t) : (ts.set k t').map f = ts.map f := by
  rw [List.map_set]
  refine List.ext_getElem? fun i => ?_
  by_cases hi : k = i
  · subst hi
    have hl := (List.getElem?_eq_some_iff.1 e).1
    rw [List.getElem?_set_self (by simpa using hl), List.getElem?_map, e, e2]; rfl
  · rw [List.getElem?_set_ne hi]

/-- a table: its variable's block, its slices, its rows' slices (own and other ones), its rows, costs, classes -/
structure Tv where
  b : Nat
  va : Value
  vc : Value
  vk : Value
  us : List Value
  ex : List Value
  rows : List (List Int)
  costs : List Int
  cls : List Int
def Tv.bx (t : Tv) : Nat × Array Value := (t.b, #[t.va, t.vc, t.vk])
def Tv.ou (t : Tv) : Value × List Value := (t.va, t.us ++ t.ex)
def Tv.vl (t : Tv) : List Value := t.vc :: t.vk :: t.us
def Tv.rl (t : Tv) : List (List Int) := t.costs :: t.cls :: t.rows
structure HQ (N : Nat) (w0 W : World) (R : Nat) (ts : List Tv) : Prop where
  hp : HP N w0 W (ts.map Tv.bx) (ts.map Tv.ou) (ts.flatMap Tv.vl) (ts.flatMap Tv.rl)
  ul : ∀ t ∈ ts, t.us.length = R
  rl : ∀ t ∈ ts, t.rows.length = R
section
variable {N : Nat} {w0 W W' : World} {R : Nat} {ts : List Tv} {k : Nat} {t : Tv}
theorem HQ.vll (h : HQ N w0 W R ts) : ∀ t ∈ ts, t.vl.length = R + 2 := fun t ht => by unfold Tv.vl; simp [h.ul t ht]
theorem HQ.rll (h : HQ N w0 W R ts) : ∀ t ∈ ts, t.rl.length = R + 2 := fun t ht => by unfold Tv.rl; simp [h.rl t ht]
theorem HQ.start (hN : N ≤ w0.heap.size) : HQ N w0 w0 R [] := ⟨HP.start hN, fun t h => by simp at h, fun t h => by simp at h⟩
theorem HQ.under (h : HQ N w0 W R ts) (hb : Below W.heap.size W W') : HQ N w0 W' R ts := ⟨h.hp.under hb, h.ul, h.rl⟩
theorem HQ.bel (h : HQ N w0 W R ts) : Below N w0 W := h.hp.bel
theorem HQ.sz (h : HQ N w0 W R ts) : N ≤ W.heap.size := h.hp.sz
theorem HQ.box (h : HQ N w0 W R ts) (e : ts[k]? = some t) : N ≤ t.b ∧ Boxs W t.b 25 #[t.va, t.vc, t.vk] := h.hp.box k t.b _ (by rw [List.getElem?_map, e]; rfl)
theorem HQ.mem (e : ts[k]? = some t) : t ∈ ts := List.mem_of_getElem? e
theorem HQ.v0 (h : HQ N w0 W R ts) (e : ts[k]? = some t) : (ts.flatMap Tv.vl)[k * (R + 2)]? = some t.vc := by
  have := fm_at ts k 0 t h.vll e (by omega); rw [Nat.add_zero] at this; rw [this]; rfl
theorem HQ.v1 (h : HQ N w0 W R ts) (e : ts[k]? = some t) : (ts.flatMap Tv.vl)[k * (R + 2) + 1]? = some t.vk := by
  rw [fm_at ts k 1 t h.vll e (by omega)]; rfl
theorem HQ.v2 (h : HQ N w0 W R ts) (e : ts[k]? = some t) {q : Nat} (hq : q < R) : (ts.flatMap Tv.vl)[k * (R + 2) + (q + 2)]? = t.us[q]? := by
  rw [fm_at ts k (q + 2) t h.vll e (by omega)]; rfl
theorem HQ.r0 (h : HQ N w0 W R ts) (e : ts[k]? = some t) : (ts.flatMap Tv.rl)[k * (R + 2)]? = some t.costs := by
  have := fm_at ts k 0 t h.rll e (by omega); rw [Nat.add_zero] at this; rw [this]; rfl
theorem HQ.r1 (h : HQ N w0 W R ts) (e : ts[k]? = some t) : (ts.flatMap Tv.rl)[k * (R + 2) + 1]? = some t.cls := by
  rw [fm_at ts k 1 t h.rll e (by omega)]; rfl
theorem HQ.r2 (h : HQ N w0 W R ts) (e : ts[k]? = some t) {q : Nat} (hq : q < R) : (ts.flatMap Tv.rl)[k * (R + 2) + (q + 2)]? = t.rows[q]? := by
  rw [fm_at ts k (q + 2) t h.rll e (by omega)]; rfl
theorem HQ.co (h : HQ N w0 W R ts) (e : ts[k]? = some t) : W.ownsRow N 3 1 t.vc t.costs.length (ints t.costs) := h.hp.rs.inn _ _ _ (h.v0 e) (h.r0 e)
theorem HQ.cl (h : HQ N w0 W R ts) (e : ts[k]? = some t) : W.ownsRow N 3 1 t.vk t.cls.length (ints t.cls) := h.hp.rs.inn _ _ _ (h.v1 e) (h.r1 e)
theorem HQ.out (h : HQ N w0 W R ts) (e : ts[k]? = some t) : W.ownsRow N 22 1 t.va (t.us ++ t.ex).length (t.us ++ t.ex) := h.hp.out k _ _ (by rw [List.getElem?_map, e]; rfl)
theorem HQ.row (h : HQ N w0 W R ts) (e : ts[k]? = some t) {q : Nat} {u : Value} {r : List Int} (hu : t.us[q]? = some u) (hr : t.rows[q]? = some r) : W.ownsRow N 3 1 u r.length (ints r) := by
  have hq : q < R := by have := (List.getElem?_eq_some_iff.1 hu).1; rw [h.ul t (HQ.mem e)] at this; exact this
  exact h.hp.rs.inn _ _ _ (by rw [h.v2 e hq]; exact hu) (by rw [h.r2 e hq]; exact hr)
theorem HQ.len {t' : Tv} (h : HQ N w0 W R ts) (e : ts[k]? = some t) (hu : t'.us.length = t.us.length) (hr : t'.rows.length = t.rows.length) : (∀ x ∈ ts.set k t', x.us.length = R) ∧ (∀ x ∈ ts.set k t', x.rows.length = R) := by
  refine ⟨fun x hx => ?_, fun x hx => ?_⟩
  · rcases List.mem_or_eq_of_mem_set hx with h9 | h9
    · exact h.ul x h9
    · rw [h9, hu]; exact h.ul t (HQ.mem e)
  · rcases List.mem_or_eq_of_mem_set hx with h9 | h9
    · exact h.rl x h9
    · rw [h9, hr]; exact h.rl t (HQ.mem e)
/-- one table more -/
theorem HQ.table {va vc vk : Value} {us : List Value} {T : Tb} (h : HQ N w0 W R ts) (hb : Below W.heap.size W W') (ho : OwnT W.heap.size W' va vc vk us T) (hR : T.rows.length = R) :
    HQ N w0 (W'.alloc (.cells #[va, vc, vk] 25)) R (ts ++ [⟨W'.heap.size, va, vc, vk, us, [], T.rows, T.costs, T.cls⟩]) := by
  have hul : us.length = R := by have := ho.out.1; omega
  refine ⟨?_, fun t ht => ?_, fun t ht => ?_⟩
  · have h1 := h.hp.table hb ho
    rw [List.map_append, List.map_append, List.flatMap_append, List.flatMap_append]
    simp only [List.map_cons, List.map_nil, List.flatMap_cons, List.flatMap_nil, List.append_nil, Tv.bx, Tv.ou, Tv.vl, Tv.rl]
    exact h1
  · rcases List.mem_append.1 ht with h9 | h9
    · exact h.ul t h9
    · rw [List.mem_singleton.1 h9]; exact hul
  · rcases List.mem_append.1 ht with h9 | h9
    · exact h.rl t h9
    · rw [List.mem_singleton.1 h9]; exact hR
/-- what holds of a table's variable after an append to one of the rows -/
theorem HQ.boxApp {u0 v' : Value} {m n : Nat} {x y : List Value} (h : HQ N w0 W R ts) (e : ts[k]? = some t) (h0 : W.ownsRow N 3 1 u0 m x) (ha : AppOut N 3 W u0 n y v' W') : Boxs W' t.b 25 #[t.va, t.vc, t.vk] := Boxs.app (h.box e).2 h0 ha (by decide)
theorem HQ.boxApp2 {u0 v' : Value} {m n : Nat} {x y : List Value} (h : HQ N w0 W R ts) (e : ts[k]? = some t) (h0 : W.ownsRow N 22 1 u0 m x) (ha : AppOut N 22 W u0 n y v' W') : Boxs W' t.b 25 #[t.va, t.vc, t.vk] := Boxs.app (h.box e).2 h0 ha (by decide)
/-- more costs -/
theorem HQ.appC {u0 v' : Value} {m : Nat} {xs : List Value} {zs : List Int} (h : HQ N w0 W R ts) (e : ts[k]? = some t) (h0 : W.ownsRow N 3 1 u0 m xs) (e0 : u0.ownBlock = t.vc.ownBlock) (ha : AppOut N 3 W u0 zs.length (ints zs) v' W') :
    HQ N w0 (W'.setCell ⟨t.b, 1, none⟩ v') R (ts.set k { t with vc := v', costs := zs }) := by
  have h1 := (h.hp.appRow (h.v0 e) h0 e0 ha).putBox (k := k) (by rw [List.getElem?_map, e]; rfl) 1 v'
  obtain ⟨l1, l2⟩ := h.len (t' := { t with vc := v', costs := zs }) e rfl rfl
  refine ⟨?_, l1, l2⟩
  have q3 := fm_set ts k 0 t { t with vc := v', costs := zs } v' h.vll e (by omega) rfl
  have q4 := fm_set ts k 0 t { t with vc := v', costs := zs } zs h.rll e (by omega) rfl
  rw [Nat.add_zero] at q3 q4
  rw [List.map_set, map_same (f := Tv.ou) (t' := { t with vc := v', costs := zs }) e rfl, q3, q4]
  exact h1
/-- more classes -/
theorem HQ.appK {u0 v' : Value} {m : Nat} {xs : List Value} {zs : List Int} (h : HQ N w0 W R ts) (e : ts[k]? = some t) (h0 : W.ownsRow N 3 1 u0 m xs) (e0 : u0.ownBlock = t.vk.ownBlock) (ha : AppOut N 3 W u0 zs.length (ints zs) v' W') :
    HQ N w0 (W'.setCell ⟨t.b, 2, none⟩ v') R (ts.set k { t with vk := v', cls := zs }) := by
  have h1 := (h.hp.appRow (h.v1 e) h0 e0 ha).putBox (k := k) (by rw [List.getElem?_map, e]; rfl) 2 v'
  obtain ⟨l1, l2⟩ := h.len (t' := { t with vk := v', cls := zs }) e rfl rfl
  refine ⟨?_, l1, l2⟩
  rw [List.map_set, map_same (f := Tv.ou) (t' := { t with vk := v', cls := zs }) e rfl, fm_set ts k 1 t { t with vk := v', cls := zs } v' h.vll e (by omega) rfl, fm_set ts k 1 t { t with vk := v', cls := zs } zs h.rll e (by omega) rfl]
  exact h1
/-- another cost -/
theorem HQ.putC {g n c : Nat} (h : HQ N w0 W R ts) (e : ts[k]? = some t) (e0 : t.vc = .slice (some ⟨g, 0, none⟩) n c) (j : Nat) (x : Int) :
    HQ N w0 (W.setCell ⟨g, j, none⟩ (.int .i64 x)) R (ts.set k { t with costs := t.costs.set j x }) := by
  have h1 := h.hp.putRow (k := k * (R + 2)) (by rw [h.v0 e, e0]) (h.r0 e) j x
  obtain ⟨l1, l2⟩ := h.len (t' := { t with costs := t.costs.set j x }) e rfl rfl
  refine ⟨?_, l1, l2⟩
  have q4 := fm_set ts k 0 t { t with costs := t.costs.set j x } (t.costs.set j x) h.rll e (by omega) rfl
  rw [Nat.add_zero] at q4
  rw [map_same (f := Tv.bx) (t' := { t with costs := t.costs.set j x }) e rfl, map_same (f := Tv.ou) (t' := { t with costs := t.costs.set j x }) e rfl, fm_same (f := Tv.vl) ts k t { t with costs := t.costs.set j x } e rfl, q4]
  exact h1
/-- one row's slice more -/
theorem HQ.appO {u0 v' u : Value} {m : Nat} {xs : List Value} (h : HQ N w0 W R ts) (e : ts[k]? = some t) (h0 : W.ownsRow N 22 1 u0 m xs) (e0 : u0.ownBlock = t.va.ownBlock) (ha : AppOut N 22 W u0 (t.us ++ t.ex ++ [u]).length (t.us ++ t.ex ++ [u]) v' W') :
    HQ N w0 (W'.setCell ⟨t.b, 0, none⟩ v') R (ts.set k { t with va := v', ex := t.ex ++ [u] }) := by
  have h1 := (h.hp.appOut (k := k) (v := t.va) (us := t.us ++ t.ex) (by rw [List.getElem?_map, e]; rfl) h0 e0 ha).putBox (k := k) (by rw [List.getElem?_map, e]; rfl) 0 v'
  obtain ⟨l1, l2⟩ := h.len (t' := { t with va := v', ex := t.ex ++ [u] }) e rfl rfl
  refine ⟨?_, l1, l2⟩
  rw [List.map_set, List.map_set, fm_same (f := Tv.vl) ts k t { t with va := v', ex := t.ex ++ [u] } e rfl, fm_same (f := Tv.rl) ts k t { t with va := v', ex := t.ex ++ [u] } e rfl]
  show HP N w0 _ ((ts.map Tv.bx).set k (t.b, #[v', t.vc, t.vk])) ((ts.map Tv.ou).set k (v', t.us ++ (t.ex ++ [u]))) _ _
  rw [← List.append_assoc]
  exact h1
/-- more numbers in a row -/
theorem HQ.appR {u0 v' u : Value} {m g n c j : Nat} {xs : List Value} {zs : List Int} (h : HQ N w0 W R ts) (e : ts[k]? = some t) (hj : t.us[j]? = some u) (h0 : W.ownsRow N 3 1 u0 m xs) (e0 : u0.ownBlock = u.ownBlock) (ha : AppOut N 3 W u0 zs.length (ints zs) v' W') (eva : t.va = .slice (some ⟨g, 0, none⟩) n c) :
    HQ N w0 (W'.setCell ⟨g, j, none⟩ v') R (ts.set k { t with us := t.us.set j v', rows := t.rows.set j zs }) := by
  have hjl := (List.getElem?_eq_some_iff.1 hj).1
  have hjR : j < R := by rw [h.ul t (HQ.mem e)] at hjl; exact hjl
  have h1 := (h.hp.appRow (k := k * (R + 2) + (j + 2)) (by rw [h.v2 e hjR]; exact hj) h0 e0 ha).putOut (k := k) (g := g) (n := n) (c := c) (us := t.us ++ t.ex) (by rw [List.getElem?_map, e, ← eva]; rfl) j v'
  obtain ⟨l1, l2⟩ := h.len (t' := { t with us := t.us.set j v', rows := t.rows.set j zs }) e (List.length_set ..) (List.length_set ..)
  refine ⟨?_, l1, l2⟩
  rw [map_same (f := Tv.bx) (t' := { t with us := t.us.set j v', rows := t.rows.set j zs }) e rfl, List.map_set, fm_set ts k (j + 2) t { t with us := t.us.set j v', rows := t.rows.set j zs } v' h.vll e (by omega) rfl, fm_set ts k (j + 2) t { t with us := t.us.set j v', rows := t.rows.set j zs } zs h.rll e (by omega) rfl]
  show HP N w0 _ _ ((ts.map Tv.ou).set k (t.va, t.us.set j v' ++ t.ex)) _ _
  rw [← List.set_append_left _ _ hjl, eva]
  exact h1
/-- the table as it reads -/
theorem HQ.tb {exr : List (List Int)} (h : HQ N w0 W R ts) (e : ts[k]? = some t) (hl : t.ex.length = exr.length) (hx : ∀ (q : Nat) (u : Value) (r : List Int), t.ex[q]? = some u → exr[q]? = some r → RdI W u r) : TbR W t.va t.vc t.vk ⟨t.rows ++ exr, t.costs, t.cls⟩ := by
  have hul := h.ul t (HQ.mem e)
  have hrl := h.rl t (HQ.mem e)
  refine h.hp.tb (k := k) (T := ⟨t.rows ++ exr, t.costs, t.cls⟩) (by rw [List.getElem?_map, e]; rfl) (h.v0 e) (h.r0 e) (h.v1 e) (h.r1 e) (by simp [hl, hul, hrl]) fun q u r hu hr => ?_
  have hr' : (t.rows ++ exr)[q]? = some r := hr
  by_cases hq : q < R
  · rw [List.getElem?_append_left (by omega)] at hu hr'
    exact owns_ints (h.row e hu hr')
  · rw [List.getElem?_append_right (by omega)] at hu hr'
    rw [hul] at hu; rw [hrl] at hr'
    exact hx _ u r hu hr'
theorem HQ.tb0 (h : HQ N w0 W R ts) (e : ts[k]? = some t) (hx : t.ex = []) : TbR W t.va t.vc t.vk ⟨t.rows, t.costs, t.cls⟩ := by
  have := h.tb (exr := []) e (by rw [hx]; rfl) (fun q u r hu hr => by simp at hr)
  rwa [List.append_nil] at this
end
end Go.Proofs.Ytmkkegigajmhkaa

namespace Go.Proofs.Ytmkkegigajmhkaa
open Go.RowKit Go.Maps

def updF (g h : Nat → List Int) (j R : Nat) : List (List Int) := lsF (fun q => if q < j then h q else g q) R
theorem updF_len (g h : Nat → List Int) (j R : Nat) : (updF g h j R).length = R := lsF_len _ _
theorem lsF_ext {f g : Nat → List Int} {R : Nat} (h : ∀ q, q < R → f q = g q) : lsF f R = lsF g R := by
  refine List.ext_getElem? fun q => ?_
  by_cases hq : q < R
  · rw [lsF_at hq, lsF_at hq, h q hq]
  · rw [List.getElem?_eq_none (by rw [lsF_len]; omega), List.getElem?_eq_none (by rw [lsF_len]; omega)]
theorem updF_zero (g h : Nat → List Int) (R : Nat) : updF g h 0 R = lsF g R := lsF_ext fun q _ => if_neg (by omega)
theorem updF_all (g h : Nat → List Int) (R : Nat) : updF g h R R = lsF h R := lsF_ext fun q hq => if_pos hq
theorem updF_at (g h : Nat → List Int) {j R : Nat} (hj : j < R) : (updF g h j R)[j]? = some (g j) := by
  unfold updF; rw [lsF_at hj, if_neg (by omega)]
theorem updF_set (g h : Nat → List Int) {j R : Nat} (hj : j < R) : (updF g h j R).set j (h j) = updF g h (j + 1) R := by
  refine List.ext_getElem? fun q => ?_
  unfold updF
  by_cases hq : q < R
  · rw [lsF_at hq]
    by_cases e : j = q
    · subst e
      rw [List.getElem?_set_self (by rw [lsF_len]; exact hj), if_pos (by omega)]
    · rw [List.getElem?_set_ne e, lsF_at hq]
      by_cases hl : q < j
      · rw [if_pos hl, if_pos (by omega)]
      · rw [if_neg hl, if_neg (by omega)]
  · rw [List.getElem?_eq_none (by rw [List.length_set, lsF_len]; omega), List.getElem?_eq_none (by rw [lsF_len]; omega)]
theorem rows_lsF (T : Tb) : T.rows = lsF (rowAt T) T.rows.length := by
  refine List.ext_getElem? fun q => ?_
  by_cases hq : q < T.rows.length
  · obtain ⟨r, hr⟩ := elem_at hq
    rw [lsF_at hq, hr, rowAt_of hr]
  · rw [List.getElem?_eq_none (by omega), List.getElem?_eq_none (by rw [lsF_len]; omega)]
theorem less_law' {T : Tb} (h : bestErr T = 0) {i : Nat} (hi : i < T.rows.length) : bestErr (if 1 < T.rows.length then lessT T i else T) = 0 ∧ bestC (if 1 < T.rows.length then lessT T i else T) ≤ bestC T := by
  by_cases h1 : 1 < T.rows.length
  · rw [if_pos h1]; exact less_law h hi h1
  · rw [if_neg h1]; exact ⟨h, Int.le_refl _⟩
def cheapX (T : Tb) (k : Nat) : List Int := if k < T.costs.length then T.costs.set k (max 1 (costAt T k - 1)) else T.costs
def bothX (T : Tb) (k : Nat) : List Int := if k < T.costs.length then T.costs ++ [costAt T k] else T.costs
def bothR (T : Tb) (k : Nat) : Nat → List Int := fun j => if k < T.costs.length then rowAt T j ++ [ansAt T j k] else rowAt T j
theorem cheap_law' {T : Tb} (h : bestErr T = 0) (k : Nat) : bestErr ⟨T.rows, cheapX T k, T.cls⟩ = 0 ∧ bestC ⟨T.rows, cheapX T k, T.cls⟩ ≤ bestC T := by
  unfold cheapX
  by_cases hk : k < T.costs.length
  · rw [if_pos hk]
    obtain ⟨ho, _, _⟩ := bestErr_ok h
    obtain ⟨c, hc⟩ := elem_at hk
    have hb := ho.cb c (List.mem_of_getElem? hc)
    have e : costAt T k = c := costAt_of hc
    exact cheap_law h (by rw [e]; omega) hk (by rw [e]; omega)
  · rw [if_neg hk]; exact ⟨h, Int.le_refl _⟩
theorem both_law' {T : Tb} (h : bestErr T = 0) (k : Nat) (h63 : T.costs.length ≤ 63) : bestErr ⟨lsF (bothR T k) T.rows.length, bothX T k, T.cls⟩ = 0 ∧ bestC ⟨lsF (bothR T k) T.rows.length, bothX T k, T.cls⟩ = bestC T := by
  unfold bothX
  by_cases hk : k < T.costs.length
  · have e : bothR T k = fun j => rowAt T j ++ [ansAt T j k] := by funext j; unfold bothR; rw [if_pos hk]
    rw [if_pos hk, e]
    exact both_law h hk h63
  · have e : bothR T k = rowAt T := by funext j; unfold bothR; rw [if_neg hk]
    rw [if_neg hk, e, ← rows_lsF]
    exact ⟨h, rfl⟩
theorem RdR.at {W : World} {tb ot n c k : Nat} {rows : List (List Int)} {r : List Int} (h : RdR W (.slice (some ⟨tb, ot, .none⟩) n c) rows) (hr : rows[k]? = some r) : ∃ u, tb < W.heap.size ∧ W.cell? ⟨tb, ot + k, .none⟩ = some u ∧ RdI W u r := by
  obtain ⟨a, cap, e, _, F⟩ := h.open
  cases e
  obtain ⟨b, off, u, e, h1, h2, h3⟩ := F k r hr
  cases e
  exact ⟨u, h1, h2, h3⟩
theorem RdI.at {W : World} {a : Option Addr} {n c k : Nat} {xs : List Int} {x : Int} (h : RdI W (.slice a n c) xs) (hr : xs[k]? = some x) : ∃ b off, a = some ⟨b, off, .none⟩ ∧ b < W.heap.size ∧ W.cell? ⟨b, off + k, .none⟩ = some (.int .i64 x) := by
  obtain ⟨a', cap, e, _, F⟩ := h.open
  cases e
  obtain ⟨b, off, e, h1, h2⟩ := F k x hr
  exact ⟨b, off, e, h1, h2⟩
theorem RdR.some {W : World} {a : Option Addr} {n c : Nat} {rows : List (List Int)} (h : RdR W (.slice a n c) rows) (hr : 0 < rows.length) : ∃ b off, a = .some ⟨b, off, .none⟩ := by
  obtain ⟨a', cap, e, _, F⟩ := h.open
  cases e
  obtain ⟨r, hr⟩ := elem_at hr
  obtain ⟨b, off, u, e, h1, h2, h3⟩ := F 0 r hr
  exact ⟨b, off, e⟩
end Go.Proofs.Ytmkkegigajmhkaa

namespace Go.Proofs.Ytmkkegigajmhkaa
open Go.RowKit Go.Maps

set_option maxRecDepth 100000 in
set_option maxHeartbeats 16000000 in
theorem questionFewer_any (v vn : Value) (l ns : List Int) (at_ by_ : Int) (w : World) (h : RdI w v l) (il : inI l) (hn : RdI w vn ns) (jn : inI ns) (hh1 : -9223372036854775808 ≤ at_) (hh2 : at_ ≤ 9223372036854775807) (hb1 : -9223372036854775808 ≤ by_) (hb2 : by_ ≤ 9223372036854775807) :
    Calls Try.prog 8 #[v, .int .i64 at_, .int .i64 by_, vn] w fun e w' => e = .returned (.bool true) ∧ Below w.heap.size w w' := by
  have MK := made_any v l w h il
  have hok0 := made_ok l
  have h70 := madeT_rows l
  have hc50 := madeT_costs l
  obtain ⟨T0, hT0⟩ : ∃ T, madeT l = T := ⟨_, rfl⟩
  rw [hT0] at MK hok0 h70 hc50
  obtain ⟨hok, hntw⟩ := plain_ok hok0
  have h7 : (plainT T0).rows.length ≤ 7 := h70
  have hc5 : (plainT T0).costs.length ≤ 5 := hc50
  have PL0 := fun va vc vk w h => plain_any va vc vk T0 w h hok0
  obtain ⟨T, hT⟩ : ∃ T, plainT T0 = T := ⟨_, rfl⟩
  rw [hT] at hok hntw h7 hc5
  simp only [hT] at PL0
  have hbe := best_plain hok hntw (by omega)
  have HOK := Lib.hid hok; have HBE := Lib.hid hbe; have H7 := Lib.hid h7; have HC5 := Lib.hid hc5; have HPL := Lib.hid PL0
  obtain ⟨av, cv, rfl⟩ := h.form
  obtain ⟨an, cn, rfl⟩ := hn.form
  have HN := Lib.hid hn
  clear h hn hT0 hT hok0 h70 hc50 hok hntw h7 hc5 PL0 hbe
  go_enter Try.func8, Try.ntmps8
  go_wp2_with fail
  with_reducible refine MK.mono ?_
  rintro e w1 ⟨⟨va, vc, vk, us, rfl, hown⟩, hb⟩
  have PL := HPL.out va vc vk w1 hown.tb
  obtain ⟨aa0, ca0, rfl⟩ := hown.tb.rows.form
  obtain ⟨ac0, cc0, rfl⟩ := hown.tb.costs.form
  obtain ⟨ak0, ck0, rfl⟩ := hown.tb.cls.form
  have HB := Lib.hid hb
  clear hown hb MK HPL
  go_wp2_with fail
  with_reducible refine PL.mono ?_
  rintro e w2 ⟨⟨va, vc, vk, us, rfl, hown⟩, hb⟩
  have htb := hown.tb
  obtain ⟨aa, ca, rfl⟩ := htb.rows.form
  obtain ⟨ac, cc, rfl⟩ := htb.costs.form
  obtain ⟨ak, ck, rfl⟩ := htb.cls.form
  have hba := alloc_below w2 (.cells #[.slice aa T.rows.length ca, .slice ac T.costs.length cc, .slice ak T.cls.length ck] 25)
  obtain ⟨W2, hW2⟩ : ∃ W, w2.alloc (.cells #[.slice aa T.rows.length ca, .slice ac T.costs.length cc, .slice ak T.cls.length ck] 25) = W := ⟨_, rfl⟩
  have BX := Lib.hid (show Boxs W2 w2.heap.size 25 #[.slice aa T.rows.length ca, .slice ac T.costs.length cc, .slice ak T.cls.length ck] by rw [← hW2]; exact Boxs.new w2 25 _)
  rw [hW2] at hba
  have HT := Lib.hid (htb.below hba)
  have HB := Lib.hid (HB.out.trans ((hb.trans (hba.mono hb.size)).mono HB.out.size))
  obtain ⟨b0, hB0⟩ : ∃ b, w2.heap.size = b := ⟨_, rfl⟩
  rw [hB0] at BX
  clear hown htb hb hba PL
  have OW := fun (W : World) (a1 a2 a3 : Option Addr) (n1 n2 n3 c1 c2 c3 : Nat) => own_any a1 a2 a3 n1 n2 n3 c1 c2 c3 W
  have p0 := BX.out.cell 0; have p1 := BX.out.cell 1; have p2 := BX.out.cell 2
  have q1 := BX.out.lt
  simp only [List.getElem?_toArray, List.getElem?_cons_zero, List.getElem?_cons_succ] at p0 p1 p2
  have XX := OW W2 aa ac ak T.rows.length T.costs.length T.cls.length ca cc ck
  go_wp2_with fail
  clear hW2 hB0
  with_reducible refine XX.mono ?_
  rintro e w3 ⟨rfl, hb⟩
  have BX := Lib.hid (Boxs.below BX.out hb)
  have HT := Lib.hid (HT.out.below hb)
  have HB := Lib.hid (HB.out.trans (hb.mono HB.out.size))
  clear hb XX
  clear p0 p1 p2 q1
  have XX := bestP_any _ _ _ T w3 HT.out
  unfold SolveOut at XX
  go_wp2_with fail
  with_reducible refine XX.mono ?_
  rintro e w4 ⟨⟨px, rfl, htx⟩, hb⟩
  obtain ⟨qx, rfl⟩ := htx.form
  clear htx
  have BX := Lib.hid (Boxs.below BX.out hb)
  have HT := Lib.hid (HT.out.below hb)
  have HB := Lib.hid (HB.out.trans (hb.mono HB.out.size))
  clear hb XX
  rw [HBE.out]
  obtain ⟨n0, hn0⟩ : ∃ n, bestC T = n := ⟨_, rfl⟩
  rw [hn0]
  have HN0 := Lib.hid hn0
  clear hn0
  obtain ⟨R, hR⟩ : ∃ R, T.rows.length = R := ⟨_, rfl⟩
  obtain ⟨C, hC⟩ : ∃ C, T.costs.length = C := ⟨_, rfl⟩
  have HRR := Lib.hid hR; have HCC := Lib.hid hC
  have hR1 : 1 ≤ R := by have := HOK.out.r1; omega
  have hR7 : R ≤ 7 := by have := H7.out; omega
  have hC5 : C ≤ 5 := by have := HC5.out; omega
  have hKL : T.cls.length = R := by have := HOK.out.kl; omega
  have HKL := Lib.hid hKL
  rw [hR, hC, hKL] at BX HT ⊢
  clear hR hC hKL
  have p0 := BX.out.cell 0; have p1 := BX.out.cell 1; have p2 := BX.out.cell 2
  have q1 := BX.out.lt
  simp only [List.getElem?_toArray, List.getElem?_cons_zero, List.getElem?_cons_succ] at p0 p1 p2
  go_wp2_with fail
  refine (around_any at_ _ _ hh1 hh2 (by omega) (by omega)).mono ?_
  rintro e w5 ⟨rfl, rfl⟩
  obtain ⟨i, hi, hiR⟩ : ∃ i : Nat, around at_ (R : Int) = i ∧ i < R := by
    obtain ⟨q1, q2⟩ := around_bd at_ (R : Int) (by omega)
    exact ⟨(around at_ (R : Int)).toNat, by omega, by omega⟩
  rw [hi]
  clear hi
  clear p0 p1 p2 q1
  have p0 := BX.out.cell 0; have p1 := BX.out.cell 1; have p2 := BX.out.cell 2
  have q1 := BX.out.lt
  simp only [List.getElem?_toArray, List.getElem?_cons_zero, List.getElem?_cons_succ] at p0 p1 p2
  have XX := copy_any _ _ _ T w4 HT.out ⟨by have := HRR.out; omega, by have := HCC.out; omega, by have := HKL.out; omega, fun r hr => by have := HOK.out.rl r hr; have := HCC.out; omega⟩
  unfold CopyOut at XX
  go_wp2_with fail
  with_reducible refine XX.mono ?_
  rintro e x1 ⟨⟨va1, vc1, vk1, us1, rfl, hown⟩, hb⟩
  clear p0 p1 p2 q1
  clear XX
  obtain ⟨N1, hN1⟩ : ∃ n, w4.heap.size = n := ⟨_, rfl⟩
  have hp := (HP.start (N := N1) (w0 := w4) (by omega)).table (W' := x1) (by rw [hN1] at hb ⊢; exact hb) (by rw [hN1] at hown ⊢; exact hown)
  have HN1 := Lib.hid hN1
  have BX4 := BX; have HT4 := HT; have HB4 := HB
  have hb1 := hb.trans ((alloc_below x1 (.cells #[va1, vc1, vk1] 25)).mono hb.size)
  have BX := Lib.hid (Boxs.below BX.out hb1)
  have HT := Lib.hid (HT.out.below hb1)
  have HB := Lib.hid (HB.out.trans (hb1.mono HB.out.size))
  have HUL := Lib.hid (show us1.length = R by have := hown.out.1; have := HRR.out; omega)
  obtain ⟨g1, c1, e1⟩ := ownsRow_some hown.out (show 0 < T.rows.length by have := HRR.out; omega)
  rw [HRR.out] at e1
  subst e1
  obtain ⟨aco1, cco1, e1⟩ := owns_form (hown.rs.inn 0 _ _ rfl rfl)
  rw [HCC.out] at e1
  subst e1
  obtain ⟨gk1, ck1, e1⟩ := ownsRow_some (hown.rs.inn 1 _ _ rfl rfl) (show 0 < T.cls.length by have := HKL.out; omega)
  rw [HKL.out] at e1
  subst e1
  obtain ⟨b1, hB1⟩ : ∃ b, x1.heap.size = b := ⟨_, rfl⟩
  rw [hB1] at hp
  have HP1 := Lib.hid hp
  clear hp hown hb hb1
  have p0 := BX.out.cell 0; have p1 := BX.out.cell 1; have p2 := BX.out.cell 2
  have q1 := BX.out.lt
  simp only [List.getElem?_toArray, List.getElem?_cons_zero, List.getElem?_cons_succ] at p0 p1 p2
  go_upto_if 56 with fail
  clear hB1
  generalize x1.alloc (.cells #[.slice (some ⟨g1, 0, none⟩) R c1, .slice aco1 C cco1, .slice (some ⟨gk1, 0, none⟩) R ck1] 25) = y1 at *
  go_cut [] (fun wx => ∃ va1 vk1, Boxs wx b1 25 #[va1, .slice aco1 C cco1, vk1] ∧ TbR wx va1 (.slice aco1 C cco1) vk1 (if 1 < R then lessT T i else T) ∧ Below N1 w4 wx ∧ N1 ≤ wx.heap.size)
  case first =>
    as_aux_lemma =>
      by_cases hR2 : 1 < R
      · have hR2i : (1 : Int) < (R : Int) := by omega
        have hil := HUL.out
        have hou1 : y1.ownsRow N1 22 1 (.slice (some ⟨g1, 0, none⟩) R c1) us1.length us1 := HP1.out.out 0 (.slice (some ⟨g1, 0, none⟩) R c1) us1 rfl
        rw [hil] at hou1
        have hca1 := owns_cap hou1
        clear hou1
        have hok1 : y1.ownsRow N1 3 1 (.slice (some ⟨gk1, 0, none⟩) R ck1) T.cls.length (ints T.cls) := HP1.out.rs.inn 1 (.slice (some ⟨gk1, 0, none⟩) R ck1) T.cls rfl rfl
        rw [HKL.out] at hok1
        have hck1 := owns_cap hok1
        clear hok1
        have hi0 : (0 : Int) ≤ (i : Int) := by omega
        have hi1 : (0 : Int) ≤ (i : Int) + 1 := by omega
        have hi2 : (i : Int) + 1 ≤ (R : Int) := by omega
        have hi3 : ¬ (R : Int) < (i : Int) + 1 := by omega
        have hi4 : i ≤ c1 := by omega
        have hi5 : ¬ c1 < i := by omega
        have hi6 : i ≤ ck1 := by omega
        have hi7 : ¬ ck1 < i := by omega
        have HWK := Lib.hid (show IntKind.i64.wrap ((i : Int) + 1) = (i : Int) + 1 from IntWalk.i64_in _ (by omega))
        have HIL := Lib.hid hil
        clear hil p0 p1 p2 q1
        have z0 := HP1.out.cell (k := 0) rfl 0; have z2 := HP1.out.cell (k := 0) rfl 2
        simp only [List.getElem?_toArray, List.getElem?_cons_zero, List.getElem?_cons_succ] at z0 z2
        go_wp2_with fail
        refine wp_region_E (fun W => W.cell? ⟨b1, 0, none⟩ = some (.slice (some ⟨g1, 0, none⟩) R c1)) (by kernel_rfl) ?_
        have hdr : (y1).drew = { y1 with drawn := (y1).drawn + 1 } := rfl
        rw [← hdr]
        clear hdr
        change wpAnyE _ _ _ _ _ _ _ _ ((y1).drewN 1)
        refine tg 0 57 rfl rfl (.pointer (some ⟨b1, 0, none⟩)) z0 ?_
        try simp only [pa, pl]
        refine tk 1 58 rfl rfl (.slice (some ⟨g1, 0, none⟩) R c1) (fun W hW => by obtain cz := hW; go_simp) z0 ?_
        try simp only [pa, pl]
        refine tm 2 59 rfl rfl (.int .i64 (i : Int)) z0 ?_
        try simp only [pa, pl]
        refine tg 3 60 rfl rfl (.slice (some ⟨g1, 0, none⟩) i c1) z0 ?_
        try simp only [pa, pl]
        refine tg 4 61 rfl rfl (.pointer (some ⟨b1, 0, none⟩)) z0 ?_
        try simp only [pa, pl]
        refine tk 5 62 rfl rfl (.slice (some ⟨g1, 0, none⟩) R c1) (fun W hW => by obtain cz := hW; go_simp) z0 ?_
        try simp only [pa, pl]
        refine tm 6 63 rfl rfl (.int .i64 (i : Int)) z0 ?_
        try simp only [pa, pl]
        refine tk 7 64 rfl rfl (.int .i64 ((i : Int) + 1)) (fun _ _ => by go_simp <;> rw [HWK.out]) z0 ?_
        try simp only [pa, pl]
        refine tg 8 65 rfl rfl (.slice (if c1 = i + 1 then some ⟨g1, 0, none⟩ else some ⟨g1, i + 1, none⟩) (R - (i + 1)) (c1 - (i + 1))) z0 ?_
        try simp only [pa, pl]
        obtain ⟨zz, hzz⟩ : ∃ z, (if c1 = i + 1 then some (⟨g1, 0, none⟩ : Addr) else some ⟨g1, i + 1, none⟩) = z := ⟨_, rfl⟩
        have hpd := HP1.out.under (Below.dn (Below.refl _ _) 1)
        have hout : (y1.drewN 1).ownsRow N1 22 1 (.slice (some ⟨g1, 0, none⟩) R c1) us1.length us1 := hpd.out 0 (.slice (some ⟨g1, 0, none⟩) R c1) us1 rfl
        rw [HIL.out] at hout
        have hown8 := owns_take hout i (by omega) (by simp)
        have hrd8 := (Rd_of_owns hout).dropA (k := i + 1) (by omega)
        simp only [Nat.zero_add] at hrd8
        have hone : ∀ u ∈ us1.drop (i + 1), u.oneCell' = true := fun u hu => by
          obtain ⟨q, hq⟩ := List.getElem?_of_mem (List.mem_of_mem_drop hu)
          obtain ⟨r, hr⟩ := elem_at (show q < T.rows.length by rw [HRR.out, ← HIL.out]; exact (List.getElem?_eq_some_iff.1 hq).1)
          exact owns_one (hpd.row (i := q + 2) (by simpa using hq) (by simpa using hr))
        refine wpAnyEOne 9 (by kernel_rfl) ?_
        refine wpOpAppR (base := N1) 9 (some 66) rfl rfl rfl (.tmp 60) (.tmp 65) rfl (.slice (some ⟨g1, 0, none⟩) i c1) i (us1.take i) rfl hown8 (.slice (if c1 = i + 1 then some ⟨g1, 0, none⟩ else some ⟨g1, i + 1, none⟩) (R - (i + 1)) (c1 - (i + 1))) (us1.drop (i + 1)) rfl hrd8 hone (by have := HIL.out; simp; omega) hpd.sz fun v3 w3 happ => ?_
        obtain ⟨a3, k3, rfl⟩ := happ.form
        have happ' : AppOut N1 22 (y1.drewN 1) (.slice (some ⟨g1, 0, none⟩) i c1) (us1.eraseIdx i).length (us1.eraseIdx i) (.slice a3 (i + (us1.drop (i + 1)).length) k3) w3 := by
          rw [show (us1.eraseIdx i).length = i + (us1.drop (i + 1)).length by rw [List.eraseIdx_eq_take_drop_succ, List.length_append, List.length_take, HIL.out]; omega, List.eraseIdx_eq_take_drop_succ]; exact happ
        have hp3 := hpd.appOut (k := 0) rfl hown8 rfl happ'
        have z3 := hp3.cell (k := 0) rfl 0; have zf3 := hp3.frozen (k := 0) rfl 0; have zl3 := hp3.lt (k := 0) rfl
        simp only [List.getElem?_toArray, List.getElem?_cons_zero, List.getElem?_cons_succ] at z3
        refine ⟨.inl (z3), ?_⟩
        try simp only [pa, pl]
        refine tg 10 67 rfl rfl (.pointer (some ⟨b1, 0, none⟩)) z3 ?_
        try simp only [pa, pl]
        refine wpAnyEOne 11 (by kernel_rfl) ?_
        refine wpOpSkip (w' := w3.setCell ⟨b1, 0, none⟩ (.slice a3 (i + (us1.drop (i + 1)).length) k3)) 11 rfl rfl rfl (by go_simp <;> rfl) ?_
        refine ⟨.inr (allUp_of (by kernel_rfl)), ?_⟩
        try simp only [pa, pl]
        refine wpAnyE_done (by kernel_rfl) ?_ _
        have hp4 := hp3.putBox (k := 0) rfl 0 (.slice a3 (i + (us1.drop (i + 1)).length) k3)
        have HP2 := Lib.hid hp4
        rw [hzz]
        clear hzz happ happ' hp3 hp4 hpd hown8 hrd8 hone hout z3 zf3 zl3 z0 z2
        generalize w3.setCell ⟨b1, 0, none⟩ (.slice a3 (i + (us1.drop (i + 1)).length) k3) = y2 at *
        have z2 := HP2.out.cell (k := 0) rfl 2
        simp only [List.set_cons_zero, List.set_cons_succ, List.setIfInBounds_toArray, List.getElem?_toArray, List.getElem?_cons_zero, List.getElem?_cons_succ] at z2
        go_wp2_with fail
        refine wp_region_E (fun W => W.cell? ⟨b1, 2, none⟩ = some (.slice (some ⟨gk1, 0, none⟩) R ck1)) (by kernel_rfl) ?_
        have hdr : (y2).drew = { y2 with drawn := (y2).drawn + 1 } := rfl
        rw [← hdr]
        clear hdr
        change wpAnyE _ _ _ _ _ _ _ _ ((y2).drewN 1)
        refine tg 0 68 rfl rfl (.pointer (some ⟨b1, 2, none⟩)) z2 ?_
        try simp only [pa, pl]
        refine tk 1 69 rfl rfl (.slice (some ⟨gk1, 0, none⟩) R ck1) (fun W hW => by obtain cz := hW; go_simp) z2 ?_
        try simp only [pa, pl]
        refine tm 2 70 rfl rfl (.int .i64 (i : Int)) z2 ?_
        try simp only [pa, pl]
        refine tg 3 71 rfl rfl (.slice (some ⟨gk1, 0, none⟩) i ck1) z2 ?_
        try simp only [pa, pl]
        refine tg 4 72 rfl rfl (.pointer (some ⟨b1, 2, none⟩)) z2 ?_
        try simp only [pa, pl]
        refine tk 5 73 rfl rfl (.slice (some ⟨gk1, 0, none⟩) R ck1) (fun W hW => by obtain cz := hW; go_simp) z2 ?_
        try simp only [pa, pl]
        refine tm 6 74 rfl rfl (.int .i64 (i : Int)) z2 ?_
        try simp only [pa, pl]
        refine tk 7 75 rfl rfl (.int .i64 ((i : Int) + 1)) (fun _ _ => by go_simp <;> rw [HWK.out]) z2 ?_
        try simp only [pa, pl]
        refine tg 8 76 rfl rfl (.slice (if ck1 = i + 1 then some ⟨gk1, 0, none⟩ else some ⟨gk1, i + 1, none⟩) (R - (i + 1)) (ck1 - (i + 1))) z2 ?_
        try simp only [pa, pl]
        obtain ⟨zz, hzz⟩ : ∃ z, (if ck1 = i + 1 then some (⟨gk1, 0, none⟩ : Addr) else some ⟨gk1, i + 1, none⟩) = z := ⟨_, rfl⟩
        have hpd := HP2.out.under (Below.dn (Below.refl _ _) 1)
        have hout : (y2.drewN 1).ownsRow N1 3 1 (.slice (some ⟨gk1, 0, none⟩) R ck1) T.cls.length (ints T.cls) := hpd.rs.inn 1 (.slice (some ⟨gk1, 0, none⟩) R ck1) T.cls rfl rfl
        rw [HKL.out] at hout
        have hown8 := owns_take hout i (by omega) (by simp)
        rw [show (ints T.cls).take i = ints (T.cls.take i) by simp [ints, List.map_take]] at hown8
        have hkk : (T.cls.take i).length = i := by rw [List.length_take, HKL.out]; omega
        have hown9 : (y2.drewN 1).ownsRow N1 3 1 (.slice (some ⟨gk1, 0, none⟩) i ck1) (T.cls.take i).length (ints (T.cls.take i)) := by rw [hkk]; exact hown8
        have hrd8 := (owns_ints hout).dropA (k := i + 1) (by omega)
        simp only [Nat.zero_add] at hrd8
        refine wpAnyEOne 9 (by kernel_rfl) ?_
        refine wpOpAppI 9 (some 77) rfl rfl rfl (.tmp 71) (.tmp 76) rfl (.slice (some ⟨gk1, 0, none⟩) i ck1) (T.cls.take i) rfl (hown9) (.slice (if ck1 = i + 1 then some ⟨gk1, 0, none⟩ else some ⟨gk1, i + 1, none⟩) (R - (i + 1)) (ck1 - (i + 1))) (T.cls.drop (i + 1)) rfl (hrd8) (by have := HKL.out; simp; omega) (hpd.sz) fun v3 w3 happ => ?_
        obtain ⟨a4, k4, rfl⟩ := happ.form
        have happ' : AppOut N1 3 (y2.drewN 1) (.slice (some ⟨gk1, 0, none⟩) i ck1) (T.cls.eraseIdx i).length (ints (T.cls.eraseIdx i)) (.slice a4 (T.cls.take i ++ T.cls.drop (i + 1)).length k4) w3 := by
          rw [List.eraseIdx_eq_take_drop_succ]; exact happ
        have hp3 := hpd.appRow (k := 1) rfl hown8 rfl happ'
        have z3 := hp3.cell (k := 0) rfl 2; have zf3 := hp3.frozen (k := 0) rfl 2; have zl3 := hp3.lt (k := 0) rfl
        simp only [List.set_cons_zero, List.set_cons_succ, List.setIfInBounds_toArray, List.getElem?_toArray, List.getElem?_cons_zero, List.getElem?_cons_succ] at z3
        refine ⟨.inl (z3), ?_⟩
        try simp only [pa, pl]
        refine tg 10 78 rfl rfl (.pointer (some ⟨b1, 2, none⟩)) z3 ?_
        try simp only [pa, pl]
        refine wpAnyEOne 11 (by kernel_rfl) ?_
        refine wpOpSkip (w' := w3.setCell ⟨b1, 2, none⟩ (.slice a4 (T.cls.take i ++ T.cls.drop (i + 1)).length k4)) 11 rfl rfl rfl (by go_simp <;> rfl) ?_
        refine ⟨.inr (allUp_of (by kernel_rfl)), ?_⟩
        try simp only [pa, pl]
        refine wpAnyE_done (by kernel_rfl) ?_ _
        have hp4 := hp3.putBox (k := 0) rfl 2 (.slice a4 (T.cls.take i ++ T.cls.drop (i + 1)).length k4)
        have HP3 := Lib.hid hp4
        rw [hzz]
        clear hzz happ happ' hp3 hp4 hpd hown8 hown9 hrd8 hout z3 zf3 zl3 z2 hkk
        generalize w3.setCell ⟨b1, 2, none⟩ (.slice a4 (T.cls.take i ++ T.cls.drop (i + 1)).length k4) = y3 at *
        go_wp2_with fail
        go_meet
        refine ⟨_, _, (HP3.out.box 0 _ _ rfl).2, ?_, HP3.out.bel, HP3.out.sz⟩
        rw [if_pos hR2]
        refine HP3.out.tb (k := 0) (i := 0) (j := 1) rfl rfl rfl rfl rfl ?_ fun q u r hu hr => ?_
        · show (us1.eraseIdx i).length = (T.rows.eraseIdx i).length
          rw [List.length_eraseIdx, List.length_eraseIdx, HIL.out, HRR.out]
        · have hu' : (us1.eraseIdx i)[q]? = some u := hu
          have hr' : (T.rows.eraseIdx i)[q]? = some r := hr
          rw [List.getElem?_eraseIdx] at hu' hr'
          split at hu'
          · rw [if_pos (by assumption)] at hr'
            exact owns_ints (HP3.out.row (i := q + 2) (by simpa using hu') (by simpa using hr'))
          · rw [if_neg (by assumption)] at hr'
            exact owns_ints (HP3.out.row (i := q + 3) (by simpa using hu') (by simpa using hr'))
      · have hR2i : ¬ (1 : Int) < (R : Int) := by omega
        go_wp2_with fail
        go_meet
        refine ⟨_, _, (HP1.out.box 0 _ _ rfl).2, ?_, HP1.out.bel, HP1.out.sz⟩
        rw [if_neg hR2]
        exact HP1.out.tb (k := 0) (i := 0) (j := 1) rfl rfl rfl rfl rfl (by rw [HUL.out, HRR.out]) (fun q u r hu hr => owns_ints (HP1.out.row (i := q + 2) (by simpa using hu) (by simpa using hr)))
  case rest =>
    rename World => u0
    obtain ⟨va1, vk1, hbx1, htb1, hbel1, hsz1⟩ := hcut
    obtain ⟨TL, hTL⟩ : ∃ t, (if 1 < R then lessT T i else T) = t := ⟨_, rfl⟩
    have hll := less_law' HBE.out (show i < T.rows.length by rw [HRR.out]; exact hiR)
    rw [HRR.out, hTL, HN0.out] at hll
    rw [hTL] at htb1
    obtain ⟨al1, kl1, rfl⟩ := htb1.rows.form
    obtain ⟨ak1, kk1, rfl⟩ := htb1.cls.form
    have HLL := Lib.hid hll
    obtain ⟨N2, hN2⟩ : ∃ n, u0.heap.size = n := ⟨_, rfl⟩
    have hbel1' : Below w4.heap.size w4 u0 := by rw [HN1.out]; exact hbel1
    have hr0 : 0 < T.rows.length := by rw [HRR.out]; omega
    have hbx4 := Boxs.below BX4.out hbel1'
    have htb4 := HT4.out.below hbel1'
    obtain ⟨tb, ot, rfl⟩ := htb4.rows.some hr0
    obtain ⟨ri, hri⟩ := elem_at (show i < T.rows.length by rw [HRR.out]; exact hiR)
    obtain ⟨ki, hki⟩ := elem_at (show i < T.cls.length by rw [HKL.out]; exact hiR)
    obtain ⟨ui, htlt, hui, hrdi⟩ := htb4.rows.at hri
    obtain ⟨kb, ko, rfl, hklt, hkci⟩ := htb4.cls.at hki
    obtain ⟨ai, ci, rfl⟩ := hrdi.form
    rw [show ri.length = C by rw [HOK.out.rl ri (List.mem_of_getElem? hri), HCC.out]] at hui hrdi
    have HRI := Lib.hid hri; have HKI := Lib.hid hki
    have FI := Lib.hid (fun (W : World) (hb : Below N2 u0 W) => (⟨(hb.cell (p := ⟨tb, ot + i, none⟩) (by rw [← hN2]; exact htlt)).trans hui, (hb.cell (p := ⟨kb, ko + i, none⟩) (by rw [← hN2]; exact hklt)).trans hkci, hrdi.below (by rw [hN2]; exact hb)⟩ :
      W.cell? ⟨tb, ot + i, none⟩ = some (.slice ai C ci) ∧ W.cell? ⟨kb, ko + i, none⟩ = some (.int .i64 ki) ∧ RdI W (.slice ai C ci) ri))
    have FZ := Lib.hid (fun (W : World) (hb : Below N2 u0 W) => (⟨Boxs.below hbx4 (by rw [hN2]; exact hb), htb4.below (by rw [hN2]; exact hb), Boxs.below hbx1 (by rw [hN2]; exact hb), htb1.below (by rw [hN2]; exact hb), HN.out.below ((HB4.out.trans (hbel1'.mono HB4.out.size)).trans (hb.mono (by rw [← hN2]; exact (HB4.out.trans (hbel1'.mono HB4.out.size)).size))), (HB4.out.trans (hbel1'.mono HB4.out.size)).trans (hb.mono (by rw [← hN2]; exact (HB4.out.trans (hbel1'.mono HB4.out.size)).size))⟩ :
      Boxs W b0 25 #[.slice (some ⟨tb, ot, none⟩) R ca, .slice ac C cc, .slice (some ⟨kb, ko, none⟩) R ck] ∧ TbR W (.slice (some ⟨tb, ot, none⟩) R ca) (.slice ac C cc) (.slice (some ⟨kb, ko, none⟩) R ck) T ∧ Boxs W b1 25 #[.slice al1 TL.rows.length kl1, .slice aco1 C cco1, .slice ak1 TL.cls.length kk1] ∧ TbR W (.slice al1 TL.rows.length kl1) (.slice aco1 C cco1) (.slice ak1 TL.cls.length kk1) TL ∧ RdI W (.slice an ns.length cn) ns ∧ Below w.heap.size w W))
    have hq := HQ.start (N := N2) (w0 := u0) (R := R) (by omega)
    have HQ0 := Lib.hid hq
    have HIR := Lib.hid hiR
    have HN2 := Lib.hid hN2
    obtain ⟨q5, hq5⟩ : ∃ q, around by_ 5 = q := ⟨_, rfl⟩
    have h5b := around_bd by_ 5 (by omega)
    rw [hq5] at h5b
    have HQ5 := Lib.hid hq5
    clear hbx1 htb1 hbel1 hsz1 hTL hll hbel1' hr0 hbx4 htb4 hq hN2 hq5 htlt hklt hui hkci hrdi hri hki BX HT HB BX4 HT4 HB4
    obtain ⟨fb, ft, -⟩ := FZ.out u0 HQ0.out.bel
    have p0 := fb.cell 0; have p1 := fb.cell 1; have p2 := fb.cell 2
    have q1 := fb.lt
    simp only [List.getElem?_toArray, List.getElem?_cons_zero, List.getElem?_cons_succ] at p0 p1 p2
    have XX := copy_any _ _ _ T u0 ft ⟨by have := HRR.out; omega, by have := HCC.out; omega, by have := HKL.out; omega, fun r hr => by have := HOK.out.rl r hr; have := HCC.out; omega⟩
    unfold CopyOut at XX
    clear ft fb
    go_wp2_with fail
    with_reducible refine XX.mono ?_
    rintro e xM ⟨⟨vaM, vcM, vkM, usM, rfl, hown⟩, hb⟩
    clear p0 p1 p2 q1 XX
    have hq := HQ0.out.table hb hown HRR.out
    obtain ⟨gM, cM, e1⟩ := ownsRow_some hown.out (show 0 < T.rows.length by have := HRR.out; omega)
    rw [HRR.out] at e1
    subst e1
    obtain ⟨acoM, ccoM, e1⟩ := owns_form (hown.rs.inn 0 _ _ rfl rfl)
    rw [HCC.out] at e1
    subst e1
    obtain ⟨gkM, ckM, e1⟩ := ownsRow_some (hown.rs.inn 1 _ _ rfl rfl) (show 0 < T.cls.length by have := HKL.out; omega)
    rw [HKL.out] at e1
    subst e1
    obtain ⟨bM, hB⟩ : ∃ b, xM.heap.size = b := ⟨_, rfl⟩
    rw [hB] at hq
    simp only [List.nil_append, List.cons_append] at hq
    have HULM := Lib.hid (show usM.length = R by have := hown.out.1; have := HRR.out; omega)
    have HQM := Lib.hid hq
    clear hq hown hb
    go_wp2_with fail
    clear hB
    generalize xM.alloc (.cells #[.slice (some ⟨gM, 0, none⟩) R cM, .slice acoM C ccoM, .slice (some ⟨gkM, 0, none⟩) R ckM] 25) = yM at *
    have bxM := (HQM.out.box (k := 0) rfl).2
    have z0 := bxM.cell 0; have z1 := bxM.cell 1; have z2 := bxM.cell 2
    simp only [List.getElem?_toArray, List.getElem?_cons_zero, List.getElem?_cons_succ] at z0 z1 z2
    refine wp_region_E (fun W => W.cell? ⟨bM, 1, none⟩ = some (.slice acoM C ccoM)) (by kernel_rfl) ?_
    have hdr : (yM).drew = { yM with drawn := (yM).drawn + 1 } := rfl
    rw [← hdr]
    clear hdr
    change wpAnyE _ _ _ _ _ _ _ _ ((yM).drewN 1)
    refine tg 0 81 rfl rfl (.pointer (some ⟨bM, 1, none⟩)) z1 ?_
    try simp only [pa, pl]
    refine tk 1 82 rfl rfl (.slice acoM C ccoM) (fun W hW => by obtain z1 := hW; go_simp) z1 ?_
    try simp only [pa, pl]
    refine tm 2 83 rfl rfl (.int .i64 by_) z1 ?_
    try simp only [pa, pl]
    refine wpAnyEOne 3 (by kernel_rfl) ?_
    refine wpOpCall (some 84) 22 #[.int .i64 by_, .int .i64 5] rfl rfl rfl (by go_simp) (around_any by_ _ _ hb1 hb2 (by omega) (by omega)) ?_
    rintro e w5 ⟨rfl, rfl⟩
    rw [HQ5.out]
    refine ⟨_, rfl, ?_⟩
    refine ⟨.inl (z1), ?_⟩
    try simp only [pa, pl]
    refine tk 4 85 rfl rfl (.int .i64 (1 + q5)) (fun _ _ => by go_simp; exact IntWalk.i64_in _ (by omega)) z1 ?_
    try simp only [pa, pl]
    refine wpAnyEOne 5 (by kernel_rfl) ?_
    refine wpOpRun' (v := .slice (some ⟨(yM.drewN 1).heap.size, 0, none⟩) 1 1) (w' := ((yM.drewN 1).alloc (.cells #[.int .i64 (1 + q5)] 3))) (some 86) rfl rfl rfl (by go_simp <;> rfl) ?_
    have hq2 := (HQM.out.under (Below.dn (Below.refl _ _) 1)).under (alloc_below (yM.drewN 1) (.cells #[.int .i64 (1 + q5)] 3))
    have bx2 := (hq2.box (k := 0) rfl).2
    have z1 := bx2.cell 1
    simp only [List.getElem?_toArray, List.getElem?_cons_zero, List.getElem?_cons_succ] at z1
    have hco2 : World.ownsRow ((yM.drewN 1).alloc (.cells #[.int .i64 (1 + q5)] 3)) N2 3 1 (.slice acoM C ccoM) T.costs.length (ints T.costs) := hq2.co (k := 0) rfl
    refine ⟨.inl (z1), ?_⟩
    try simp only [pa, pl]
    refine wpAnyEOne 6 (by kernel_rfl) ?_
    refine wpOpAppI 6 (some 87) rfl rfl rfl (.tmp 82) (.tmp 86) rfl (.slice acoM C ccoM) (T.costs) rfl (hco2) (.slice (some ⟨(yM.drewN 1).heap.size, 0, none⟩) 1 1) ([1 + q5]) rfl (Rd_fresh (yM.drewN 1) 3 #[.int .i64 (1 + q5)] 1 rfl (by omega)) (by have := HCC.out; simp; omega) (hq2.sz) fun v3 w3 happ => ?_
    have bx3 := hq2.boxApp (k := 0) rfl hco2 happ
    have hq3 := hq2.appC (k := 0) rfl hco2 rfl happ
    obtain ⟨a3, k3, e3⟩ := happ.form
    rw [show (T.costs ++ [1 + q5]).length = C + 1 by rw [List.length_append, HCC.out]; rfl] at e3
    subst e3
    have z1 := bx3.cell 1; have zf := bx3.frozen 1; have zl := bx3.lt
    simp only [List.getElem?_toArray, List.getElem?_cons_zero, List.getElem?_cons_succ] at z1
    refine ⟨.inl (z1), ?_⟩
    try simp only [pa, pl]
    refine tg 7 88 rfl rfl (.pointer (some ⟨bM, 1, none⟩)) z1 ?_
    try simp only [pa, pl]
    refine wpAnyEOne 8 (by kernel_rfl) ?_
    refine wpOpSkip (w' := w3.setCell ⟨bM, 1, none⟩ (.slice a3 (C + 1) k3)) 8 rfl rfl rfl (by go_simp <;> rfl) ?_
    refine ⟨.inr (allUp_of (by kernel_rfl)), ?_⟩
    try simp only [pa, pl]
    refine wpAnyE_done (by kernel_rfl) ?_ _
    simp only [List.set_cons_zero, List.set_cons_succ] at hq3
    have HQ9 := Lib.hid hq3
    clear hq3 hq2 bx2 bx3 hco2 happ z0 z1 z2 zf zl bxM
    generalize w3.setCell ⟨bM, 1, none⟩ (.slice a3 (C + 1) k3) = y9 at *
    obtain ⟨fb, ft, -⟩ := FZ.out y9 HQ9.out.bel
    have p0 := fb.cell 0; have p1 := fb.cell 1; have p2 := fb.cell 2
    have q1 := fb.lt
    simp only [List.getElem?_toArray, List.getElem?_cons_zero, List.getElem?_cons_succ] at p0 p1 p2
    have XX := copy_any _ _ _ T y9 ft ⟨by have := HRR.out; omega, by have := HCC.out; omega, by have := HKL.out; omega, fun r hr => by have := HOK.out.rl r hr; have := HCC.out; omega⟩
    unfold CopyOut at XX
    clear ft fb
    go_wp2_with fail
    with_reducible refine XX.mono ?_
    rintro e xT ⟨⟨vaT, vcT, vkT, usT, rfl, hown⟩, hb⟩
    clear p0 p1 p2 q1 XX
    have hq := HQ9.out.table hb hown HRR.out
    obtain ⟨gT, cT, e1⟩ := ownsRow_some hown.out (show 0 < T.rows.length by have := HRR.out; omega)
    rw [HRR.out] at e1
    subst e1
    obtain ⟨acoT, ccoT, e1⟩ := owns_form (hown.rs.inn 0 _ _ rfl rfl)
    rw [HCC.out] at e1
    subst e1
    obtain ⟨gkT, ckT, e1⟩ := ownsRow_some (hown.rs.inn 1 _ _ rfl rfl) (show 0 < T.cls.length by have := HKL.out; omega)
    rw [HKL.out] at e1
    subst e1
    obtain ⟨bT, hB⟩ : ∃ b, xT.heap.size = b := ⟨_, rfl⟩
    rw [hB] at hq
    simp only [List.nil_append, List.cons_append] at hq
    have HULT := Lib.hid (show usT.length = R by have := hown.out.1; have := HRR.out; omega)
    have HQT := Lib.hid hq
    clear hq hown hb
    go_wp2_with fail
    clear hB
    generalize xT.alloc (.cells #[.slice (some ⟨gT, 0, none⟩) R cT, .slice acoT C ccoT, .slice (some ⟨gkT, 0, none⟩) R ckT] 25) = yT at *
    obtain ⟨fb, ft, -⟩ := FZ.out yT HQT.out.bel
    have p0 := fb.cell 0; have p1 := fb.cell 1; have p2 := fb.cell 2
    have q1 := fb.lt
    simp only [List.getElem?_toArray, List.getElem?_cons_zero, List.getElem?_cons_succ] at p0 p1 p2
    obtain ⟨f1, f2, -⟩ := FI.out yT HQT.out.bel
    have bxT := (HQT.out.box (k := 1) rfl).2
    have z0 := bxT.cell 0; have z1 := bxT.cell 1; have z2 := bxT.cell 2
    simp only [List.getElem?_toArray, List.getElem?_cons_zero, List.getElem?_cons_succ] at z0 z1 z2
    have hi0 : (0 : Int) ≤ (i : Int) := Int.natCast_nonneg _
    have hi1 : (i : Int) < (R : Int) := by have := HIR.out; omega
    refine wp_region_E (fun W => W.cell? ⟨bT, 0, none⟩ = some (.slice (some ⟨gT, 0, none⟩) R cT) ∧ W.cell? ⟨b0, 0, none⟩ = some (.slice (some ⟨tb, ot, none⟩) R ca) ∧ W.cell? ⟨tb, ot + i, none⟩ = some (.slice ai C ci)) (by kernel_rfl) ?_
    have hdr : (yT).drew = { yT with drawn := (yT).drawn + 1 } := rfl
    rw [← hdr]
    clear hdr
    change wpAnyE _ _ _ _ _ _ _ _ ((yT).drewN 1)
    refine tg 0 91 rfl rfl (.pointer (some ⟨bT, 0, none⟩)) ⟨z0, p0, f1⟩ ?_
    try simp only [pa, pl]
    refine tk 1 92 rfl rfl (.slice (some ⟨gT, 0, none⟩) R cT) (fun W hW => by obtain ⟨z0, p0, f1⟩ := hW; go_simp) ⟨z0, p0, f1⟩ ?_
    try simp only [pa, pl]
    refine tg 2 93 rfl rfl (.pointer (some ⟨b0, 0, none⟩)) ⟨z0, p0, f1⟩ ?_
    try simp only [pa, pl]
    refine tk 3 94 rfl rfl (.slice (some ⟨tb, ot, none⟩) R ca) (fun W hW => by obtain ⟨z0, p0, f1⟩ := hW; go_simp) ⟨z0, p0, f1⟩ ?_
    try simp only [pa, pl]
    refine tm 4 95 rfl rfl (.int .i64 (i : Int)) ⟨z0, p0, f1⟩ ?_
    try simp only [pa, pl]
    refine tg 5 96 rfl rfl (.pointer (some ⟨tb, ot + i, none⟩)) ⟨z0, p0, f1⟩ ?_
    try simp only [pa, pl]
    refine tk 6 97 rfl rfl (.slice ai C ci) (fun W hW => by obtain ⟨z0, p0, f1⟩ := hW; go_simp) ⟨z0, p0, f1⟩ ?_
    try simp only [pa, pl]
    refine wpAnyEOne 7 (by kernel_rfl) ?_
    refine wpOpRun' (v := .slice (some ⟨(yT.drewN 1).heap.size, 0, none⟩) 1 1) (w' := ((yT.drewN 1).alloc (.cells #[.slice ai C ci] 22))) (some 98) rfl rfl rfl (by go_simp <;> rfl) ?_
    have hq2 := (HQT.out.under (Below.dn (Below.refl _ _) 1)).under (alloc_below (yT.drewN 1) (.cells #[.slice ai C ci] 22))
    have bx2 := (hq2.box (k := 1) rfl).2
    have z0 := bx2.cell 0
    simp only [List.getElem?_toArray, List.getElem?_cons_zero, List.getElem?_cons_succ] at z0
    obtain ⟨fb, -⟩ := FZ.out _ hq2.bel
    have p0 := fb.cell 0
    simp only [List.getElem?_toArray, List.getElem?_cons_zero, List.getElem?_cons_succ] at p0
    obtain ⟨f1, -⟩ := FI.out _ hq2.bel
    have hou2 : World.ownsRow ((yT.drewN 1).alloc (.cells #[.slice ai C ci] 22)) N2 22 1 (.slice (some ⟨gT, 0, none⟩) R cT) (usT ++ []).length (usT ++ []) := hq2.out (k := 1) rfl
    rw [List.append_nil, HULT.out] at hou2
    refine ⟨.inl (⟨z0, p0, f1⟩), ?_⟩
    try simp only [pa, pl]
    refine wpAnyEOne 8 (by kernel_rfl) ?_
    refine wpOpAppR (base := N2) 8 (some 99) rfl rfl rfl (.tmp 92) (.tmp 98) rfl (.slice (some ⟨gT, 0, none⟩) R cT) R usT rfl hou2 (.slice (some ⟨(yT.drewN 1).heap.size, 0, none⟩) 1 1) [.slice ai C ci] rfl (Rd_fresh (yT.drewN 1) 22 #[.slice ai C ci] 1 rfl (by omega)) (by simp [Value.oneCell']) (by simp; omega) hq2.sz fun v3 w3 happ => ?_
    have happ' : AppOut N2 22 ((yT.drewN 1).alloc (.cells #[.slice ai C ci] 22)) (.slice (some ⟨gT, 0, none⟩) R cT) (usT ++ [] ++ [Value.slice ai C ci]).length (usT ++ [] ++ [Value.slice ai C ci]) v3 w3 := by
      rw [List.append_nil, List.length_append, HULT.out]; exact happ
    have bx3 := hq2.boxApp2 (k := 1) rfl hou2 happ'
    have hq3 := hq2.appO (k := 1) rfl hou2 rfl happ'
    obtain ⟨a4, k4, e3⟩ := happ.form
    rw [show R + [(Value.slice ai C ci)].length = R + 1 from rfl] at e3
    subst e3
    have z0 := bx3.cell 0; have zf := bx3.frozen 0; have zl := bx3.lt
    simp only [List.getElem?_toArray, List.getElem?_cons_zero, List.getElem?_cons_succ] at z0
    obtain ⟨fb, -⟩ := FZ.out _ (happ'.below hq2.bel hou2 (Nat.le_refl _) hq2.sz)
    have p0 := fb.cell 0
    simp only [List.getElem?_toArray, List.getElem?_cons_zero, List.getElem?_cons_succ] at p0
    obtain ⟨f1, -⟩ := FI.out _ (happ'.below hq2.bel hou2 (Nat.le_refl _) hq2.sz)
    refine ⟨.inl (⟨z0, p0, f1⟩), ?_⟩
    try simp only [pa, pl]
    refine tg 9 100 rfl rfl (.pointer (some ⟨bT, 0, none⟩)) ⟨z0, p0, f1⟩ ?_
    try simp only [pa, pl]
    refine wpAnyEOne 10 (by kernel_rfl) ?_
    refine wpOpSkip (w' := w3.setCell ⟨bT, 0, none⟩ (.slice a4 (R + 1) k4)) 10 rfl rfl rfl (by go_simp <;> rfl) ?_
    refine ⟨.inr (allUp_of (by kernel_rfl)), ?_⟩
    try simp only [pa, pl]
    refine wpAnyE_done (by kernel_rfl) ?_ _
    simp only [List.set_cons_zero, List.set_cons_succ, List.nil_append] at hq3
    have HQ11 := Lib.hid hq3
    clear hq3 hq2 bx2 bx3 hou2 happ happ' z0 z1 z2 zf zl bxT fb p0 p1 p2 q1 f1 f2 ft
    generalize w3.setCell ⟨bT, 0, none⟩ (.slice a4 (R + 1) k4) = y11 at *
    go_wp2_with fail
    obtain ⟨fb, ft, -⟩ := FZ.out y11 HQ11.out.bel
    have p0 := fb.cell 0; have p1 := fb.cell 1; have p2 := fb.cell 2
    have q1 := fb.lt
    simp only [List.getElem?_toArray, List.getElem?_cons_zero, List.getElem?_cons_succ] at p0 p1 p2
    obtain ⟨f1, f2, -⟩ := FI.out y11 HQ11.out.bel
    have bxT := (HQ11.out.box (k := 1) rfl).2
    have z0 := bxT.cell 0; have z1 := bxT.cell 1; have z2 := bxT.cell 2
    simp only [List.getElem?_toArray, List.getElem?_cons_zero, List.getElem?_cons_succ] at z0 z1 z2
    refine wp_region_E (fun W => W.cell? ⟨bT, 2, none⟩ = some (.slice (some ⟨gkT, 0, none⟩) R ckT) ∧ W.cell? ⟨b0, 2, none⟩ = some (.slice (some ⟨kb, ko, none⟩) R ck) ∧ W.cell? ⟨kb, ko + i, none⟩ = some (.int .i64 ki)) (by kernel_rfl) ?_
    have hdr : (y11).drew = { y11 with drawn := (y11).drawn + 1 } := rfl
    rw [← hdr]
    clear hdr
    change wpAnyE _ _ _ _ _ _ _ _ ((y11).drewN 1)
    refine tg 0 101 rfl rfl (.pointer (some ⟨bT, 2, none⟩)) ⟨z2, p2, f2⟩ ?_
    try simp only [pa, pl]
    refine tk 1 102 rfl rfl (.slice (some ⟨gkT, 0, none⟩) R ckT) (fun W hW => by obtain ⟨z2, p2, f2⟩ := hW; go_simp) ⟨z2, p2, f2⟩ ?_
    try simp only [pa, pl]
    refine tg 2 103 rfl rfl (.pointer (some ⟨b0, 2, none⟩)) ⟨z2, p2, f2⟩ ?_
    try simp only [pa, pl]
    refine tk 3 104 rfl rfl (.slice (some ⟨kb, ko, none⟩) R ck) (fun W hW => by obtain ⟨z2, p2, f2⟩ := hW; go_simp) ⟨z2, p2, f2⟩ ?_
    try simp only [pa, pl]
    refine tm 4 105 rfl rfl (.int .i64 (i : Int)) ⟨z2, p2, f2⟩ ?_
    try simp only [pa, pl]
    refine tg 5 106 rfl rfl (.pointer (some ⟨kb, ko + i, none⟩)) ⟨z2, p2, f2⟩ ?_
    try simp only [pa, pl]
    refine tk 6 107 rfl rfl (.int .i64 ki) (fun W hW => by obtain ⟨z2, p2, f2⟩ := hW; go_simp) ⟨z2, p2, f2⟩ ?_
    try simp only [pa, pl]
    refine wpAnyEOne 7 (by kernel_rfl) ?_
    refine wpOpRun' (v := .slice (some ⟨(y11.drewN 1).heap.size, 0, none⟩) 1 1) (w' := ((y11.drewN 1).alloc (.cells #[.int .i64 ki] 3))) (some 108) rfl rfl rfl (by go_simp <;> rfl) ?_
    have hq2 := (HQ11.out.under (Below.dn (Below.refl _ _) 1)).under (alloc_below (y11.drewN 1) (.cells #[.int .i64 ki] 3))
    have bx2 := (hq2.box (k := 1) rfl).2
    have z2 := bx2.cell 2
    simp only [List.getElem?_toArray, List.getElem?_cons_zero, List.getElem?_cons_succ] at z2
    obtain ⟨fb, -⟩ := FZ.out _ hq2.bel
    have p2 := fb.cell 2
    simp only [List.getElem?_toArray, List.getElem?_cons_zero, List.getElem?_cons_succ] at p2
    obtain ⟨-, f2, -⟩ := FI.out _ hq2.bel
    have hcl2 : World.ownsRow ((y11.drewN 1).alloc (.cells #[.int .i64 ki] 3)) N2 3 1 (.slice (some ⟨gkT, 0, none⟩) R ckT) T.cls.length (ints T.cls) := hq2.cl (k := 1) rfl
    refine ⟨.inl (⟨z2, p2, f2⟩), ?_⟩
    try simp only [pa, pl]
    refine wpAnyEOne 8 (by kernel_rfl) ?_
    refine wpOpAppI 8 (some 109) rfl rfl rfl (.tmp 102) (.tmp 108) rfl (.slice (some ⟨gkT, 0, none⟩) R ckT) (T.cls) rfl (hcl2) (.slice (some ⟨(y11.drewN 1).heap.size, 0, none⟩) 1 1) ([ki]) rfl (Rd_fresh (y11.drewN 1) 3 #[.int .i64 ki] 1 rfl (by omega)) (by have := HKL.out; simp; omega) (hq2.sz) fun v3 w3 happ => ?_
    have bx3 := hq2.boxApp (k := 1) rfl hcl2 happ
    have hq3 := hq2.appK (k := 1) rfl hcl2 rfl happ
    obtain ⟨a5, k5, e3⟩ := happ.form
    rw [show (T.cls ++ [ki]).length = R + 1 by rw [List.length_append, HKL.out]; rfl] at e3
    subst e3
    have z2 := bx3.cell 2; have zf := bx3.frozen 2; have zl := bx3.lt
    simp only [List.getElem?_toArray, List.getElem?_cons_zero, List.getElem?_cons_succ] at z2
    obtain ⟨fb, -⟩ := FZ.out _ (happ.below hq2.bel hcl2 (Nat.le_refl _) hq2.sz)
    have p2 := fb.cell 2
    simp only [List.getElem?_toArray, List.getElem?_cons_zero, List.getElem?_cons_succ] at p2
    obtain ⟨-, f2, -⟩ := FI.out _ (happ.below hq2.bel hcl2 (Nat.le_refl _) hq2.sz)
    refine ⟨.inl (⟨z2, p2, f2⟩), ?_⟩
    try simp only [pa, pl]
    refine tg 9 110 rfl rfl (.pointer (some ⟨bT, 2, none⟩)) ⟨z2, p2, f2⟩ ?_
    try simp only [pa, pl]
    refine wpAnyEOne 10 (by kernel_rfl) ?_
    refine wpOpSkip (w' := w3.setCell ⟨bT, 2, none⟩ (.slice a5 (R + 1) k5)) 10 rfl rfl rfl (by go_simp <;> rfl) ?_
    refine ⟨.inr (allUp_of (by kernel_rfl)), ?_⟩
    try simp only [pa, pl]
    refine wpAnyE_done (by kernel_rfl) ?_ _
    simp only [List.set_cons_zero, List.set_cons_succ] at hq3
    have HQ12 := Lib.hid hq3
    clear hq3 hq2 bx2 bx3 hcl2 happ z0 z1 z2 zf zl bxT fb p0 p1 p2 q1 f1 f2 ft hi0 hi1
    generalize w3.setCell ⟨bT, 2, none⟩ (.slice a5 (R + 1) k5) = y12 at *
    obtain ⟨fb, ft, -⟩ := FZ.out y12 HQ12.out.bel
    have p0 := fb.cell 0; have p1 := fb.cell 1; have p2 := fb.cell 2
    have q1 := fb.lt
    simp only [List.getElem?_toArray, List.getElem?_cons_zero, List.getElem?_cons_succ] at p0 p1 p2
    have XX := copy_any _ _ _ T y12 ft ⟨by have := HRR.out; omega, by have := HCC.out; omega, by have := HKL.out; omega, fun r hr => by have := HOK.out.rl r hr; have := HCC.out; omega⟩
    unfold CopyOut at XX
    clear ft fb
    go_wp2_with fail
    with_reducible refine XX.mono ?_
    rintro e xC ⟨⟨vaC, vcC, vkC, usC, rfl, hown⟩, hb⟩
    clear p0 p1 p2 q1 XX
    have hq := HQ12.out.table hb hown HRR.out
    obtain ⟨gC, cC, e1⟩ := ownsRow_some hown.out (show 0 < T.rows.length by have := HRR.out; omega)
    rw [HRR.out] at e1
    subst e1
    obtain ⟨acoC, ccoC, e1⟩ := owns_form (hown.rs.inn 0 _ _ rfl rfl)
    rw [HCC.out] at e1
    subst e1
    obtain ⟨gkC, ckC, e1⟩ := ownsRow_some (hown.rs.inn 1 _ _ rfl rfl) (show 0 < T.cls.length by have := HKL.out; omega)
    rw [HKL.out] at e1
    subst e1
    obtain ⟨bC, hB⟩ : ∃ b, xC.heap.size = b := ⟨_, rfl⟩
    rw [hB] at hq
    simp only [List.nil_append, List.cons_append] at hq
    have HULC := Lib.hid (show usC.length = R by have := hown.out.1; have := HRR.out; omega)
    have HQC := Lib.hid hq
    clear hq hown hb
    go_upto_region 14 with fail
    clear hB
    generalize xC.alloc (.cells #[.slice (some ⟨gC, 0, none⟩) R cC, .slice acoC C ccoC, .slice (some ⟨gkC, 0, none⟩) R ckC] 25) = yC at *
    obtain ⟨fb, ft, -⟩ := FZ.out yC HQC.out.bel
    have p0 := fb.cell 0; have p1 := fb.cell 1; have p2 := fb.cell 2
    have q1 := fb.lt
    simp only [List.getElem?_toArray, List.getElem?_cons_zero, List.getElem?_cons_succ] at p0 p1 p2
    have XX := copy_any _ _ _ T yC ft ⟨by have := HRR.out; omega, by have := HCC.out; omega, by have := HKL.out; omega, fun r hr => by have := HOK.out.rl r hr; have := HCC.out; omega⟩
    unfold CopyOut at XX
    clear ft fb
    go_wp2_with fail
    with_reducible refine XX.mono ?_
    rintro e xB ⟨⟨vaB, vcB, vkB, usB, rfl, hown⟩, hb⟩
    clear p0 p1 p2 q1 XX
    have hq := HQC.out.table hb hown HRR.out
    obtain ⟨gB, cB, e1⟩ := ownsRow_some hown.out (show 0 < T.rows.length by have := HRR.out; omega)
    rw [HRR.out] at e1
    subst e1
    obtain ⟨acoB, ccoB, e1⟩ := owns_form (hown.rs.inn 0 _ _ rfl rfl)
    rw [HCC.out] at e1
    subst e1
    obtain ⟨gkB, ckB, e1⟩ := ownsRow_some (hown.rs.inn 1 _ _ rfl rfl) (show 0 < T.cls.length by have := HKL.out; omega)
    rw [HKL.out] at e1
    subst e1
    obtain ⟨bB, hB⟩ : ∃ b, xB.heap.size = b := ⟨_, rfl⟩
    rw [hB] at hq
    simp only [List.nil_append, List.cons_append] at hq
    have HULB := Lib.hid (show usB.length = R by have := hown.out.1; have := HRR.out; omega)
    have HQB := Lib.hid hq
    clear hq hown hb
    go_upto_region 15 with fail
    clear hB
    generalize xB.alloc (.cells #[.slice (some ⟨gB, 0, none⟩) R cB, .slice acoB C ccoB, .slice (some ⟨gkB, 0, none⟩) R ckB] 25) = yB at *
    obtain ⟨fb, ft, -⟩ := FZ.out yB HQB.out.bel
    have p0 := fb.cell 0; have p1 := fb.cell 1; have p2 := fb.cell 2
    have q1 := fb.lt
    simp only [List.getElem?_toArray, List.getElem?_cons_zero, List.getElem?_cons_succ] at p0 p1 p2
    obtain ⟨kq, hkq, hkC⟩ : ∃ k : Nat, around by_ (max (C : Int) 1) = k ∧ (k : Int) < max (C : Int) 1 := by
      obtain ⟨h1, h2⟩ := around_bd by_ (max (C : Int) 1) (by omega)
      exact ⟨(around by_ (max (C : Int) 1)).toNat, by omega, by omega⟩
    have AR := around_any by_ (max (C : Int) 1) yB hb1 hb2 (by omega) (by omega)
    rw [hkq] at AR
    go_wp2_with fail
    refine AR.mono ?_
    rintro e w5 ⟨rfl, rfl⟩
    clear AR hkq
    go_upto_if 125 with fail
    clear p0 p1 p2 q1
    try clear ft
    try clear fb
    go_cut [] (fun wx => ∃ acX ccX, HQ N2 u0 wx R [⟨bM, .slice (some ⟨gM, 0, none⟩) R cM, .slice a3 (C + 1) k3, .slice (some ⟨gkM, 0, none⟩) R ckM, usM, [], T.rows, T.costs ++ [1 + q5], T.cls⟩, ⟨bT, .slice a4 (R + 1) k4, .slice acoT C ccoT, .slice a5 (R + 1) k5, usT, [.slice ai C ci], T.rows, T.costs, T.cls ++ [ki]⟩, ⟨bC, .slice (some ⟨gC, 0, none⟩) R cC, .slice acoC C ccoC, .slice (some ⟨gkC, 0, none⟩) R ckC, usC, [], T.rows, cheapX T kq, T.cls⟩, ⟨bB, .slice (some ⟨gB, 0, none⟩) R cB, .slice acX (bothX T kq).length ccX, .slice (some ⟨gkB, 0, none⟩) R ckB, usB, [], T.rows, bothX T kq, T.cls⟩])
    case first =>
      as_aux_lemma =>
        by_cases hk : kq < C
        · have hk1 : (kq : Int) < (C : Int) := by omega
          have hk0 : (0 : Int) ≤ (kq : Int) := Int.natCast_nonneg _
          have hkT : kq < T.costs.length := by rw [HCC.out]; exact hk
          obtain ⟨q, hq⟩ := elem_at hkT
          have hcq : costAt T kq = q := costAt_of hq
          have hqb := HOK.out.cb q (List.mem_of_getElem? hq)
          obtain ⟨gC', kC', e⟩ := ownsRow_some (HQB.out.co (k := 2) rfl) (show 0 < T.costs.length by omega)
          rw [HCC.out] at e
          cases e
          obtain ⟨-, ft, -⟩ := FZ.out yB HQB.out.bel
          obtain ⟨kcb, kco, e, klt, kcell⟩ := ft.costs.at hq
          cases e
          have FK := Lib.hid (fun (W : World) (hb : Below N2 u0 W) => (by
            obtain ⟨-, ft, -⟩ := FZ.out W hb
            obtain ⟨x1, x2, e, -, h⟩ := ft.costs.at hq
            cases e; exact h : W.cell? ⟨kcb, kco + kq, none⟩ = some (.int .i64 q)))
          have HEC : cheapX T kq = T.costs.set kq (max 1 (q - 1)) := by unfold cheapX; rw [if_pos hkT, hcq]
          have HEB : bothX T kq = T.costs ++ [q] := by unfold bothX; rw [if_pos hkT, hcq]
          have HXC := Lib.hid HEC; have HXB := Lib.hid HEB
          have hcoC : yB.ownsRow N2 3 1 (.slice (some ⟨gC', 0, none⟩) C ccoC) T.costs.length (ints T.costs) := HQB.out.co (k := 2) rfl
          rw [HCC.out] at hcoC
          have hgl : gC' < yB.heap.size := (hcoC.lt gC' rfl).2
          have hgz : yB.frozen? ⟨gC', kq, none⟩ = false := hcoC.frozenAt kq
          have hgc := hcoC.cellAt kq (show kq < C * 1 by omega)
          rw [show (ints T.costs)[kq]? = some (.int .i64 q) by simp [ints, hq]] at hgc
          clear hcoC
          clear hkT hcq ft klt kcell HEC HEB hq
          go_wp2_with fail
          obtain ⟨fb, ft, -⟩ := FZ.out yB HQB.out.bel
          have p0 := fb.cell 0; have p1 := fb.cell 1; have p2 := fb.cell 2
          have q1 := fb.lt
          simp only [List.getElem?_toArray, List.getElem?_cons_zero, List.getElem?_cons_succ] at p0 p1 p2
          have bxC := (HQB.out.box (k := 2) rfl).2
          have z0 := bxC.cell 0; have z1 := bxC.cell 1; have z2 := bxC.cell 2
          simp only [List.getElem?_toArray, List.getElem?_cons_zero, List.getElem?_cons_succ] at z0 z1 z2
          have kc := FK.out yB HQB.out.bel
          refine wp_region_E (fun W => W.cell? ⟨bC, 1, none⟩ = some (.slice (some ⟨gC', 0, none⟩) C ccoC) ∧ W.cell? ⟨b0, 1, none⟩ = some (.slice (some ⟨kcb, kco, none⟩) C cc) ∧ W.cell? ⟨kcb, kco + kq, none⟩ = some (.int .i64 q)) (by kernel_rfl) ?_
          have hdr : (yB).drew = { yB with drawn := (yB).drawn + 1 } := rfl
          rw [← hdr]
          clear hdr
          change wpAnyE _ _ _ _ _ _ _ _ ((yB).drewN 1)
          refine tg 0 126 rfl rfl (.pointer (some ⟨bC, 1, none⟩)) ⟨z1, p1, kc⟩ ?_
          try simp only [pa, pl]
          refine tk 1 127 rfl rfl (.slice (some ⟨gC', 0, none⟩) C ccoC) (fun W hW => by obtain ⟨z1, p1, kc⟩ := hW; go_simp) ⟨z1, p1, kc⟩ ?_
          try simp only [pa, pl]
          refine tm 2 128 rfl rfl (.int .i64 (kq : Int)) ⟨z1, p1, kc⟩ ?_
          try simp only [pa, pl]
          refine tg 3 129 rfl rfl (.pointer (some ⟨b0, 1, none⟩)) ⟨z1, p1, kc⟩ ?_
          try simp only [pa, pl]
          refine tk 4 130 rfl rfl (.slice (some ⟨kcb, kco, none⟩) C cc) (fun W hW => by obtain ⟨z1, p1, kc⟩ := hW; go_simp) ⟨z1, p1, kc⟩ ?_
          try simp only [pa, pl]
          refine tm 5 131 rfl rfl (.int .i64 (kq : Int)) ⟨z1, p1, kc⟩ ?_
          try simp only [pa, pl]
          refine tg 6 132 rfl rfl (.pointer (some ⟨kcb, kco + kq, none⟩)) ⟨z1, p1, kc⟩ ?_
          try simp only [pa, pl]
          refine tk 7 133 rfl rfl (.int .i64 q) (fun W hW => by obtain ⟨z1, p1, kc⟩ := hW; go_simp) ⟨z1, p1, kc⟩ ?_
          try simp only [pa, pl]
          refine tk 8 134 rfl rfl (.int .i64 (q - 1)) (fun _ _ => by go_simp; exact IntWalk.i64_in _ (by omega)) ⟨z1, p1, kc⟩ ?_
          try simp only [pa, pl]
          refine tg 9 135 rfl rfl (.int .i64 (max 1 (q - 1))) ⟨z1, p1, kc⟩ ?_
          try simp only [pa, pl]
          refine tg 10 136 rfl rfl (.pointer (some ⟨gC', kq, none⟩)) ⟨z1, p1, kc⟩ ?_
          try simp only [pa, pl]
          refine wpAnyEOne 11 (by kernel_rfl) ?_
          refine wpOpSkip (w' := (yB.drewN 1).setCell ⟨gC', kq, none⟩ (.int .i64 (max 1 (q - 1)))) 11 rfl rfl rfl (by go_simp <;> rfl) ?_
          refine ⟨.inr (allUp_of (by kernel_rfl)), ?_⟩
          try simp only [pa, pl]
          refine wpAnyE_done (by kernel_rfl) ?_ _
          have hq3 := (HQB.out.under (Below.dn (Below.refl _ _) 1)).putC (k := 2) rfl rfl kq (max 1 (q - 1))
          simp only [List.set_cons_zero, List.set_cons_succ] at hq3
          have HQ17 := Lib.hid hq3
          clear hq3 z0 z1 z2 bxC fb p0 p1 p2 q1 ft kc hgl hgz hgc
          generalize (yB.drewN 1).setCell ⟨gC', kq, none⟩ (.int .i64 (max 1 (q - 1))) = y17 at *
          go_wp2_with fail
          obtain ⟨fb, ft, -⟩ := FZ.out y17 HQ17.out.bel
          have p0 := fb.cell 0; have p1 := fb.cell 1; have p2 := fb.cell 2
          have q1 := fb.lt
          simp only [List.getElem?_toArray, List.getElem?_cons_zero, List.getElem?_cons_succ] at p0 p1 p2
          have bxB := (HQ17.out.box (k := 3) rfl).2
          have z0 := bxB.cell 0; have z1 := bxB.cell 1; have z2 := bxB.cell 2
          simp only [List.getElem?_toArray, List.getElem?_cons_zero, List.getElem?_cons_succ] at z0 z1 z2
          have kc := FK.out y17 HQ17.out.bel
          refine wp_region_E (fun W => W.cell? ⟨bB, 1, none⟩ = some (.slice acoB C ccoB) ∧ W.cell? ⟨b0, 1, none⟩ = some (.slice (some ⟨kcb, kco, none⟩) C cc) ∧ W.cell? ⟨kcb, kco + kq, none⟩ = some (.int .i64 q)) (by kernel_rfl) ?_
          have hdr : (y17).drew = { y17 with drawn := (y17).drawn + 1 } := rfl
          rw [← hdr]
          clear hdr
          change wpAnyE _ _ _ _ _ _ _ _ ((y17).drewN 1)
          refine tg 0 137 rfl rfl (.pointer (some ⟨bB, 1, none⟩)) ⟨z1, p1, kc⟩ ?_
          try simp only [pa, pl]
          refine tk 1 138 rfl rfl (.slice acoB C ccoB) (fun W hW => by obtain ⟨z1, p1, kc⟩ := hW; go_simp) ⟨z1, p1, kc⟩ ?_
          try simp only [pa, pl]
          refine tg 2 139 rfl rfl (.pointer (some ⟨b0, 1, none⟩)) ⟨z1, p1, kc⟩ ?_
          try simp only [pa, pl]
          refine tk 3 140 rfl rfl (.slice (some ⟨kcb, kco, none⟩) C cc) (fun W hW => by obtain ⟨z1, p1, kc⟩ := hW; go_simp) ⟨z1, p1, kc⟩ ?_
          try simp only [pa, pl]
          refine tm 4 141 rfl rfl (.int .i64 (kq : Int)) ⟨z1, p1, kc⟩ ?_
          try simp only [pa, pl]
          refine tg 5 142 rfl rfl (.pointer (some ⟨kcb, kco + kq, none⟩)) ⟨z1, p1, kc⟩ ?_
          try simp only [pa, pl]
          refine tk 6 143 rfl rfl (.int .i64 q) (fun W hW => by obtain ⟨z1, p1, kc⟩ := hW; go_simp) ⟨z1, p1, kc⟩ ?_
          try simp only [pa, pl]
          refine wpAnyEOne 7 (by kernel_rfl) ?_
          refine wpOpRun' (v := .slice (some ⟨(y17.drewN 1).heap.size, 0, none⟩) 1 1) (w' := ((y17.drewN 1).alloc (.cells #[.int .i64 q] 3))) (some 144) rfl rfl rfl (by go_simp <;> rfl) ?_
          have hq2 := (HQ17.out.under (Below.dn (Below.refl _ _) 1)).under (alloc_below (y17.drewN 1) (.cells #[.int .i64 q] 3))
          have bx2 := (hq2.box (k := 3) rfl).2
          have z1 := bx2.cell 1
          simp only [List.getElem?_toArray, List.getElem?_cons_zero, List.getElem?_cons_succ] at z1
          obtain ⟨fb, -⟩ := FZ.out _ hq2.bel
          have p1 := fb.cell 1
          simp only [List.getElem?_toArray, List.getElem?_cons_zero, List.getElem?_cons_succ] at p1
          have kc := FK.out _ hq2.bel
          have hco2 : World.ownsRow ((y17.drewN 1).alloc (.cells #[.int .i64 q] 3)) N2 3 1 (.slice acoB C ccoB) T.costs.length (ints T.costs) := hq2.co (k := 3) rfl
          refine ⟨.inl (⟨z1, p1, kc⟩), ?_⟩
          try simp only [pa, pl]
          refine wpAnyEOne 8 (by kernel_rfl) ?_
          refine wpOpAppI 8 (some 145) rfl rfl rfl (.tmp 138) (.tmp 144) rfl (.slice acoB C ccoB) (T.costs) rfl (hco2) (.slice (some ⟨(y17.drewN 1).heap.size, 0, none⟩) 1 1) ([q]) rfl (Rd_fresh (y17.drewN 1) 3 #[.int .i64 q] 1 rfl (by omega)) (by have := HCC.out; simp; omega) (hq2.sz) fun v3 w3 happ => ?_
          have bx3 := hq2.boxApp (k := 3) rfl hco2 happ
          have hq3 := hq2.appC (k := 3) rfl hco2 rfl happ
          obtain ⟨a6, k6, e3⟩ := happ.form
          rw [show (T.costs ++ [q]).length = C + 1 by rw [List.length_append, HCC.out]; rfl] at e3
          subst e3
          have z1 := bx3.cell 1; have zf := bx3.frozen 1; have zl := bx3.lt
          simp only [List.getElem?_toArray, List.getElem?_cons_zero, List.getElem?_cons_succ] at z1
          obtain ⟨fb, -⟩ := FZ.out _ (happ.below hq2.bel hco2 (Nat.le_refl _) hq2.sz)
          have p1 := fb.cell 1
          simp only [List.getElem?_toArray, List.getElem?_cons_zero, List.getElem?_cons_succ] at p1
          have kc := FK.out _ (happ.below hq2.bel hco2 (Nat.le_refl _) hq2.sz)
          refine ⟨.inl (⟨z1, p1, kc⟩), ?_⟩
          try simp only [pa, pl]
          refine tg 9 146 rfl rfl (.pointer (some ⟨bB, 1, none⟩)) ⟨z1, p1, kc⟩ ?_
          try simp only [pa, pl]
          refine wpAnyEOne 10 (by kernel_rfl) ?_
          refine wpOpSkip (w' := w3.setCell ⟨bB, 1, none⟩ (.slice a6 (C + 1) k6)) 10 rfl rfl rfl (by go_simp <;> rfl) ?_
          refine ⟨.inr (allUp_of (by kernel_rfl)), ?_⟩
          try simp only [pa, pl]
          refine wpAnyE_done (by kernel_rfl) ?_ _
          simp only [List.set_cons_zero, List.set_cons_succ] at hq3
          have HQ18 := Lib.hid hq3
          clear hq3 hq2 bx2 bx3 hco2 happ z0 z1 z2 zf zl bxB fb p0 p1 p2 q1 ft kc
          generalize w3.setCell ⟨bB, 1, none⟩ (.slice a6 (C + 1) k6) = y18 at *
          go_wp2_with fail
          go_meet
          refine ⟨a6, k6, ?_⟩
          rw [HXC.out, HXB.out, List.length_append, HCC.out]
          exact HQ18.out
        · have hk1 : ¬ (kq : Int) < (C : Int) := by omega
          go_wp2_with fail
          go_meet
          have hkT : ¬ kq < T.costs.length := by rw [HCC.out]; exact hk
          refine ⟨acoB, ccoB, ?_⟩
          rw [show cheapX T kq = T.costs by unfold cheapX; rw [if_neg hkT], show bothX T kq = T.costs by unfold bothX; rw [if_neg hkT], HCC.out]
          exact HQB.out
    case rest =>
      rename World => u1
      obtain ⟨acX, ccX, hq⟩ := hcut
      obtain ⟨nB, hnB⟩ : ∃ n, (bothX T kq).length = n := ⟨_, rfl⟩
      rw [hnB] at hq
      have HNB := Lib.hid hnB
      have HQX := Lib.hid hq
      clear hq hnB
      go_wp2_with fail
      go_loopw [20] (fun jv wr => ∃ (j : Nat) (usm usb : List Value), j ≤ R ∧ jv = .int .i64 j ∧ HQ N2 u0 wr R [⟨bM, .slice (some ⟨gM, 0, none⟩) R cM, .slice a3 (C + 1) k3, .slice (some ⟨gkM, 0, none⟩) R ckM, usm, [], updF (rowAt T) (fun q : Nat => rowAt T q ++ [atF ns (q : Int) 3]) j R, T.costs ++ [1 + q5], T.cls⟩, ⟨bT, .slice a4 (R + 1) k4, .slice acoT C ccoT, .slice a5 (R + 1) k5, usT, [.slice ai C ci], T.rows, T.costs, T.cls ++ [ki]⟩, ⟨bC, .slice (some ⟨gC, 0, none⟩) R cC, .slice acoC C ccoC, .slice (some ⟨gkC, 0, none⟩) R ckC, usC, [], T.rows, cheapX T kq, T.cls⟩, ⟨bB, .slice (some ⟨gB, 0, none⟩) R cB, .slice acX nB ccX, .slice (some ⟨gkB, 0, none⟩) R ckB, usb, [], updF (rowAt T) (bothR T kq) j R, bothX T kq, T.cls⟩]) (fun jv _ => R - (intOf jv).toNat)
      case atStart =>
        have e : lsF (rowAt T) R = T.rows := by rw [← HRR.out]; exact (rows_lsF T).symm
        exact ⟨0, usM, usB, Nat.zero_le _, rfl, by rw [updF_zero, updF_zero, e]; exact HQX.out⟩
      case round =>
        clear HQX
        obtain ⟨j, usm, usb, hj, rfl, hq⟩ := hrel
        have HQW := Lib.hid hq
        have hum := hq.ul _ (HQ.mem (k := 0) rfl)
        have hub := hq.ul _ (HQ.mem (k := 3) rfl)
        have HUM := Lib.hid (show usm.length = R from hum); have HUB := Lib.hid (show usb.length = R from hub)
        clear hq hum hub
        have hj0 : (0 : Int) ≤ (j : Int) := Int.natCast_nonneg _
        by_cases hlt : j < R
        · have hj1 : (j : Int) < (R : Int) := by omega
          obtain ⟨rj, hrj⟩ := elem_at (show j < T.rows.length by rw [HRR.out]; exact hlt)
          have hra := rowAt_of hrj
          have hrl : rj.length = C := by rw [HOK.out.rl rj (List.mem_of_getElem? hrj), HCC.out]
          have HRJ := Lib.hid hrj; have HRA := Lib.hid hra; have HRL := Lib.hid hrl
          clear hrj hra hrl
          obtain ⟨cj, hcj⟩ : ∃ c, atF ns (j : Int) 3 = c := ⟨_, rfl⟩
          have HCJ := Lib.hid hcj
          clear hcj
          as_aux_lemma =>
            obtain ⟨fb, -, -, -, fn, -⟩ := FZ.out wr HQW.out.bel
            have p0 := fb.cell 0; have p1 := fb.cell 1; have p2 := fb.cell 2
            have q1 := fb.lt
            simp only [List.getElem?_toArray, List.getElem?_cons_zero, List.getElem?_cons_succ] at p0 p1 p2
            have bxM := (HQW.out.box (k := 0) rfl).2
            have z0 := bxM.cell 0; have z1 := bxM.cell 1; have z2 := bxM.cell 2
            simp only [List.getElem?_toArray, List.getElem?_cons_zero, List.getElem?_cons_succ] at z0 z1 z2
            obtain ⟨um, hum⟩ := elem_at (show j < usm.length by rw [HUM.out]; exact hlt)
            have hrow := HQW.out.row (k := 0) rfl hum (updF_at (rowAt T) _ hlt)
            rw [HRA.out, HRL.out] at hrow
            obtain ⟨am, cm, rfl⟩ := owns_form hrow
            have hou : wr.ownsRow N2 22 1 (.slice (some ⟨gM, 0, none⟩) R cM) (usm ++ []).length (usm ++ []) := HQW.out.out (k := 0) rfl
            rw [List.append_nil, HUM.out] at hou
            have hoc := hou.cellAt j (show j < R * 1 by omega)
            rw [hum] at hoc
            have HUMJ := Lib.hid hum
            clear hum hrow hou fb
            go_wp2_with fail
            refine wp_region_E (fun W => W.cell? ⟨bM, 0, none⟩ = some (.slice (some ⟨gM, 0, none⟩) R cM) ∧ W.cell? ⟨gM, j, none⟩ = some (.slice am C cm)) (by kernel_rfl) ?_
            have hdr : (wr).drew = { wr with drawn := (wr).drawn + 1 } := rfl
            rw [← hdr]
            clear hdr
            change wpAnyE _ _ _ _ _ _ _ _ ((wr).drewN 1)
            refine tg 0 154 rfl rfl (.pointer (some ⟨bM, 0, none⟩)) ⟨z0, hoc⟩ ?_
            try simp only [pa, pl]
            refine tk 1 155 rfl rfl (.slice (some ⟨gM, 0, none⟩) R cM) (fun W hW => by obtain ⟨z0, hoc⟩ := hW; go_simp) ⟨z0, hoc⟩ ?_
            try simp only [pa, pl]
            refine tm 2 156 rfl rfl (.int .i64 (j : Int)) ⟨z0, hoc⟩ ?_
            try simp only [pa, pl]
            refine tg 3 157 rfl rfl (.pointer (some ⟨bM, 0, none⟩)) ⟨z0, hoc⟩ ?_
            try simp only [pa, pl]
            refine tk 4 158 rfl rfl (.slice (some ⟨gM, 0, none⟩) R cM) (fun W hW => by obtain ⟨z0, hoc⟩ := hW; go_simp) ⟨z0, hoc⟩ ?_
            try simp only [pa, pl]
            refine tm 5 159 rfl rfl (.int .i64 (j : Int)) ⟨z0, hoc⟩ ?_
            try simp only [pa, pl]
            refine tg 6 160 rfl rfl (.pointer (some ⟨gM, j, none⟩)) ⟨z0, hoc⟩ ?_
            try simp only [pa, pl]
            refine tk 7 161 rfl rfl (.slice am C cm) (fun W hW => by obtain ⟨z0, hoc⟩ := hW; go_simp) ⟨z0, hoc⟩ ?_
            try simp only [pa, pl]
            refine tm 8 162 rfl rfl (.slice an ns.length cn) ⟨z0, hoc⟩ ?_
            try simp only [pa, pl]
            refine tm 9 163 rfl rfl (.int .i64 (j : Int)) ⟨z0, hoc⟩ ?_
            try simp only [pa, pl]
            refine wpAnyEOne 10 (by kernel_rfl) ?_
            refine wpOpCall (some 164) 37 #[.slice an ns.length cn, .int .i64 (j : Int), .int .i64 3] rfl rfl rfl (by go_simp) (at_any _ ns (j : Int) 3 _ (fn.below (Below.dn (Below.refl _ _) 1)) jn (by omega) (by omega) (by omega) (by omega)) ?_
            rintro e w2 ⟨rfl, hb9⟩
            rw [HCJ.out]
            have hq1 := (HQW.out.under (Below.dn (Below.refl _ _) 1)).under hb9
            have bx2 := (hq1.box (k := 0) rfl).2
            have z0 := bx2.cell 0
            simp only [List.getElem?_toArray, List.getElem?_cons_zero, List.getElem?_cons_succ] at z0
            have hou : w2.ownsRow N2 22 1 (.slice (some ⟨gM, 0, none⟩) R cM) (usm ++ []).length (usm ++ []) := hq1.out (k := 0) rfl
            rw [List.append_nil, HUM.out] at hou
            have hoc := hou.cellAt j (show j < R * 1 by omega)
            rw [HUMJ.out] at hoc
            refine ⟨_, rfl, ?_⟩
            refine ⟨.inl (⟨z0, hoc⟩), ?_⟩
            try simp only [pa, pl]
            refine wpAnyEOne 11 (by kernel_rfl) ?_
            refine wpOpRun' (v := .slice (some ⟨w2.heap.size, 0, none⟩) 1 1) (w' := (w2.alloc (.cells #[.int .i64 cj] 3))) (some 165) rfl rfl rfl (by go_simp <;> rfl) ?_
            have hq2 := hq1.under (alloc_below w2 (.cells #[.int .i64 cj] 3))
            have bx2 := (hq2.box (k := 0) rfl).2
            have z0 := bx2.cell 0
            simp only [List.getElem?_toArray, List.getElem?_cons_zero, List.getElem?_cons_succ] at z0
            have hou : World.ownsRow (w2.alloc (.cells #[.int .i64 cj] 3)) N2 22 1 (.slice (some ⟨gM, 0, none⟩) R cM) (usm ++ []).length (usm ++ []) := hq2.out (k := 0) rfl
            rw [List.append_nil, HUM.out] at hou
            have hoc := hou.cellAt j (show j < R * 1 by omega)
            rw [HUMJ.out] at hoc
            have hrow : World.ownsRow (w2.alloc (.cells #[.int .i64 cj] 3)) N2 3 1 (.slice am C cm) (rowAt T j).length (ints (rowAt T j)) := hq2.row (k := 0) rfl HUMJ.out (updF_at (rowAt T) _ hlt)
            rw [HRA.out] at hrow
            refine ⟨.inl (⟨z0, hoc⟩), ?_⟩
            try simp only [pa, pl]
            refine wpAnyEOne 12 (by kernel_rfl) ?_
            refine wpOpAppI 12 (some 166) rfl rfl rfl (.tmp 161) (.tmp 165) rfl (.slice am C cm) (rj) rfl (hrow) (.slice (some ⟨w2.heap.size, 0, none⟩) 1 1) ([cj]) rfl (Rd_fresh w2 3 #[.int .i64 cj] 1 rfl (by omega)) (by have := HRL.out; simp; omega) (hq2.sz) fun v3 w3 happ => ?_
            have bx3 := hq2.boxApp (k := 0) rfl hrow happ
            have hq3 := hq2.appR (k := 0) (g := gM) (n := R) (c := cM) rfl HUMJ.out hrow rfl happ rfl
            have hou3 := owns_app hou hrow happ (by decide)
            obtain ⟨a7, k7, e3⟩ := happ.form
            rw [show (rj ++ [cj]).length = C + 1 by rw [List.length_append, HRL.out]; rfl] at e3
            subst e3
            have z0 := bx3.cell 0
            simp only [List.getElem?_toArray, List.getElem?_cons_zero, List.getElem?_cons_succ] at z0
            have hoc := hou3.cellAt j (show j < R * 1 by omega)
            rw [HUMJ.out] at hoc
            have hof := hou3.frozenAt j
            have hol := (hou3.lt gM rfl).2
            refine ⟨.inl (⟨z0, hoc⟩), ?_⟩
            try simp only [pa, pl]
            refine tg 13 167 rfl rfl (.pointer (some ⟨gM, j, none⟩)) ⟨z0, hoc⟩ ?_
            try simp only [pa, pl]
            refine wpAnyEOne 14 (by kernel_rfl) ?_
            refine wpOpSkip (w' := w3.setCell ⟨gM, j, none⟩ (.slice a7 (C + 1) k7)) 14 rfl rfl rfl (by go_simp <;> rfl) ?_
            refine ⟨.inr (allUp_of (by kernel_rfl)), ?_⟩
            try simp only [pa, pl]
            refine wpAnyE_done (by kernel_rfl) ?_ _
            have e : (updF (rowAt T) (fun q : Nat => rowAt T q ++ [atF ns (q : Int) 3]) j R).set j (rj ++ [cj]) = updF (rowAt T) (fun q : Nat => rowAt T q ++ [atF ns (q : Int) 3]) (j + 1) R := by
              rw [← HRA.out, ← HCJ.out]; exact updF_set (rowAt T) (fun q : Nat => rowAt T q ++ [atF ns (q : Int) 3]) hlt
            simp only [List.set_cons_zero, List.set_cons_succ] at hq3
            rw [e] at hq3
            have HQ22 := Lib.hid hq3
            clear e hq3 hq2 hq1 bx2 bx3 hrow hou hou3 happ hoc hof hol z0 z1 z2 bxM p0 p1 p2 q1 fn hb9 HQW HCJ
            generalize w3.setCell ⟨gM, j, none⟩ (.slice a7 (C + 1) k7) = y22 at *
            obtain ⟨fb, ft, -⟩ := FZ.out y22 HQ22.out.bel
            have p0 := fb.cell 0; have p1 := fb.cell 1; have p2 := fb.cell 2
            have q1 := fb.lt
            simp only [List.getElem?_toArray, List.getElem?_cons_zero, List.getElem?_cons_succ] at p0 p1 p2
            by_cases hk : kq < C
            · have hk1 : (kq : Int) < (C : Int) := by omega
              have hk0 : (0 : Int) ≤ (kq : Int) := Int.natCast_nonneg _
              go_wp2_with fail
              have bxB := (HQ22.out.box (k := 3) rfl).2
              have z0 := bxB.cell 0; have z1 := bxB.cell 1; have z2 := bxB.cell 2
              simp only [List.getElem?_toArray, List.getElem?_cons_zero, List.getElem?_cons_succ] at z0 z1 z2
              obtain ⟨ub, hub⟩ := elem_at (show j < usb.length by rw [HUB.out]; exact hlt)
              have hrow := HQ22.out.row (k := 3) rfl hub (updF_at (rowAt T) _ hlt)
              rw [HRA.out, HRL.out] at hrow
              obtain ⟨ab, cb, rfl⟩ := owns_form hrow
              have hou : y22.ownsRow N2 22 1 (.slice (some ⟨gB, 0, none⟩) R cB) (usb ++ []).length (usb ++ []) := HQ22.out.out (k := 3) rfl
              rw [List.append_nil, HUB.out] at hou
              have hoc := hou.cellAt j (show j < R * 1 by omega)
              rw [hub] at hoc
              have HUBJ := Lib.hid hub
              obtain ⟨q, hq⟩ := elem_at (show kq < rj.length by rw [HRL.out]; exact hk)
              have haq : ansAt T j kq = q := ansAt_row (by rw [HRA.out]; exact hq)
              obtain ⟨-, ft, -⟩ := FZ.out u0 (Below.refl _ _)
              obtain ⟨uj, hjlt, hjc, hjr⟩ := ft.rows.at HRJ.out
              obtain ⟨aj, cj2, rfl⟩ := hjr.form
              rw [HRL.out] at hjc hjr
              obtain ⟨rb, ro, rfl, hrlt, hrc⟩ := hjr.at hq
              have FJ := Lib.hid (fun (W : World) (hb : Below N2 u0 W) => (⟨(hb.cell (p := ⟨tb, ot + j, none⟩) (by rw [← HN2.out]; exact hjlt)).trans hjc, (hb.cell (p := ⟨rb, ro + kq, none⟩) (by rw [← HN2.out]; exact hrlt)).trans hrc⟩ :
                W.cell? ⟨tb, ot + j, none⟩ = some (.slice (some ⟨rb, ro, none⟩) C cj2) ∧ W.cell? ⟨rb, ro + kq, none⟩ = some (.int .i64 q)))
              have HAQ := Lib.hid haq
              obtain ⟨jc, kc⟩ := FJ.out y22 HQ22.out.bel
              clear hub hrow hou fb ft hq haq hjlt hjc hjr hrlt hrc
              refine wp_region_E (fun W => W.cell? ⟨bB, 0, none⟩ = some (.slice (some ⟨gB, 0, none⟩) R cB) ∧ W.cell? ⟨gB, j, none⟩ = some (.slice ab C cb) ∧ W.cell? ⟨b0, 0, none⟩ = some (.slice (some ⟨tb, ot, none⟩) R ca) ∧ W.cell? ⟨tb, ot + j, none⟩ = some (.slice (some ⟨rb, ro, none⟩) C cj2) ∧ W.cell? ⟨rb, ro + kq, none⟩ = some (.int .i64 q)) (by kernel_rfl) ?_
              have hdr : (y22).drew = { y22 with drawn := (y22).drawn + 1 } := rfl
              rw [← hdr]
              clear hdr
              change wpAnyE _ _ _ _ _ _ _ _ ((y22).drewN 1)
              refine tg 0 173 rfl rfl (.pointer (some ⟨bB, 0, none⟩)) ⟨z0, hoc, p0, jc, kc⟩ ?_
              try simp only [pa, pl]
              refine tk 1 174 rfl rfl (.slice (some ⟨gB, 0, none⟩) R cB) (fun W hW => by obtain ⟨z0, hoc, p0, jc, kc⟩ := hW; go_simp) ⟨z0, hoc, p0, jc, kc⟩ ?_
              try simp only [pa, pl]
              refine tm 2 175 rfl rfl (.int .i64 (j : Int)) ⟨z0, hoc, p0, jc, kc⟩ ?_
              try simp only [pa, pl]
              refine tg 3 176 rfl rfl (.pointer (some ⟨bB, 0, none⟩)) ⟨z0, hoc, p0, jc, kc⟩ ?_
              try simp only [pa, pl]
              refine tk 4 177 rfl rfl (.slice (some ⟨gB, 0, none⟩) R cB) (fun W hW => by obtain ⟨z0, hoc, p0, jc, kc⟩ := hW; go_simp) ⟨z0, hoc, p0, jc, kc⟩ ?_
              try simp only [pa, pl]
              refine tm 5 178 rfl rfl (.int .i64 (j : Int)) ⟨z0, hoc, p0, jc, kc⟩ ?_
              try simp only [pa, pl]
              refine tg 6 179 rfl rfl (.pointer (some ⟨gB, j, none⟩)) ⟨z0, hoc, p0, jc, kc⟩ ?_
              try simp only [pa, pl]
              refine tk 7 180 rfl rfl (.slice ab C cb) (fun W hW => by obtain ⟨z0, hoc, p0, jc, kc⟩ := hW; go_simp) ⟨z0, hoc, p0, jc, kc⟩ ?_
              try simp only [pa, pl]
              refine tg 8 181 rfl rfl (.pointer (some ⟨b0, 0, none⟩)) ⟨z0, hoc, p0, jc, kc⟩ ?_
              try simp only [pa, pl]
              refine tk 9 182 rfl rfl (.slice (some ⟨tb, ot, none⟩) R ca) (fun W hW => by obtain ⟨z0, hoc, p0, jc, kc⟩ := hW; go_simp) ⟨z0, hoc, p0, jc, kc⟩ ?_
              try simp only [pa, pl]
              refine tm 10 183 rfl rfl (.int .i64 (j : Int)) ⟨z0, hoc, p0, jc, kc⟩ ?_
              try simp only [pa, pl]
              refine tg 11 184 rfl rfl (.pointer (some ⟨tb, ot + j, none⟩)) ⟨z0, hoc, p0, jc, kc⟩ ?_
              try simp only [pa, pl]
              refine tk 12 185 rfl rfl (.slice (some ⟨rb, ro, none⟩) C cj2) (fun W hW => by obtain ⟨z0, hoc, p0, jc, kc⟩ := hW; go_simp) ⟨z0, hoc, p0, jc, kc⟩ ?_
              try simp only [pa, pl]
              refine tm 13 186 rfl rfl (.int .i64 (kq : Int)) ⟨z0, hoc, p0, jc, kc⟩ ?_
              try simp only [pa, pl]
              refine tg 14 187 rfl rfl (.pointer (some ⟨rb, ro + kq, none⟩)) ⟨z0, hoc, p0, jc, kc⟩ ?_
              try simp only [pa, pl]
              refine tk 15 188 rfl rfl (.int .i64 q) (fun W hW => by obtain ⟨z0, hoc, p0, jc, kc⟩ := hW; go_simp) ⟨z0, hoc, p0, jc, kc⟩ ?_
              try simp only [pa, pl]
              refine wpAnyEOne 16 (by kernel_rfl) ?_
              refine wpOpRun' (v := .slice (some ⟨(y22.drewN 1).heap.size, 0, none⟩) 1 1) (w' := ((y22.drewN 1).alloc (.cells #[.int .i64 q] 3))) (some 189) rfl rfl rfl (by go_simp <;> rfl) ?_
              have hq2 := (HQ22.out.under (Below.dn (Below.refl _ _) 1)).under (alloc_below (y22.drewN 1) (.cells #[.int .i64 q] 3))
              have bx2 := (hq2.box (k := 3) rfl).2
              have z0 := bx2.cell 0
              simp only [List.getElem?_toArray, List.getElem?_cons_zero, List.getElem?_cons_succ] at z0
              obtain ⟨fb, -⟩ := FZ.out _ hq2.bel
              have p0 := fb.cell 0
              simp only [List.getElem?_toArray, List.getElem?_cons_zero, List.getElem?_cons_succ] at p0
              obtain ⟨jc, kc⟩ := FJ.out _ hq2.bel
              have hou : World.ownsRow ((y22.drewN 1).alloc (.cells #[.int .i64 q] 3)) N2 22 1 (.slice (some ⟨gB, 0, none⟩) R cB) (usb ++ []).length (usb ++ []) := hq2.out (k := 3) rfl
              rw [List.append_nil, HUB.out] at hou
              have hoc := hou.cellAt j (show j < R * 1 by omega)
              rw [HUBJ.out] at hoc
              have hrow : World.ownsRow ((y22.drewN 1).alloc (.cells #[.int .i64 q] 3)) N2 3 1 (.slice ab C cb) (rowAt T j).length (ints (rowAt T j)) := hq2.row (k := 3) rfl HUBJ.out (updF_at (rowAt T) _ hlt)
              rw [HRA.out] at hrow
              refine ⟨.inl (⟨z0, hoc, p0, jc, kc⟩), ?_⟩
              try simp only [pa, pl]
              refine wpAnyEOne 17 (by kernel_rfl) ?_
              refine wpOpAppI 17 (some 190) rfl rfl rfl (.tmp 180) (.tmp 189) rfl (.slice ab C cb) (rj) rfl (hrow) (.slice (some ⟨(y22.drewN 1).heap.size, 0, none⟩) 1 1) ([q]) rfl (Rd_fresh (y22.drewN 1) 3 #[.int .i64 q] 1 rfl (by omega)) (by have := HRL.out; simp; omega) (hq2.sz) fun v3 w3 happ => ?_
              have bx3 := hq2.boxApp (k := 3) rfl hrow happ
              have hq3 := hq2.appR (k := 3) (g := gB) (n := R) (c := cB) rfl HUBJ.out hrow rfl happ rfl
              have hou3 := owns_app hou hrow happ (by decide)
              obtain ⟨a8, k8, e3⟩ := happ.form
              rw [show (rj ++ [q]).length = C + 1 by rw [List.length_append, HRL.out]; rfl] at e3
              subst e3
              have z0 := bx3.cell 0
              simp only [List.getElem?_toArray, List.getElem?_cons_zero, List.getElem?_cons_succ] at z0
              obtain ⟨fb, -⟩ := FZ.out _ (happ.below hq2.bel hrow (Nat.le_refl _) hq2.sz)
              have p0 := fb.cell 0
              simp only [List.getElem?_toArray, List.getElem?_cons_zero, List.getElem?_cons_succ] at p0
              obtain ⟨jc, kc⟩ := FJ.out _ (happ.below hq2.bel hrow (Nat.le_refl _) hq2.sz)
              have hoc := hou3.cellAt j (show j < R * 1 by omega)
              rw [HUBJ.out] at hoc
              have hof := hou3.frozenAt j
              have hol := (hou3.lt gB rfl).2
              refine ⟨.inl (⟨z0, hoc, p0, jc, kc⟩), ?_⟩
              try simp only [pa, pl]
              refine tg 18 191 rfl rfl (.pointer (some ⟨gB, j, none⟩)) ⟨z0, hoc, p0, jc, kc⟩ ?_
              try simp only [pa, pl]
              refine wpAnyEOne 19 (by kernel_rfl) ?_
              refine wpOpSkip (w' := w3.setCell ⟨gB, j, none⟩ (.slice a8 (C + 1) k8)) 19 rfl rfl rfl (by go_simp <;> rfl) ?_
              refine ⟨.inr (allUp_of (by kernel_rfl)), ?_⟩
              try simp only [pa, pl]
              refine wpAnyE_done (by kernel_rfl) ?_ _
              have e : (updF (rowAt T) (bothR T kq) j R).set j (rj ++ [q]) = updF (rowAt T) (bothR T kq) (j + 1) R := by
                rw [show rj ++ [q] = bothR T kq j by unfold bothR; rw [if_pos (by rw [HCC.out]; exact hk), HRA.out, HAQ.out]]; exact updF_set (rowAt T) (bothR T kq) hlt
              simp only [List.set_cons_zero, List.set_cons_succ] at hq3
              rw [e] at hq3
              have HQ24 := Lib.hid hq3
              clear e hq3 hq2 bx2 bx3 hrow hou hou3 happ hoc hof hol z0 z1 z2 bxB p0 p1 p2 q1 fb jc kc FJ
              generalize w3.setCell ⟨gB, j, none⟩ (.slice a8 (C + 1) k8) = y24 at *
              go_wp2_with fail
              go_roundw
              case rel => exact ⟨j + 1, _, _, by omega, by go_num, HQ24.out⟩
              case measure => simp [intOf]; omega
            · have hk1 : ¬ (kq : Int) < (C : Int) := by omega
              have e : updF (rowAt T) (bothR T kq) j R = updF (rowAt T) (bothR T kq) (j + 1) R := lsF_ext fun q _ => by
                have : bothR T kq q = rowAt T q := by unfold bothR; rw [if_neg (by rw [HCC.out]; exact hk)]
                rw [this]; simp
              have hq := HQ22.out
              rw [e] at hq
              have HQ24 := Lib.hid hq
              clear e hq ft fb
              go_wp2_with fail
              go_roundw
              case rel => exact ⟨j + 1, _, _, by omega, by go_num, HQ24.out⟩
              case measure => simp [intOf]; omega
        · have hj1 : ¬ (j : Int) < (R : Int) := by omega
          have hjR : j = R := by omega
          as_aux_lemma =>
            obtain ⟨fb, -⟩ := FZ.out wr HQW.out.bel
            have p0 := fb.cell 0
            simp only [List.getElem?_toArray, List.getElem?_cons_zero, List.getElem?_cons_succ] at p0
            go_upto_region 25 with fail
            clear p0 fb
            have hq := HQW.out
            rw [hjR, updF_all, updF_all] at hq
            have HQE := Lib.hid hq
            clear hq
            obtain ⟨-, -, fb1, ft1, -, fhb⟩ := FZ.out wr HQE.out.bel
            have tbM : TbR wr (.slice (some ⟨gM, 0, none⟩) R cM) (.slice a3 (C + 1) k3) (.slice (some ⟨gkM, 0, none⟩) R ckM) ⟨lsF (fun q : Nat => rowAt T q ++ [atF ns (q : Int) 3]) R, T.costs ++ [1 + q5], T.cls⟩ := HQE.out.tb0 (k := 0) rfl rfl
            have tbC : TbR wr (.slice (some ⟨gC, 0, none⟩) R cC) (.slice acoC C ccoC) (.slice (some ⟨gkC, 0, none⟩) R ckC) ⟨T.rows, cheapX T kq, T.cls⟩ := HQE.out.tb0 (k := 2) rfl rfl
            have tbB : TbR wr (.slice (some ⟨gB, 0, none⟩) R cB) (.slice acX nB ccX) (.slice (some ⟨gkB, 0, none⟩) R ckB) ⟨lsF (bothR T kq) R, bothX T kq, T.cls⟩ := HQE.out.tb0 (k := 3) rfl rfl
            have tbT : TbR wr (.slice a4 (R + 1) k4) (.slice acoT C ccoT) (.slice a5 (R + 1) k5) ⟨T.rows ++ [ri], T.costs, T.cls ++ [ki]⟩ := HQE.out.tb (k := 1) (exr := [ri]) rfl rfl fun q u r hu hr => by
              cases q with
              | zero =>
                simp at hu hr
                subst hu; subst hr
                exact (FI.out wr HQE.out.bel).2.2
              | succ q => simp at hr
            have bxM : Boxs wr bM 25 #[.slice (some ⟨gM, 0, none⟩) R cM, .slice a3 (C + 1) k3, .slice (some ⟨gkM, 0, none⟩) R ckM] := (HQE.out.box (k := 0) rfl).2
            have bxT : Boxs wr bT 25 #[.slice a4 (R + 1) k4, .slice acoT C ccoT, .slice a5 (R + 1) k5] := (HQE.out.box (k := 1) rfl).2
            have bxC : Boxs wr bC 25 #[.slice (some ⟨gC, 0, none⟩) R cC, .slice acoC C ccoC, .slice (some ⟨gkC, 0, none⟩) R ckC] := (HQE.out.box (k := 2) rfl).2
            have bxB : Boxs wr bB 25 #[.slice (some ⟨gB, 0, none⟩) R cB, .slice acX nB ccX, .slice (some ⟨gkB, 0, none⟩) R ckB] := (HQE.out.box (k := 3) rfl).2
            have FR := Lib.hid (fun (W : World) (hb : Below wr.heap.size wr W) => (⟨⟨Boxs.below fb1 hb, ft1.below hb⟩, ⟨Boxs.below bxM hb, tbM.below hb⟩, ⟨Boxs.below bxC hb, tbC.below hb⟩, ⟨Boxs.below bxT hb, tbT.below hb⟩, ⟨Boxs.below bxB hb, tbB.below hb⟩⟩ :
              (Boxs W b1 25 #[.slice al1 TL.rows.length kl1, .slice aco1 C cco1, .slice ak1 TL.cls.length kk1] ∧ TbR W (.slice al1 TL.rows.length kl1) (.slice aco1 C cco1) (.slice ak1 TL.cls.length kk1) TL) ∧ (Boxs W bM 25 #[.slice (some ⟨gM, 0, none⟩) R cM, .slice a3 (C + 1) k3, .slice (some ⟨gkM, 0, none⟩) R ckM] ∧ TbR W (.slice (some ⟨gM, 0, none⟩) R cM) (.slice a3 (C + 1) k3) (.slice (some ⟨gkM, 0, none⟩) R ckM) ⟨lsF (fun q : Nat => rowAt T q ++ [atF ns (q : Int) 3]) R, T.costs ++ [1 + q5], T.cls⟩) ∧ (Boxs W bC 25 #[.slice (some ⟨gC, 0, none⟩) R cC, .slice acoC C ccoC, .slice (some ⟨gkC, 0, none⟩) R ckC] ∧ TbR W (.slice (some ⟨gC, 0, none⟩) R cC) (.slice acoC C ccoC) (.slice (some ⟨gkC, 0, none⟩) R ckC) ⟨T.rows, cheapX T kq, T.cls⟩) ∧ (Boxs W bT 25 #[.slice a4 (R + 1) k4, .slice acoT C ccoT, .slice a5 (R + 1) k5] ∧ TbR W (.slice a4 (R + 1) k4) (.slice acoT C ccoT) (.slice a5 (R + 1) k5) ⟨T.rows ++ [ri], T.costs, T.cls ++ [ki]⟩) ∧ (Boxs W bB 25 #[.slice (some ⟨gB, 0, none⟩) R cB, .slice acX nB ccX, .slice (some ⟨gkB, 0, none⟩) R ckB] ∧ TbR W (.slice (some ⟨gB, 0, none⟩) R cB) (.slice acX nB ccX) (.slice (some ⟨gkB, 0, none⟩) R ckB) ⟨lsF (bothR T kq) R, bothX T kq, T.cls⟩)))
            have HBD := Lib.hid fhb
            have HBW := Lib.hid (Below.refl wr.heap.size wr)
            have hi0 : i < T.rows.length := by rw [HRR.out]; exact HIR.out
            have lM := more_law HBE.out (x := 1 + q5) (by omega) (fun q => atF ns (q : Int) 3) (by rw [HCC.out]; omega)
            have lC := cheap_law' HBE.out kq
            have lT := twice_law HBE.out hi0 (by rw [HRR.out]; omega)
            have lB := both_law' HBE.out kq (by rw [HCC.out]; omega)
            unfold moreT at lM
            unfold twiceT at lT
            rw [rowAt_of HRI.out, clsAt_of HKI.out] at lT
            rw [HRR.out] at lM lB
            rw [HN0.out] at lM lC lT lB
            have HLM := Lib.hid lM; have HLC := Lib.hid lC; have HLT := Lib.hid lT; have HLB := Lib.hid lB
            clear lM lC lT lB hi0 fb1 ft1 fhb tbM tbC tbB tbT bxM bxT bxC bxB HQE HQW FZ FI
            have bxx : Boxs wr b1 25 #[.slice al1 TL.rows.length kl1, .slice aco1 C cco1, .slice ak1 TL.cls.length kk1] := (FR.out wr HBW.out).1.1
            have p0 := bxx.cell 0; have p1 := bxx.cell 1; have p2 := bxx.cell 2
            have q1 := bxx.lt
            simp only [List.getElem?_toArray, List.getElem?_cons_zero, List.getElem?_cons_succ] at p0 p1 p2
            clear bxx
            have XX := OW wr al1 aco1 ak1 TL.rows.length C TL.cls.length kl1 cco1 kk1
            go_wp2_with fail
            with_reducible refine XX.mono ?_
            rintro e s0 ⟨rfl, hb⟩
            clear p0 p1 p2 q1 XX
            have HBW := Lib.hid (HBW.out.trans (hb.mono HBW.out.size))
            clear hb
            have XX := bestP_any _ _ _ _ s0 (FR.out s0 HBW.out).1.2
            unfold SolveOut at XX
            go_wp2_with fail
            with_reducible refine XX.mono ?_
            rintro e r0 ⟨⟨px, rfl, htx⟩, hb⟩
            obtain ⟨qx, rfl⟩ := htx.form
            clear htx XX
            have HBW := Lib.hid (HBW.out.trans (hb.mono HBW.out.size))
            clear hb
            rw [HLL.out.1]
            obtain ⟨nL, hnL⟩ : ∃ n, bestC TL = n := ⟨_, rfl⟩
            have hlL := HLL.out.2
            rw [hnL] at hlL ⊢
            clear hnL
            have HLL := Lib.hid hlL
            clear hlL
            have bxx : Boxs r0 bM 25 #[.slice (some ⟨gM, 0, none⟩) R cM, .slice a3 (C + 1) k3, .slice (some ⟨gkM, 0, none⟩) R ckM] := (FR.out r0 HBW.out).2.1.1
            have p0 := bxx.cell 0; have p1 := bxx.cell 1; have p2 := bxx.cell 2
            have q1 := bxx.lt
            simp only [List.getElem?_toArray, List.getElem?_cons_zero, List.getElem?_cons_succ] at p0 p1 p2
            clear bxx
            have XX := OW r0 (some ⟨gM, 0, none⟩) a3 (some ⟨gkM, 0, none⟩) R (C + 1) R cM k3 ckM
            go_wp2_with fail
            with_reducible refine XX.mono ?_
            rintro e s1 ⟨rfl, hb⟩
            clear p0 p1 p2 q1 XX
            have HBW := Lib.hid (HBW.out.trans (hb.mono HBW.out.size))
            clear hb
            have XX := bestP_any _ _ _ _ s1 (FR.out s1 HBW.out).2.1.2
            unfold SolveOut at XX
            go_wp2_with fail
            with_reducible refine XX.mono ?_
            rintro e r1 ⟨⟨px, rfl, htx⟩, hb⟩
            obtain ⟨qx, rfl⟩ := htx.form
            clear htx XX
            have HBW := Lib.hid (HBW.out.trans (hb.mono HBW.out.size))
            clear hb
            rw [HLM.out.1]
            obtain ⟨nM, hnM⟩ : ∃ n, bestC ⟨lsF (fun q : Nat => rowAt T q ++ [atF ns (q : Int) 3]) R, T.costs ++ [1 + q5], T.cls⟩ = n := ⟨_, rfl⟩
            have hlM := HLM.out.2
            rw [hnM] at hlM ⊢
            clear hnM
            have HLM := Lib.hid hlM
            clear hlM
            have bxx : Boxs r1 bC 25 #[.slice (some ⟨gC, 0, none⟩) R cC, .slice acoC C ccoC, .slice (some ⟨gkC, 0, none⟩) R ckC] := (FR.out r1 HBW.out).2.2.1.1
            have p0 := bxx.cell 0; have p1 := bxx.cell 1; have p2 := bxx.cell 2
            have q1 := bxx.lt
            simp only [List.getElem?_toArray, List.getElem?_cons_zero, List.getElem?_cons_succ] at p0 p1 p2
            clear bxx
            have XX := OW r1 (some ⟨gC, 0, none⟩) acoC (some ⟨gkC, 0, none⟩) R C R cC ccoC ckC
            go_wp2_with fail
            with_reducible refine XX.mono ?_
            rintro e s2 ⟨rfl, hb⟩
            clear p0 p1 p2 q1 XX
            have HBW := Lib.hid (HBW.out.trans (hb.mono HBW.out.size))
            clear hb
            have XX := bestP_any _ _ _ _ s2 (FR.out s2 HBW.out).2.2.1.2
            unfold SolveOut at XX
            go_wp2_with fail
            with_reducible refine XX.mono ?_
            rintro e r2 ⟨⟨px, rfl, htx⟩, hb⟩
            obtain ⟨qx, rfl⟩ := htx.form
            clear htx XX
            have HBW := Lib.hid (HBW.out.trans (hb.mono HBW.out.size))
            clear hb
            rw [HLC.out.1]
            obtain ⟨nC, hnC⟩ : ∃ n, bestC ⟨T.rows, cheapX T kq, T.cls⟩ = n := ⟨_, rfl⟩
            have hlC := HLC.out.2
            rw [hnC] at hlC ⊢
            clear hnC
            have HLC := Lib.hid hlC
            clear hlC
            have bxx : Boxs r2 bT 25 #[.slice a4 (R + 1) k4, .slice acoT C ccoT, .slice a5 (R + 1) k5] := (FR.out r2 HBW.out).2.2.2.1.1
            have p0 := bxx.cell 0; have p1 := bxx.cell 1; have p2 := bxx.cell 2
            have q1 := bxx.lt
            simp only [List.getElem?_toArray, List.getElem?_cons_zero, List.getElem?_cons_succ] at p0 p1 p2
            clear bxx
            have XX := OW r2 a4 acoT a5 (R + 1) C (R + 1) k4 ccoT k5
            go_wp2_with fail
            with_reducible refine XX.mono ?_
            rintro e s3 ⟨rfl, hb⟩
            clear p0 p1 p2 q1 XX
            have HBW := Lib.hid (HBW.out.trans (hb.mono HBW.out.size))
            clear hb
            have XX := bestP_any _ _ _ _ s3 (FR.out s3 HBW.out).2.2.2.1.2
            unfold SolveOut at XX
            go_wp2_with fail
            with_reducible refine XX.mono ?_
            rintro e r3 ⟨⟨px, rfl, htx⟩, hb⟩
            obtain ⟨qx, rfl⟩ := htx.form
            clear htx XX
            have HBW := Lib.hid (HBW.out.trans (hb.mono HBW.out.size))
            clear hb
            rw [HLT.out.1]
            rw [HLT.out.2]
            have bxx : Boxs r3 bB 25 #[.slice (some ⟨gB, 0, none⟩) R cB, .slice acX nB ccX, .slice (some ⟨gkB, 0, none⟩) R ckB] := (FR.out r3 HBW.out).2.2.2.2.1
            have p0 := bxx.cell 0; have p1 := bxx.cell 1; have p2 := bxx.cell 2
            have q1 := bxx.lt
            simp only [List.getElem?_toArray, List.getElem?_cons_zero, List.getElem?_cons_succ] at p0 p1 p2
            clear bxx
            have XX := OW r3 (some ⟨gB, 0, none⟩) acX (some ⟨gkB, 0, none⟩) R nB R cB ccX ckB
            go_wp2_with fail
            with_reducible refine XX.mono ?_
            rintro e s4 ⟨rfl, hb⟩
            clear p0 p1 p2 q1 XX
            have HBW := Lib.hid (HBW.out.trans (hb.mono HBW.out.size))
            clear hb
            have XX := bestP_any _ _ _ _ s4 (FR.out s4 HBW.out).2.2.2.2.2
            unfold SolveOut at XX
            go_wp2_with fail
            with_reducible refine XX.mono ?_
            rintro e r4 ⟨⟨px, rfl, htx⟩, hb⟩
            obtain ⟨qx, rfl⟩ := htx.form
            clear htx XX
            have HBW := Lib.hid (HBW.out.trans (hb.mono HBW.out.size))
            clear hb
            rw [HLB.out.1]
            rw [HLB.out.2]
            have LV := lives_any r4
            have hbb : (n0 == n0) = true := by simp
            have l1 := HLL.out; have l2 := HLM.out; have l3 := HLC.out
            clear OW FR
            go_wp2_with fail
            with_reducible refine LV.mono ?_
            rintro e w8 ⟨rfl, hb⟩
            have HBW := Lib.hid (HBW.out.trans (hb.mono HBW.out.size))
            clear hb LV
            go_wp2_with fail
            go_ret
            exact ⟨rfl, HBD.out.trans (HBW.out.mono HBD.out.size)⟩
end Go.Proofs.Ytmkkegigajmhkaa

