/- Trees that solve a table, and the cost of the best one (plain law). The trees that Best and Greedy return solve the table (plain law). -/
import Derived.Test.YtmkkegigajmhkaaN22
set_option linter.unusedVariables false
namespace Go.Proofs.Ytmkkegigajmhkaa
open Go.RowKit Go.Maps

/-- where a row leads, and at what cost -/
inductive Wc (T : Tb) (r : List Int) : Tr → Int → Int → Prop
  | leaf {a c : Int} {ans : List Int} {kids : List Tr} (h : a < 0) : Wc T r (.node a c ans kids) c 0
  | step {a c : Int} {ans : List Int} {kids : List Tr} {y : Int} {k : Nat} {t : Tr} {c' s : Int} (h : 0 ≤ a) (hy : r[a.toNat]? = some y) (hk : ans[k]? = some y) (hf : ∀ j, j < k → ans[j]? ≠ some y) (ht : kids[k]? = some t) (hr : Wc T r t c' s) :
      Wc T r (.node a c ans kids) c' (costAt T a.toNat + s)
theorem Wc.nonneg {T : Tb} (ho : OkT T) {r : List Int} {t : Tr} {c s : Int} (h : Wc T r t c s) : 0 ≤ s := by
  induction h with
  | leaf h => omega
  | @step a c ans kids y k t c' s h hy hk hf ht hr ih => have := (costAt_bd ho a.toNat).1; omega
theorem sumQ_app (T : Tb) (xs : List Int) (a : Int) : sumQ T (xs ++ [a]) = sumQ T xs + costAt T a.toNat := by unfold sumQ; rw [List.foldl_append]; rfl
theorem Wk.wc {T : Tb} {r : List Int} {t : Tr} {acc : List Int} {c : Int} {qs : List Int} {e : Int} (h : Wk r t acc c qs e) : e = 0 → ∃ s, Wc T r t c s ∧ sumQ T qs = sumQ T acc + s := by
  induction h with
  | leaf h => intro _; exact ⟨0, .leaf h, by omega⟩
  | far h hl => intro he; cases he
  | gone h hy hn => intro he; cases he
  | step h hy hk hf ht hr ih =>
    intro he
    obtain ⟨s, h1, h2⟩ := ih he
    exact ⟨_, .step h hy hk hf ht h1, by rw [h2, sumQ_app]; omega⟩
theorem Wc.wk {T : Tb} {r : List Int} {t : Tr} {c s : Int} (h : Wc T r t c s) : ∀ acc : List Int, ∃ qs, Wk r t acc c qs 0 ∧ sumQ T qs = sumQ T acc + s := by
  induction h with
  | leaf h => intro acc; exact ⟨acc, .leaf h, by omega⟩
  | step h hy hk hf ht hr ih =>
    intro acc
    obtain ⟨qs, h1, h2⟩ := ih (acc ++ [_])
    exact ⟨qs, .step h hy hk hf ht h1, by rw [h2, sumQ_app]; omega⟩
/-- a tree solves a table for some worlds, at most at a cost -/
def Sv (T : Tb) (t : Tr) (ws : List Nat) (c : Int) : Prop := ∀ i, i ∈ ws → ∃ s, Wc T (rowAt T i) t (clsAt T i) s ∧ s ≤ c
theorem CkL.sv {T : Tb} {t : Tr} {i : Nat} {most c e : Int} (h : CkL T t i most c e) : e = 0 → most ≤ c ∧ ∀ k r, i ≤ k → T.rows[k]? = some r → ∃ s, Wc T r t (clsAt T k) s ∧ s ≤ c := by
  induction h with
  | done h => intro _; exact ⟨Int.le_refl _, fun k r hk hr => by have := (List.getElem?_eq_some_iff.1 hr).1; omega⟩
  | none hr hw hx => intro he; cases he
  | differ hr hw hc => intro he; cases he
  | step hr hw hn ih =>
    intro he
    obtain ⟨h1, h2⟩ := ih he
    refine ⟨by omega, fun k r hk hr' => ?_⟩
    rcases Nat.eq_or_lt_of_le hk with e | e
    · subst e
      rw [hr] at hr'; cases hr'
      obtain ⟨s, g1, g2⟩ := hw.wc (T := T) rfl
      exact ⟨s, g1, by simp [sumQ] at g2 ⊢; unfold sumQ at h1; omega⟩
    · exact h2 k r e hr'
theorem Ck.sv {T : Tb} {t : Tr} {c e : Int} (h : Ck T t c e) (he : e = 0) : OkT T ∧ 0 ≤ c ∧ Sv T t (allW T) c := by
  cases h with
  | bad h => exact absurd he h
  | form h hi => cases he
  | good h hi hc =>
    have h2 := hc.sv he
    refine ⟨(okT_iff T).1 h, h2.1, fun i hi => ?_⟩
    obtain ⟨r, hr⟩ := elem_at (allW_ok T i hi)
    rw [rowAt_of hr]
    exact h2.2 i r (Nat.zero_le _) hr
/-- what Check finds where a tree solves a table -/
theorem CkL.of {T : Tb} {t : Tr} {M : Int} (hs : ∀ k r, T.rows[k]? = some r → ∃ s, Wc T r t (clsAt T k) s ∧ s ≤ M) {i : Nat} {most c e : Int} (h : CkL T t i most c e) : most ≤ M → e = 0 ∧ c ≤ M := by
  induction h with
  | done h => intro hm; exact ⟨rfl, hm⟩
  | none hr hw hx =>
    intro hm
    obtain ⟨s, h1, h2⟩ := hs _ _ hr
    obtain ⟨qs, h3, h4⟩ := h1.wk []
    exact absurd (hw.uniq h3).2.2 hx
  | differ hr hw hc =>
    intro hm
    obtain ⟨s, h1, h2⟩ := hs _ _ hr
    obtain ⟨qs, h3, h4⟩ := h1.wk []
    exact absurd (hw.uniq h3).1 hc
  | step hr hw hn ih =>
    intro hm
    obtain ⟨s, h1, h2⟩ := hs _ _ hr
    obtain ⟨qs, h3, h4⟩ := h1.wk []
    obtain ⟨_, e2, _⟩ := hw.uniq h3
    subst e2
    have : sumQ T [] = 0 := rfl
    exact ih (by omega)
theorem Ck.of {T : Tb} (ho : OkT T) {t : Tr} (hi : isT t = true) {M : Int} (hM : 0 ≤ M) (hs : Sv T t (allW T) M) {c e : Int} (h : Ck T t c e) : e = 0 ∧ c ≤ M := by
  have hv := (okT_iff T).2 ho
  cases h with
  | bad h => exact absurd hv h
  | form h hi' => rw [hi] at hi'; cases hi'
  | good h hi' hc =>
    refine CkL.of (fun k r hr => ?_) hc hM
    have := hs k (by unfold allW; simpa using (List.getElem?_eq_some_iff.1 hr).1)
    rwa [rowAt_of hr] at this
/-- a tree that solves a table parts its worlds -/
theorem Sv.noTw {T : Tb} {t : Tr} {c : Int} (h : Sv T t (allW T) c) : NoTw T := by
  intro i j hi hj hc hr
  obtain ⟨s1, h1, _⟩ := h i (by unfold allW; simpa using hi)
  obtain ⟨s2, h2, _⟩ := h j (by unfold allW; simpa using hj)
  rw [hr] at h1
  obtain ⟨q1, g1, _⟩ := h1.wk []
  obtain ⟨q2, g2, _⟩ := h2.wk []
  exact hc (g1.uniq g2).1
/-! ### no tree costs less -/
theorem mostC_le {g : List Nat → Int} {T : Tb} {ws : List Nat} {k : Nat} {M : Int} (hM : 0 ≤ M) : ∀ (G : List Int), (∀ a, a ∈ G → g (withW T ws k a) ≤ M) → mostC g T ws k G ≤ M := by
  have key : ∀ (G : List Int) (n : Int), n ≤ M → (∀ a, a ∈ G → g (withW T ws k a) ≤ M) → G.foldl (fun n a => max n (g (withW T ws k a))) n ≤ M := by
    intro G
    induction G with
    | nil => intro n h1 _; exact h1
    | cons a r ih =>
      intro n h1 h2
      have := h2 a (by simp)
      exact ih _ (by show max n (g (withW T ws k a)) ≤ M; omega) fun b hb => h2 b (by simp [hb])
  intro G h
  exact key G 0 hM h
theorem mostC_ge {g : List Nat → Int} {T : Tb} {ws : List Nat} {k : Nat} {G : List Int} {a : Int} (h : a ∈ G) : g (withW T ws k a) ≤ mostC g T ws k G := by
  have mono : ∀ (G : List Int) (n : Int), n ≤ G.foldl (fun n a => max n (g (withW T ws k a))) n := by
    intro G
    induction G with
    | nil => intro n; exact Int.le_refl _
    | cons b r ih => intro n; exact Int.le_trans (by omega) (ih (max n (g (withW T ws k b))))
  have key : ∀ (G : List Int) (n : Int), a ∈ G → g (withW T ws k a) ≤ G.foldl (fun n a => max n (g (withW T ws k a))) n := by
    intro G
    induction G with
    | nil => intro n h; cases h
    | cons b r ih =>
      intro n h
      rw [List.foldl_cons]
      rcases List.mem_cons.1 h with e | e
      · subst e; exact Int.le_trans (by omega) (mono r (max n (g (withW T ws k a))))
      · exact ih _ e
  exact key G 0 h
theorem bState_le {g : List Nat → Int} {T : Tb} {ws : List Nat} : ∀ (n k : Nat), k < n → 2 ≤ (given T ws k).length → (0 ≤ (bState g T ws n).1) ∧ (bState g T ws n).2 ≤ costAt T k + mostC g T ws k (given T ws k)
  | 0, k, h, _ => by omega
  | n + 1, k, h, h2 => by
    rw [bState, bStep]
    by_cases e : k = n
    · subst e
      rw [if_neg (by omega)]
      split
      · exact ⟨by simp, Int.le_refl _⟩
      · rename_i hc
        rw [not_or] at hc
        omega
    · obtain ⟨i1, i2⟩ := bState_le (g := g) n k (by omega) h2
      split
      · exact ⟨i1, i2⟩
      · split
        · rename_i hc
          rcases hc with hc | hc
          · omega
          · exact ⟨by simp, by omega⟩
        · exact ⟨i1, i2⟩
theorem bState_cost {g : List Nat → Int} {T : Tb} {ws : List Nat} : ∀ (n k : Nat), (bState g T ws n).1 = k → (bState g T ws n).2 = costAt T k + mostC g T ws k (given T ws k)
  | 0, k, h => by simp [bState] at h
  | n + 1, k, h => by
    rw [bState, bStep] at h ⊢
    split at h
    · rename_i hc
      rw [if_pos hc]; exact bState_cost n k h
    · rename_i hc
      rw [if_neg hc]
      split at h
      · rename_i hd
        rw [if_pos hd]
        have e : n = k := by have h' : (n : Int) = (k : Int) := h; omega
        subst e; rfl
      · rename_i hd
        rw [if_neg hd]; exact bState_cost n k h
theorem withW_one {T : Tb} {ws : List Nat} {k : Nat} {y : Int} (h2 : (given T ws k).length < 2) (hy : y ∈ given T ws k) : withW T ws k y = ws := by
  unfold withW
  rw [List.filter_eq_self]
  intro i hi
  have h1 := (given_mem T ws k (ansAt T i k)).2 ⟨i, hi, rfl⟩
  have : ansAt T i k = y := by
    cases hG : given T ws k with
    | nil => rw [hG] at hy; cases hy
    | cons x r => cases r with
      | nil => rw [hG] at h1 hy; simp at h1 hy; rw [h1, hy]
      | cons z s => rw [hG] at h2; simp at h2; omega
  simpa using this
theorem single_of {T : Tb} {ws : List Nat} {c : Int} (h : ∀ i, i ∈ ws → clsAt T i = c) : single T ws = true := by
  unfold single
  rw [List.all_eq_true]
  intro i hi
  cases ws with
  | nil => cases hi
  | cons a r => rw [h i hi, List.headD_cons, h a (by simp)]; simp
theorem ansAt_row {T : Tb} {i k : Nat} {y : Int} (h : (rowAt T i)[k]? = some y) : ansAt T i k = y := by unfold ansAt; rw [h]; rfl
theorem best_least {T : Tb} (ho : OkT T) : ∀ (n : Nat) (t : Tr) (ws : List Nat) (c : Int), depT t ≤ n → WsOk T ws → 0 ≤ c → Sv T t ws c → (bestV T ws).2 ≤ c := by
  intro n
  induction n with
  | zero =>
    intro t ws c hd hok hc hs
    by_cases h1 : single T ws = true
    · rw [bestV_single h1]; exact hc
    · cases ws with
      | nil => exact absurd rfl h1
      | cons i r =>
        obtain ⟨s, hw, _⟩ := hs i (by simp)
        cases hw with
        | leaf h => rw [depT] at hd; omega
        | step => rw [depT] at hd; omega
  | succ n ih =>
    intro t ws c hd hok hc hs
    by_cases h1 : single T ws = true
    · rw [bestV_single h1]; exact hc
    · have h1' : single T ws = false := by simpa using h1
      have hne : ∃ i, i ∈ ws := by
        cases ws with
        | nil => exact absurd rfl h1
        | cons i r => exact ⟨i, by simp⟩
      obtain ⟨i0, hi0⟩ := hne
      cases t with
      | nil => obtain ⟨s, hw, _⟩ := hs i0 hi0; cases hw
      | node a cl ans kids =>
        by_cases ha : a < 0
        · refine absurd (single_of (c := cl) fun i hi => ?_) h1
          obtain ⟨s, hw, _⟩ := hs i hi
          cases hw with
          | leaf h => rfl
          | step h => omega
        · -- the question parts the worlds, or does not
          have hcost := (costAt_bd ho a.toNat).1
          have hkey : ∀ i, i ∈ ws → ∃ (y : Int) (k : Nat) (t : Tr) (s : Int), (rowAt T i)[a.toNat]? = some y ∧ ans[k]? = some y ∧ (∀ j, j < k → ans[j]? ≠ some y) ∧ kids[k]? = some t ∧ Wc T (rowAt T i) t (clsAt T i) s ∧ s ≤ c - costAt T a.toNat := fun i hi => by
            obtain ⟨s, hw, hle⟩ := hs i hi
            generalize hcl : clsAt T i = cc at hw ⊢
            cases hw with
            | leaf h => omega
            | step h hy hk hf ht hr => exact ⟨_, _, _, _, hy, hk, hf, ht, hr, by omega⟩
          have hsub : ∀ y, y ∈ given T ws a.toNat → (bestV T (withW T ws a.toNat y)).2 ≤ c - costAt T a.toNat := fun y hy => by
            obtain ⟨i, hi, he⟩ := (given_mem T ws a.toNat y).1 hy
            obtain ⟨y', k, t, s, g1, g2, g3, g4, g5, g6⟩ := hkey i hi
            rw [ansAt_row g1] at he
            subst he
            have h0 := g5.nonneg ho
            refine ih t _ _ ?_ (withW_ok hok _ _) (by omega) fun j hj => ?_
            · have := depT_kid (a := a) (c := cl) (ans := ans) g4; omega
            · obtain ⟨hj1, hj2⟩ := withW_mem.1 hj
              obtain ⟨y2, k2, t2, s2, q1, q2, q3, q4, q5, q6⟩ := hkey j hj1
              rw [ansAt_row q1] at hj2
              subst hj2
              have hk : k = k2 := by
                rcases Nat.lt_trichotomy k k2 with h | h | h
                · exact absurd g2 (q3 k h)
                · exact h
                · exact absurd q2 (g3 k2 h)
              subst hk
              rw [g4] at q4; cases q4
              exact ⟨s2, q5, q6⟩
          obtain ⟨y, k, t, s, g1, g2, g3, g4, g5, g6⟩ := hkey i0 hi0
          have hs0 := g5.nonneg ho
          have hkc : a.toNat < T.costs.length := by
            obtain ⟨r, hr⟩ := elem_at (hok i0 hi0)
            rw [rowAt_of hr] at g1
            have := (List.getElem?_eq_some_iff.1 g1).1
            rw [ho.rl r (List.mem_of_getElem? hr)] at this; exact this
          by_cases h2 : 2 ≤ (given T ws a.toNat).length
          · rw [bestV_eq h1']
            have h3 := (bState_le (g := fun u => (bestV T u).2) T.costs.length a.toNat hkc h2).2
            have h4 := mostC_le (g := fun u => (bestV T u).2) (T := T) (ws := ws) (k := a.toNat) (M := c - costAt T a.toNat) (by omega) (given T ws a.toNat) hsub
            omega
          · have hy : y ∈ given T ws a.toNat := (given_mem T ws a.toNat y).2 ⟨i0, hi0, ansAt_row g1⟩
            have h3 := hsub y hy
            rw [withW_one (by omega) hy] at h3
            omega
end Go.Proofs.Ytmkkegigajmhkaa

namespace Go.Proofs.Ytmkkegigajmhkaa
open Go.RowKit Go.Maps

theorem pairwise_incB : ∀ l : List Int, l.Pairwise (· < ·) → incB l = true
  | [], _ => rfl
  | [_], _ => rfl
  | x :: y :: r, h => by
    rw [List.pairwise_cons] at h
    rw [incB, pairwise_incB (y :: r) h.2, decide_eq_true (h.1 y (by simp))]; rfl
theorem isTs_map {α : Type} (f : α → Tr) : ∀ l : List α, (∀ x, x ∈ l → isT (f x) = true) → isTs (l.map f) = true
  | [], _ => rfl
  | a :: r, h => by rw [List.map_cons, isTs, h a (by simp), isTs_map f r fun x hx => h x (by simp [hx])]; rfl
theorem treeF_isT {choose : List Nat → Int} {T : Tb} (ho : OkT T) (hc : ChooseOk choose T) : ∀ (n : Nat) (ws : List Nat), WsOk T ws → ws ≠ [] → ws.length ≤ n → isT (treeF choose T n ws) = true
  | 0, ws, _, hne, hl => absurd (List.length_eq_zero_iff.1 (by omega)) hne
  | n + 1, ws, hok, hne, hl => by
    unfold treeF
    split
    · have hcl : 0 ≤ clsAt T (ws.headD 0) ∧ clsAt T (ws.headD 0) ≤ 63 := by
        unfold clsAt
        cases h : T.cls[ws.headD 0]? with
        | none => simp
        | some x => have := ho.kb x (List.mem_of_getElem? h); simpa using this
      rw [isT_leaf, decide_eq_true hcl.1, decide_eq_true hcl.2]; rfl
    · rename_i hs
      obtain ⟨k, hk, hk2, h2⟩ := hc ws hok (by simpa using hs)
      rw [hk, Int.toNat_natCast]
      have hk64 := ho.c64
      have h4 : isTs ((given T ws k).map fun a => treeF choose T n (withW T ws k a)) = true := isTs_map _ _ fun a ha => treeF_isT ho hc n _ (withW_ok hok k a) (withW_ne ha) (by have := withW_lt (a := a) h2; omega)
      rw [isT_node (by omega), h4, pairwise_incB _ (given_sorted T ws k), decide_eq_true (by omega), decide_eq_true (by omega), decide_eq_true rfl, decide_eq_true (by omega), decide_eq_true (by rw [List.length_map])]; rfl
theorem nodup_first {l : List Int} (h : l.Pairwise (· < ·)) {k : Nat} {y : Int} (hk : l[k]? = some y) : ∀ j, j < k → l[j]? ≠ some y := by
  intro j hj e
  obtain ⟨h1, e1⟩ := List.getElem?_eq_some_iff.1 hk
  obtain ⟨h2, e2⟩ := List.getElem?_eq_some_iff.1 e
  have := List.pairwise_iff_getElem.1 h j k h2 h1 hj
  omega
theorem treeF_sv {choose : List Nat → Int} {T : Tb} (ho : OkT T) (hc : ChooseOk choose T) (cost : List Nat → Int) (hsg : ∀ ws, single T ws = true → 0 ≤ cost ws)
    (hco : ∀ ws (k : Nat) a, WsOk T ws → single T ws = false → choose ws = k → a ∈ given T ws k → costAt T k + cost (withW T ws k a) ≤ cost ws) :
    ∀ (n : Nat) (ws : List Nat), WsOk T ws → ws ≠ [] → ws.length ≤ n → Sv T (treeF choose T n ws) ws (cost ws)
  | 0, ws, _, hne, hl => absurd (List.length_eq_zero_iff.1 (by omega)) hne
  | n + 1, ws, hok, hne, hl => by
    intro i hi
    unfold treeF
    split
    · rename_i h1
      have hcl : clsAt T i = clsAt T (ws.headD 0) := by
        have := h1
        unfold single at this
        simpa using List.all_eq_true.1 this i hi
      rw [hcl]
      exact ⟨0, .leaf (by omega), hsg ws h1⟩
    · rename_i hs
      have hs' : single T ws = false := by simpa using hs
      obtain ⟨k, hk, hk2, h2⟩ := hc ws hok hs'
      rw [hk, Int.toNat_natCast]
      obtain ⟨r, hr⟩ := elem_at (hok i hi)
      have hrl := ho.rl r (List.mem_of_getElem? hr)
      obtain ⟨y, hy⟩ := elem_at (show k < r.length by omega)
      have ha : ansAt T i k = y := ansAt_row (by rw [rowAt_of hr]; exact hy)
      have hg : y ∈ given T ws k := (given_mem T ws k y).2 ⟨i, hi, ha⟩
      obtain ⟨j, hj⟩ := List.getElem?_of_mem hg
      obtain ⟨s, h3, h4⟩ := treeF_sv ho hc cost hsg hco n (withW T ws k y) (withW_ok hok k y) (withW_ne hg) (by have := withW_lt (a := y) h2; omega) i (withW_mem.2 ⟨hi, ha⟩)
      have h5 := hco ws k y hok hs' hk hg
      refine ⟨costAt T k + s, ?_, by omega⟩
      have := Wc.step (T := T) (r := rowAt T i) (a := (k : Int)) (c := 0) (ans := given T ws k) (kids := (given T ws k).map fun a => treeF choose T n (withW T ws k a)) (y := y) (k := j) (by omega) (by rw [Int.toNat_natCast, rowAt_of hr]; exact hy) hj (nodup_first (given_sorted T ws k) hj) (by rw [List.getElem?_map, hj]; rfl) h3
      rwa [Int.toNat_natCast] at this
theorem allW_ne {T : Tb} (ho : OkT T) : allW T ≠ [] := fun e => by have := allW_len T; have := ho.r1; rw [e] at *; simp at *; omega
/-- Best: what is returned is accepted, at its cost, and nothing else that is accepted costs less -/
theorem bestErr_ok {T : Tb} (h : bestErr T = 0) : OkT T ∧ NoTw T ∧ T.rows.length ≤ 10 := by
  unfold bestErr at h
  split at h
  · contradiction
  · rename_i h2
    obtain ⟨ho, hn⟩ := exE_ok (show exE T = 0 by omega)
    split at h
    · cases h
    · exact ⟨ho, hn, by omega⟩
theorem bestTr_sv {T : Tb} (h : bestErr T = 0) : isT (bestTr T) = true ∧ Sv T (bestTr T) (allW T) (bestC T) ∧ 0 ≤ bestC T := by
  obtain ⟨ho, hn, _⟩ := bestErr_ok h
  have hc := best_choose ho hn
  have hne := allW_ne ho
  have hl := allW_len T
  unfold bestTr bestC
  rw [if_pos h, if_pos h]
  refine ⟨treeF_isT ho hc _ _ (allW_ok T) hne (by omega), treeF_sv ho hc (fun ws => (bestV T ws).2) (fun ws h1 => by rw [bestV_single h1]; exact Int.le_refl _) (fun ws k a hok hs hk ha => ?_) _ _ (allW_ok T) hne (by omega), (bestV_bd ho _).2.1⟩
  have hk' : (bestV T ws).1 = k := hk
  rw [bestV_eq hs] at hk' ⊢
  rw [bState_cost _ _ hk']
  have := mostC_ge (g := fun u => (bestV T u).2) (T := T) (ws := ws) (k := k) ha
  have h9 : costAt T k + (bestV T (withW T ws k a)).2 ≤ costAt T k + mostC (fun u => (bestV T u).2) T ws k (given T ws k) := by omega
  exact h9
theorem bestC_least {T : Tb} (h : bestErr T = 0) {t : Tr} {c e : Int} (hk : Ck T t c e) (he : e = 0) : bestC T ≤ c := by
  obtain ⟨ho, h0, hs⟩ := hk.sv he
  unfold bestC
  rw [if_pos h]
  exact best_least ho _ t _ c (Nat.le_refl _) (allW_ok T) h0 hs
theorem bestTr_ck {T : Tb} (h : bestErr T = 0) {c e : Int} (hk : Ck T (bestTr T) c e) : e = 0 ∧ c = bestC T := by
  obtain ⟨hi, hs, h0⟩ := bestTr_sv h
  obtain ⟨ho, _, _⟩ := bestErr_ok h
  obtain ⟨he, hle⟩ := Ck.of ho hi h0 hs hk
  have := bestC_least h hk he
  exact ⟨he, by omega⟩
theorem greTr_ck {T : Tb} (h : exE T = 0) {c e : Int} (hk : Ck T (greTr T) c e) : e = 0 := by
  obtain ⟨ho, hn⟩ := exE_ok h
  have hc := greedy_choose ho hn
  have hne := allW_ne ho
  have hl := allW_len T
  have hi : isT (greTr T) = true := by unfold greTr; rw [if_pos h]; exact treeF_isT ho hc _ _ (allW_ok T) hne (by omega)
  -- some cost that is great enough
  have key : ∃ M : Int, 0 ≤ M ∧ Sv T (greTr T) (allW T) M := by
    refine ⟨1024 * (T.rows.length : Int), by omega, ?_⟩
    unfold greTr; rw [if_pos h]
    have := treeF_sv ho hc (fun ws => 1024 * (ws.length : Int)) (fun ws _ => by omega) (fun ws k a hok hs hk ha => by
      obtain ⟨k', hk', _, h2⟩ := hc ws hok hs
      have e : k = k' := by rw [hk] at hk'; omega
      subst e
      have h3 := withW_lt (a := a) h2
      have h4 := (costAt_bd ho k).2
      show costAt T k + 1024 * ((withW T ws k a).length : Int) ≤ 1024 * (ws.length : Int)
      omega) T.rows.length (allW T) (allW_ok T) hne (by omega)
    simpa [hl] using this
  obtain ⟨M, hM, hs⟩ := key
  exact (Ck.of ho hi hM hs hk).1
theorem ck_noTw {T : Tb} {t : Tr} {c e : Int} (hk : Ck T t c e) (he : e = 0) : NoTw T := (hk.sv he).2.2.noTw
theorem noTw_hit {T : Tb} (ho : OkT T) {a b : Nat} (h : TwHit T a b) (hn : NoTw T) : False := by
  have h1 := h.hit
  have hb := h.bn; have ha := h.ab
  unfold twB at h1
  simp only [Bool.and_eq_true, decide_eq_true_eq, bne_iff_ne] at h1
  exact hn a b (by omega) hb h1.1 h1.2
theorem bestTr_sm2 (T : Tb) : smT (bestTr T) = true ∧ depT (bestTr T) ≤ 100000 := by
  unfold bestTr
  split
  · rename_i he
    have h10 := (bestErr_ok he).2.2
    exact ⟨treeF_sm _ T _ _ (by rw [allW_len]; omega), by have := treeF_dep (fun ws => (bestV T ws).1) T T.rows.length (allW T); omega⟩
  · exact ⟨rfl, by simp [depT]⟩
theorem greTr_sm2 (T : Tb) : smT (greTr T) = true ∧ depT (greTr T) ≤ 100000 := by
  unfold greTr
  split
  · rename_i he
    have h64 := (exE_ok he).1.r64
    exact ⟨treeF_sm _ T _ _ (by rw [allW_len]; omega), by have := treeF_dep (greedyA T) T T.rows.length (allW T); omega⟩
  · exact ⟨rfl, by simp [depT]⟩
end Go.Proofs.Ytmkkegigajmhkaa

