/- What a form reads as (plain law): its parts. What a form reads as (plain law): its rows. What a form reads as (plain law): the whole. Parse of a form (plain law); where it differs from the list, Unique has lists. The walk of SpanReads. -/
import Derived.Test.YtecdkpcapalifaaDoorM15
import Derived.Test.YtecdkpcapalifaaDoorM13
import Derived.Test.YtecdkpcapalifaaDoorM17
set_option linter.unusedVariables false
namespace Go.Proofs.YtecdkpcapalifaaDoor
open Go.RowKit Go.Maps

/-! digits -/
theorem dg_nat (n : Int) : (dg n).toNat = 48 + (n % 10).toNat := by
  unfold dg
  have h1 := Int.emod_nonneg n (b := 10) (by omega)
  have h2 := Int.emod_lt_of_pos n (b := 10) (by omega)
  rw [UInt8.toNat_ofNat']
  omega
theorem dg_isDg (n : Int) : isDg (dg n) = true := by
  unfold isDg
  rw [dg_nat]
  have h1 := Int.emod_nonneg n (b := 10) (by omega)
  have h2 := Int.emod_lt_of_pos n (b := 10) (by omega)
  simp
  omega
theorem dg_inj {x y : Int} (h : dg x = dg y) : x % 10 = y % 10 := by
  have h0 := congrArg UInt8.toNat h
  rw [dg_nat, dg_nat] at h0
  have h1 := Int.emod_nonneg x (b := 10) (by omega)
  have h2 := Int.emod_nonneg y (b := 10) (by omega)
  omega
theorem textL_isDg (n : Int) : ∀ c ∈ textL n, isDg c = true := by
  intro c hc
  unfold textL at hc
  split at hc
  · simp at hc; rw [hc]; exact dg_isDg _
  · split at hc
    · simp at hc; rcases hc with rfl | rfl <;> exact dg_isDg _
    · simp at hc; rcases hc with rfl | rfl | rfl <;> exact dg_isDg _
theorem digs_app {d rest : List UInt8} (hd : ∀ c ∈ d, isDg c = true) (hl : d.length ≤ 3) (hr : rest = [] ∨ ∃ c q, rest = c :: q ∧ isDg c = false) : digs (d ++ rest) = d := by
  unfold digs
  rw [List.take_append, List.take_of_length_le hl, List.takeWhile_append_of_pos hd]
  rcases hr with rfl | ⟨c, q, rfl, hc⟩
  · simp
  · cases h : 3 - d.length with
    | zero => simp
    | succ k => rw [List.take_succ_cons, List.takeWhile_cons, hc]; simp
theorem valL_1 (a : Int) : valL [dg a] = a % 10 := by
  have h1 := Int.emod_nonneg a (b := 10) (by omega)
  simp only [valL, List.foldl_cons, List.foldl_nil, dg_nat]
  omega
theorem valL_2 (a b : Int) : valL [dg a, dg b] = 10 * (a % 10) + b % 10 := by
  have h1 := Int.emod_nonneg a (b := 10) (by omega)
  have h2 := Int.emod_nonneg b (b := 10) (by omega)
  simp only [valL, List.foldl_cons, List.foldl_nil, dg_nat]
  omega
theorem valL_3 (a b c : Int) : valL [dg a, dg b, dg c] = 100 * (a % 10) + 10 * (b % 10) + c % 10 := by
  have h1 := Int.emod_nonneg a (b := 10) (by omega)
  have h2 := Int.emod_nonneg b (b := 10) (by omega)
  have h3 := Int.emod_nonneg c (b := 10) (by omega)
  simp only [valL, List.foldl_cons, List.foldl_nil, dg_nat]
  omega
theorem valL_text {n : Int} (h0 : 0 ≤ n) (h9 : n ≤ 999) : valL (textL n) = n := by
  by_cases h1 : n < 10
  · rw [textL_1 h1, valL_1]; omega
  · by_cases h2 : n < 100
    · rw [textL_2 (by omega) h2, valL_2]; omega
    · rw [textL_3 (by omega), valL_3]; omega

/-! the end of a range -/
def RangeOk (keep a b : Int) (d : List UInt8) : Prop :=
  d ≠ [] ∧ (∀ c ∈ d, isDg c = true) ∧ d.length ≤ 3 ∧ (if d.length < (textL a).length then valL d + a / 10 ^ d.length * 10 ^ d.length else valL d) = b
theorem drop_isDg {n : Int} {k : Nat} : ∀ c ∈ (textL n).drop k, isDg c = true := fun c hc => textL_isDg n c (List.mem_of_mem_drop hc)
theorem range_ok (keep a b : Int) (hk1 : 1 ≤ keep) (hk3 : keep ≤ 3) (ha : 1 ≤ a) (hab : a ≤ b) (hb : b ≤ 999) : RangeOk keep a b ((textL b).drop (stripN keep (textL a) (textL b))) := by
  have hlb := textL_len b
  have key : ∀ k, k < (textL b).length → (if ((textL b).drop k).length < (textL a).length then valL ((textL b).drop k) + a / 10 ^ ((textL b).drop k).length * 10 ^ ((textL b).drop k).length else valL ((textL b).drop k)) = b → RangeOk keep a b ((textL b).drop k) := by
    intro k hk h
    refine ⟨?_, drop_isDg, ?_, h⟩
    · intro e
      have := congrArg List.length e
      simp at this
      omega
    · simp; omega
  obtain ⟨kn, hkn⟩ : ∃ kn : Nat, keep = kn := ⟨keep.toNat, by omega⟩
  subst hkn
  have hk1' : 1 ≤ kn := by omega
  by_cases a1 : a < 10
  · by_cases b1 : b < 10
    · refine key _ ?_ ?_
      · rw [textL_1 a1, textL_1 b1]; simp [stripN]; omega
      · have e : stripN (kn : Int) (textL a) (textL b) = 0 := by rw [textL_1 a1, textL_1 b1]; simp [stripN]; omega
        rw [e, textL_1 a1, textL_1 b1]
        simp [valL_1]; omega
    · by_cases b2 : b < 100
      · have e : stripN (kn : Int) (textL a) (textL b) = 0 := by rw [textL_1 a1, textL_2 (by omega) b2]; simp [stripN]
        refine key _ (by rw [e]; omega) ?_
        rw [e, textL_1 a1, textL_2 (by omega) b2]
        simp [valL_2]; omega
      · have e : stripN (kn : Int) (textL a) (textL b) = 0 := by rw [textL_1 a1, textL_3 (by omega)]; simp [stripN]
        refine key _ (by rw [e]; omega) ?_
        rw [e, textL_1 a1, textL_3 (by omega)]
        simp [valL_3]; omega
  · by_cases a2 : a < 100
    · by_cases b2 : b < 100
      · have ea : textL a = [dg (a / 10), dg a] := textL_2 (by omega) a2
        have eb : textL b = [dg (b / 10), dg b] := textL_2 (by omega) b2
        by_cases hd : dg (a / 10) = dg (b / 10) ∧ kn = 1
        · obtain ⟨hd, rfl⟩ := hd
          have e : stripN ((1 : Nat) : Int) (textL a) (textL b) = 1 := by
            rw [ea, eb]; simp [stripN, cpre, hd] <;> (try split) <;> omega
          have := dg_inj hd
          refine key _ (by rw [e, eb]; simp) ?_
          rw [e, ea, eb]
          simp [valL_1]; omega
        · have e : stripN (kn : Int) (textL a) (textL b) = 0 := by
            rw [ea, eb]; simp only [stripN, cpre, List.length_cons, List.length_nil, if_true]
            by_cases h1 : dg (a / 10) = dg (b / 10)
            · have : kn ≠ 1 := fun e => hd ⟨h1, e⟩
              have : 0 + 1 + 1 - (kn : Int).toNat = 0 := by omega
              rw [this]; simp
            · rw [if_neg h1]; simp
          refine key _ (by rw [e]; omega) ?_
          rw [e, ea, eb]
          simp [valL_2]; omega
      · have e : stripN (kn : Int) (textL a) (textL b) = 0 := by rw [textL_2 (by omega) a2, textL_3 (by omega)]; simp [stripN]
        refine key _ (by rw [e]; omega) ?_
        rw [e, textL_2 (by omega) a2, textL_3 (by omega)]
        simp [valL_3]; omega
    · have ea : textL a = [dg (a / 100), dg (a / 10), dg a] := textL_3 (by omega)
      have eb : textL b = [dg (b / 100), dg (b / 10), dg b] := textL_3 (by omega)
      have hs : stripN (kn : Int) (textL a) (textL b) = min (cpre (textL a) (textL b)) (3 - kn) := by
        unfold stripN
        rw [ea, eb]
        simp
      have hs2 : stripN (kn : Int) (textL a) (textL b) = 0 ∨ (stripN (kn : Int) (textL a) (textL b) = 1 ∧ dg (a / 100) = dg (b / 100)) ∨ (stripN (kn : Int) (textL a) (textL b) = 2 ∧ dg (a / 100) = dg (b / 100) ∧ dg (a / 10) = dg (b / 10)) := by
        rw [hs, ea, eb]
        by_cases h1 : dg (a / 100) = dg (b / 100)
        · by_cases h2 : dg (a / 10) = dg (b / 10)
          · simp only [cpre, if_pos h1, if_pos h2]
            have : kn = 1 ∨ kn = 2 ∨ kn = 3 := by omega
            rcases this with rfl | rfl | rfl
            · right; right; exact ⟨by split <;> omega, h1, h2⟩
            · right; left; exact ⟨by split <;> omega, h1⟩
            · left; omega
          · simp only [cpre, if_pos h1, if_neg h2]
            have : kn = 1 ∨ kn = 2 ∨ kn = 3 := by omega
            rcases this with rfl | rfl | rfl
            · right; left; exact ⟨by omega, h1⟩
            · right; left; exact ⟨by omega, h1⟩
            · left; omega
        · left; simp [cpre, if_neg h1]
      rcases hs2 with e | ⟨e, h1⟩ | ⟨e, h1, h2⟩
      · refine key _ (by rw [e]; omega) ?_
        rw [e, ea, eb]
        simp [valL_3]; omega
      · have := dg_inj h1
        refine key _ (by rw [e, eb]; simp) ?_
        rw [e, ea, eb]
        simp [valL_2]; omega
      · have := dg_inj h1
        have := dg_inj h2
        refine key _ (by rw [e, eb]; simp) ?_
        rw [e, ea, eb]
        simp [valL_1]; omega

/-! what parts read as -/
def cutE (s : Sty) (x : Sp) : Sp := if x.1 = x.2 then x else if 0 < s.row ∧ s.row ≤ x.2 - x.1 + 1 then (x.1, x.1 + s.row - 1) else x
def cutR (s : Sty) (r : List Sp) : List Sp := if 0 < s.pas ∧ s.pas ≤ (r.length : Int) then scat s.pas.toNat (headS r).1 (lastS r).2 else r.map (cutE s)
theorem textL_ne (n : Int) : textL n ≠ [] := fun e => by have := (textL_len n).1; rw [e] at this; simp at this
theorem not_dg_45 : isDg 45 = false := by decide
theorem not_dg_102 : isDg 102 = false := by decide
theorem not_dg_32 : isDg 32 = false := by decide
theorem read_range (s : Sty) (a b : Int) (hs : okSty s) (ha : 1 ≤ a) (hab : a ≤ b) (hb : b ≤ 999) (tail : List UInt8) (ht : tail = [] ∨ tail = passimB) :
    readL s (betweenL s.k a b ++ tail) = if tail = [] then some [(a, b)] else if 0 < s.pas then some (scat s.pas.toNat a b) else none := by
  obtain ⟨hk1, hk3, _⟩ := hs
  obtain ⟨h1, h2, h3, h4⟩ := range_ok s.k a b hk1 hk3 ha hab hb
  unfold betweenL
  generalize (textL b).drop (stripN s.k (textL a) (textL b)) = d at *
  have hta : digs (textL a ++ (45 :: d) ++ tail) = textL a := by
    rw [List.append_assoc]
    exact digs_app (textL_isDg a) (textL_len a).2 (.inr ⟨45, d ++ tail, rfl, not_dg_45⟩)
  have htd : digs (d ++ tail) = d := digs_app h2 h3 (by
    rcases ht with rfl | rfl
    · exact .inl rfl
    · exact .inr ⟨32, _, rfl, not_dg_32⟩)
  have hdr : (textL a ++ (45 :: d) ++ tail).drop (textL a).length = 45 :: (d ++ tail) := by rw [List.append_assoc, List.drop_left]; rfl
  have hv := valL_text (n := a) (by omega) (by omega)
  unfold readL
  simp only [hta, hdr, hv]
  rw [if_neg (textL_ne a), if_neg (by simp), if_neg (by simp), if_neg (by simp)]
  unfold readRange
  simp only [htd]
  rw [if_neg h1, h4, List.drop_left]
  rcases ht with rfl | rfl
  · rfl
  · have hne : passimB ≠ [] := by decide
    rw [if_neg hne, if_neg hne]
    simp
theorem read_element (s : Sty) (x : Sp) (hs : okSty s) (h1 : 1 ≤ x.1) (h2 : x.1 ≤ x.2) (h3 : x.2 ≤ 999) : readL s (elementL s x) = some [cutE s x] := by
  obtain ⟨a, b⟩ := x
  dsimp only at h1 h2 h3
  have hv := valL_text (n := a) (by omega) (by omega)
  unfold elementL cutE
  dsimp only
  by_cases e : a = b
  · subst e
    rw [if_pos rfl, if_pos rfl]
    have hta : digs (textL a) = textL a := by have := digs_app (textL_isDg a) (textL_len a).2 (.inl (rfl : ([] : List UInt8) = [])); simpa using this
    unfold readL
    simp only [hta, hv, List.drop_length]
    rw [if_neg (textL_ne a)]
    simp
  · rw [if_neg e, if_neg e]
    by_cases hr : 0 < s.row ∧ s.row ≤ b - a + 1
    · rw [if_pos hr, if_pos hr]
      have hta : digs (textL a ++ [102, 102]) = textL a := digs_app (textL_isDg a) (textL_len a).2 (.inr ⟨102, [102], rfl, not_dg_102⟩)
      unfold readL
      simp only [hta, hv, List.drop_left]
      rw [if_neg (textL_ne a)]
      simp [hr.1]
    · rw [if_neg hr, if_neg hr]
      by_cases hn : s.nx = true ∧ b = a + 1
      · rw [if_pos hn]
        have hta : digs (textL a ++ [102]) = textL a := digs_app (textL_isDg a) (textL_len a).2 (.inr ⟨102, [], rfl, not_dg_102⟩)
        unfold readL
        simp only [hta, hv, List.drop_left]
        rw [if_neg (textL_ne a), hn.2]
        simp
      · rw [if_neg hn]
        have := read_range s a b hs h1 h2 h3 [] (.inl rfl)
        rw [List.append_nil] at this
        rw [this]; rfl
end Go.Proofs.YtecdkpcapalifaaDoor

namespace Go.Proofs.YtecdkpcapalifaaDoor
open Go.RowKit Go.Maps

def cutF (s : Sty) : Nat → List Sp → List Sp
  | 0, _ => []
  | _ + 1, [] => []
  | f + 1, l@(_ :: _) => cutR s (l.take (rowN l)) ++ cutF s f (l.drop (rowN l))
def cutL (s : Sty) (l : List Sp) : List Sp := cutF s l.length l
theorem cutF_fuel (s : Sty) : ∀ (f g : Nat) (l : List Sp), l.length ≤ f → l.length ≤ g → cutF s f l = cutF s g l := by
  intro f
  induction f with
  | zero => intro g l hf hg; cases l with
    | nil => cases g <;> rfl
    | cons x r => simp at hf
  | succ f ih =>
    intro g l hf hg
    cases l with
    | nil => cases g <;> rfl
    | cons x r =>
      cases g with
      | zero => simp at hg
      | succ g =>
        show cutR s _ ++ cutF s f _ = cutR s _ ++ cutF s g _
        have h1 := rowN_pos (l := x :: r) (by simp)
        simp only [List.length_cons] at hf hg
        rw [ih g _ (by rw [List.length_drop, List.length_cons]; omega) (by rw [List.length_drop, List.length_cons]; omega)]
theorem cutL_nil (s : Sty) : cutL s [] = [] := rfl
theorem cutL_step (s : Sty) {l : List Sp} (h : l ≠ []) : cutL s l = cutR s (l.take (rowN l)) ++ cutL s (l.drop (rowN l)) := by
  unfold cutL
  cases l with
  | nil => exact absurd rfl h
  | cons x r =>
    have h1 := rowN_pos (l := x :: r) (by simp)
    show cutR s _ ++ cutF s r.length _ = _
    rw [cutF_fuel s r.length ((x :: r).drop (rowN (x :: r))).length _ (by rw [List.length_drop, List.length_cons]; omega) (Nat.le_refl _)]

/-! rows -/
/-- no row goes on from the one into the other -/
def brk (q rest : List Sp) : Prop := ∀ x y, q.getLast? = some x → rest.head? = some y → y.1 ≠ x.2 + 2
def isRow : List Sp → Prop
  | x :: y :: r => y.1 = x.2 + 2 ∧ isRow (y :: r)
  | _ => True
theorem rowN_break : ∀ (q rest : List Sp), q ≠ [] → brk q rest → rowN (q ++ rest) ≤ q.length
  | [], _, h, _ => absurd rfl h
  | [x], [], _, _ => by simp [rowN]
  | [x], y :: r, _, hb => by
    have := hb x y rfl rfl
    show rowN (x :: y :: r) ≤ 1
    rw [rowN_cons, if_neg this]
    omega
  | x :: y :: q, rest, _, hb => by
    have ih := rowN_break (y :: q) rest (by simp) (fun a b ha hb' => hb a b (by rw [List.getLast?_cons_cons]; exact ha) hb')
    show rowN (x :: y :: (q ++ rest)) ≤ _
    rw [rowN_cons]
    have ih' : rowN (y :: (q ++ rest)) ≤ (y :: q).length := ih
    simp only [List.length_cons] at ih' ⊢
    split <;> omega
theorem row_take : ∀ (l : List Sp), isRow (l.take (rowN l)) ∧ brk (l.take (rowN l)) (l.drop (rowN l))
  | [] => ⟨trivial, fun x y hx _ => by simp [rowN] at hx⟩
  | [x] => by
    have e : rowN [x] = 1 := rfl
    rw [e]
    exact ⟨trivial, fun a b _ hb => by simp at hb⟩
  | x :: y :: r => by
    rw [rowN_cons]
    by_cases h : y.1 = x.2 + 2
    · rw [if_pos h]
      obtain ⟨h1, h2⟩ := row_take (y :: r)
      have hp := rowN_pos (l := y :: r) (by simp)
      obtain ⟨m, hm⟩ : ∃ m, rowN (y :: r) = m + 1 := ⟨rowN (y :: r) - 1, by omega⟩
      rw [hm] at h1 h2 ⊢
      rw [Nat.add_comm, List.take_succ_cons, List.drop_succ_cons]
      rw [List.take_succ_cons] at h1 h2 ⊢
      refine ⟨⟨h, h1⟩, fun a b ha hb => h2 a b ?_ hb⟩
      rw [List.getLast?_cons_cons] at ha
      exact ha
    · rw [if_neg h]
      refine ⟨trivial, fun a b ha hb => ?_⟩
      simp at ha hb
      subst ha; subst hb
      exact h
/-- the singles from a on, and a last span to b -/
def sc (a : Int) : Nat → Int → List Sp
  | 0, b => [(a, b)]
  | k + 1, b => (a, a) :: sc (a + 2) k b
theorem sc_len (a b : Int) (k : Nat) : (sc a k b).length = k + 1 := by
  induction k generalizing a with
  | zero => rfl
  | succ k ih => show (sc (a + 2) k b).length + 1 = _; rw [ih]
theorem scat_sc (k : Nat) (a b : Int) : scat (k + 1) a b = sc a k b := by
  induction k generalizing a with
  | zero => unfold scat sc; simp
  | succ k ih =>
    show _ = (a, a) :: sc (a + 2) k b
    rw [← ih]
    unfold scat
    simp only [Nat.add_sub_cancel]
    rw [List.range_succ_eq_map, List.map_cons, List.map_map, List.cons_append]
    congr 1
    · simp
    · congr 1
      · apply List.map_congr_left
        intro i _
        simp only [Function.comp]
        simp
        omega
      · simp
        omega
theorem sc_last (a b : Int) (k : Nat) : (sc a k b).getLast? = some (a + 2 * (k : Int), b) := by
  induction k generalizing a with
  | zero => simp [sc]
  | succ k ih =>
    show ((a, a) :: sc (a + 2) k b).getLast? = _
    have hne : sc (a + 2) k b ≠ [] := by intro e; have := sc_len (a + 2) b k; rw [e] at this; simp at this
    obtain ⟨y, r, hy⟩ := List.exists_cons_of_ne_nil hne
    rw [hy, List.getLast?_cons_cons, ← hy, ih]
    congr 2
    omega
theorem sc_head (a b : Int) (k : Nat) : ∃ y, (sc a k b).head? = some y ∧ y.1 = a := by
  cases k with
  | zero => exact ⟨_, rfl, rfl⟩
  | succ k => exact ⟨_, rfl, rfl⟩
theorem sc_row (a b : Int) (k : Nat) (rest : List Sp) (hb : brk (sc a k b) rest) : rowN (sc a k b ++ rest) = k + 1 := by
  induction k generalizing a with
  | zero =>
    have h1 := rowN_break (sc a 0 b) rest (by simp [sc]) hb
    have h2 := rowN_pos (l := sc a 0 b ++ rest) (by simp [sc])
    simp only [sc_len] at h1
    omega
  | succ k ih =>
    have hne : sc (a + 2) k b ≠ [] := by intro e; have := sc_len (a + 2) b k; rw [e] at this; simp at this
    obtain ⟨y, r, hy⟩ := List.exists_cons_of_ne_nil hne
    have hb' : brk (sc (a + 2) k b) rest := fun p q hp hq => hb p q (by
      show ((a, a) :: sc (a + 2) k b).getLast? = _
      rw [hy, List.getLast?_cons_cons, ← hy]; exact hp) hq
    have h1 := ih (a + 2) hb'
    obtain ⟨z, hz, hz1⟩ := sc_head (a + 2) b k
    show rowN ((a, a) :: (sc (a + 2) k b ++ rest)) = _
    rw [hy] at h1 hz ⊢
    simp at hz
    subst hz
    show rowN ((a, a) :: y :: (r ++ rest)) = _
    rw [rowN_cons, if_pos hz1]
    have h1' : rowN (y :: (r ++ rest)) = k + 1 := h1
    rw [h1']
    omega
/-- a row that is no passim -/
theorem parts_few (s : Sty) : ∀ (n : Nat) (q rest : List Sp), q.length ≤ n → ¬ (0 < s.pas ∧ s.pas ≤ (q.length : Int)) → brk q rest → partsL s (q ++ rest) = q.map (elementL s) ++ partsL s rest := by
  intro n
  induction n with
  | zero =>
    intro q rest hq _ _
    have : q = [] := List.length_eq_zero_iff.1 (by omega)
    subst this; rfl
  | succ n ih =>
    intro q rest hq hp hb
    by_cases h0 : q = []
    · subst h0; rfl
    · have h1 := rowN_break q rest h0 hb
      have h2 := rowN_pos (l := q ++ rest) (by simp [h0])
      rw [partsL_step s (by simp [h0])]
      generalize rowN (q ++ rest) = m at h1 h2
      rw [List.take_append_of_le_length h1, List.drop_append_of_le_length h1]
      have hrp : rowParts s (q.take m) = (q.take m).map (elementL s) := if_neg (fun h => hp ⟨h.1, by have := h.2; rw [List.length_take] at this; omega⟩)
      rw [hrp, ih (q.drop m) rest (by rw [List.length_drop]; omega) (fun h => hp ⟨h.1, by have := h.2; rw [List.length_drop] at this; omega⟩) (fun x y hx hy => hb x y (by
        rw [← List.take_append_drop m q, List.getLast?_append, hx]; rfl) hy)]
      rw [← List.append_assoc, ← List.map_append, List.take_append_drop]
theorem parts_passim (s : Sty) (N : Nat) (a b : Int) (rest : List Sp) (hN : 1 ≤ N) (hp : s.pas = (N : Int)) (hb : brk (scat N a b) rest) : partsL s (scat N a b ++ rest) = [betweenL s.k a b ++ passimB] ++ partsL s rest := by
  obtain ⟨k, rfl⟩ : ∃ k, N = k + 1 := ⟨N - 1, by omega⟩
  rw [scat_sc] at hb ⊢
  have h1 := sc_row a b k rest hb
  have hl := sc_len a b k
  rw [partsL_step s (by intro e; have := congrArg List.length e; simp [hl] at this), h1]
  rw [← hl, List.take_left, List.drop_left]
  congr 1
  unfold rowParts
  rw [if_pos ⟨by omega, by rw [hl]; omega⟩]
  obtain ⟨y, hy, hy1⟩ := sc_head a b k
  unfold headS lastS
  rw [hy, sc_last]
  simp [hy1]
end Go.Proofs.YtecdkpcapalifaaDoor

namespace Go.Proofs.YtecdkpcapalifaaDoor
open Go.RowKit Go.Maps

theorem cutE_facts {s : Sty} (hs : okSty s) {x : Sp} (h : x.1 ≤ x.2) : (cutE s x).1 = x.1 ∧ x.1 ≤ (cutE s x).2 ∧ (cutE s x).2 ≤ x.2 ∧ elementL s (cutE s x) = elementL s x := by
  obtain ⟨_, _, hr0, hr1, _⟩ := hs
  unfold cutE
  by_cases e : x.1 = x.2
  · rw [if_pos e]; exact ⟨rfl, h, Int.le_refl _, rfl⟩
  · rw [if_neg e]
    by_cases hr : 0 < s.row ∧ s.row ≤ x.2 - x.1 + 1
    · rw [if_pos hr]
      refine ⟨rfl, by dsimp only; omega, by dsimp only; omega, ?_⟩
      unfold elementL
      dsimp only
      rw [if_neg (by omega), if_pos ⟨hr.1, by omega⟩, if_neg e, if_pos hr]
    · rw [if_neg hr]; exact ⟨rfl, h, Int.le_refl _, rfl⟩
theorem nrmG_mono {p q : Int} (h : p ≤ q) : ∀ {l : List Sp}, nrmG (some q) l = true → nrmG (some p) l = true
  | [], _ => rfl
  | x :: r, hq => by
    rw [nrmG_cons] at hq ⊢
    simp only [Bool.and_eq_true, decide_eq_true_eq] at hq ⊢
    exact ⟨hq.1, by omega, hq.2.2⟩
theorem nrmG_map {s : Sty} (hs : okSty s) : ∀ {r : List Sp} {p : Option Int}, nrmG p r = true → nrmG p (r.map (cutE s)) = true
  | [], _, _ => rfl
  | x :: r, p, h => by
    rw [nrmG_cons] at h
    simp only [Bool.and_eq_true] at h
    obtain ⟨h1, h2, h3⟩ := h
    have hr := rightS_iff.1 h1
    obtain ⟨c1, c2, c3, _⟩ := cutE_facts hs (x := x) hr.2.1
    rw [List.map_cons, nrmG_cons]
    simp only [Bool.and_eq_true]
    refine ⟨rightS_iff.2 ⟨by omega, by omega, by omega⟩, ?_, nrmG_mono c3 (nrmG_map hs h3)⟩
    cases p with
    | none => rfl
    | some q =>
      simp only [decide_eq_true_eq] at h2 ⊢
      omega
theorem nrmG_sc : ∀ (k : Nat) (a b : Int) (p : Option Int), 1 ≤ a → a + 2 * (k : Int) ≤ b → b ≤ 999 → (∀ q, p = some q → q + 2 ≤ a) → nrmG p (sc a k b) = true
  | 0, a, b, p, h1, h2, h3, hp => by
    show nrmG p [(a, b)] = true
    rw [nrmG_cons]
    simp only [Bool.and_eq_true]
    refine ⟨rightS_iff.2 ⟨h1, by omega, h3⟩, ?_, rfl⟩
    cases p with
    | none => rfl
    | some q => simp only [decide_eq_true_eq]; exact hp q rfl
  | k + 1, a, b, p, h1, h2, h3, hp => by
    show nrmG p ((a, a) :: sc (a + 2) k b) = true
    rw [nrmG_cons]
    simp only [Bool.and_eq_true]
    refine ⟨rightS_iff.2 ⟨h1, by omega, by omega⟩, ?_, nrmG_sc k (a + 2) b (some a) (by omega) (by omega) h3 (fun q hq => by cases hq; omega)⟩
    cases p with
    | none => rfl
    | some q => simp only [decide_eq_true_eq]; exact hp q rfl
/-- how far a row goes -/
theorem row_far : ∀ (q : List Sp) (x : Sp), isRow (x :: q) → (∀ z ∈ x :: q, z.1 ≤ z.2) → ∃ y, (x :: q).getLast? = some y ∧ x.1 + 2 * (q.length : Int) ≤ y.2 ∧ (y.2 = x.1 + 2 * (q.length : Int) → x :: q = sc x.1 q.length y.2)
  | [], x, _, h => ⟨x, rfl, by have := h x (by simp); simp; omega, fun _ => rfl⟩
  | z :: q, x, hr, h => by
    obtain ⟨y, h1, h2, h3⟩ := row_far q z hr.2 (fun u hu => h u (List.mem_cons_of_mem _ hu))
    have hx := h x (by simp)
    have hz := hr.1
    refine ⟨y, by rw [List.getLast?_cons_cons]; exact h1, by simp only [List.length_cons]; omega, fun e => ?_⟩
    simp only [List.length_cons] at e
    have e1 := h3 (by omega)
    show x :: z :: q = (x.1, x.1) :: sc (x.1 + 2) q.length y.2
    have hx2 : x.2 = x.1 := by omega
    have hz1 : z.1 = x.1 + 2 := by omega
    rw [e1, hz1]
    congr 1
    exact Prod.ext rfl hx2
theorem map_el {s : Sty} (hs : okSty s) {r : List Sp} (h : ∀ z ∈ r, z.1 ≤ z.2) : (r.map (cutE s)).map (elementL s) = r.map (elementL s) := by
  rw [List.map_map]
  exact List.map_congr_left fun x hx => (cutE_facts hs (h x hx)).2.2.2
theorem read_map {s : Sty} (hs : okSty s) : ∀ {r : List Sp}, (∀ z ∈ r, 1 ≤ z.1 ∧ z.1 ≤ z.2 ∧ z.2 ≤ 999) → readAll s (r.map (elementL s)) = some (r.map (cutE s))
  | [], _ => rfl
  | x :: r, h => by
    have hx := h x (by simp)
    rw [List.map_cons]
    unfold readAll
    rw [read_element s x hs hx.1 hx.2.1 hx.2.2, read_map hs (fun z hz => h z (List.mem_cons_of_mem _ hz))]
    rfl
/-- one row -/
theorem cutR_facts {s : Sty} (hs : okSty s) {r : List Sp} (hne : r ≠ []) (hrow : isRow r) {p : Option Int} (hn : nrmG p r = true) :
    nrmG p (cutR s r) = true ∧ readAll s (rowParts s r) = some (cutR s r) ∧ (∃ y z, (cutR s r).getLast? = some y ∧ r.getLast? = some z ∧ y.2 ≤ z.2) ∧ ((cutR s r).head?.map (·.1) = r.head?.map (·.1)) ∧
    (∀ rest, brk (cutR s r) rest → partsL s (cutR s r ++ rest) = rowParts s r ++ partsL s rest) := by
  have hb := fun x hx => rightS_iff.1 (nrmG_right hn (x := x) hx)
  obtain ⟨x, q, rfl⟩ := List.exists_cons_of_ne_nil hne
  by_cases hp : 0 < s.pas ∧ s.pas ≤ ((x :: q).length : Int)
  · obtain ⟨N, hN⟩ : ∃ N : Nat, s.pas = (N : Int) := ⟨s.pas.toNat, by omega⟩
    have hp1 : s.pas ≠ 1 := by obtain ⟨_, _, _, _, _, _, h, _⟩ := hs; exact h
    obtain ⟨k, rfl⟩ : ∃ k, N = k + 1 := ⟨N - 1, by omega⟩
    obtain ⟨y, hy, hy1, _⟩ := row_far q x hrow (fun z hz => (hb z hz).2.1)
    have hcr : cutR s (x :: q) = scat (k + 1) x.1 y.2 := by
      unfold cutR headS lastS
      rw [if_pos hp, hN, hy]
      rfl
    have hlen := hp.2
    rw [hN, List.length_cons] at hlen
    have hx := hb x (by simp)
    have hym := hb y (List.mem_of_getLast? hy)
    rw [hcr]
    refine ⟨?_, ?_, ?_, ?_, fun rest hbr => ?_⟩
    · rw [scat_sc]
      refine nrmG_sc k x.1 y.2 p hx.1 (by omega) hym.2.2 (fun q' hq' => ?_)
      subst hq'
      rw [nrmG_cons] at hn
      simp only [Bool.and_eq_true, decide_eq_true_eq] at hn
      exact hn.2.1
    · have hrp : rowParts s (x :: q) = [betweenL s.k x.1 y.2 ++ passimB] := by
        unfold rowParts headS lastS
        rw [if_pos hp, hy]
        rfl
      rw [hrp]
      unfold readAll
      rw [read_range s x.1 y.2 hs hx.1 (by omega) hym.2.2 passimB (.inr rfl), if_neg (by decide), if_pos hp.1, hN]
      simp [readAll]
    · rw [scat_sc]
      exact ⟨_, y, sc_last _ _ _, hy, Int.le_refl _⟩
    · rw [scat_sc]
      obtain ⟨z, hz, hz1⟩ := sc_head x.1 y.2 k
      rw [hz]
      simp [hz1]
    · rw [parts_passim s (k + 1) x.1 y.2 rest (by omega) hN hbr]
      unfold rowParts headS lastS
      rw [if_pos hp, hy]
      rfl
  · have hcr : cutR s (x :: q) = (x :: q).map (cutE s) := if_neg hp
    have hrp : rowParts s (x :: q) = (x :: q).map (elementL s) := if_neg hp
    rw [hcr, hrp]
    refine ⟨nrmG_map hs hn, read_map hs hb, ?_, ?_, fun rest hbr => ?_⟩
    · obtain ⟨y, hy⟩ : ∃ y, (x :: q).getLast? = some y := ⟨_, List.getLast?_cons ..⟩
      have hym := hb y (List.mem_of_getLast? hy)
      refine ⟨cutE s y, y, by rw [List.getLast?_map, hy]; rfl, hy, (cutE_facts hs hym.2.1).2.2.1⟩
    · rw [List.map_cons]
      simp [(cutE_facts hs (hb x (by simp)).2.1).1]
    · rw [parts_few s _ _ rest (Nat.le_refl _) (by rw [List.length_map]; exact hp) hbr, map_el hs (fun z hz => (hb z hz).2.1)]
theorem cut_ok {s : Sty} (hs : okSty s) : ∀ (n : Nat) (l : List Sp) (p : Option Int), l.length ≤ n → nrmG p l = true →
    partsL s (cutL s l) = partsL s l ∧ nrmG p (cutL s l) = true ∧ (cutL s l).head?.map (·.1) = l.head?.map (·.1) ∧ readAll s (partsL s l) = some (cutL s l) := by
  intro n
  induction n with
  | zero =>
    intro l p hl _
    have : l = [] := List.length_eq_zero_iff.1 (by omega)
    subst this
    exact ⟨rfl, rfl, rfl, rfl⟩
  | succ n ih =>
    intro l p hl hn
    by_cases h0 : l = []
    · subst h0; exact ⟨rfl, rfl, rfl, rfl⟩
    · have hm1 := rowN_pos h0
      have hml := rowN_le l
      obtain ⟨hrow, hbrk⟩ := row_take l
      have hsplit := List.take_append_drop (rowN l) l
      have hne : l.take (rowN l) ≠ [] := by intro e; have := congrArg List.length e; rw [List.length_take, List.length_nil] at this; omega
      rw [cutL_step s h0, partsL_step s h0]
      have hn2 : nrmG p (l.take (rowN l) ++ l.drop (rowN l)) = true := by rw [hsplit]; exact hn
      rw [nrmG_app, Bool.and_eq_true] at hn2
      have hhead : l.head? = (l.take (rowN l)).head? := by
        obtain ⟨x, q, rfl⟩ := List.exists_cons_of_ne_nil h0
        obtain ⟨m, hm⟩ : ∃ m, rowN (x :: q) = m + 1 := ⟨rowN (x :: q) - 1, by omega⟩
        rw [hm]; rfl
      generalize l.take (rowN l) = r at *
      have hdl : (l.drop (rowN l)).length ≤ n := by rw [List.length_drop]; omega
      generalize l.drop (rowN l) = rest at *
      obtain ⟨a1, a2, ⟨y, z, hy, hz, hyz⟩, a4, a5⟩ := cutR_facts hs hne hrow hn2.1
      obtain ⟨b1, b2, b3, b4⟩ := ih rest _ hdl hn2.2
      have hcne : cutR s r ≠ [] := by intro e; rw [e] at hy; cases hy
      have hlz : lastTo p r = some z.2 := by unfold lastTo; rw [hz]
      have hly : lastTo p (cutR s r) = some y.2 := by unfold lastTo; rw [hy]
      have hbr : brk (cutR s r) (cutL s rest) := by
        intro y' c hy' hc
        rw [hy] at hy'
        cases hy'
        rw [hc] at b3
        cases hrh : rest.head? with
        | none => rw [hrh] at b3; cases b3
        | some d =>
          rw [hrh] at b3
          have hcd : c.1 = d.1 := by simpa using b3
          have h1 := hbrk z d hz hrh
          have h2 : z.2 + 2 ≤ d.1 := by
            have hx := hn2.2
            obtain ⟨d', q', hq'⟩ := List.exists_cons_of_ne_nil (l := rest) (by intro e; rw [e] at hrh; cases hrh)
            rw [hq'] at hrh hx
            simp at hrh
            subst hrh
            rw [hlz, nrmG_cons] at hx
            simp only [Bool.and_eq_true, decide_eq_true_eq] at hx
            exact hx.2.1
          omega
      refine ⟨?_, ?_, ?_, ?_⟩
      · rw [a5 _ hbr, b1]
      · rw [nrmG_app, Bool.and_eq_true]
        refine ⟨a2 |> fun _ => a1, ?_⟩
        rw [hly]
        rw [hlz] at b2
        exact nrmG_mono hyz b2
      · rw [hhead, ← a4]
        obtain ⟨u, v, huv⟩ := List.exists_cons_of_ne_nil hcne
        rw [huv]; rfl
      · rw [readAll_app, a2, b4]
end Go.Proofs.YtecdkpcapalifaaDoor

namespace Go.Proofs.YtecdkpcapalifaaDoor
open Go.RowKit Go.Maps

/-! the pieces of a form -/
theorem occ_none {x : List UInt8} (h : ∀ c ∈ x, c ≠ 44) (j : Nat) : Lib.occAt x sepB j = false := by
  unfold Lib.occAt sepB
  cases hd : x.drop j with
  | nil => rfl
  | cons c q =>
    have hc : c ∈ x := List.mem_of_mem_drop (by rw [hd]; simp)
    have := h c hc
    have hne : (44 : UInt8) ≠ c := fun e => this e.symm
    simp [List.isPrefixOf, hne]
theorem index_noSep {x : List UInt8} (h : ∀ c ∈ x, c ≠ 44) : Lib.index x sepB = -1 := Lib.index_none fun j _ => occ_none h j
theorem index_sep {x : List UInt8} (h : ∀ c ∈ x, c ≠ 44) (y : List UInt8) : Lib.index (x ++ 44 :: 32 :: y) sepB = (x.length : Nat) := by
  refine Lib.index_first (by simp <;> omega) ?_ (fun j hj => ?_)
  · unfold Lib.occAt sepB
    rw [List.drop_left]
    rfl
  · unfold Lib.occAt sepB
    rw [List.drop_append_of_le_length (Nat.le_of_lt hj)]
    cases hd : x.drop j with
    | nil =>
      have := congrArg List.length hd
      simp at this
      omega
    | cons c q =>
      have hc : c ∈ x := List.mem_of_mem_drop (by rw [hd]; simp)
      have hne : (44 : UInt8) ≠ c := fun e => h c hc e.symm
      simp [List.isPrefixOf, hne]
theorem pieces_join : ∀ (P : List (List UInt8)), P ≠ [] → (∀ x ∈ P, ∀ c ∈ x, c ≠ 44) → piecesL (joinL P) = P
  | [], h, _ => absurd rfl h
  | [x], _, h => by
    show piecesL x = _
    rw [pieces_miss (index_noSep (h x (by simp)))]
  | x :: y :: r, _, h => by
    show piecesL (x ++ (44 :: 32 :: joinL (y :: r))) = _
    have hx := h x (by simp)
    rw [pieces_hit (index_sep hx _), List.take_left]
    congr 1
    rw [show x.length + 2 = x.length + 2 from rfl, ← List.drop_drop, List.drop_left]
    exact pieces_join (y :: r) (by simp) (fun z hz => h z (List.mem_cons_of_mem _ hz))
theorem isDg_ne {c : UInt8} (h : isDg c = true) : c ≠ 44 := by
  intro e
  subst e
  exact absurd h (by decide)
theorem between_44 (k a b : Int) : ∀ c ∈ betweenL k a b, c ≠ 44 := by
  intro c hc
  unfold betweenL at hc
  rcases List.mem_append.1 hc with h | h
  · exact isDg_ne (textL_isDg a c h)
  · rcases List.mem_cons.1 h with h | h
    · subst h; decide
    · exact isDg_ne (drop_isDg c h)
theorem element_44 (s : Sty) (x : Sp) : ∀ c ∈ elementL s x, c ≠ 44 := by
  intro c hc
  unfold elementL at hc
  split at hc
  · exact isDg_ne (textL_isDg _ c hc)
  · split at hc
    · rcases List.mem_append.1 hc with h | h
      · exact isDg_ne (textL_isDg _ c h)
      · simp at h; subst h; decide
    · split at hc
      · rcases List.mem_append.1 hc with h | h
        · exact isDg_ne (textL_isDg _ c h)
        · simp at h; subst h; decide
      · exact between_44 _ _ _ c hc
theorem rowParts_44 (s : Sty) (r : List Sp) : ∀ x ∈ rowParts s r, ∀ c ∈ x, c ≠ 44 := by
  intro x hx c hc
  unfold rowParts at hx
  split at hx
  · rw [List.mem_singleton.1 hx] at hc
    rcases List.mem_append.1 hc with h | h
    · exact between_44 _ _ _ c h
    · have : ∀ c ∈ passimB, c ≠ 44 := by decide
      exact this c h
  · obtain ⟨y, _, rfl⟩ := List.mem_map.1 hx
    exact element_44 s y c hc
theorem partsF_44 (s : Sty) : ∀ (f : Nat) (l : List Sp), ∀ x ∈ partsF s f l, ∀ c ∈ x, c ≠ 44
  | 0, _, x, hx => by cases hx
  | f + 1, [], x, hx => by cases hx
  | f + 1, y :: r, x, hx => by
    rcases List.mem_append.1 (show x ∈ rowParts s ((y :: r).take (rowN (y :: r))) ++ partsF s f ((y :: r).drop (rowN (y :: r))) from hx) with h | h
    · exact rowParts_44 s _ x h
    · exact partsF_44 s f _ x h
theorem element_ne (s : Sty) (x : Sp) : elementL s x ≠ [] := by
  obtain ⟨u, c, h, _⟩ := element_ends s x
  intro e
  rw [e] at h
  exact absurd h.symm (by simp)
theorem rowParts_ne (s : Sty) {r : List Sp} (h : r ≠ []) : ∃ x q, rowParts s r = x :: q ∧ x ≠ [] := by
  unfold rowParts
  split
  · refine ⟨_, _, rfl, ?_⟩
    simp [passimB]
  · obtain ⟨x, q, rfl⟩ := List.exists_cons_of_ne_nil h
    exact ⟨_, _, rfl, element_ne s x⟩
theorem form_ne (s : Sty) {l : List Sp} (h : l ≠ []) : formL s l ≠ [] ∧ partsL s l ≠ [] := by
  have hm1 := rowN_pos h
  have hml := rowN_le l
  have hne : l.take (rowN l) ≠ [] := by intro e; have := congrArg List.length e; rw [List.length_take, List.length_nil] at this; omega
  obtain ⟨x, q, hx, hxe⟩ := rowParts_ne s hne
  unfold formL
  rw [partsL_step s h, hx]
  refine ⟨?_, by simp⟩
  show joinL (x :: (q ++ partsL s (l.drop (rowN l)))) ≠ []
  cases hq : q ++ partsL s (l.drop (rowN l)) with
  | nil => exact hxe
  | cons y r => show x ++ _ ≠ []; simp [hxe]
/-- the form of a normal list parses -/
theorem parse_form {s : Sty} (hs : okSty s) {l : List Sp} (hn : nrm l = true) : parseS s (formL s l) = some (cutL s l) := by
  by_cases h0 : l = []
  · subst h0; rfl
  · obtain ⟨h1, h2⟩ := form_ne s h0
    obtain ⟨a1, a2, _, a4⟩ := cut_ok hs l.length l none (Nat.le_refl _) hn
    unfold parseS
    rw [if_neg h1]
    have hp : piecesL (formL s l) = partsL s l := pieces_join _ h2 (partsF_44 s _ l)
    rw [hp, a4]
    show (if nrm (cutL s l) = true ∧ formL s (cutL s l) = formL s l then some (cutL s l) else none) = _
    rw [if_pos ⟨a2, by unfold formL; rw [a1]⟩]
theorem cut_nrm {s : Sty} (hs : okSty s) {l : List Sp} (hn : nrm l = true) : nrm (cutL s l) = true ∧ formL s (cutL s l) = formL s l := parseS_some (parse_form hs hn)

/-! where the list is cut -/
theorem cutR_same {s : Sty} (hs : okSty s) {r : List Sp} (hne : r ≠ []) (hrow : isRow r) (hb : ∀ z ∈ r, 1 ≤ z.1 ∧ z.1 ≤ z.2 ∧ z.2 ≤ 999) (most : Int) (hm : ∀ z ∈ r, z.2 ≤ most) (hf : ¬ (0 < s.row ∧ s.row + 1 ≤ most)) (hq : ¬ (0 < s.pas ∧ 2 * s.pas ≤ most)) : cutR s r = r := by
  obtain ⟨x, q, rfl⟩ := List.exists_cons_of_ne_nil hne
  by_cases hp : 0 < s.pas ∧ s.pas ≤ ((x :: q).length : Int)
  · obtain ⟨N, hN⟩ : ∃ N : Nat, s.pas = (N : Int) := ⟨s.pas.toNat, by omega⟩
    obtain ⟨k, rfl⟩ : ∃ k, N = k + 1 := ⟨N - 1, by omega⟩
    obtain ⟨y, hy, hy1, hy2⟩ := row_far q x hrow (fun z hz => (hb z hz).2.1)
    have hcr : cutR s (x :: q) = scat (k + 1) x.1 y.2 := by
      unfold cutR headS lastS
      rw [if_pos hp, hN, hy]
      rfl
    have hlen := hp.2
    rw [hN, List.length_cons] at hlen
    have hx := hb x (by simp)
    have hym := hm y (List.mem_of_getLast? hy)
    have hql : q.length = k := by omega
    rw [hcr, scat_sc]
    have := hy2 (by omega)
    rw [hql] at this
    exact this.symm
  · have hcr : cutR s (x :: q) = (x :: q).map (cutE s) := if_neg hp
    rw [hcr]
    conv => rhs; rw [← List.map_id (x :: q)]
    refine List.map_congr_left fun z hz => ?_
    have h1 := hb z hz
    have h2 := hm z hz
    unfold cutE
    by_cases e : z.1 = z.2
    · rw [if_pos e]; rfl
    · rw [if_neg e]
      by_cases hr : 0 < s.row ∧ s.row ≤ z.2 - z.1 + 1
      · rw [if_pos hr]
        refine Prod.ext rfl ?_
        show z.1 + s.row - 1 = z.2
        omega
      · rw [if_neg hr]; rfl
theorem cut_same {s : Sty} (hs : okSty s) (most : Int) (hf : ¬ (0 < s.row ∧ s.row + 1 ≤ most)) (hq : ¬ (0 < s.pas ∧ 2 * s.pas ≤ most)) : ∀ (n : Nat) (l : List Sp), l.length ≤ n → (∀ z ∈ l, 1 ≤ z.1 ∧ z.1 ≤ z.2 ∧ z.2 ≤ 999) → (∀ z ∈ l, z.2 ≤ most) → cutL s l = l := by
  intro n
  induction n with
  | zero =>
    intro l hl _ _
    have : l = [] := List.length_eq_zero_iff.1 (by omega)
    subst this; rfl
  | succ n ih =>
    intro l hl hb hm
    by_cases h0 : l = []
    · subst h0; rfl
    · have hm1 := rowN_pos h0
      have hml := rowN_le l
      obtain ⟨hrow, _⟩ := row_take l
      have hne : l.take (rowN l) ≠ [] := by intro e; have := congrArg List.length e; rw [List.length_take, List.length_nil] at this; omega
      rw [cutL_step s h0, cutR_same hs hne hrow (fun z hz => hb z (List.mem_of_mem_take hz)) most (fun z hz => hm z (List.mem_of_mem_take hz)) hf hq,
        ih _ (by rw [List.length_drop]; omega) (fun z hz => hb z (List.mem_of_mem_drop hz)) (fun z hz => hm z (List.mem_of_mem_drop hz)), List.take_append_drop]
theorem uniq_yes {s : Sty} {most : Int} (h : uniqIs s most = true) : ¬ (0 < s.row ∧ s.row + 1 ≤ most) ∧ (okSty s → ¬ (0 < s.pas ∧ 2 * s.pas ≤ most)) := by
  by_cases hp : 0 < s.pas ∧ 2 * s.pas ≤ most ∧ (s.row = 0 ∨ 2 * s.pas ≤ s.row + 1)
  · rw [(uniq_pas hp).2.2] at h; cases h
  · by_cases hf : 0 < s.row ∧ s.row + 1 ≤ most
    · rw [(uniq_ff hp hf).2.2] at h; cases h
    · refine ⟨hf, fun hs => ?_⟩
      obtain ⟨_, _, hr0, _⟩ := hs
      omega
end Go.Proofs.YtecdkpcapalifaaDoor

namespace Go.Proofs.YtecdkpcapalifaaDoor
open Go.RowKit Go.Maps

theorem nrm_last : ∀ {l : List Sp} {p : Option Int} {x : Sp}, nrmG p l = true → l.getLast? = some x → ∀ z ∈ l, z.2 ≤ x.2
  | [], _, _, _, _ => fun z hz => by cases hz
  | [y], _, x, _, hl => fun z hz => by
    simp at hl
    subst hl
    rw [List.mem_singleton.1 hz]
    exact Int.le_refl _
  | y :: u :: r, p, x, hn, hl => fun z hz => by
    rw [nrmG_cons] at hn
    simp only [Bool.and_eq_true] at hn
    obtain ⟨_, _, h3⟩ := hn
    rw [List.getLast?_cons_cons] at hl
    have ih := nrm_last h3 hl
    rcases List.mem_cons.1 hz with rfl | hz
    · have h4 := ih u (by simp)
      rw [nrmG_cons] at h3
      simp only [Bool.and_eq_true, decide_eq_true_eq] at h3
      have := rightS_iff.1 h3.1
      omega
    · exact ih z hz
theorem over_999 {l : List Sp} (h : nrm l = true) : lastOver 999 l = false := by
  unfold lastOver
  cases hl : l.getLast? with
  | none => rfl
  | some x =>
    have := nrm_bd h x (List.mem_of_getLast? hl)
    simp
    omega
theorem chk_cut {s : Sty} (hs : okSty s) {l : List Sp} (hn : nrm l = true) (hne : cutL s l ≠ l) : chkE s 999 (cutL s l) l = 0 := by
  obtain ⟨h1, h2⟩ := cut_nrm hs hn
  refine chk_0 ?_
  unfold chkB lateS
  rw [h1, hn, over_999 h1, over_999 hn, decide_eq_false hne, decide_eq_true h2]
  rfl
theorem uniq_not {s : Sty} (hs : okSty s) {l : List Sp} (hn : nrm l = true) (most : Int) (hm : ∀ z ∈ l, z.2 ≤ most) (hne : cutL s l ≠ l) : uniqIs s most = false := by
  cases h : uniqIs s most with
  | false => rfl
  | true =>
    obtain ⟨h1, h2⟩ := uniq_yes h
    exact absurd (cut_same hs most h1 (h2 hs) _ l (Nat.le_refl _) (nrm_bd hn) hm) hne
theorem parse_cut {s : Sty} (hs : okSty s) {l : List Sp} (hn : nrm l = true) : parseE s (formL s l) = 0 ∧ parseV s (formL s l) = cutL s l := by
  unfold parseE parseV
  rw [parse_form hs hn]
  exact ⟨rfl, rfl⟩

set_option maxRecDepth 100000 in
set_option maxHeartbeats 16000000 in
theorem spanReads_any (v0 : Value) (xs : List Int) (m : Int) (w : World) (h0 : RdI w v0 xs) (i0 : inI xs) (hml : ML w) (hm1 : -9223372036854775808 ≤ m) (hm2 : m ≤ 9223372036854775807) :
    Calls Tryd.prog 9 #[v0, .int .i64 m] w fun e w' => e = .returned (.bool true) ∧ Below w.heap.size w w' := by
  have HML := Lib.hid hml
  have hlt := hml.lt
  have H0 := Lib.hid h0
  have MA := made_any m w hm1 hm2
  obtain ⟨a0, c0, hv0, _⟩ := h0.open
  subst hv0
  clear hml h0
  go_enter Tryd.func9, Tryd.ntmps9
  go_wp2_with fail
  refine MA.mono ?_
  rintro e w1 ⟨s1, hs1m, rfl, hb1⟩
  obtain ⟨k1, nx1, row1, pas1⟩ := s1
  unfold styV
  dsimp only
  have hs := hs1m.1
  have HBD := Lib.hid (hb1.alloc hb1.size (.cells #[.int .i64 k1, .bool nx1, .int .i64 row1, .int .i64 pas1] 24))
  have GA := Lib.hid (styB_new w1 24 k1 row1 pas1 nx1)
  have LA := list_any _ xs (w1.alloc (.cells #[.int .i64 k1, .bool nx1, .int .i64 row1, .int .i64 pas1] 24)) (H0.out.below HBD.out) i0
  clear MA hb1 hs1m H0
  go_wp2_with fail
  generalize w1.alloc (.cells #[.int .i64 k1, .bool nx1, .int .i64 row1, .int .i64 pas1] 24) = w3 at *
  obtain ⟨A, hA⟩ : ∃ A, w1.heap.size = A := ⟨_, rfl⟩
  rw [hA] at GA ⊢
  clear hA
  refine LA.mono ?_
  rintro e u1 ⟨va, rfl, L, hown, hnrm, hll, hb9⟩
  have GA := Lib.hid (GA.out.below hb9)
  have HBD := Lib.hid (HBD.out.trans (hb9.mono HBD.out.size))
  have HL := Lib.hid (RdP_of_owns hown)
  obtain ⟨aa, ca, rfl⟩ := owns_slice hown
  clear hown
  have hfl := formL_len ⟨k1, nx1, row1, pas1⟩ L
  have FM := rform_any ⟨k1, nx1, row1, pas1⟩ _ L u1 HL.out hs (by omega) (nrm_bd hnrm)
  clear LA hb9
  obtain ⟨c0, c1, c2, c3⟩ := GA.out.cells
  go_wp2_with fail
  refine FM.mono ?_
  rintro e u2 ⟨rfl, hb9⟩
  have GA := Lib.hid (GA.out.below hb9)
  have HL := Lib.hid (HL.out.below hb9)
  have HBD := Lib.hid (HBD.out.trans (hb9.mono HBD.out.size))
  have ST := style_any k1 row1 pas1 nx1 u2
  clear FM hb9 c0 c1 c2 c3
  obtain ⟨c0, c1, c2, c3⟩ := GA.out.cells
  go_wp2_with fail
  refine ST.mono ?_
  rintro e u3 ⟨rfl, hb9⟩
  have GA := Lib.hid (GA.out.below hb9)
  have HL := Lib.hid (HL.out.below hb9)
  have HBD := Lib.hid (HBD.out.trans (hb9.mono HBD.out.size))
  have OW := own_any _ L u3 HL.out (by omega)
  clear ST hb9 c0 c1 c2 c3
  obtain ⟨c0, c1, c2, c3⟩ := GA.out.cells
  go_wp2_with fail
  refine OW.mono ?_
  rintro e u4 ⟨vo, rfl, hown, hb9⟩
  have GA := Lib.hid (GA.out.below hb9)
  have HL := Lib.hid (HL.out.below hb9)
  have HBD := Lib.hid (HBD.out.trans (hb9.mono HBD.out.size))
  have PR := print_any ⟨k1, nx1, row1, pas1⟩ _ L u4 (RdP_of_owns hown) (by omega) (fun _ _ => by omega) (HML.out.below HBD.out hlt)
  obtain ⟨ao, co, rfl⟩ := owns_slice hown
  clear hown
  clear OW hb9 c0 c1 c2 c3
  obtain ⟨c0, c1, c2, c3⟩ := GA.out.cells
  obtain ⟨pe, pv⟩ := parse_cut hs hnrm
  by_cases hc : cutL ⟨k1, nx1, row1, pas1⟩ L = L
  · obtain ⟨q1, q2⟩ := print_good (s := ⟨k1, nx1, row1, pas1⟩) (l := L) hs hnrm (by rw [parse_form hs hnrm, hc])
    rw [hc] at pv
    rw [q1, q2] at PR
    clear q1 q2
    go_wp2_with fail
    refine PR.mono ?_
    rintro e u5 ⟨rfl, hb9⟩
    have GA := Lib.hid (GA.out.below hb9)
    have HL := Lib.hid (HL.out.below hb9)
    have HBD := Lib.hid (HBD.out.trans (hb9.mono HBD.out.size))
    have ST := style_any k1 row1 pas1 nx1 u5
    clear PR hb9 c0 c1 c2 c3
    obtain ⟨c0, c1, c2, c3⟩ := GA.out.cells
    go_wp2_with fail
    refine ST.mono ?_
    rintro e u6 ⟨rfl, hb9⟩
    have GA := Lib.hid (GA.out.below hb9)
    have HL := Lib.hid (HL.out.below hb9)
    have HBD := Lib.hid (HBD.out.trans (hb9.mono HBD.out.size))
    have PA := parse_any ⟨k1, nx1, row1, pas1⟩ (formL ⟨k1, nx1, row1, pas1⟩ L) u6 hs (by omega) (HML.out.below HBD.out hlt)
    unfold ParseOut at PA
    rw [pe, pv] at PA
    clear ST hb9 c0 c1 c2 c3
    obtain ⟨c0, c1, c2, c3⟩ := GA.out.cells
    go_wp2_with fail
    refine PA.mono ?_
    rintro e u7 ⟨vx, rfl, rx, hb9⟩
    have GA := Lib.hid (GA.out.below hb9)
    have HL := Lib.hid (HL.out.below hb9)
    have HBD := Lib.hid (HBD.out.trans (hb9.mono HBD.out.size))
    obtain ⟨ax, cx, rfl⟩ := rx.form
    have HX := Lib.hid rx
    clear rx
    have MD := model_any _ L u7 HX.out (by omega)
    clear PA hb9 c0 c1 c2 c3
    obtain ⟨c0, c1, c2, c3⟩ := GA.out.cells
    go_wp2_with fail
    refine MD.mono ?_
    rintro e u8 ⟨vm, rfl, hown, hb9⟩
    have GA := Lib.hid (GA.out.below hb9)
    have HL := Lib.hid (HL.out.below hb9)
    have HX := Lib.hid (HX.out.below hb9)
    have HBD := Lib.hid (HBD.out.trans (hb9.mono HBD.out.size))
    have SM := same_any vm _ L L u8 (RdP_of_owns hown) HL.out
    obtain ⟨am, cm, rfl⟩ := owns_slice hown
    clear hown
    rw [show decide (L = L) = true from decide_eq_true rfl] at SM
    clear MD hb9 c0 c1 c2 c3
    obtain ⟨c0, c1, c2, c3⟩ := GA.out.cells
    go_wp2_with fail
    refine SM.mono ?_
    rintro e u9 ⟨rfl, hb9⟩
    have GA := Lib.hid (GA.out.below hb9)
    have HL := Lib.hid (HL.out.below hb9)
    have HX := Lib.hid (HX.out.below hb9)
    have HBD := Lib.hid (HBD.out.trans (hb9.mono HBD.out.size))
    clear SM hb9 c0 c1 c2 c3
    obtain ⟨c0, c1, c2, c3⟩ := GA.out.cells
    clear HX
    rcases snoc_cases L with h9 | ⟨M, x, h9⟩
    · subst h9
      have hln : ([] : List Sp).length = 0 := rfl
      rw [hln]
      have ST := style_any k1 row1 pas1 nx1 u9
      go_wp2_with fail
      refine ST.mono ?_
      rintro e u10 ⟨rfl, hb9⟩
      have GA := Lib.hid (GA.out.below hb9)
      have HBD := Lib.hid (HBD.out.trans (hb9.mono HBD.out.size))
      have UN := unique_any ⟨k1, nx1, row1, pas1⟩ 1 u10 hs (by omega) (by omega)
      clear ST hb9 c0 c1 c2 c3
      obtain ⟨c0, c1, c2, c3⟩ := GA.out.cells
      go_wp2_with fail
      refine UN.mono ?_
      rintro e u11 ⟨ua, ub, rfl, ra, rb, hb9⟩
      have GA := Lib.hid (GA.out.below hb9)
      have HBD := Lib.hid (HBD.out.trans (hb9.mono HBD.out.size))
      obtain ⟨pua, cua, rfl⟩ := ra.form
      obtain ⟨pub, cub, rfl⟩ := rb.form
      clear ra rb
      have LV := lives_any u11 (HML.out.below HBD.out hlt)
      clear UN hb9 c0 c1 c2 c3
      obtain ⟨c0, c1, c2, c3⟩ := GA.out.cells
      cases hi : uniqIs ⟨k1, nx1, row1, pas1⟩ 1
      · clear hi
        go_wp2_with fail
        refine LV.mono ?_
        rintro e y1 ⟨rfl, hb9⟩
        have HBM := Lib.hid (HBD.out.trans (hb9.mono HBD.out.size))
        clear hb9 LV
        go_wp2_with fail
        go_ret
        exact ⟨rfl, HBM.out⟩
      · clear hi
        go_wp2_with fail
        refine LV.mono ?_
        rintro e y1 ⟨rfl, hb9⟩
        have HBM := Lib.hid (HBD.out.trans (hb9.mono HBD.out.size))
        clear hb9 LV
        go_wp2_with fail
        go_ret
        exact ⟨rfl, HBM.out⟩
    · have hrl := HL.out
      have hmx : ∀ z ∈ L, z.2 ≤ x.2 := nrm_last hnrm (by rw [h9, List.getLast?_concat])
      have hxb := nrm_bd hnrm x (by rw [h9]; simp)
      rw [h9] at hrl
      obtain ⟨bb, oo, cc, he, hl_, d0, d1⟩ := RdP_last hrl
      have hlen : L.length = M.length + 1 := by rw [h9]; simp
      obtain ⟨rfl, rfl⟩ : aa = some ⟨bb, oo, none⟩ ∧ ca = cc := by simpa using he
      obtain ⟨x0, x1⟩ := x
      dsimp only at d0 d1 hmx hxb
      obtain ⟨nn, hnn⟩ : ∃ nn, M.length = nn := ⟨_, rfl⟩
      rw [hnn] at d1 hlen
      rw [hlen]
      have hn9 : nn ≤ 1000 := by omega
      have i0_ : (0 : Int) ≤ (nn : Int) := by omega
      have i9_ : (nn : Int) ≤ 1000 := by omega
      have iw_ : IntKind.i64.wrap (nn : Int) = (nn : Int) := by rw [IntKind.wrap_i64]; omega
      have il_ : (nn : Int) < (nn : Int) + 1 := by omega
      have ip_ : (0 : Int) < (nn : Int) + 1 := by omega
      clear he hrl d0 hnn
      have ST := style_any k1 row1 pas1 nx1 u9
      go_wp2_with fail
      refine ST.mono ?_
      rintro e u12 ⟨rfl, hb9⟩
      have GA := Lib.hid (GA.out.below hb9)
      have HBD := Lib.hid (HBD.out.trans (hb9.mono HBD.out.size))
      have UN := unique_any ⟨k1, nx1, row1, pas1⟩ x1 u12 hs (by omega) (by omega)
      clear ST hb9 c0 c1 c2 c3
      obtain ⟨c0, c1, c2, c3⟩ := GA.out.cells
      go_wp2_with fail
      refine UN.mono ?_
      rintro e u13 ⟨ua, ub, rfl, ra, rb, hb9⟩
      have GA := Lib.hid (GA.out.below hb9)
      have HBD := Lib.hid (HBD.out.trans (hb9.mono HBD.out.size))
      obtain ⟨pua, cua, rfl⟩ := ra.form
      obtain ⟨pub, cub, rfl⟩ := rb.form
      clear ra rb
      have LV := lives_any u13 (HML.out.below HBD.out hlt)
      clear UN hb9 c0 c1 c2 c3
      obtain ⟨c0, c1, c2, c3⟩ := GA.out.cells
      cases hi : uniqIs ⟨k1, nx1, row1, pas1⟩ x1
      · clear hi
        go_wp2_with fail
        refine LV.mono ?_
        rintro e y1 ⟨rfl, hb9⟩
        have HBM := Lib.hid (HBD.out.trans (hb9.mono HBD.out.size))
        clear hb9 LV
        go_wp2_with fail
        go_ret
        exact ⟨rfl, HBM.out⟩
      · clear hi
        go_wp2_with fail
        refine LV.mono ?_
        rintro e y1 ⟨rfl, hb9⟩
        have HBM := Lib.hid (HBD.out.trans (hb9.mono HBD.out.size))
        clear hb9 LV
        go_wp2_with fail
        go_ret
        exact ⟨rfl, HBM.out⟩
  · obtain ⟨q1, q2⟩ := print_clash (s := ⟨k1, nx1, row1, pas1⟩) (l := L) hs hnrm (by rw [parse_form hs hnrm]; intro e; exact hc (Option.some.inj e))
    have hcn := (cut_nrm hs hnrm).1
    have hcl := nrm_len hcn
    have hck := chk_cut hs hnrm hc
    rw [q1, q2] at PR
    clear q1 q2
    go_wp2_with fail
    refine PR.mono ?_
    rintro e u5 ⟨rfl, hb9⟩
    have GA := Lib.hid (GA.out.below hb9)
    have HL := Lib.hid (HL.out.below hb9)
    have HBD := Lib.hid (HBD.out.trans (hb9.mono HBD.out.size))
    have ST := style_any k1 row1 pas1 nx1 u5
    clear PR hb9 c0 c1 c2 c3
    obtain ⟨c0, c1, c2, c3⟩ := GA.out.cells
    go_wp2_with fail
    refine ST.mono ?_
    rintro e u6 ⟨rfl, hb9⟩
    have GA := Lib.hid (GA.out.below hb9)
    have HL := Lib.hid (HL.out.below hb9)
    have HBD := Lib.hid (HBD.out.trans (hb9.mono HBD.out.size))
    have PA := parse_any ⟨k1, nx1, row1, pas1⟩ (formL ⟨k1, nx1, row1, pas1⟩ L) u6 hs (by omega) (HML.out.below HBD.out hlt)
    unfold ParseOut at PA
    rw [pe, pv] at PA
    clear ST hb9 c0 c1 c2 c3
    obtain ⟨c0, c1, c2, c3⟩ := GA.out.cells
    go_wp2_with fail
    refine PA.mono ?_
    rintro e u7 ⟨vx, rfl, rx, hb9⟩
    have GA := Lib.hid (GA.out.below hb9)
    have HL := Lib.hid (HL.out.below hb9)
    have HBD := Lib.hid (HBD.out.trans (hb9.mono HBD.out.size))
    obtain ⟨ax, cx, rfl⟩ := rx.form
    have HX := Lib.hid rx
    clear rx
    have MD := model_any _ (cutL ⟨k1, nx1, row1, pas1⟩ L) u7 HX.out (by omega)
    clear PA hb9 c0 c1 c2 c3
    obtain ⟨c0, c1, c2, c3⟩ := GA.out.cells
    go_wp2_with fail
    refine MD.mono ?_
    rintro e u8 ⟨vm, rfl, hown, hb9⟩
    have GA := Lib.hid (GA.out.below hb9)
    have HL := Lib.hid (HL.out.below hb9)
    have HX := Lib.hid (HX.out.below hb9)
    have HBD := Lib.hid (HBD.out.trans (hb9.mono HBD.out.size))
    have SM := same_any vm _ (cutL ⟨k1, nx1, row1, pas1⟩ L) L u8 (RdP_of_owns hown) HL.out
    obtain ⟨am, cm, rfl⟩ := owns_slice hown
    clear hown
    rw [show decide ((cutL ⟨k1, nx1, row1, pas1⟩ L) = L) = false from decide_eq_false hc] at SM
    clear MD hb9 c0 c1 c2 c3
    obtain ⟨c0, c1, c2, c3⟩ := GA.out.cells
    go_wp2_with fail
    refine SM.mono ?_
    rintro e u9 ⟨rfl, hb9⟩
    have GA := Lib.hid (GA.out.below hb9)
    have HL := Lib.hid (HL.out.below hb9)
    have HX := Lib.hid (HX.out.below hb9)
    have HBD := Lib.hid (HBD.out.trans (hb9.mono HBD.out.size))
    have ST := style_any k1 row1 pas1 nx1 u9
    clear SM hb9 c0 c1 c2 c3
    obtain ⟨c0, c1, c2, c3⟩ := GA.out.cells
    go_wp2_with fail
    refine ST.mono ?_
    rintro e u10 ⟨rfl, hb9⟩
    have GA := Lib.hid (GA.out.below hb9)
    have HL := Lib.hid (HL.out.below hb9)
    have HX := Lib.hid (HX.out.below hb9)
    have HBD := Lib.hid (HBD.out.trans (hb9.mono HBD.out.size))
    have OW := own_any _ L u10 HL.out (by omega)
    clear ST hb9 c0 c1 c2 c3
    obtain ⟨c0, c1, c2, c3⟩ := GA.out.cells
    go_wp2_with fail
    refine OW.mono ?_
    rintro e u11 ⟨vp, rfl, hown, hb9⟩
    have GA := Lib.hid (GA.out.below hb9)
    have HL := Lib.hid (HL.out.below hb9)
    have HX := Lib.hid (HX.out.below hb9)
    have HBD := Lib.hid (HBD.out.trans (hb9.mono HBD.out.size))
    have HP := Lib.hid (RdP_of_owns hown)
    obtain ⟨ap, cp, rfl⟩ := owns_slice hown
    clear hown
    have CK := check_ok ⟨k1, nx1, row1, pas1⟩ 999 _ _ (cutL ⟨k1, nx1, row1, pas1⟩ L) L u11 HX.out HP.out (by omega) (by omega) hs (by omega) (by omega)
    rw [hck] at CK
    clear OW hb9 c0 c1 c2 c3
    obtain ⟨c0, c1, c2, c3⟩ := GA.out.cells
    go_wp2_with fail
    refine CK.mono ?_
    rintro e u12 ⟨rfl, hb9⟩
    have GA := Lib.hid (GA.out.below hb9)
    have HL := Lib.hid (HL.out.below hb9)
    have HBD := Lib.hid (HBD.out.trans (hb9.mono HBD.out.size))
    clear CK hb9 c0 c1 c2 c3
    obtain ⟨c0, c1, c2, c3⟩ := GA.out.cells
    clear HX HP
    rcases snoc_cases L with h9 | ⟨M, x, h9⟩
    · subst h9; exact absurd rfl hc
    · have hrl := HL.out
      have hmx : ∀ z ∈ L, z.2 ≤ x.2 := nrm_last hnrm (by rw [h9, List.getLast?_concat])
      have hxb := nrm_bd hnrm x (by rw [h9]; simp)
      rw [h9] at hrl
      obtain ⟨bb, oo, cc, he, hl_, d0, d1⟩ := RdP_last hrl
      have hlen : L.length = M.length + 1 := by rw [h9]; simp
      obtain ⟨rfl, rfl⟩ : aa = some ⟨bb, oo, none⟩ ∧ ca = cc := by simpa using he
      obtain ⟨x0, x1⟩ := x
      dsimp only at d0 d1 hmx hxb
      obtain ⟨nn, hnn⟩ : ∃ nn, M.length = nn := ⟨_, rfl⟩
      rw [hnn] at d1 hlen
      rw [hlen]
      have hn9 : nn ≤ 1000 := by omega
      have i0_ : (0 : Int) ≤ (nn : Int) := by omega
      have i9_ : (nn : Int) ≤ 1000 := by omega
      have iw_ : IntKind.i64.wrap (nn : Int) = (nn : Int) := by rw [IntKind.wrap_i64]; omega
      have il_ : (nn : Int) < (nn : Int) + 1 := by omega
      have ip_ : (0 : Int) < (nn : Int) + 1 := by omega
      clear he hrl d0 hnn
      have ST := style_any k1 row1 pas1 nx1 u12
      go_wp2_with fail
      refine ST.mono ?_
      rintro e u13 ⟨rfl, hb9⟩
      have GA := Lib.hid (GA.out.below hb9)
      have HBD := Lib.hid (HBD.out.trans (hb9.mono HBD.out.size))
      have UN := unique_any ⟨k1, nx1, row1, pas1⟩ x1 u13 hs (by omega) (by omega)
      clear ST hb9 c0 c1 c2 c3
      obtain ⟨c0, c1, c2, c3⟩ := GA.out.cells
      go_wp2_with fail
      refine UN.mono ?_
      rintro e u14 ⟨ua, ub, rfl, ra, rb, hb9⟩
      have GA := Lib.hid (GA.out.below hb9)
      have HBD := Lib.hid (HBD.out.trans (hb9.mono HBD.out.size))
      obtain ⟨pua, cua, rfl⟩ := ra.form
      obtain ⟨pub, cub, rfl⟩ := rb.form
      clear ra rb
      have LV := lives_any u14 (HML.out.below HBD.out hlt)
      clear UN hb9 c0 c1 c2 c3
      obtain ⟨c0, c1, c2, c3⟩ := GA.out.cells
      rw [uniq_not hs hnrm x1 hmx hc]
      go_wp2_with fail
      refine LV.mono ?_
      rintro e y1 ⟨rfl, hb9⟩
      have HBM := Lib.hid (HBD.out.trans (hb9.mono HBD.out.size))
      clear hb9 LV
      go_wp2_with fail
      go_ret
      exact ⟨rfl, HBM.out⟩
end Go.Proofs.YtecdkpcapalifaaDoor

