import Derived.Test.YthldekpbjfhmcaaWi
namespace Go.Proofs.Ythldekpbjfhmcaa
open Go.RowKit

/-- how many sheets at the head are of one quire -/
def runLen : List Sh → Nat
  | [] => 0
  | x :: r => 1 + (r.takeWhile fun s => s.q == x.q).length
def fwd (g : List Sh) : List Int := g.flatMap fun s => [s.f1, s.b0]
def bwd (g : List Sh) : List Int := g.reverse.flatMap fun s => [s.b1, s.f0]
def readF : Nat → Int → List Sh → List Int → List Int × Int
  | 0, _, _, acc => (acc, 0)
  | _ + 1, _, [], acc => (acc, 0)
  | f + 1, q, x :: r, acc => if x.q = q then readF f (q + 1) ((x :: r).drop (runLen (x :: r))) (acc ++ fwd ((x :: r).take (runLen (x :: r))) ++ bwd ((x :: r).take (runLen (x :: r)))) else ([], 2)
def readL (xs : List Sh) : List Int × Int := readF xs.length 0 xs []

theorem readF_nil (f : Nat) (q : Int) (acc : List Int) : readF f q [] acc = (acc, 0) := by cases f <;> rfl

theorem runLen_pos (x : Sh) (r : List Sh) : 1 ≤ runLen (x :: r) := by simp [runLen]
theorem runLen_le (l : List Sh) : runLen l ≤ l.length := by
  cases l with
  | nil => simp [runLen]
  | cons x r => have := (List.takeWhile_prefix (fun s : Sh => s.q == x.q) (l := r)).length_le; simp [runLen]; omega

theorem takeWhile_len {α : Type} (p : α → Bool) (l : List α) (j : Nat) (h : ∀ s, s ∈ l.take j → p s = true) (hj : j ≤ l.length) (he : ∀ y, l[j]? = some y → p y = false) : (l.takeWhile p).length = j := by
  induction l generalizing j with
  | nil => simp at hj; simp [hj]
  | cons a r ih =>
    cases j with
    | zero => rw [List.takeWhile_cons_of_neg (by have := he a rfl; simp [this])]; rfl
    | succ j =>
      rw [List.takeWhile_cons_of_pos (h a (by simp)), List.length_cons, ih j (fun s hs => h s (by simp [hs])) (by simpa using hj) (fun y hy => he y (by simpa using hy))]

/-- the search ends behind the run -/
theorem runLen_eq (l : List Sh) (x : Sh) (j : Nat) (hx : l[0]? = some x) (h1 : 1 ≤ j) (hj : j ≤ l.length) (h : ∀ s, s ∈ l.take j → s.q = x.q) (he : ∀ y, l[j]? = some y → y.q ≠ x.q) : runLen l = j := by
  cases l with
  | nil => simp at hx
  | cons a r =>
    simp at hx; subst hx
    obtain ⟨j, rfl⟩ : ∃ i, j = i + 1 := ⟨j - 1, by omega⟩
    show 1 + (r.takeWhile fun s => s.q == a.q).length = j + 1
    rw [takeWhile_len _ _ j]
    · omega
    · intro s hs; simpa using h s (by simp [hs])
    · simpa using hj
    · intro y hy; simpa using he y (by simpa using hy)

theorem readF_step {f : Nat} {q : Int} {l : List Sh} {x : Sh} {acc : List Int} {j : Nat} (hx : l[0]? = some x) (hf : l.length ≤ f) (hj : runLen l = j) (hq : x.q = q) :
    ∃ g, (l.drop j).length ≤ g ∧ readF f q l acc = readF g (q + 1) (l.drop j) (acc ++ fwd (l.take j) ++ bwd (l.take j)) := by
  cases l with
  | nil => simp at hx
  | cons a r =>
    simp at hx; subst hx
    obtain ⟨f, rfl⟩ : ∃ i, f = i + 1 := ⟨f - 1, by simp at hf; omega⟩
    refine ⟨f, ?_, ?_⟩
    · have := runLen_pos a r; simp at hf; rw [List.length_drop, List.length_cons]; omega
    · rw [readF, if_pos hq, hj]

theorem readF_bad {f : Nat} {q : Int} {l : List Sh} {x : Sh} {acc : List Int} (hx : l[0]? = some x) (hf : l.length ≤ f) (hq : x.q ≠ q) : readF f q l acc = ([], 2) := by
  cases l with
  | nil => simp at hx
  | cons a r =>
    simp at hx; subst hx
    obtain ⟨f, rfl⟩ : ∃ i, f = i + 1 := ⟨f - 1, by simp at hf; omega⟩
    rw [readF, if_neg hq]

theorem fwd_len (g : List Sh) : (fwd g).length = g.length * 2 := flat_len _ 2 (fun _ => rfl) g
theorem bwd_len (g : List Sh) : (bwd g).length = g.length * 2 := by unfold bwd; rw [flat_len _ 2 (fun _ => rfl), List.length_reverse]
theorem fwd_snoc (g : List Sh) (k : Nat) (x : Sh) (hx : g[k]? = some x) : fwd (g.take (k + 1)) = fwd (g.take k) ++ [x.f1, x.b0] := take_flat _ g k x hx
theorem bwd_snoc (g : List Sh) (k : Nat) (x : Sh) (hx : g[k]? = some x) : bwd (g.drop k) = bwd (g.drop (k + 1)) ++ [x.b1, x.f0] := by
  unfold bwd
  obtain ⟨hk, e⟩ := List.getElem?_eq_some_iff.1 hx
  rw [List.drop_eq_getElem_cons hk, e, List.reverse_cons, List.flatMap_append]; simp

def OwnI (w : World) (B : Nat) (v : Value) (L : List Int) : Prop := w.ownsRow B 3 1 v L.length (ints L)
theorem OwnI.nil (w : World) (B : Nat) : OwnI w B (.slice none 0 0) [] := by simpa [OwnI, ints] using World.ownsRow_nil w B 3 1
theorem OwnI.snoc2 {w : World} {B : Nat} {v : Value} {L : List Int} {a b : Int} (h : w.ownsRow B 3 1 v (L.length + 2) (ints L ++ [.int .i64 a, .int .i64 b])) : OwnI w B v (L ++ [a, b]) := by
  unfold OwnI; rw [List.length_append]; simpa [ints] using h
theorem OwnI.snoc1 {w : World} {B : Nat} {v : Value} {L : List Int} {a : Int} (h : w.ownsRow B 3 1 v (L.length + 1) (ints L ++ [.int .i64 a])) : OwnI w B v (L ++ [a]) := by
  unfold OwnI; rw [List.length_append]; simpa [ints] using h
theorem RdI_of_own {w : World} {B : Nat} {v : Value} {L : List Int} (h : OwnI w B v L) : RdI w v L := Rd_of_owns h
end Go.Proofs.Ythldekpbjfhmcaa
