/- Sorted lists of strings without doubles (plain law). -/
import Derived.Test.YtidojiegkdchpaaAl
namespace Go.Proofs.Ytidojiegkdchpaa
open Go.RowKit Go.Maps Go.Sort Go.Lib

def un (t : ByteArray) : List UInt8 := t.data.toList
theorem bs_un (t : ByteArray) : bs (un t) = t := by unfold bs un; simp
theorem un_bs (l : List UInt8) : un (bs l) = l := by unfold bs un; simp
theorem un_inj {a b : ByteArray} (h : un a = un b) : a = b := by rw [← bs_un a, ← bs_un b, h]
def ltB (a b : ByteArray) : Bool := decide (un a < un b)
theorem bless (a b : ByteArray) : Op.bytesLess a.toList b.toList = ltB a b := by
  rw [bytesLess_eq, ByteArray.toList_eq, ByteArray.toList_eq]; rfl
theorem ltB_irr (a : ByteArray) : ltB a a = false := by unfold ltB; simp [List.lt_irrefl]
theorem ltB_trans {a b c : ByteArray} (h : ltB a b = true) (k : ltB b c = true) : ltB a c = true := by
  unfold ltB at *; simp at *; exact List.lt_trans h k
theorem ltB_tri (a b : ByteArray) : ltB a b = true ∨ a = b ∨ ltB b a = true := by
  by_cases h1 : un a < un b
  · exact .inl (by unfold ltB; simpa using h1)
  · by_cases h2 : un b < un a
    · exact .inr (.inr (by unfold ltB; simpa using h2))
    · exact .inr (.inl (un_inj (List.le_antisymm (List.not_lt.1 h2) (List.not_lt.1 h1))))
theorem ltB_ne {a b : ByteArray} (h : ltB a b = true) : a ≠ b := by rintro rfl; rw [ltB_irr] at h; cases h

def strict (l : List ByteArray) : Prop := l.Pairwise fun a b => ltB a b = true
theorem strict_uniq : ∀ {a b : List ByteArray}, strict a → strict b → (∀ x, x ∈ a ↔ x ∈ b) → a = b
  | [], [], _, _, _ => rfl
  | [], y :: b, _, _, h => absurd ((h y).2 (by simp)) (by simp)
  | x :: a, [], _, _, h => absurd ((h x).1 (by simp)) (by simp)
  | x :: a, y :: b, ha, hb, h => by
    obtain ⟨ha1, ha2⟩ := List.pairwise_cons.1 ha
    obtain ⟨hb1, hb2⟩ := List.pairwise_cons.1 hb
    have hxy : x = y := by
      rcases List.mem_cons.1 ((h x).1 (by simp)) with e | e
      · exact e
      · rcases List.mem_cons.1 ((h y).2 (by simp)) with e' | e'
        · exact e'.symm
        · have := ltB_trans (hb1 x e) (ha1 y e')
          rw [ltB_irr] at this; cases this
    subst hxy
    rw [strict_uniq ha2 hb2 fun z => ?_]
    constructor
    · intro hz
      rcases List.mem_cons.1 ((h z).1 (by simp [hz])) with e | e
      · exact absurd e (Ne.symm (ltB_ne (ha1 z hz)))
      · exact e
    · intro hz
      rcases List.mem_cons.1 ((h z).2 (by simp [hz])) with e | e
      · exact absurd e (Ne.symm (ltB_ne (hb1 z hz)))
      · exact e

def hasB (l : List ByteArray) (t : ByteArray) : Bool := l.any fun x => decide (x = t)
theorem hasB_iff (l : List ByteArray) (t : ByteArray) : hasB l t = true ↔ t ∈ l := by
  unfold hasB
  rw [List.any_eq_true]
  constructor
  · rintro ⟨x, hx, e⟩; rw [← of_decide_eq_true e]; exact hx
  · intro h; exact ⟨t, h, decide_eq_true rfl⟩
def putB (l : List ByteArray) (t : ByteArray) : List ByteArray := if hasB l t = true then l else l.filter (ltB · t) ++ [t] ++ l.filter (ltB t ·)
theorem putB_strict {l : List ByteArray} (t : ByteArray) (h : strict l) : strict (putB l t) := by
  unfold putB
  split
  · exact h
  · unfold strict at *
    rw [List.append_assoc]
    refine List.pairwise_append.2 ⟨h.filter _, List.pairwise_append.2 ⟨List.pairwise_singleton _ _, h.filter _, fun a ha b hb => ?_⟩, fun a ha b hb => ?_⟩
    · rw [List.mem_singleton.1 ha]; exact (List.mem_filter.1 hb).2
    · have h1 := (List.mem_filter.1 ha).2
      rcases List.mem_append.1 hb with e | e
      · rw [List.mem_singleton.1 e]; exact h1
      · exact ltB_trans h1 (List.mem_filter.1 e).2
theorem putB_mem (l : List ByteArray) (t x : ByteArray) : x ∈ putB l t ↔ x ∈ l ∨ x = t := by
  unfold putB
  split
  · rename_i h
    rw [hasB_iff] at h
    constructor
    · exact .inl
    · rintro (h' | rfl)
      · exact h'
      · exact h
  · simp only [List.mem_append, List.mem_filter, List.mem_singleton]
    constructor
    · rintro ((h | h) | h)
      · exact .inl h.1
      · exact .inr h
      · exact .inl h.1
    · rintro (h | h)
      · rcases ltB_tri x t with e | e | e
        · exact .inl (.inl ⟨h, e⟩)
        · exact .inl (.inr e)
        · exact .inr ⟨h, e⟩
      · exact .inl (.inr h)
def putsB (L : List ByteArray) : List ByteArray := L.foldl putB []
theorem putsB_snoc (L : List ByteArray) (t : ByteArray) : putsB (L ++ [t]) = putB (putsB L) t := by unfold putsB; rw [List.foldl_append]; rfl
theorem foldl_strict (L l : List ByteArray) (h : strict l) : strict (L.foldl putB l) ∧ ∀ x, x ∈ L.foldl putB l ↔ x ∈ l ∨ x ∈ L := by
  induction L generalizing l with
  | nil => exact ⟨h, fun x => by simp⟩
  | cons t L ih =>
    obtain ⟨a, b⟩ := ih (putB l t) (putB_strict t h)
    refine ⟨a, fun x => ?_⟩
    rw [List.foldl_cons, b, putB_mem]
    simp [or_assoc]
theorem putsB_strict (L : List ByteArray) : strict (putsB L) := (foldl_strict L [] List.Pairwise.nil).1
theorem putsB_mem (L : List ByteArray) (x : ByteArray) : x ∈ putsB L ↔ x ∈ L := by
  unfold putsB
  rw [(foldl_strict L [] List.Pairwise.nil).2]; simp
theorem putB_len (l : List ByteArray) (t : ByteArray) : (putB l t).length ≤ l.length + 1 := by
  unfold putB
  split
  · omega
  · rw [List.length_append, List.length_append]
    have : ∀ m : List ByteArray, (m.filter (ltB · t)).length + (m.filter (ltB t ·)).length ≤ m.length := by
      intro m
      induction m with
      | nil => simp
      | cons x m ih =>
        rw [List.filter_cons, List.filter_cons]
        cases h1 : ltB x t <;> cases h2 : ltB t x
        · simp; omega
        · simp; omega
        · simp; omega
        · have := ltB_trans h1 h2
          rw [ltB_irr] at this; cases this
    have := this l
    simp; omega
theorem putsB_len (L : List ByteArray) : (putsB L).length ≤ L.length := by
  have : ∀ (L l : List ByteArray), (L.foldl putB l).length ≤ l.length + L.length := by
    intro L
    induction L with
    | nil => intro l; simp
    | cons t L ih =>
      intro l
      have h1 := ih (putB l t)
      have h2 := putB_len l t
      rw [List.foldl_cons, List.length_cons]; omega
  have := this L []
  simpa [putsB] using this

/-! ### sort, then compact -/
theorem sortL_pw (ss : List (List UInt8)) : (sortL ss).Pairwise fun a b => a ≤ b := by
  have := List.pairwise_mergeSort (le := fun x y : List UInt8 => decide (x ≤ y)) (fun a b c h1 h2 => by simp at *; exact List.le_trans h1 h2) (fun a b => by simp; exact List.le_total a b) ss
  exact this.imp fun h => by simpa using h
theorem sortL_mem (ss : List (List UInt8)) (x : List UInt8) : x ∈ sortL ss ↔ x ∈ ss := by unfold sortL; exact List.mem_mergeSort
theorem comp_mem (ss : List (List UInt8)) (x : List UInt8) : x ∈ compL ss ↔ x ∈ ss := by
  unfold compL compactUpTo
  simp only [List.mem_map, List.mem_filter, List.mem_range, List.size_toArray]
  constructor
  · rintro ⟨j, ⟨h1, _⟩, rfl⟩
    have : ss.toArray[j]! = ss[j] := by rw [getElem!_pos _ j (by simpa using h1)]; simp
    rw [this]; exact List.getElem_mem _
  · intro hx
    have hex : ∃ j, j < ss.length ∧ ss.toArray[j]! = x := by
      obtain ⟨j, hj, rfl⟩ := List.mem_iff_getElem.1 hx
      exact ⟨j, hj, by rw [getElem!_pos _ j (by simpa using hj)]; simp⟩
    have hmin : ∀ n j, j ≤ n → j < ss.length → ss.toArray[j]! = x → ∃ i, i < ss.length ∧ ss.toArray[i]! = x ∧ ∀ k, k < i → ss.toArray[k]! ≠ x := by
      intro n
      induction n with
      | zero => intro j hj h1 h2; exact ⟨j, h1, h2, fun k hk => by omega⟩
      | succ n ih =>
        intro j hj h1 h2
        by_cases hk : ∃ k, k < j ∧ ss.toArray[k]! = x
        · obtain ⟨k, hk1, hk2⟩ := hk
          exact ih k (by omega) (by omega) hk2
        · exact ⟨j, h1, h2, fun k hk1 hk2 => hk ⟨k, hk1, hk2⟩⟩
    obtain ⟨j, hj1, hj2⟩ := hex
    obtain ⟨i, hi1, hi2, hi3⟩ := hmin j j (Nat.le_refl _) hj1 hj2
    refine ⟨i, ⟨hi1, ?_⟩, hi2⟩
    unfold keeps
    rcases Nat.eq_zero_or_pos i with h0 | h0
    · simp [h0]
    · have := hi3 (i - 1) (by omega)
      rw [hi2]
      exact decide_eq_true (.inr (Ne.symm this))
theorem le_at {ss : List (List UInt8)} (h : ss.Pairwise fun a b => a ≤ b) {i j : Nat} (hij : i ≤ j) (hj : j < ss.length) : ss.toArray[i]! ≤ ss.toArray[j]! := by
  rcases Nat.lt_or_ge i j with h1 | h1
  · have := List.pairwise_iff_getElem.1 h i j (by omega) hj h1
    rw [getElem!_pos _ i (by simp; omega), getElem!_pos _ j (by simpa using hj)]
    simpa using this
  · rw [show i = j by omega]
    exact List.le_refl _
theorem comp_strict {ss : List (List UInt8)} (h : ss.Pairwise fun a b => a ≤ b) : strict ((compL ss).map bs) := by
  unfold strict compL compactUpTo
  rw [List.map_map]
  refine List.pairwise_map.2 ?_
  have h1 : ((List.range ss.toArray.size).filter (keeps ss.toArray)).Pairwise fun i j => i < j := List.pairwise_lt_range.filter _
  refine (List.pairwise_iff_getElem.2 fun i j hi hj hij => ?_)
  have hlt := List.pairwise_iff_getElem.1 h1 i j hi hj hij
  generalize hA : ((List.range ss.toArray.size).filter (keeps ss.toArray)) = F at *
  have m2 : F[j] ∈ ((List.range ss.toArray.size).filter (keeps ss.toArray)) := by rw [hA]; exact List.getElem_mem hj
  obtain ⟨m3, m4⟩ := List.mem_filter.1 m2
  have m5 : F[j] < ss.length := by simpa using m3
  unfold keeps at m4
  have m6 : F[j] = 0 ∨ ss.toArray[F[j]]! ≠ ss.toArray[F[j] - 1]! := by simpa using m4
  have m7 : ss.toArray[F[j]]! ≠ ss.toArray[F[j] - 1]! := by
    rcases m6 with e | e
    · omega
    · exact e
  have a1 := le_at h (i := F[i]) (j := F[j] - 1) (by omega) (by omega)
  have a2 := le_at h (i := F[j] - 1) (j := F[j]) (by omega) m5
  have a3 : ss.toArray[F[i]]! < ss.toArray[F[j]]! := by
    refine List.not_le.1 fun hle => m7 ?_
    exact List.le_antisymm (List.le_trans hle a1) a2
  show ltB (bs _) (bs _) = true
  unfold ltB
  rw [un_bs, un_bs]
  simpa using a3
theorem near_same (L : List ByteArray) : (compL (sortL (L.map un))).map bs = putsB L := by
  refine strict_uniq (comp_strict (sortL_pw _)) (putsB_strict L) fun x => ?_
  rw [putsB_mem, List.mem_map]
  constructor
  · rintro ⟨y, hy, rfl⟩
    rw [comp_mem, sortL_mem, List.mem_map] at hy
    obtain ⟨z, hz, rfl⟩ := hy
    rw [bs_un]; exact hz
  · intro hx
    exact ⟨un x, by rw [comp_mem, sortL_mem, List.mem_map]; exact ⟨x, hx, rfl⟩, bs_un x⟩
end Go.Proofs.Ytidojiegkdchpaa
