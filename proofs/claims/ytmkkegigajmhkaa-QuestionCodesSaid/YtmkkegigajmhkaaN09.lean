/- slices.Sort of ints: the shelf's contract laid (plain text, printed by the shelf's own tool). The answers of some worlds and the worlds with each (parts): plain law. -/
import Derived.Shelf.SortM.Plain
import Derived.Shelf.SortM.SortNone
import Derived.Ground.SlgmProg
import Derived.Sort.OwnSortedInts
import Derived.Test.YtmkkegigajmhkaaN08
set_option linter.unusedVariables false
namespace Go.Proofs.Ytmkkegigajmhkaa
open Go.Shelf
def Try.sortI_ren : Go.Shelf.Ren := ⟨fun | 5 => 77 | 8 => 86 | 7 => 85 | 19 => 98 | 20 => 99 | 10 => 90 | 11 => 91 | 12 => 92 | 13 => 93 | 14 => 94 | 15 => 95 | 16 => 88 | 17 => 96 | 18 => 97 | 30 => 101 | 31 => 102 | 32 => 103 | 33 => 104 | 34 => 105 | 35 => 100 | 40 => 106 | n => n, fun | 23 => 22 | 25 => 3 | 3 => 3 | 32 => 97 | 22 => 22 | 0 => 0 | 44 => 136 | 46 => 86 | 4 => 4 | 36 => 131 | 35 => 130 | 41 => 123 | 5 => 5 | 9 => 9 | 53 => 138 | 57 => 142 | 63 => 144 | 64 => 145 | n => n, fun | n => n⟩
theorem Try.sortI : Go.Proofs.SlLaysM.n5 Try.prog Try.sortI_ren := {
  mixed := by kernel_rfl
  f5 := ⟨Try.f77.name, by decide, Try.func77.trans (congrArg some (by kernel_rfl))⟩
  f7 := ⟨Try.f85.name, by decide, Try.func85.trans (congrArg some (by kernel_rfl))⟩
  f8 := Try.func86.trans (congrArg some (by kernel_rfl))
  f10 := ⟨Try.f90.name, by decide, Try.func90.trans (congrArg some (by kernel_rfl))⟩
  f11 := ⟨Try.f91.name, by decide, Try.func91.trans (congrArg some (by kernel_rfl))⟩
  f12 := ⟨Try.f92.name, by decide, Try.func92.trans (congrArg some (by kernel_rfl))⟩
  f13 := ⟨Try.f93.name, by decide, Try.func93.trans (congrArg some (by kernel_rfl))⟩
  f14 := ⟨Try.f94.name, by decide, Try.func94.trans (congrArg some (by kernel_rfl))⟩
  f15 := ⟨Try.f95.name, by decide, Try.func95.trans (congrArg some (by kernel_rfl))⟩
  f16 := ⟨Try.f88.name, by decide, Try.func88.trans (congrArg some (by kernel_rfl))⟩
  f17 := ⟨Try.f96.name, by decide, Try.func96.trans (congrArg some (by kernel_rfl))⟩
  f18 := ⟨Try.f97.name, by decide, Try.func97.trans (congrArg some (by kernel_rfl))⟩
  f19 := Try.func98.trans (congrArg some (by kernel_rfl))
  f20 := Try.func99.trans (congrArg some (by kernel_rfl))
  f30 := ⟨Try.f101.name, by decide, Try.func101.trans (congrArg some (by kernel_rfl))⟩
  f31 := Try.func102.trans (congrArg some (by kernel_rfl))
  f32 := Try.func103.trans (congrArg some (by kernel_rfl))
  f33 := ⟨Try.f104.name, by decide, Try.func104.trans (congrArg some (by kernel_rfl))⟩
  f34 := ⟨Try.f105.name, by decide, Try.func105.trans (congrArg some (by kernel_rfl))⟩
  f35 := ⟨Try.f100.name, by decide, Try.func100.trans (congrArg some (by kernel_rfl))⟩
  f40 := ⟨Try.f106.name, by decide, Try.func106.trans (congrArg some (by kernel_rfl))⟩
  t0 := Try.underlying0
  a0 := Try.isAgg0
  z0 := Try.sizeOf0
  v0 := Try.zeroValue0
  t3 := Try.underlying3
  a3 := Try.isAgg3
  z3 := Try.sizeOf3
  v3 := Try.zeroValue3
  t4 := Try.underlying4
  a4 := Try.isAgg4
  z4 := Try.sizeOf4
  v4 := Try.zeroValue4
  t5 := Try.underlying5
  a5 := Try.isAgg5
  z5 := Try.sizeOf5
  v5 := Try.zeroValue5
  t9 := Try.underlying9
  a9 := Try.isAgg9
  z9 := Try.sizeOf9
  v9 := Try.zeroValue9
  t22 := Try.underlying22
  a22 := Try.isAgg22
  z22 := Try.sizeOf22
  v22 := Try.zeroValue22
  t23 := Try.underlying22
  a23 := Try.isAgg22
  z23 := Try.sizeOf22
  v23 := Try.zeroValue22
  t25 := Try.underlying3
  a25 := Try.isAgg3
  z25 := Try.sizeOf3
  v25 := Try.zeroValue3
  t32 := Try.underlying97
  a32 := Try.isAgg97
  z32 := Try.sizeOf97
  v32 := Try.zeroValue97
  t35 := Try.underlying130
  a35 := Try.isAgg130
  z35 := Try.sizeOf130
  v35 := Try.zeroValue130
  t36 := Try.underlying131
  a36 := Try.isAgg131
  z36 := Try.sizeOf131
  v36 := Try.zeroValue131
  t41 := Try.underlying123
  a41 := Try.isAgg123
  z41 := Try.sizeOf123
  v41 := Try.zeroValue123
  t44 := Try.underlying136
  a44 := Try.isAgg136
  z44 := Try.sizeOf136
  v44 := Try.zeroValue136
  t46 := Try.underlying86
  a46 := Try.isAgg86
  z46 := Try.sizeOf86
  v46 := Try.zeroValue86
  t53 := Try.underlying138
  a53 := Try.isAgg138
  z53 := Try.sizeOf138
  v53 := Try.zeroValue138
  t57 := Try.underlying142
  a57 := Try.isAgg142
  z57 := Try.sizeOf142
  v57 := Try.zeroValue142
  t63 := Try.underlying144
  a63 := Try.isAgg144
  z63 := Try.sizeOf144
  v63 := Try.zeroValue144
  t64 := Try.underlying145
  a64 := Try.isAgg145
  z64 := Try.sizeOf145
  v64 := Try.zeroValue145 }

open Go.RowKit Go.Maps Go.Sort Go.Lib
def sortL (ss : List Int) : List Int := ss.mergeSort fun x y => decide (x ≤ y)
theorem sortL_len (ss : List Int) : (sortL ss).length = ss.length := by unfold sortL; simp
theorem sortI_any (v : Value) (ss : List Int) (base : Nat) (w : World) (h : w.ownsRow base 3 1 v ss.length (ints ss)) (hl : ss.length < 4611686018427387904) :
    Calls Try.prog 77 #[v] w fun e w' => e = .returned (.tuple #[]) ∧ w'.ownsRow base 3 1 v ss.length (ints (sortL ss)) ∧ w.grownBy w' v.ownBlock := by
  rcases h.2 with ⟨rfl, h0⟩ | ⟨g, cap, cur, rfl, hbase, hb, h1, h2, h3, h4⟩
  · have c := AnyM.slices_Sort_int_none Try.sortI none 0 w
    change Calls Try.prog 77 _ _ _ at c
    rw [h0]
    refine c.mono ?_
    rintro e w' ⟨rfl, rfl⟩
    have : ss = [] := List.eq_nil_of_length_eq_zero h0
    subst this
    exact ⟨rfl, by rw [show sortL [] = [] by unfold sortL; simp]; exact World.ownsRow_nil _ _ _ _, ⟨rfl, rfl, rfl, Nat.le_refl _, fun _ _ _ => rfl⟩⟩
  · have c := AnyM.slices_Sort_int Try.sortI g 0 cap ss w (holds_of_blockI hb (by simpa [ints] using h4)) (Array.getElem?_eq_some_iff.1 hb).1 hl
    change Calls Try.prog 77 _ _ _ at c
    refine c.mono ?_
    rintro e w' ⟨rfl, n, os, rfl⟩
    exact ⟨rfl, ownsRow_sortedI (sortL_len ss) hbase hb h1 h2 h3, grownBy_sortedI _⟩
/-- distinct numbers, sorted, are strictly increasing -/
theorem sortL_given {xs ys : List Int} (hn : xs.Nodup) (hs : ys.Pairwise (· < ·)) (hm : ∀ b, b ∈ xs ↔ b ∈ ys) : sortL xs = ys := by
  have hp : (sortL xs).Perm xs := List.mergeSort_perm _ _
  have hle : (sortL xs).Pairwise (fun x y => decide (x ≤ y) = true) := List.pairwise_mergeSort (fun a b c h1 h2 => by simp at *; omega) (fun a b => by simp; omega) xs
  have hnd : (sortL xs).Nodup := hp.nodup_iff.2 hn
  refine sorted_ext _ _ ?_ hs fun b => (hp.mem_iff).trans (hm b)
  have := hle.and hnd
  refine this.imp fun h => ?_
  obtain ⟨h1, h2⟩ := h
  simp at h1
  omega
end Go.Proofs.Ytmkkegigajmhkaa

namespace Go.Proofs.Ytmkkegigajmhkaa
open Go.RowKit Go.Maps

/-- the answers of worlds, in the order in which they come up -/
def firstsF (T : Tb) (k : Nat) (out : List Int) (ws : List Nat) : List Int := ws.foldl (fun out i => if ansAt T i k ∈ out then out else out ++ [ansAt T i k]) out
def firsts (T : Tb) (ws : List Nat) (k : Nat) : List Int := firstsF T k [] ws
theorem firsts_succ {T : Tb} {ws : List Nat} {k j i : Nat} (h : ws[j]? = some i) : firsts T (ws.take (j + 1)) k = if ansAt T i k ∈ firsts T (ws.take j) k then firsts T (ws.take j) k else firsts T (ws.take j) k ++ [ansAt T i k] := by
  unfold firsts firstsF
  rw [take_succ_at h, List.foldl_append]; rfl
theorem firstsF_mem (T : Tb) (k : Nat) (b : Int) : ∀ (ws : List Nat) (out : List Int), b ∈ firstsF T k out ws ↔ b ∈ out ∨ ∃ i, i ∈ ws ∧ ansAt T i k = b
  | [], out => by simp [firstsF]
  | i :: r, out => by
    have := firstsF_mem T k b r (if ansAt T i k ∈ out then out else out ++ [ansAt T i k])
    unfold firstsF at this ⊢
    rw [List.foldl_cons, this]
    by_cases h : ansAt T i k ∈ out
    · rw [if_pos h]
      constructor
      · rintro (h1 | ⟨j, hj, h1⟩)
        · exact .inl h1
        · exact .inr ⟨j, by simp [hj], h1⟩
      · rintro (h1 | ⟨j, hj, h1⟩)
        · exact .inl h1
        · rcases List.mem_cons.1 hj with rfl | hj
          · exact .inl (h1 ▸ h)
          · exact .inr ⟨j, hj, h1⟩
    · rw [if_neg h]
      constructor
      · rintro (h1 | ⟨j, hj, h1⟩)
        · rcases List.mem_append.1 h1 with h1 | h1
          · exact .inl h1
          · simp at h1; exact .inr ⟨i, by simp, h1.symm⟩
        · exact .inr ⟨j, by simp [hj], h1⟩
      · rintro (h1 | ⟨j, hj, h1⟩)
        · exact .inl (List.mem_append_left _ h1)
        · rcases List.mem_cons.1 hj with rfl | hj
          · exact .inl (List.mem_append_right _ (by simp [h1]))
          · exact .inr ⟨j, hj, h1⟩
theorem firsts_mem (T : Tb) (ws : List Nat) (k : Nat) (b : Int) : b ∈ firsts T ws k ↔ ∃ i, i ∈ ws ∧ ansAt T i k = b := by
  unfold firsts; rw [firstsF_mem]; simp
theorem firstsF_nodup (T : Tb) (k : Nat) : ∀ (ws : List Nat) (out : List Int), out.Nodup → (firstsF T k out ws).Nodup
  | [], _, h => h
  | i :: r, out, h => by
    unfold firstsF
    rw [List.foldl_cons]
    by_cases h1 : ansAt T i k ∈ out
    · rw [if_pos h1]; exact firstsF_nodup T k r out h
    · rw [if_neg h1]
      refine firstsF_nodup T k r _ ?_
      rw [List.nodup_append]
      refine ⟨h, by simp, fun a ha b hb => ?_⟩
      simp at hb; subst hb
      intro e; subst e; exact h1 ha
theorem firsts_nodup (T : Tb) (ws : List Nat) (k : Nat) : (firsts T ws k).Nodup := firstsF_nodup T k ws [] List.nodup_nil
theorem firsts_sort (T : Tb) (ws : List Nat) (k : Nat) : sortL (firsts T ws k) = given T ws k :=
  sortL_given (firsts_nodup T ws k) (given_sorted T ws k) fun b => (firsts_mem T ws k b).trans (given_mem T ws k b).symm
theorem firsts_len (T : Tb) (ws : List Nat) (k : Nat) : (firsts T ws k).length ≤ ws.length := by
  have h := congrArg List.length (firsts_sort T ws k)
  rw [sortL_len] at h
  rw [h]; exact given_len T ws k
/-- the worlds with each of some answers -/
def partsW (T : Tb) (ws : List Nat) (k : Nat) (A : List Int) : List (List Int) := A.map fun a => nI (withW T ws k a)
theorem partsW_at {T : Tb} {ws : List Nat} {k j : Nat} {A : List Int} {a : Int} (h : A[j]? = some a) : (partsW T ws k A)[j]? = some (nI (withW T ws k a)) := by unfold partsW; rw [List.getElem?_map, h]; rfl
theorem partsW_same {T : Tb} {ws : List Nat} {k j i : Nat} {A : List Int} (h : ws[j]? = some i) (hA : ansAt T i k ∉ A) : partsW T (ws.take (j + 1)) k A = partsW T (ws.take j) k A := by
  unfold partsW
  refine List.map_congr_left fun a ha => ?_
  rw [withW_succ h, if_neg (fun (e : ansAt T i k = a) => hA (by rw [e]; exact ha)), List.append_nil]
theorem withW_first {T : Tb} {ws : List Nat} {k j i : Nat} (h : ws[j]? = some i) (hn : ansAt T i k ∉ firsts T (ws.take j) k) : withW T (ws.take (j + 1)) k (ansAt T i k) = [i] := by
  rw [withW_succ h, if_pos rfl]
  have : withW T (ws.take j) k (ansAt T i k) = [] := by
    rw [List.eq_nil_iff_forall_not_mem]
    intro x hx
    exact hn ((firsts_mem T _ k _).2 ⟨x, (withW_mem.1 hx).1, (withW_mem.1 hx).2⟩)
  rw [this]; rfl
theorem partsW_set {T : Tb} {ws : List Nat} {k j i p : Nat} {A : List Int} (h : ws[j]? = some i) (hA : A.Nodup) (hp : A[p]? = some (ansAt T i k)) :
    partsW T (ws.take (j + 1)) k A = (partsW T (ws.take j) k A).set p (nI (withW T (ws.take j) k (ansAt T i k)) ++ [(i : Int)]) := by
  apply List.ext_getElem?
  intro q
  have hpl := (List.getElem?_eq_some_iff.1 hp).1
  by_cases hq : q = p
  · subst hq
    rw [List.getElem?_set_self (by unfold partsW; simpa using hpl), partsW_at hp, withW_succ h, if_pos rfl, nI_app]
    rfl
  · rw [List.getElem?_set_ne (by omega)]
    unfold partsW
    rw [List.getElem?_map, List.getElem?_map]
    cases hq2 : A[q]? with
    | none => rfl
    | some a =>
      have hne : ansAt T i k ≠ a := fun e => by
        subst e
        exact hq ((List.getElem_inj (h₀ := (List.getElem?_eq_some_iff.1 hq2).1) (h₁ := hpl) hA).1 (by rw [(List.getElem?_eq_some_iff.1 hq2).2, (List.getElem?_eq_some_iff.1 hp).2]))
      simp only [Option.map_some]
      rw [withW_succ h, if_neg hne, List.append_nil]
/-- what parts has made so far: the answers, the map, the lists of worlds -/
structure PS (N : Nat) (W : World) (m : Nat) (va : Value) (us : List Value) (T : Tb) (ws : List Nat) (k : Nat) (A : List Int) : Prop where
  mN : N ≤ m
  map : ∃ f, MapF W m .i64 f ∧ (∀ (j : Nat) (a : Int) (u : Value), A[j]? = some a → us[j]? = some u → f a = some u) ∧ ∀ a, a ∉ A → f a = none
  rs : OwnRs N W (va :: us) (A :: partsW T ws k A)
theorem PS.below {N : Nat} {W W' : World} {m : Nat} {va : Value} {us : List Value} {T : Tb} {ws : List Nat} {k : Nat} {A : List Int} (h : PS N W m va us T ws k A) (hb : Below W.heap.size W W') : PS N W' m va us T ws k A := by
  obtain ⟨f, h1, h2, h3⟩ := h.map
  exact ⟨h.mN, ⟨f, h1.below hb, h2, h3⟩, h.rs.below hb⟩
theorem PS.len {N : Nat} {W : World} {m : Nat} {va : Value} {us : List Value} {T : Tb} {ws : List Nat} {k : Nat} {A : List Int} (h : PS N W m va us T ws k A) : us.length = A.length := by
  have := h.rs.len; unfold partsW at this; simp at this; exact this
/-- the map's block is none of the rows -/
theorem OwnRs.mapset {N : Nat} {W W' : World} {us : List Value} {rows : List (List Int)} {m : Nat} {f : Int → Option Value} (h : OwnRs N W us rows) (hm : MapF W m .i64 f) (hg : W.grownBy W' (some m)) : OwnRs N W' us rows :=
  h.other hg fun k u b hu hb e => by
    obtain ⟨r, hr⟩ := elem_at (show k < rows.length by have := (List.getElem?_eq_some_iff.1 hu).1; rw [← h.len]; exact this)
    have := hm.not_own (h.inn k u r hu hr)
    rw [hb] at this
    exact this (by cases e; rfl)
theorem PS.hit {N : Nat} {W W4 W6 : World} {m : Nat} {va u v4 : Value} {us : List Value} {T : Tb} {ws : List Nat} {j i k p : Nat} {A : List Int} {f : Int → Option Value} {x : Int} (h : PS N W m va us T (ws.take j) k A) (hi : ws[j]? = some i) (hx : ansAt T i k = x) (hnd : A.Nodup)
    (hp : A[p]? = some x) (hu : us[p]? = some u) (hf1 : ∀ (j : Nat) (a : Int) (u : Value), A[j]? = some a → us[j]? = some u → f a = some u) (hf2 : ∀ a, a ∉ A → f a = none)
    (ha : AppOut N 3 W u (nI (withW T (ws.take j) k x) ++ [(i : Int)]).length (ints (nI (withW T (ws.take j) k x) ++ [(i : Int)])) v4 W4) (hm4 : MapF W4 m .i64 f) (hm6 : MapF W6 m .i64 (fun y => if y = x then some v4 else f y)) (hg : W4.grownBy W6 (some m)) :
    PS N W6 m va (us.set p v4) T (ws.take (j + 1)) k A := by
  subst hx
  have hpl := (List.getElem?_eq_some_iff.1 hp).1
  have hul := h.len
  refine ⟨h.mN, ⟨_, hm6, fun q a u' hq hu' => ?_, fun a ha' => ?_⟩, ?_⟩
  · by_cases hqp : q = p
    · subst hqp
      rw [hp] at hq; cases hq
      rw [List.getElem?_set_self (by omega)] at hu'
      cases hu'
      simp
    · rw [List.getElem?_set_ne (by omega)] at hu'
      have hne : a ≠ ansAt T i k := fun e => by
        subst e
        exact hqp ((List.getElem_inj (h₀ := (List.getElem?_eq_some_iff.1 hq).1) (h₁ := hpl) hnd).1 (by rw [(List.getElem?_eq_some_iff.1 hq).2, (List.getElem?_eq_some_iff.1 hp).2]))
      rw [if_neg hne]
      exact hf1 q a u' hq hu'
  · have hne : a ≠ ansAt T i k := fun e => ha' (by rw [e]; exact List.mem_of_getElem? hp)
    rw [if_neg hne]
    exact hf2 a ha'
  · have h1 := (h.rs.app (k := p + 1) (by simpa using hu) ha).mapset hm4 hg
    rw [List.set_cons_succ, List.set_cons_succ] at h1
    rw [partsW_set hi hnd hp]
    exact h1
theorem PS.miss {N : Nat} {W W4 W5 W6 : World} {m : Nat} {va va' v5 : Value} {us : List Value} {T : Tb} {ws : List Nat} {j i k : Nat} {A : List Int} {f : Int → Option Value} {x : Int} (h : PS N W m va us T (ws.take j) k A) (hi : ws[j]? = some i) (hx : ansAt T i k = x) (hA : firsts T (ws.take j) k = A)
    (hxA : x ∉ A) (hf1 : ∀ (j : Nat) (a : Int) (u : Value), A[j]? = some a → us[j]? = some u → f a = some u) (hf2 : ∀ a, a ∉ A → f a = none)
    (ha : AppOut N 3 W va (A ++ [x]).length (ints (A ++ [x])) va' W4) (hb : Below W4.heap.size W4 W5) (hrs : OwnRs N W5 ((va' :: us) ++ [v5]) (((A ++ [x]) :: partsW T (ws.take j) k A) ++ [[(i : Int)]]))
    (hm5 : MapF W5 m .i64 f) (hm6 : MapF W6 m .i64 (fun y => if y = x then some v5 else f y)) (hg : W5.grownBy W6 (some m)) :
    PS N W6 m va' (us ++ [v5]) T (ws.take (j + 1)) k (A ++ [x]) := by
  subst hx
  have hul := h.len
  refine ⟨h.mN, ⟨_, hm6, fun q a u' hq hu' => ?_, fun a ha' => ?_⟩, ?_⟩
  · by_cases hql : q < A.length
    · rw [List.getElem?_append_left hql] at hq
      rw [List.getElem?_append_left (by omega)] at hu'
      have hne : a ≠ ansAt T i k := fun e => hxA (by rw [← e]; exact List.mem_of_getElem? hq)
      rw [if_neg hne]
      exact hf1 q a u' hq hu'
    · rw [List.getElem?_append_right (by omega)] at hq hu'
      have hq2 : q - A.length = 0 := by have := (List.getElem?_eq_some_iff.1 hq).1; simp at this; omega
      rw [hq2] at hq
      rw [hul, hq2] at hu'
      simp at hq hu'
      subst hq hu'
      simp
  · have hne : a ≠ ansAt T i k := fun e => ha' (by rw [e]; simp)
    rw [if_neg hne]
    exact hf2 a (fun h => ha' (List.mem_append_left _ h))
  · have e : partsW T (ws.take (j + 1)) k (A ++ [ansAt T i k]) = partsW T (ws.take j) k A ++ [[(i : Int)]] := by
      have h1 : partsW T (ws.take (j + 1)) k (A ++ [ansAt T i k]) = partsW T (ws.take (j + 1)) k A ++ partsW T (ws.take (j + 1)) k [ansAt T i k] := by unfold partsW; rw [List.map_append]
      rw [h1, partsW_same hi hxA]
      congr 1
      unfold partsW
      rw [List.map_cons, List.map_nil, withW_first hi (by rw [hA]; exact hxA)]
      rfl
    rw [e]
    have h2 := hrs.mapset hm5 hg
    simpa using h2
end Go.Proofs.Ytmkkegigajmhkaa

