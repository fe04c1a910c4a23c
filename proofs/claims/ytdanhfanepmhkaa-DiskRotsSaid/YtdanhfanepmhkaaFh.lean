/- Plain laws of a disk that never trips, and has no worn sector. -/
import Derived.Test.YtdanhfanepmhkaaFg
namespace Go.Proofs.Ytdanhfanepmhkaa
open Go.RowKit Go.Maps Go.Sort

structure Dk.quiet (D : Dk) : Prop where
  ok : D.ok
  W : ∀ j, D.W j = false
  off : D.off = false
  left : D.left = -1
theorem new_quiet {n : Nat} (h1 : 1 ≤ n) (h2 : n ≤ 4096) : (newD n).quiet := ⟨newD_ok h1 h2, fun _ => rfl, rfl, rfl⟩
def ats (D : Dk) : List ByteArray := (List.range D.S.length).map D.at
theorem ats_len (D : Dk) : (ats D).length = D.S.length := by unfold ats; simp
theorem ats_at {D : Dk} {k : Nat} (h : k < D.S.length) : (ats D)[k]? = some (D.at k) := by
  unfold ats; rw [List.getElem?_map, List.getElem?_range h]; rfl
theorem ats_ext {D : Dk} {l : List ByteArray} (hl : l.length = D.S.length) (h : ∀ k, k < D.S.length → l[k]? = some (D.at k)) : ats D = l := by
  refine List.ext_getElem? fun k => ?_
  rcases Nat.lt_or_ge k D.S.length with hk | hk
  · rw [ats_at hk, h k hk]
  · rw [List.getElem?_eq_none (by rw [ats_len]; omega), List.getElem?_eq_none (by omega)]
theorem ats_new (n : Nat) : ats (newD n) = List.replicate n zero64 := by
  have hl : (newD n).S.length = n := by simp [newD]
  refine ats_ext (by rw [hl]; simp) fun k hk => ?_
  rw [hl] at hk
  rw [List.getElem?_replicate, if_pos hk]
  unfold Dk.at newD
  simp [hk]

theorem mix_all {u t : ByteArray} (hu : u.size = 64) (ht : t.size = 64) : mix 64 u t = u := by
  have h1 : u.data.size = 64 := hu
  have h2 : t.data.size = 64 := ht
  unfold mix
  rw [List.take_of_length_le (by simp; omega), List.drop_of_length_le (by simp; omega), List.append_nil]

theorem quiet_stepE {D : Dk} (h : D.quiet) : D.stepE = 0 := by unfold Dk.stepE; rw [if_neg (by rw [h.left]; omega)]
theorem quiet_stepD {D : Dk} (h : D.quiet) : D.stepD = D := by unfold Dk.stepD; rw [if_neg (by rw [h.left]; omega), if_neg (by rw [h.left]; omega)]

theorem quiet_settle {D : Dk} (h : D.quiet) {k : Nat} (hk : k < D.S.length) {u : ByteArray} (hP : D.P k = some u) : (D.settle k 64).quiet ∧ ∀ j, j < D.S.length → (D.settle k 64).at j = D.at j := by
  refine ⟨⟨h.ok.settle hk hP 64, h.W, h.off, h.left⟩, fun j hj => ?_⟩
  obtain ⟨t, ht⟩ := elem_at hk
  have hat : D.at k = u := by unfold Dk.at; rw [hP]; rfl
  have hu := h.ok.psz k u hP
  have htz := h.ok.ssz k t ht
  have hm : mix (max 0 (min (64 : Int) 64)).toNat u t = u := by
    have : (max 0 (min (64 : Int) 64)).toNat = 64 := by omega
    rw [this]; exact mix_all hu htz
  by_cases e : j = k
  · subst e
    have h1 : (D.settle j 64).P j = none := by unfold Dk.settle; simp
    have h2 : (D.settle j 64).S[j]? = some u := by
      unfold Dk.settle
      dsimp only
      rw [if_neg (by rw [h.W j]; simp), List.getElem?_set_self hk, hat, ht]
      simp only [Option.getD_some, hm]
    rw [hat]
    unfold Dk.at
    rw [h1, h2]; rfl
  · have h1 : (D.settle k 64).P j = D.P j := by unfold Dk.settle; simp [e]
    have h2 : (D.settle k 64).S[j]? = D.S[j]? := by
      unfold Dk.settle
      dsimp only
      rw [if_neg (by rw [h.W k]; simp), List.getElem?_set_ne (Ne.symm e)]
    unfold Dk.at
    rw [h1, h2]

theorem quiet_settles : ∀ (l : List Nat) {D : Dk}, D.quiet → l.Nodup → (∀ k, k ∈ l → k < D.S.length ∧ (D.P k).isSome = true) →
    (D.settles (l.map fun k => (k, 64))).quiet ∧ (∀ j, j < D.S.length → (D.settles (l.map fun k => (k, 64))).at j = D.at j) ∧ ∀ j, (D.settles (l.map fun k => (k, 64))).P j = if j ∈ l then none else D.P j
  | [], D, h, _, _ => ⟨h, fun _ _ => rfl, fun _ => by simp [Dk.settles]⟩
  | k :: r, D, h, hn, hl => by
    obtain ⟨h1, h2⟩ := hl k (by simp)
    obtain ⟨u, hu⟩ := Option.isSome_iff_exists.1 h2
    obtain ⟨q1, q2⟩ := quiet_settle h h1 hu
    have hn' := List.nodup_cons.1 hn
    have hP : ∀ j, (D.settle k 64).P j = if j = k then none else D.P j := fun j => rfl
    obtain ⟨r1, r2, r3⟩ := quiet_settles r q1 hn'.2 (fun j hj => by
      obtain ⟨a, b⟩ := hl j (by simp [hj])
      refine ⟨by rw [settle_len]; exact a, ?_⟩
      rw [hP, if_neg (show ¬ j = k from fun e => hn'.1 (by rw [← e]; exact hj))]; exact b)
    refine ⟨r1, fun j hj => (r2 j (by rw [settle_len]; exact hj)).trans (q2 j hj), fun j => ?_⟩
    refine (r3 j).trans ?_
    rw [hP]
    by_cases e : j = k
    · subst e; simp
    · simp [e]

theorem quiet_flush {D : Dk} (h : D.quiet) : D.flushE = 0 ∧ D.flushD.quiet ∧ D.flushD.S.length = D.S.length ∧ ats D.flushD = ats D ∧ D.flushD.S = ats D ∧ ∀ j, j < D.S.length → D.flushD.P j = none := by
  have hin : D.inB 0 = true := inB_iff.2 ⟨by omega, by have := h.ok.pos; omega⟩
  have hc : D.chk 0 = 0 := chk_in h.off hin
  have hE : D.flushE = 0 := by unfold Dk.flushE; rw [if_neg (by simp [hc]), quiet_stepE h]
  have hD : D.flushD = D.settles D.all64 := by unfold Dk.flushD; rw [if_neg (by simp [hc]), if_neg (by simp [quiet_stepE h]), quiet_stepD h]
  obtain ⟨r1, r2, r3⟩ := quiet_settles (keysN D.S.length D.P) h (keysN_nodup _ _) (fun k hk => keysN_mem hk)
  have hl : D.flushD.S.length = D.S.length := by rw [hD, settles_len]
  have hat : ∀ j, j < D.S.length → D.flushD.at j = D.at j := fun j hj => by rw [hD]; exact r2 j hj
  have hP : ∀ j, j < D.S.length → D.flushD.P j = none := fun j hj => by
    rw [hD]
    refine (r3 j).trans ?_
    split
    · rfl
    · rename_i hm
      cases hp : D.P j with
      | none => rfl
      | some u =>
        refine absurd ?_ hm
        unfold keysN
        exact List.mem_filter.2 ⟨List.mem_range.2 hj, by rw [hp]; rfl⟩
  refine ⟨hE, by rw [hD]; exact r1, hl, ?_, ?_, hP⟩
  · refine ats_ext (by rw [ats_len, hl]) fun k hk => ?_
    rw [hl] at hk
    rw [ats_at hk, hat k hk]
  · refine (ats_ext hl.symm.symm fun k hk => ?_).symm
    obtain ⟨s, hs⟩ := elem_at (l := D.flushD.S) (k := k) (by rw [hl]; exact hk)
    rw [hs, ← hat k hk]
    unfold Dk.at
    rw [hP k hk, hs]; rfl
theorem mount_none {D : Dk} (h : ∀ j, j < D.S.length → D.P j = none) (picks : List Int) : (D.mountD picks).S = D.S := by
  have hk : keysN D.S.length D.P = [] := by
    unfold keysN
    refine List.filter_eq_nil_iff.2 fun k hk => ?_
    rw [h k (List.mem_range.1 hk)]; simp
  unfold Dk.mountD Dk.torn
  rw [hk]
  rfl
theorem quiet_write {D : Dk} (h : D.quiet) (i : Int) (s : ByteArray) :
    (D.writeE i s ≠ 0 ∧ D.writeD i s = D) ∨ (∃ k : Nat, i = k ∧ k < D.S.length ∧ s.size = 64 ∧ D.writeE i s = 0 ∧ (D.writeD i s).quiet ∧ (D.writeD i s).S.length = D.S.length ∧ ats (D.writeD i s) = (ats D).set k s) := by
  by_cases hc : D.chk i = 0
  · obtain ⟨_, h2, h3⟩ := chk_zero hc
    by_cases hz : s.size = 64
    · right
      have hD : D.writeD i s = { D with P := fun j => if j = i.toNat then some s else D.P j } := by
        unfold Dk.writeD
        rw [if_neg (by simp [hc]), if_neg (by simp [hz]), if_neg (by simp [quiet_stepE h]), quiet_stepD h]
      refine ⟨i.toNat, by omega, by omega, hz, by unfold Dk.writeE; rw [if_neg (by simp [hc]), if_neg (by simp [hz]), quiet_stepE h], ?_, by rw [hD], ?_⟩
      · rw [hD]
        refine ⟨h.ok.ofP fun j t ht => ?_, h.W, h.off, h.left⟩
        split at ht
        · cases ht; exact hz
        · exact h.ok.psz j t ht
      · rw [hD]
        refine ats_ext (by rw [List.length_set, ats_len]) fun k hk => ?_
        have hk' : k < D.S.length := hk
        rw [List.getElem?_set]
        by_cases e : i.toNat = k
        · rw [if_pos e, if_pos (by rw [ats_len]; omega)]
          unfold Dk.at
          simp [e]
        · rw [if_neg e, ats_at hk']
          unfold Dk.at
          simp [Ne.symm e]
    · left
      exact ⟨by unfold Dk.writeE; rw [if_neg (by simp [hc]), if_pos hz]; omega, by unfold Dk.writeD; rw [if_neg (by simp [hc]), if_pos hz]⟩
  · left
    exact ⟨by unfold Dk.writeE; rw [if_pos hc]; exact hc, by unfold Dk.writeD; rw [if_pos hc]⟩
end Go.Proofs.Ytdanhfanepmhkaa
