/- Plain laws of tearing. -/
import Derived.Test.YtdanhfanepmhkaaFi
namespace Go.Proofs.Ytdanhfanepmhkaa
open Go.RowKit Go.Maps Go.Sort

theorem settle_off (D : Dk) (k : Nat) (n : Int) {j : Nat} (h : j ≠ k) : (D.settle k n).S[j]? = D.S[j]? := by
  unfold Dk.settle
  dsimp only
  split
  · rfl
  · rw [List.getElem?_set_ne (Ne.symm h)]
theorem settle_W (D : Dk) (k : Nat) (n : Int) : (D.settle k n).W = D.W := rfl
theorem settles_off : ∀ (l : List (Nat × Int)) (D : Dk) {j : Nat}, (∀ p, p ∈ l → p.1 ≠ j) → (D.settles l).S[j]? = D.S[j]?
  | [], _, _, _ => rfl
  | p :: r, D, j, h => (settles_off r (D.settle p.1 p.2) (fun q hq => h q (by simp [hq]))).trans (settle_off D p.1 p.2 (Ne.symm (h p (by simp))))
theorem settles_W (D : Dk) (l : List (Nat × Int)) : (D.settles l).W = D.W := by
  induction l generalizing D with
  | nil => rfl
  | cons p r ih => exact (ih _).trans rfl

/-- what a sector is once the torn writes lie on it -/
def Dk.tornAt (D : Dk) (picks : List Int) (j : Nat) (s : ByteArray) : ByteArray :=
  match D.P j with
  | none => s
  | some u => if D.W j = true then s else mix (max 0 (min (picks.getD (keysN j D.P).length 64) 64)).toNat u s

theorem torn_S (D : Dk) (picks : List Int) : ∀ (m : Nat), m ≤ D.S.length → ∀ (j : Nat) (s : ByteArray), D.S[j]? = some s →
    (D.settles (tornTo D.P picks m)).S[j]? = some (if j < m then D.tornAt picks j s else s)
  | 0, _, j, s, hs => by simp [tornTo, keysN, Dk.settles, hs]
  | m + 1, hm, j, s, hs => by
    have ih := torn_S D picks m (by omega)
    cases hP : D.P m with
    | none =>
      rw [tornTo_none hP, ih j s hs]
      by_cases e : j = m
      · subst e
        rw [if_neg (by omega), if_pos (by omega)]
        unfold Dk.tornAt; rw [hP]
      · by_cases h : j < m
        · rw [if_pos h, if_pos (by omega)]
        · rw [if_neg h, if_neg (by omega)]
    | some u =>
      rw [tornTo_some hP, settles_snoc]
      by_cases e : j = m
      · subst e
        have hlen : j < (D.settles (tornTo D.P picks j)).S.length := by rw [settles_len]; omega
        have hPj : (D.settles (tornTo D.P picks j)).P j = some u := (settles_P D _ j (fun p hp => tornTo_lt hp)).trans hP
        have hat : (D.settles (tornTo D.P picks j)).at j = u := by unfold Dk.at; rw [hPj]; rfl
        have hSj := ih j s hs
        rw [if_neg (by omega)] at hSj
        rw [if_pos (by omega)]
        unfold Dk.settle
        dsimp only
        rw [settles_W]
        unfold Dk.tornAt
        rw [hP]
        dsimp only
        split
        · exact hSj
        · rw [List.getElem?_set_self hlen, hat, hSj]; rfl
      · rw [settle_off _ _ _ e, ih j s hs]
        by_cases h : j < m
        · rw [if_pos h, if_pos (by omega)]
        · rw [if_neg h, if_neg (by omega)]

theorem mount_S (D : Dk) (picks : List Int) {j : Nat} {s : ByteArray} (hs : D.S[j]? = some s) : (D.mountD picks).S[j]? = some (D.tornAt picks j s) := by
  have h := torn_S D picks D.S.length (Nat.le_refl _) j s hs
  rw [if_pos (List.getElem?_eq_some_iff.1 hs).1] at h
  exact h
theorem mount_len (D : Dk) (picks : List Int) : (D.mountD picks).S.length = D.S.length := settles_len D _
theorem mount_keys (D : Dk) (picks : List Int) : keysOf (D.mountD picks).S.length (pendD (D.mountD picks).P) = [] := by
  have hP : ∀ j, j < D.S.length → (D.mountD picks).P j = none := by
    have key : ∀ (m : Nat), m ≤ D.S.length → ∀ j, j < m → (D.settles (tornTo D.P picks m)).P j = none := by
      intro m
      induction m with
      | zero => intro _ j hj; omega
      | succ m ih =>
        intro hm j hj
        cases hPm : D.P m with
        | none =>
          rw [tornTo_none hPm]
          by_cases e : j = m
          · subst e
            exact (settles_P D _ j (fun p hp => tornTo_lt hp)).trans hPm
          · exact ih (by omega) j (by omega)
        | some u =>
          rw [tornTo_some hPm, settles_snoc]
          show (if j = m then none else _) = none
          by_cases e : j = m
          · rw [if_pos e]
          · rw [if_neg e]; exact ih (by omega) j (by omega)
    exact fun j hj => key D.S.length (Nat.le_refl _) j hj
  rw [mount_len, keysOf_pend]
  unfold keysN
  rw [List.map_eq_nil_iff, List.filter_eq_nil_iff]
  intro k hk
  rw [hP k (List.mem_range.1 hk)]; simp
end Go.Proofs.Ytdanhfanepmhkaa
