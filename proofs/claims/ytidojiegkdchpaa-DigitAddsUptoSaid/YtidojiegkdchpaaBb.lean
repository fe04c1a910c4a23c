/- Two checked strings differ in more than one place (plain law). -/
import Derived.Test.YtidojiegkdchpaaAz
namespace Go.Proofs.Ytidojiegkdchpaa
open Go.RowKit Go.Maps

theorem p31 {w z : Int} (h1 : 1 ≤ w) (h2 : w ≤ 30) (h3 : -30 ≤ z) (h4 : z ≤ 30) (h : (w * z) % 31 = 0) : z = 0 := by
  have key : ∀ (a : Fin 31) (b : Fin 61), 1 ≤ a.val → (((a.val : Nat) : Int) * (((b.val : Nat) : Int) - 30)) % 31 = 0 → b.val = 30 := by decide +kernel
  have e1 : ((w.toNat : Nat) : Int) = w := by omega
  have e2 : (((z + 30).toNat : Nat) : Int) = z + 30 := by omega
  have := key ⟨w.toNat, by omega⟩ ⟨(z + 30).toNat, by omega⟩ (by show 1 ≤ w.toNat; omega) (by
    show (((w.toNat : Nat) : Int) * ((((z + 30).toNat : Nat) : Int) - 30)) % 31 = 0
    rw [e1, e2, show z + 30 - 30 = z by omega]; exact h)
  have h5 : (z + 30).toNat = 30 := this
  omega
theorem powF_pos (k : Nat) : 1 ≤ powF k ∧ powF k ≤ 30 := by
  induction k with
  | zero => decide
  | succ k ih => unfold powF; omega
theorem wtsF_at {n k : Nat} (h : k < n) : (wtsF n)[k]? = some (powF (n - 1 - k)) := by
  induction n generalizing k with
  | zero => omega
  | succ n ih =>
    cases k with
    | zero => simp [wtsF]
    | succ k =>
      rw [wtsF, List.getElem?_cons_succ, ih (by omega)]
      congr 2
      omega
theorem dot_set {ws vs : List Int} {k : Nat} {x v : Int} (hw : ws[k]? = some x) (hv : vs[k]? = some v) (c : Int) : dotF ws (vs.set k c) = dotF ws vs + x * (c - v) := by
  induction ws generalizing vs k with
  | nil => simp at hw
  | cons y ws ih =>
    cases vs with
    | nil => simp at hv
    | cons u vs =>
      cases k with
      | zero =>
        simp at hw hv
        subst hw hv
        simp only [dotF, prods, List.set_cons_zero, List.zipWith_cons_cons, List.sum_cons]
        rw [Int.mul_sub]; omega
      | succ k =>
        have := ih (vs := vs) (k := k) (by simpa using hw) (by simpa using hv)
        simp only [dotF, prods, List.set_cons_succ, List.zipWith_cons_cons, List.sum_cons] at this ⊢
        rw [this]; omega
theorem vals_un (s : ByteArray) : valsF s = (un s).map valF := rfl
theorem tot_dot (s : ByteArray) : totF (valsF s) 1 = dotF (wtsF s.size) (valsF s) % 31 := by rw [totF_dot, valsF_len]
theorem vals_ch {s : ByteArray} {k c : Nat} (hk : k < s.size) (hc : c < 31) : valsF (chF s k c) = (valsF s).set k (c : Int) := by
  rw [vals_un, un_ch hk, List.map_set, ← vals_un, val_char c (by omega) (by omega)]
theorem vals_at {s : ByteArray} (hok : okF s = true) {k : Nat} (hk : k < s.size) : ∃ v : Int, (valsF s)[k]? = some v ∧ 0 ≤ v ∧ v ≤ 30 := by
  obtain ⟨v, hv⟩ := elem_at (l := valsF s) (k := k) (by rw [valsF_len]; exact hk)
  have := vals_mid hok v (List.mem_of_getElem? hv)
  exact ⟨v, hv, this.1, this.2⟩
theorem val_inj {a b : UInt8} (h : valF a = valF b) (ha : 0 ≤ valF a) : a = b := by
  have key : ∀ c : UInt8, 0 ≤ valF c → charF (valF c) = c := by
    intro c hc
    unfold valF at hc ⊢
    split
    · rename_i h1
      rw [if_pos h1] at hc
      unfold charF
      rw [List.getD_eq_getElem?_getD]
      have : alphaL[alphaL.idxOf c]? = some c := by rw [List.getElem?_eq_getElem (show alphaL.idxOf c < alphaL.length from h1)]; simp
      simp [this]
    · rename_i h1
      rw [if_neg h1] at hc
      omega
  rw [← key a ha, ← key b (by omega), h]
theorem vals_inj {s t : ByteArray} (hs : okF s = true) (h : valsF s = valsF t) : s = t := by
  refine un_inj ?_
  rw [vals_un, vals_un] at h
  have hl : (un s).length = (un t).length := by have := congrArg List.length h; simpa using this
  apply List.ext_getElem hl
  intro i h1 h2
  have e : valF ((un s)[i]) = valF ((un t)[i]) := by
    have := congrArg (fun l => l[i]?) h
    simp only [List.getElem?_map, List.getElem?_eq_getElem h1, List.getElem?_eq_getElem h2, Option.map_some] at this
    exact Option.some.inj this
  refine val_inj e ?_
  have := vals_mid hs (valF ((un s)[i])) (by rw [vals_un]; exact List.mem_map.2 ⟨_, List.getElem_mem h1, rfl⟩)
  exact this.1
theorem ok_ch {s : ByteArray} {k c : Nat} (hok : okF s = true) (hk : k < s.size) (hc : c < 31) : okF (chF s k c) = true := by
  unfold okF
  rw [vals_ch hk hc, List.all_eq_true]
  intro x hx
  rcases List.mem_or_eq_of_mem_set hx with h | h
  · have := vals_mid hok x h; simpa using this.1
  · rw [h]; simp
/-- two changes in one place that both check are the same -/
theorem ch_uniq {s : ByteArray} {k c c' : Nat} (hok : okF s = true) (hk : k < s.size) (hc : c < 31) (hc' : c' < 31) (h : totF (valsF (chF s k c)) 1 = 0) (h' : totF (valsF (chF s k c')) 1 = 0) : c = c' := by
  obtain ⟨v, hv, v0, v1⟩ := vals_at hok hk
  rw [tot_dot, chF_size hk, vals_ch hk hc, dot_set (wtsF_at hk) hv] at h
  rw [tot_dot, chF_size hk, vals_ch hk hc', dot_set (wtsF_at hk) hv] at h'
  have pw := powF_pos (s.size - 1 - k)
  generalize powF (s.size - 1 - k) = w at *
  generalize dotF (wtsF s.size) (valsF s) = D at *
  have hz : (w * ((c : Int) - c')) % 31 = 0 := by
    have e : w * ((c : Int) - c') = (D + w * ((c : Int) - v)) - (D + w * ((c' : Int) - v)) := by
      rw [Int.mul_sub, Int.mul_sub, Int.mul_sub]; omega
    rw [e]; omega
  have := p31 pw.1 pw.2 (by omega) (by omega) hz
  omega
theorem ch_back {s : ByteArray} {k : Nat} {v : Int} (hok : okF s = true) (hk : k < s.size) (hv : (valsF s)[k]? = some v) (v0 : 0 ≤ v) (v1 : v ≤ 30) (c : Nat) (hc : c < 31) : chF (chF s k c) k v.toNat = s := by
  refine (vals_inj hok ?_).symm
  have hvn : ((v.toNat : Nat) : Int) = v := by omega
  rw [vals_ch (by rw [chF_size hk]; exact hk) (by omega), vals_ch hk hc, List.set_set, hvn]
  apply List.ext_getElem?
  intro i
  by_cases hi : k = i
  · subst hi
    rw [hv, List.getElem?_set_self (by rw [valsF_len]; exact hk)]
  · rw [List.getElem?_set_ne hi]
theorem ch_same {s : ByteArray} {k c : Nat} (hok : okF s = true) (hk : k < s.size) (hc : c < 31) (h0 : totF (valsF s) 1 = 0) (h : totF (valsF (chF s k c)) 1 = 0) : chF s k c = s := by
  obtain ⟨v, hv, v0, v1⟩ := vals_at hok hk
  have hb := ch_back hok hk hv v0 v1 c hc
  have hs : chF s k v.toNat = s := by
    refine (vals_inj hok ?_).symm
    have hvn : ((v.toNat : Nat) : Int) = v := by omega
    rw [vals_ch hk (by omega), hvn]
    apply List.ext_getElem?
    intro i
    by_cases hi : k = i
    · subst hi
      rw [hv, List.getElem?_set_self (by rw [valsF_len]; exact hk)]
    · rw [List.getElem?_set_ne hi]
  have := ch_uniq hok hk hc (c' := v.toNat) (by omega) h (by rw [hs]; exact h0)
  rw [this]; exact hs
theorem vals_ex {s : ByteArray} {k : Nat} {x y : Int} (hk : k + 1 < s.size) (hx : (valsF s)[k]? = some x) (hy : (valsF s)[k + 1]? = some y) : valsF (exF s k) = ((valsF s).set k y).set (k + 1) x := by
  obtain ⟨a, ha⟩ := elem_at (l := un s) (k := k) (by rw [un_len]; omega)
  obtain ⟨b, hb⟩ := elem_at (l := un s) (k := k + 1) (by rw [un_len]; omega)
  rw [vals_un, un_ex hk ha hb, List.map_set, List.map_set, ← vals_un]
  rw [vals_un, List.getElem?_map, ha] at hx
  rw [vals_un, List.getElem?_map, hb] at hy
  have e1 : valF a = x := Option.some.inj hx
  have e2 : valF b = y := Option.some.inj hy
  rw [e1, e2]
theorem ok_ex {s : ByteArray} {k : Nat} (hok : okF s = true) (hk : k + 1 < s.size) : okF (exF s k) = true := by
  obtain ⟨x, hx, x0, x1⟩ := vals_at hok (k := k) (by omega)
  obtain ⟨y, hy, y0, y1⟩ := vals_at hok (k := k + 1) hk
  unfold okF
  rw [vals_ex hk hx hy, List.all_eq_true]
  intro z hz
  rcases List.mem_or_eq_of_mem_set hz with h | h
  · rcases List.mem_or_eq_of_mem_set h with h | h
    · have := vals_mid hok z h; simpa using this.1
    · rw [h]; simpa using y0
  · rw [h]; simpa using x0
theorem ex_back {s : ByteArray} {k : Nat} (hok : okF s = true) (hk : k + 1 < s.size) : exF (exF s k) k = s := by
  obtain ⟨x, hx, _⟩ := vals_at hok (k := k) (by omega)
  obtain ⟨y, hy, _⟩ := vals_at hok (k := k + 1) hk
  have hl := valsF_len s
  have h1 := vals_ex hk hx hy
  have g1 : (valsF (exF s k))[k]? = some y := by rw [h1, List.getElem?_set_ne (by omega), List.getElem?_set_self (by omega)]
  have g2 : (valsF (exF s k))[k + 1]? = some x := by rw [h1, List.getElem?_set_self (by rw [List.length_set]; omega)]
  refine (vals_inj hok ?_).symm
  rw [vals_ex (by rw [exF_size hk]; exact hk) g1 g2, h1]
  apply List.ext_getElem?
  intro i
  by_cases hi1 : k + 1 = i
  · subst hi1
    rw [List.getElem?_set_self (by simp only [List.length_set]; omega), hy]
  · rw [List.getElem?_set_ne hi1]
    by_cases hi : k = i
    · subst hi
      rw [List.getElem?_set_self (by simp only [List.length_set]; omega), hx]
    · rw [List.getElem?_set_ne hi, List.getElem?_set_ne hi1, List.getElem?_set_ne hi]
theorem ex_same0 {s : ByteArray} {k : Nat} (hok : okF s = true) (hk : k + 1 < s.size) (h0 : totF (valsF s) 1 = 0) (h : totF (valsF (exF s k)) 1 = 0) : exF s k = s := by
  obtain ⟨x, hx, x0, x1⟩ := vals_at hok (k := k) (by omega)
  obtain ⟨y, hy, y0, y1⟩ := vals_at hok (k := k + 1) hk
  have hw1 := wtsF_at (n := s.size) (k := k) (by omega)
  have hw2 := wtsF_at (n := s.size) (k := k + 1) hk
  have hvx := vals_ex hk hx hy
  have d1 := dot_set hw1 hx y
  have d2 := dot_set (vs := (valsF s).set k y) hw2 (by rw [List.getElem?_set_ne (by omega)]; exact hy) x
  rw [← hvx, d1] at d2
  rw [tot_dot, exF_size hk, d2] at h
  rw [tot_dot] at h0
  have hp : powF (s.size - 1 - k) = powF (s.size - 1 - (k + 1)) * 3 % 31 := by
    rw [show s.size - 1 - k = (s.size - 1 - (k + 1)) + 1 by omega]; rfl
  have pw := powF_pos (s.size - 1 - (k + 1))
  rw [hp] at h
  clear d1 d2 hw1 hw2 hp
  generalize powF (s.size - 1 - (k + 1)) = w at *
  generalize dotF (wtsF s.size) (valsF s) = D at *
  have hz : ((w * 3 % 31 - w) * (y - x)) % 31 = 0 := by
    have e : (w * 3 % 31 - w) * (y - x) = (D + w * 3 % 31 * (y - x) + w * (x - y)) - D := by
      rw [Int.sub_mul, show x - y = -(y - x) by omega, Int.mul_neg]; omega
    rw [e]; omega
  have hu : 1 ≤ (w * 3 % 31 - w) % 31 ∧ (w * 3 % 31 - w) % 31 ≤ 30 := by omega
  have hz2 : (((w * 3 % 31 - w) % 31) * (y - x)) % 31 = 0 := by
    rw [Int.mul_emod, Int.emod_emod, ← Int.mul_emod]; exact hz
  have := p31 hu.1 hu.2 (by omega) (by omega) hz2
  refine vals_inj (ok_ex hok hk) ?_
  rw [hvx]
  have hxy : y = x := by omega
  subst hxy
  apply List.ext_getElem?
  intro i
  have hl := valsF_len s
  by_cases hi1 : k + 1 = i
  · subst hi1
    rw [List.getElem?_set_self (by simp only [List.length_set]; omega), hy]
  · rw [List.getElem?_set_ne hi1]
    by_cases hi : k = i
    · subst hi
      rw [List.getElem?_set_self (by omega), hx]
    · rw [List.getElem?_set_ne hi]
theorem check_zero {s : ByteArray} (h : checkF s = 0) : okF s = true ∧ 2 ≤ s.size ∧ s.size ≤ 64 ∧ totF (valsF s) 1 = 0 := by
  rcases check_cases s with ⟨_, e⟩ | ⟨_, _, e⟩ | ⟨_, _, _, e⟩ | ⟨_, _, _, _, e⟩ | ⟨a, b, c, d, _⟩
  · omega
  · omega
  · omega
  · omega
  · exact ⟨a, b, c, d⟩
theorem near_none {s : ByteArray} (h : checkF s = 0) : nearF s = [] := by
  obtain ⟨a, b, c, d⟩ := check_zero h
  have hno : nearL s = [] := by
    rw [List.eq_nil_iff_forall_not_mem]
    intro y hy
    have hg := (nearL_mem hy).1
    have hy0 := (check_zero (good_check hg)).2.2.2
    have hne : y ≠ s := by
      unfold goodB at hg
      simp only [Bool.and_eq_true, Bool.not_eq_true', decide_eq_false_iff_not] at hg
      exact hg.1
    unfold nearL nlF at hy
    obtain ⟨k, hk, hy⟩ := List.mem_flatMap.1 hy
    have hks : k < s.size := List.mem_range.1 hk
    rcases List.mem_append.1 hy with e | e
    · unfold rowF at e
      obtain ⟨e1, _⟩ := List.mem_filter.1 e
      obtain ⟨z, hz, rfl⟩ := List.mem_map.1 e1
      exact hne (ch_same a hks (List.mem_range.1 hz) d hy0)
    · unfold exgF at e
      split at e
      · rename_i hc
        rw [List.mem_singleton.1 e] at hy0 hne
        exact hne (ex_same0 a hc.1 d hy0)
      · cases e
  unfold nearF
  split
  · rw [hno]; rfl
  · rfl
theorem filter_one {α β : Type} (p : β → Bool) (f : α → β) (l : List α) (hn : l.Nodup) (h : ∀ a b, a ∈ l → b ∈ l → p (f a) = true → p (f b) = true → a = b) : ((l.map f).filter p).length ≤ 1 := by
  induction l with
  | nil => simp
  | cons a l ih =>
    obtain ⟨n1, n2⟩ := List.nodup_cons.1 hn
    rw [List.map_cons, List.filter_cons]
    split
    · rename_i ha
      have : (l.map f).filter p = [] := by
        rw [List.filter_eq_nil_iff]
        intro b hb hpb
        obtain ⟨c, hc, rfl⟩ := List.mem_map.1 hb
        have := h a c (by simp) (by simp [hc]) ha hpb
        subst this
        exact n1 hc
      rw [this]; simp
    · exact ih n2 fun x y hx hy => h x y (by simp [hx]) (by simp [hy])
theorem row_one {s : ByteArray} {k : Nat} (hok : okF s = true) (hk : k < s.size) : (rowF s k 31).length ≤ 1 := by
  unfold rowF
  refine filter_one _ _ _ List.nodup_range fun a b ha hb h1 h2 => ?_
  exact ch_uniq hok hk (List.mem_range.1 ha) (List.mem_range.1 hb) (check_zero (good_check h1)).2.2.2 (check_zero (good_check h2)).2.2.2
theorem nl_len2 {s : ByteArray} (hok : okF s = true) (k : Nat) (hk : k ≤ s.size) : (nlF s k).length ≤ 2 * k := by
  induction k with
  | zero => simp [nlF]
  | succ k ih =>
    rw [nlF_succ, List.length_append, List.length_append]
    have := ih (by omega)
    have := row_one hok (k := k) (by omega)
    have := exgF_len s k
    omega
theorem near_len {s : ByteArray} (hok : okF s = true) (hs : 1 ≤ s.size) : (nearF s).length ≤ 2 * s.size - 1 := by
  unfold nearF
  split
  · refine Nat.le_trans (putsB_len _) ?_
    unfold nearL
    obtain ⟨n, hn⟩ : ∃ n, s.size = n + 1 := ⟨s.size - 1, by omega⟩
    rw [hn, nlF_no s n (by omega), List.length_append]
    have := nl_len2 hok n (by omega)
    have := row_one hok (k := n) (by omega)
    omega
  · simp
end Go.Proofs.Ytidojiegkdchpaa
