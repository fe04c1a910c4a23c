/- The near strings (plain law); the reference's Near. -/
import Derived.Test.YtidojiegkdchpaaAp
namespace Go.Proofs.Ytidojiegkdchpaa
open Go.RowKit Go.Maps

theorem un_len (s : ByteArray) : (un s).length = s.size := by unfold un; rw [Array.length_toList]; rfl
theorem un_append (s t : ByteArray) : un (s ++ t) = un s ++ un t := by unfold un; rw [ByteArray.data_append, Array.toList_append]
theorem un_ext (s : ByteArray) (a b : Nat) : un (s.extract a b) = ((un s).drop a).take (b - a) := by
  unfold un
  rw [ByteArray.data_extract, Array.toList_extract]
theorem un_at {s : ByteArray} {k : Nat} (hk : k < s.size) : (un s)[k]? = some (s[k]'hk) := by
  unfold un
  have h' : k < s.data.size := hk
  rw [Array.getElem?_toList, Array.getElem?_eq_getElem h']
  rfl
theorem drop_cons {α : Type} {l : List α} {k : Nat} {x : α} (h : l[k]? = some x) : l.drop k = x :: l.drop (k + 1) := by
  obtain ⟨h1, h2⟩ := List.getElem?_eq_some_iff.1 h
  rw [List.drop_eq_getElem_cons h1, h2]
theorem un_ch {s : ByteArray} {k c : Nat} (hk : k < s.size) : un (chF s k c) = (un s).set k (charF c) := by
  unfold chF
  rw [un_append, un_append, un_ext, un_ext, un_bs, List.set_eq_take_append_cons_drop, if_pos (by rw [un_len]; exact hk)]
  rw [List.drop_zero, Nat.sub_zero, List.take_of_length_le (l := (un s).drop (k + 1)) (by rw [List.length_drop, un_len]; omega)]
  simp
theorem un_ex {s : ByteArray} {k : Nat} {a b : UInt8} (hk : k + 1 < s.size) (ha : (un s)[k]? = some a) (hb : (un s)[k + 1]? = some b) : un (exF s k) = ((un s).set k b).set (k + 1) a := by
  have hl := un_len s
  have e1 : ((un s).set k b).set (k + 1) a = (un s).take k ++ b :: a :: (un s).drop (k + 2) := by
    have e2 : (un s).set k b = (un s).take k ++ b :: (un s).drop (k + 1) := by rw [List.set_eq_take_append_cons_drop, if_pos (by omega)]
    have hlt : ((un s).take k).length = k := by rw [List.length_take]; omega
    rw [e2, List.set_append_right _ _ (by omega), hlt, show k + 1 - k = 1 by omega, drop_cons hb]
    rfl
  rw [e1]
  unfold exF
  rw [un_append, un_append, un_append, un_ext, un_ext, un_ext, un_ext, drop_cons ha, drop_cons hb]
  rw [List.drop_zero, Nat.sub_zero, List.take_of_length_le (l := (un s).drop (k + 2)) (by rw [List.length_drop]; omega), show k + 2 - (k + 1) = 1 by omega, show k + 1 - k = 1 by omega]
  simp
theorem ex_same {s : ByteArray} {k : Nat} (hk : k + 1 < s.size) : exF s k = s ↔ s[k]'(by omega) = s[k + 1]'hk := by
  have ha := un_at (s := s) (k := k) (by omega)
  have hb := un_at (s := s) (k := k + 1) hk
  have hu := un_ex hk ha hb
  constructor
  · intro h
    rw [h] at hu
    have h1 : (un s)[k]? = some (s[k + 1]'hk) := by
      have : (un s)[k]? = (((un s).set k (s[k + 1]'hk)).set (k + 1) (s[k]'(by omega)))[k]? := by rw [← hu]
      rw [this, List.getElem?_set_ne (by omega), List.getElem?_set_self (by rw [un_len]; omega)]
    rw [ha] at h1
    exact Option.some.inj h1
  · intro h
    refine un_inj ?_
    rw [hu]
    apply List.ext_getElem?
    intro i
    by_cases h1 : i = k + 1
    · subst h1
      rw [List.getElem?_set_self (by rw [List.length_set, un_len]; omega), hb, h]
    · rw [List.getElem?_set_ne (by omega)]
      by_cases h2 : i = k
      · subst h2
        rw [List.getElem?_set_self (by rw [un_len]; omega), ha, h]
      · rw [List.getElem?_set_ne (by omega)]

def goodB (s t : ByteArray) : Bool := !decide (t = s) && decide (checkF t = 0)
def rowF (s : ByteArray) (k c : Nat) : List ByteArray := ((List.range c).map (chF s k)).filter (goodB s)
def exgF (s : ByteArray) (k : Nat) : List ByteArray := if k + 1 < s.size ∧ goodB s (exF s k) = true then [exF s k] else []
def nlF (s : ByteArray) (k : Nat) : List ByteArray := (List.range k).flatMap fun k => rowF s k 31 ++ exgF s k
def nearL (s : ByteArray) : List ByteArray := nlF s s.size
def nearOk (s : ByteArray) : Bool := okF s && decide (2 ≤ s.size) && decide (s.size ≤ 64)
def nearF (s : ByteArray) : List ByteArray := if nearOk s = true then putsB (nearL s) else []
theorem rowF_succ (s : ByteArray) (k c : Nat) : rowF s k (c + 1) = rowF s k c ++ if goodB s (chF s k c) = true then [chF s k c] else [] := by
  unfold rowF
  rw [List.range_succ, List.map_append, List.filter_append]
  congr 1
  cases h : goodB s (chF s k c) <;> simp [h]
theorem nlF_succ (s : ByteArray) (k : Nat) : nlF s (k + 1) = nlF s k ++ (rowF s k 31 ++ exgF s k) := by unfold nlF; rw [List.range_succ, List.flatMap_append]; simp
theorem rowF_len (s : ByteArray) (k c : Nat) : (rowF s k c).length ≤ c := by
  unfold rowF
  have := List.length_filter_le (goodB s) ((List.range c).map (chF s k))
  simpa using this
theorem exgF_len (s : ByteArray) (k : Nat) : (exgF s k).length ≤ 1 := by unfold exgF; split <;> simp
theorem nlF_len (s : ByteArray) (k : Nat) : (nlF s k).length ≤ 32 * k := by
  induction k with
  | zero => simp [nlF]
  | succ k ih =>
    rw [nlF_succ, List.length_append, List.length_append]
    have := rowF_len s k 31
    have := exgF_len s k
    omega
theorem near_cases (s : ByteArray) : (okF s = false ∧ nearF s = []) ∨ (okF s = true ∧ s.size < 2 ∧ nearF s = []) ∨ (okF s = true ∧ 2 ≤ s.size ∧ 64 < s.size ∧ nearF s = []) ∨ (okF s = true ∧ 2 ≤ s.size ∧ s.size ≤ 64 ∧ nearF s = putsB (nlF s s.size)) := by
  unfold nearF nearOk
  cases h : okF s
  · exact .inl ⟨rfl, by simp⟩
  · by_cases h2 : 2 ≤ s.size
    · by_cases h3 : s.size ≤ 64
      · exact .inr (.inr (.inr ⟨rfl, h2, h3, by simp [h2, h3, nearL]⟩))
      · exact .inr (.inr (.inl ⟨rfl, h2, by omega, by simp [h3]⟩))
    · exact .inr (.inl ⟨rfl, by omega, by simp [h2]⟩)

set_option maxRecDepth 100000 in
set_option maxHeartbeats 4000000 in
theorem rnear_any (s : ByteArray) (hs : s.size ≤ 1099511627776) (w : World) : Calls Try.prog 33 #[.string s] w fun e w' => ∃ v, e = .returned v ∧ RdS w' v (nearF s) ∧ Below w.heap.size w w' := by
  have RE := rvalues_any s hs w
  unfold RdOut at RE
  rcases near_cases s with ⟨e0, e1⟩ | ⟨e0, e1, e2⟩ | ⟨e0, e1, e2, e3⟩ | ⟨e0, e1, e2, e3⟩
  · rw [e0] at RE
    have E := Lib.hid e1
    clear e0 e1
    go_enter Try.func33, Try.ntmps33
    go_wp2_with fail
    refine RE.mono ?_
    rintro e w1 ⟨v, rfl, _, hb⟩
    go_wp2_with fail
    go_ret
    exact ⟨_, rfl, by rw [E.out]; exact RdS.none _, hb⟩
  · rw [e0] at RE
    have E := Lib.hid e2
    have q1 : (s.size : Int) < 2 := by omega
    clear e0 e1 e2
    go_enter Try.func33, Try.ntmps33
    go_wp2_with fail
    refine RE.mono ?_
    rintro e w1 ⟨v, rfl, _, hb⟩
    go_wp2_with fail
    go_ret
    exact ⟨_, rfl, by rw [E.out]; exact RdS.none _, hb⟩
  · rw [e0] at RE
    have E := Lib.hid e3
    have q1 : ¬ (s.size : Int) < 2 := by omega
    have q2 : (64 : Int) < (s.size : Int) := by omega
    clear e0 e1 e2 e3
    go_enter Try.func33, Try.ntmps33
    go_wp2_with fail
    refine RE.mono ?_
    rintro e w1 ⟨v, rfl, _, hb⟩
    go_wp2_with fail
    go_ret
    exact ⟨_, rfl, by rw [E.out]; exact RdS.none _, hb⟩
  · rw [e0] at RE
    have E := Lib.hid e3
    have q1 : ¬ (s.size : Int) < 2 := by omega
    have q2 : ¬ (64 : Int) < (s.size : Int) := by omega
    have hn64 : s.size ≤ 64 := e2
    clear e0 e1 e2 e3
    go_enter Try.func33, Try.ntmps33
    go_wp2_with fail
    refine RE.mono ?_
    rintro e w1 ⟨v, rfl, _, hb⟩
    clear RE
    go_wp2_with fail
    go_loopw [5, 6] (fun v5 i wr => ∃ k : Nat, k ≤ s.size ∧ i = .int .i64 k ∧ RdS wr v5 (putsB (nlF s k)) ∧ Below w.heap.size w wr) (fun _ i _ => s.size - (intOf i).toNat)
    case atStart => exact ⟨0, Nat.zero_le _, rfl, RdS.none _, hb⟩
    case round =>
      obtain ⟨k, hk, rfl, hrd, hbl⟩ := hrel
      by_cases hlt : k < s.size
      · have p1 : (k : Int) < (s.size : Int) := by omega
        have HR0 := Lib.hid hrd; have HB0 := Lib.hid hbl
        clear hrd hbl hb
        go_wp2_with fail
        · go_loopw [5, 7] (fun v5 i wr => ∃ c : Nat, c ≤ 31 ∧ i = .int .i64 c ∧ RdS wr v5 (putsB (nlF s k ++ rowF s k c)) ∧ Below w.heap.size w wr) (fun _ i _ => 31 - (intOf i).toNat)
          case atStart => exact ⟨0, Nat.zero_le _, rfl, by simpa [rowF] using HR0.out, HB0.out⟩
          case round =>
            obtain ⟨c, hc, rfl, hrd, hbl⟩ := hrel
            by_cases hc31 : c < 31
            · have p2 : (c : Int) < 31 := by omega
              have HR := Lib.hid hrd; have HB := Lib.hid hbl
              have CH := changed_any s k c hs hlt hc31 wr
              have CC := fun W => rcheck_any (chF s k c) (by rw [chF_size hlt]; exact hs) W
              have hsu := rowF_succ s k c
              have hll : (putsB (nlF s k ++ rowF s k c)).length ≤ 1000000 := by
                have := putsB_len (nlF s k ++ rowF s k c)
                rw [List.length_append] at this
                have := nlF_len s k
                have := rowF_len s k c
                omega
              clear hrd hbl
              by_cases hse : chF s k c = s
              · have hg : goodB s (chF s k c) = false := by unfold goodB; simp [hse]
                rw [hg, if_neg (by simp), List.append_nil] at hsu
                have HSU := Lib.hid hsu
                rw [hse] at CH
                have hb1 := bytes_eq s
                clear hsu hg hse CC hll
                go_wp2_with fail
                refine CH.mono ?_
                rintro e w2 ⟨rfl, hb2⟩
                clear CH
                go_wp2_with fail
                go_roundw
                case rel => exact ⟨c + 1, by omega, by go_num, by rw [HSU.out]; exact RdS.below HR.out hb2, HB.out.trans (hb2.mono HB.out.size)⟩
                case measure => simp [intOf]; omega
              · have hb1 := bytes_ne hse
                by_cases hck : checkF (chF s k c) = 0
                · have hg : goodB s (chF s k c) = true := by unfold goodB; simp [hse, hck]
                  rw [hg, if_pos rfl] at hsu
                  have HSU := Lib.hid hsu
                  rw [hck] at CC
                  have ha : nlF s k ++ (rowF s k c ++ [chF s k c]) = (nlF s k ++ rowF s k c) ++ [chF s k c] := by rw [List.append_assoc]
                  have HA := Lib.hid ha
                  clear hsu hg hse hck ha
                  generalize hT : chF s k c = T at *
                  have HT := Lib.hid hT; clear hT
                  go_wp2_with fail
                  refine CH.mono ?_
                  rintro e w2 ⟨rfl, hb2⟩
                  clear CH
                  go_wp2_with fail
                  refine (CC _).mono ?_
                  rintro e w3 ⟨rfl, hb3⟩
                  clear CC
                  have HB3 := Lib.hid ((HB.out.trans (hb2.mono HB.out.size)).trans (hb3.mono (Nat.le_trans HB.out.size hb2.size)))
                  have HR3 := Lib.hid (RdS.below (RdS.below HR.out hb2) hb3)
                  clear hb2 hb3
                  go_wp2_with fail
                  refine (put_any _ _ T w3 HR3.out hll).mono ?_
                  rintro e w4 ⟨u, rfl, hr4, hb4⟩
                  have HR4 := Lib.hid hr4
                  clear hr4
                  go_wp2_with fail
                  go_roundw
                  case rel => exact ⟨c + 1, by omega, by go_num, by rw [HSU.out, HA.out, putsB_snoc]; exact HR4.out, HB3.out.trans (hb4.mono HB3.out.size)⟩
                  case measure => simp [intOf]; omega
                · have hg : goodB s (chF s k c) = false := by unfold goodB; simp [hck]
                  rw [hg, if_neg (by simp), List.append_nil] at hsu
                  have HSU := Lib.hid hsu
                  have hz : (checkF (chF s k c) == 0) = false := by simpa using hck
                  clear hsu hg hse hck hll
                  generalize checkF (chF s k c) = z at *
                  generalize chF s k c = T at *
                  go_wp2_with fail
                  refine CH.mono ?_
                  rintro e w2 ⟨rfl, hb2⟩
                  clear CH
                  go_wp2_with fail
                  refine (CC _).mono ?_
                  rintro e w3 ⟨rfl, hb3⟩
                  clear CC
                  have HB3 := Lib.hid ((HB.out.trans (hb2.mono HB.out.size)).trans (hb3.mono (Nat.le_trans HB.out.size hb2.size)))
                  have HR3 := Lib.hid (RdS.below (RdS.below HR.out hb2) hb3)
                  clear hb2 hb3
                  go_wp2_with fail
                  go_roundw
                  case rel => exact ⟨c + 1, by omega, by go_num, by rw [HSU.out]; exact HR3.out, HB3.out⟩
                  case measure => simp [intOf]; omega
            · obtain rfl : c = 31 := by omega
              have HR := Lib.hid hrd; have HB := Lib.hid hbl
              clear hrd hbl HR0 HB0
              have hll : (putsB (nlF s k ++ rowF s k 31)).length ≤ 1000000 := by
                have := putsB_len (nlF s k ++ rowF s k 31)
                rw [List.length_append] at this
                have := nlF_len s k
                have := rowF_len s k 31
                omega
              have hsu := nlF_succ s k
              rw [← List.append_assoc] at hsu
              by_cases hnx : k + 1 < s.size
              · obtain ⟨k1, hk1⟩ : ∃ k1 : Nat, k1 = k + 1 := ⟨_, rfl⟩
                have hkk : (k : Int) + 1 = (k1 : Int) := by omega
                have hk1s : k1 < s.size := by omega
                have hk1z : (k1 : Int) < (s.size : Int) := by omega
                have hwk : IntKind.i64.wrap (k1 : Int) = (k1 : Int) := by rw [IntKind.wrap_i64]; omega
                have hd : decide ((k1 : Int) < (s.size : Int)) = true := decide_eq_true hk1z
                have hsame := ex_same hnx
                have hk1' : s[k + 1]'hnx = s[k1]'hk1s := by simp only [hk1]
                rw [hk1'] at hsame
                clear hk1' hk1
                by_cases heq : s[k]'hlt = s[k1]'hk1s
                · have hex : exgF s k = [] := by
                    unfold exgF goodB
                    rw [hsame.2 heq]
                    simp
                  rw [hex, List.append_nil] at hsu
                  have HSU := Lib.hid hsu
                  have hb1 : (((s[k]'hlt).toNat : Int) != ((s[k1]'hk1s).toNat : Int)) = false := by rw [heq]; simp
                  clear hsu hex hsame heq hll
                  go_wp2_with fail
                  go_quiet (fail)
                  go_wp2_with fail
                  go_roundw
                  case rel => exact ⟨k + 1, by omega, by go_num, by rw [HSU.out]; exact RdS.below HR.out (Below.dn (Below.refl _ _) _), Below.dn HB.out _⟩
                  case measure => simp [intOf]; omega
                · have hb1 : (((s[k]'hlt).toNat : Int) != ((s[k1]'hk1s).toNat : Int)) = true := by
                    simp only [bne_iff_ne, ne_eq]
                    exact fun e => heq (u8_eq (by omega))
                  have EX := fun W => exchanged_any s k hs hnx W
                  have CC := fun W => rcheck_any (exF s k) (by rw [exF_size hnx]; exact hs) W
                  have hne : exF s k ≠ s := fun e => heq (hsame.1 e)
                  clear hsame heq
                  by_cases hck : checkF (exF s k) = 0
                  · have hex : exgF s k = [exF s k] := by
                      unfold exgF goodB
                      rw [if_pos ⟨hnx, by simp [hne, hck]⟩]
                    rw [hex] at hsu
                    have HSU := Lib.hid hsu
                    rw [hck] at CC
                    clear hsu hex hne hck
                    generalize exF s k = T at *
                    go_wp2_with fail
                    refine wp_region_held (S := fun _ => True) (by kernel_rfl) ?_
                    have hdr : (wr).drew = { wr with drawn := (wr).drawn + 1 } := rfl
                    rw [← hdr]
                    clear hdr
                    have HBV := Lib.hid (Below.dn (Below.refl wr.heap.size wr) 1)
                    have HRV := Lib.hid (RdS.below HR.out HBV.out)
                    have HBW := Lib.hid (HB.out.trans (HBV.out.mono HB.out.size))
                    clear HBV
                    change wpAnyH _ _ _ _ _ _ _ _ (wr.drewN 1)
                    generalize wr.drewN 1 = V at HRV HBW ⊢
                    refine wpAnyHTake 0 (some 51) (.int .i64 k) rfl rfl (by kernel_rfl) (by kernel_rfl) (by kernel_rfl) (fun _ _ _ h => h) (by rfl) (fun _ _ => by rfl) (trivial) ?_
                    simp only [Act.put, List.setIfInBounds_toArray, List.set_cons_zero, List.set_cons_succ]
                    refine wpAnyHTake 1 (some 52) (.int .i64 k1) rfl rfl (by kernel_rfl) (by kernel_rfl) (by kernel_rfl) (fun _ _ _ h => h) (by rfl) (fun _ _ => by go_simp) (trivial) ?_
                    simp only [Act.put, List.setIfInBounds_toArray, List.set_cons_zero, List.set_cons_succ]
                    refine wpAnyHTake 2 (some 53) (.string s) rfl rfl (by kernel_rfl) (by kernel_rfl) (by kernel_rfl) (fun _ _ _ h => h) (by rfl) (fun _ _ => by rfl) (trivial) ?_
                    simp only [Act.put, List.setIfInBounds_toArray, List.set_cons_zero, List.set_cons_succ]
                    refine wpAnyHTake 3 (some 54) (.int .i64 s.size) rfl rfl (by kernel_rfl) (by kernel_rfl) (by kernel_rfl) (fun _ _ _ h => h) (by rfl) (fun _ _ => by go_simp) (trivial) ?_
                    simp only [Act.put, List.setIfInBounds_toArray, List.set_cons_zero, List.set_cons_succ]
                    refine wpAnyHTake 4 (some 55) (.bool true) rfl rfl (by kernel_rfl) (by kernel_rfl) (by kernel_rfl) (fun _ _ _ h => h) (by rfl) (fun _ _ => by go_simp) (trivial) ?_
                    simp only [Act.put, List.setIfInBounds_toArray, List.set_cons_zero, List.set_cons_succ]
                    refine wpAnyHTake 5 (some 56) (.bool true) rfl rfl (by kernel_rfl) (by kernel_rfl) (by kernel_rfl) (fun _ _ _ h => h) (by rfl) (fun _ _ => by rfl) (trivial) ?_
                    simp only [Act.put, List.setIfInBounds_toArray, List.set_cons_zero, List.set_cons_succ]
                    refine wpAnyHTake 6 (some 57) (.string s) rfl rfl (by kernel_rfl) (by kernel_rfl) (by kernel_rfl) (fun _ _ _ h => h) (by rfl) (fun _ _ => by rfl) (trivial) ?_
                    simp only [Act.put, List.setIfInBounds_toArray, List.set_cons_zero, List.set_cons_succ]
                    refine wpAnyHTake 7 (some 58) (.int .i64 k) rfl rfl (by kernel_rfl) (by kernel_rfl) (by kernel_rfl) (fun _ _ _ h => h) (by rfl) (fun _ _ => by rfl) (trivial) ?_
                    simp only [Act.put, List.setIfInBounds_toArray, List.set_cons_zero, List.set_cons_succ]
                    refine wpAnyHTake 8 (some 59) (.int .u8 (s[k]'hlt).toNat) rfl rfl (by kernel_rfl) (by kernel_rfl) (by kernel_rfl) (fun _ _ _ h => h) (by rfl) (fun _ _ => by go_simp) (trivial) ?_
                    simp only [Act.put, List.setIfInBounds_toArray, List.set_cons_zero, List.set_cons_succ]
                    refine wpAnyHTake 9 (some 60) (.string s) rfl rfl (by kernel_rfl) (by kernel_rfl) (by kernel_rfl) (fun _ _ _ h => h) (by rfl) (fun _ _ => by rfl) (trivial) ?_
                    simp only [Act.put, List.setIfInBounds_toArray, List.set_cons_zero, List.set_cons_succ]
                    refine wpAnyHTake 10 (some 61) (.int .i64 k) rfl rfl (by kernel_rfl) (by kernel_rfl) (by kernel_rfl) (fun _ _ _ h => h) (by rfl) (fun _ _ => by rfl) (trivial) ?_
                    simp only [Act.put, List.setIfInBounds_toArray, List.set_cons_zero, List.set_cons_succ]
                    refine wpAnyHTake 11 (some 62) (.int .i64 k1) rfl rfl (by kernel_rfl) (by kernel_rfl) (by kernel_rfl) (fun _ _ _ h => h) (by rfl) (fun _ _ => by go_simp) (trivial) ?_
                    simp only [Act.put, List.setIfInBounds_toArray, List.set_cons_zero, List.set_cons_succ]
                    refine wpAnyHTake 12 (some 63) (.int .u8 (s[k1]'hk1s).toNat) rfl rfl (by kernel_rfl) (by kernel_rfl) (by kernel_rfl) (fun _ _ _ h => h) (by rfl) (fun _ _ => by go_simp) (trivial) ?_
                    simp only [Act.put, List.setIfInBounds_toArray, List.set_cons_zero, List.set_cons_succ]
                    refine wpAnyHTake 13 (some 64) (.bool true) rfl rfl (by kernel_rfl) (by kernel_rfl) (by kernel_rfl) (fun _ _ _ h => h) (by rfl) (fun _ _ => by go_simp) (trivial) ?_
                    simp only [Act.put, List.setIfInBounds_toArray, List.set_cons_zero, List.set_cons_succ]
                    refine wpAnyHTake 14 (some 65) (.bool true) rfl rfl (by kernel_rfl) (by kernel_rfl) (by kernel_rfl) (fun _ _ _ h => h) (by rfl) (fun _ _ => by go_simp) (trivial) ?_
                    simp only [Act.put, List.setIfInBounds_toArray, List.set_cons_zero, List.set_cons_succ]
                    refine wpAnyHTake 15 (some 66) (.bool true) rfl rfl (by kernel_rfl) (by kernel_rfl) (by kernel_rfl) (fun _ _ _ h => h) (by rfl) (fun _ _ => by rfl) (trivial) ?_
                    simp only [Act.put, List.setIfInBounds_toArray, List.set_cons_zero, List.set_cons_succ]
                    refine wpAnyHTake 16 (some 67) (.string s) rfl rfl (by kernel_rfl) (by kernel_rfl) (by kernel_rfl) (fun _ _ _ h => h) (by rfl) (fun _ _ => by rfl) (trivial) ?_
                    simp only [Act.put, List.setIfInBounds_toArray, List.set_cons_zero, List.set_cons_succ]
                    refine wpAnyHTake 17 (some 68) (.int .i64 k) rfl rfl (by kernel_rfl) (by kernel_rfl) (by kernel_rfl) (fun _ _ _ h => h) (by rfl) (fun _ _ => by rfl) (trivial) ?_
                    simp only [Act.put, List.setIfInBounds_toArray, List.set_cons_zero, List.set_cons_succ]
                    refine wpAnyHCall 18 (some 69) 30 #[.string s, .int .i64 k] (by kernel_rfl) rfl rfl (by rfl) (by go_simp) (EX _) ?_
                    rintro e w2 ⟨rfl, hb2⟩
                    have HR2 := Lib.hid (RdS.below HRV.out hb2); have HB2 := Lib.hid (HBW.out.trans (hb2.mono HBW.out.size))
                    clear hb2 HRV HBW
                    refine ⟨_, rfl, trivial, ?_⟩
                    simp only [Act.put, List.setIfInBounds_toArray, List.set_cons_zero, List.set_cons_succ]
                    refine wpAnyHCall 19 (some 70) 27 #[.string T] (by kernel_rfl) rfl rfl (by rfl) (by go_simp) (CC _) ?_
                    rintro e w3 ⟨rfl, hb3⟩
                    have HR3 := Lib.hid (RdS.below HR2.out hb3); have HB3 := Lib.hid (HB2.out.trans (hb3.mono HB2.out.size))
                    clear hb3 HR2 HB2
                    refine ⟨_, rfl, trivial, ?_⟩
                    simp only [Act.put, List.setIfInBounds_toArray, List.set_cons_zero, List.set_cons_succ]
                    refine wpAnyHTake 20 (some 71) (.bool true) rfl rfl (by kernel_rfl) (by kernel_rfl) (by kernel_rfl) (fun _ _ _ h => h) (by rfl) (fun _ _ => by go_simp) (trivial) ?_
                    simp only [Act.put, List.setIfInBounds_toArray, List.set_cons_zero, List.set_cons_succ]
                    refine wpAnyHTake 21 (some 72) (.bool true) rfl rfl (by kernel_rfl) (by kernel_rfl) (by kernel_rfl) (fun _ _ _ h => h) (by rfl) (fun _ _ => by go_simp) (trivial) ?_
                    simp only [Act.put, List.setIfInBounds_toArray, List.set_cons_zero, List.set_cons_succ]
                    refine wpAnyH_done (by kernel_rfl) ?_ _
                    rename_i K hK
                    refine hK _ _ ?_
                    clear hK
                    go_wp2_with fail
                    refine (EX _).mono ?_
                    rintro e w4 ⟨rfl, hb4⟩
                    have HR4 := Lib.hid (RdS.below HR3.out hb4); have HB4 := Lib.hid (HB3.out.trans (hb4.mono HB3.out.size))
                    clear hb4 HR3 HB3 EX CC
                    go_wp2_with fail
                    refine (put_any _ _ T w4 HR4.out hll).mono ?_
                    rintro e w5 ⟨u, rfl, hr5, hb5⟩
                    have HR5 := Lib.hid hr5
                    clear hr5
                    go_wp2_with fail
                    go_roundw
                    case rel => exact ⟨k + 1, by omega, by go_num, by rw [HSU.out, putsB_snoc]; exact HR5.out, HB4.out.trans (hb5.mono HB4.out.size)⟩
                    case measure => simp [intOf]; omega
                  · have hex : exgF s k = [] := by
                      unfold exgF goodB
                      rw [if_neg (by simp [hck])]
                    rw [hex, List.append_nil] at hsu
                    have HSU := Lib.hid hsu
                    have hz : (checkF (exF s k) == 0) = false := by simpa using hck
                    clear hsu hex hne hck hll
                    generalize checkF (exF s k) = z at *
                    generalize exF s k = T at *
                    go_wp2_with fail
                    refine wp_region_held (S := fun _ => True) (by kernel_rfl) ?_
                    have hdr : (wr).drew = { wr with drawn := (wr).drawn + 1 } := rfl
                    rw [← hdr]
                    clear hdr
                    have HBV := Lib.hid (Below.dn (Below.refl wr.heap.size wr) 1)
                    have HRV := Lib.hid (RdS.below HR.out HBV.out)
                    have HBW := Lib.hid (HB.out.trans (HBV.out.mono HB.out.size))
                    clear HBV
                    change wpAnyH _ _ _ _ _ _ _ _ (wr.drewN 1)
                    generalize wr.drewN 1 = V at HRV HBW ⊢
                    refine wpAnyHTake 0 (some 51) (.int .i64 k) rfl rfl (by kernel_rfl) (by kernel_rfl) (by kernel_rfl) (fun _ _ _ h => h) (by rfl) (fun _ _ => by rfl) (trivial) ?_
                    simp only [Act.put, List.setIfInBounds_toArray, List.set_cons_zero, List.set_cons_succ]
                    refine wpAnyHTake 1 (some 52) (.int .i64 k1) rfl rfl (by kernel_rfl) (by kernel_rfl) (by kernel_rfl) (fun _ _ _ h => h) (by rfl) (fun _ _ => by go_simp) (trivial) ?_
                    simp only [Act.put, List.setIfInBounds_toArray, List.set_cons_zero, List.set_cons_succ]
                    refine wpAnyHTake 2 (some 53) (.string s) rfl rfl (by kernel_rfl) (by kernel_rfl) (by kernel_rfl) (fun _ _ _ h => h) (by rfl) (fun _ _ => by rfl) (trivial) ?_
                    simp only [Act.put, List.setIfInBounds_toArray, List.set_cons_zero, List.set_cons_succ]
                    refine wpAnyHTake 3 (some 54) (.int .i64 s.size) rfl rfl (by kernel_rfl) (by kernel_rfl) (by kernel_rfl) (fun _ _ _ h => h) (by rfl) (fun _ _ => by go_simp) (trivial) ?_
                    simp only [Act.put, List.setIfInBounds_toArray, List.set_cons_zero, List.set_cons_succ]
                    refine wpAnyHTake 4 (some 55) (.bool true) rfl rfl (by kernel_rfl) (by kernel_rfl) (by kernel_rfl) (fun _ _ _ h => h) (by rfl) (fun _ _ => by go_simp) (trivial) ?_
                    simp only [Act.put, List.setIfInBounds_toArray, List.set_cons_zero, List.set_cons_succ]
                    refine wpAnyHTake 5 (some 56) (.bool true) rfl rfl (by kernel_rfl) (by kernel_rfl) (by kernel_rfl) (fun _ _ _ h => h) (by rfl) (fun _ _ => by rfl) (trivial) ?_
                    simp only [Act.put, List.setIfInBounds_toArray, List.set_cons_zero, List.set_cons_succ]
                    refine wpAnyHTake 6 (some 57) (.string s) rfl rfl (by kernel_rfl) (by kernel_rfl) (by kernel_rfl) (fun _ _ _ h => h) (by rfl) (fun _ _ => by rfl) (trivial) ?_
                    simp only [Act.put, List.setIfInBounds_toArray, List.set_cons_zero, List.set_cons_succ]
                    refine wpAnyHTake 7 (some 58) (.int .i64 k) rfl rfl (by kernel_rfl) (by kernel_rfl) (by kernel_rfl) (fun _ _ _ h => h) (by rfl) (fun _ _ => by rfl) (trivial) ?_
                    simp only [Act.put, List.setIfInBounds_toArray, List.set_cons_zero, List.set_cons_succ]
                    refine wpAnyHTake 8 (some 59) (.int .u8 (s[k]'hlt).toNat) rfl rfl (by kernel_rfl) (by kernel_rfl) (by kernel_rfl) (fun _ _ _ h => h) (by rfl) (fun _ _ => by go_simp) (trivial) ?_
                    simp only [Act.put, List.setIfInBounds_toArray, List.set_cons_zero, List.set_cons_succ]
                    refine wpAnyHTake 9 (some 60) (.string s) rfl rfl (by kernel_rfl) (by kernel_rfl) (by kernel_rfl) (fun _ _ _ h => h) (by rfl) (fun _ _ => by rfl) (trivial) ?_
                    simp only [Act.put, List.setIfInBounds_toArray, List.set_cons_zero, List.set_cons_succ]
                    refine wpAnyHTake 10 (some 61) (.int .i64 k) rfl rfl (by kernel_rfl) (by kernel_rfl) (by kernel_rfl) (fun _ _ _ h => h) (by rfl) (fun _ _ => by rfl) (trivial) ?_
                    simp only [Act.put, List.setIfInBounds_toArray, List.set_cons_zero, List.set_cons_succ]
                    refine wpAnyHTake 11 (some 62) (.int .i64 k1) rfl rfl (by kernel_rfl) (by kernel_rfl) (by kernel_rfl) (fun _ _ _ h => h) (by rfl) (fun _ _ => by go_simp) (trivial) ?_
                    simp only [Act.put, List.setIfInBounds_toArray, List.set_cons_zero, List.set_cons_succ]
                    refine wpAnyHTake 12 (some 63) (.int .u8 (s[k1]'hk1s).toNat) rfl rfl (by kernel_rfl) (by kernel_rfl) (by kernel_rfl) (fun _ _ _ h => h) (by rfl) (fun _ _ => by go_simp) (trivial) ?_
                    simp only [Act.put, List.setIfInBounds_toArray, List.set_cons_zero, List.set_cons_succ]
                    refine wpAnyHTake 13 (some 64) (.bool true) rfl rfl (by kernel_rfl) (by kernel_rfl) (by kernel_rfl) (fun _ _ _ h => h) (by rfl) (fun _ _ => by go_simp) (trivial) ?_
                    simp only [Act.put, List.setIfInBounds_toArray, List.set_cons_zero, List.set_cons_succ]
                    refine wpAnyHTake 14 (some 65) (.bool true) rfl rfl (by kernel_rfl) (by kernel_rfl) (by kernel_rfl) (fun _ _ _ h => h) (by rfl) (fun _ _ => by go_simp) (trivial) ?_
                    simp only [Act.put, List.setIfInBounds_toArray, List.set_cons_zero, List.set_cons_succ]
                    refine wpAnyHTake 15 (some 66) (.bool true) rfl rfl (by kernel_rfl) (by kernel_rfl) (by kernel_rfl) (fun _ _ _ h => h) (by rfl) (fun _ _ => by rfl) (trivial) ?_
                    simp only [Act.put, List.setIfInBounds_toArray, List.set_cons_zero, List.set_cons_succ]
                    refine wpAnyHTake 16 (some 67) (.string s) rfl rfl (by kernel_rfl) (by kernel_rfl) (by kernel_rfl) (fun _ _ _ h => h) (by rfl) (fun _ _ => by rfl) (trivial) ?_
                    simp only [Act.put, List.setIfInBounds_toArray, List.set_cons_zero, List.set_cons_succ]
                    refine wpAnyHTake 17 (some 68) (.int .i64 k) rfl rfl (by kernel_rfl) (by kernel_rfl) (by kernel_rfl) (fun _ _ _ h => h) (by rfl) (fun _ _ => by rfl) (trivial) ?_
                    simp only [Act.put, List.setIfInBounds_toArray, List.set_cons_zero, List.set_cons_succ]
                    refine wpAnyHCall 18 (some 69) 30 #[.string s, .int .i64 k] (by kernel_rfl) rfl rfl (by rfl) (by go_simp) (EX _) ?_
                    rintro e w2 ⟨rfl, hb2⟩
                    have HR2 := Lib.hid (RdS.below HRV.out hb2); have HB2 := Lib.hid (HBW.out.trans (hb2.mono HBW.out.size))
                    clear hb2 HRV HBW
                    refine ⟨_, rfl, trivial, ?_⟩
                    simp only [Act.put, List.setIfInBounds_toArray, List.set_cons_zero, List.set_cons_succ]
                    refine wpAnyHCall 19 (some 70) 27 #[.string T] (by kernel_rfl) rfl rfl (by rfl) (by go_simp) (CC _) ?_
                    rintro e w3 ⟨rfl, hb3⟩
                    have HR3 := Lib.hid (RdS.below HR2.out hb3); have HB3 := Lib.hid (HB2.out.trans (hb3.mono HB2.out.size))
                    clear hb3 HR2 HB2
                    refine ⟨_, rfl, trivial, ?_⟩
                    simp only [Act.put, List.setIfInBounds_toArray, List.set_cons_zero, List.set_cons_succ]
                    refine wpAnyHTake 20 (some 71) (.bool false) rfl rfl (by kernel_rfl) (by kernel_rfl) (by kernel_rfl) (fun _ _ _ h => h) (by rfl) (fun _ _ => by go_simp) (trivial) ?_
                    simp only [Act.put, List.setIfInBounds_toArray, List.set_cons_zero, List.set_cons_succ]
                    refine wpAnyHTake 21 (some 72) (.bool false) rfl rfl (by kernel_rfl) (by kernel_rfl) (by kernel_rfl) (fun _ _ _ h => h) (by rfl) (fun _ _ => by go_simp) (trivial) ?_
                    simp only [Act.put, List.setIfInBounds_toArray, List.set_cons_zero, List.set_cons_succ]
                    refine wpAnyH_done (by kernel_rfl) ?_ _
                    rename_i K hK
                    refine hK _ _ ?_
                    clear hK
                    clear EX CC
                    go_wp2_with fail
                    go_roundw
                    case rel => exact ⟨k + 1, by omega, by go_num, by rw [HSU.out]; exact HR3.out, HB3.out⟩
                    case measure => simp [intOf]; omega
              · have hd : decide ((k : Int) + 1 < (s.size : Int)) = false := decide_eq_false (by omega)
                have hex : exgF s k = [] := by unfold exgF; rw [if_neg (by omega)]
                rw [hex, List.append_nil] at hsu
                have HSU := Lib.hid hsu
                clear hsu hex hll
                go_wp2_with fail
                go_quiet (fail)
                go_wp2_with fail
                go_roundw
                case rel => exact ⟨k + 1, by omega, by go_num, by rw [HSU.out]; exact RdS.below HR.out (Below.dn (Below.refl _ _) _), Below.dn HB.out _⟩
                case measure => simp [intOf]; omega
      · have he : k = s.size := by omega
        subst he
        have HR := Lib.hid hrd; have HB := Lib.hid hbl
        have p1 : ¬ (s.size : Int) < (s.size : Int) := by omega
        clear hrd hbl hb
        go_wp2_with fail
        go_ret
        exact ⟨_, rfl, by rw [E.out]; exact HR.out, HB.out⟩
end Go.Proofs.Ytidojiegkdchpaa
