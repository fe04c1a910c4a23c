/- read (reference): the tree with whose code a list begins from an index on. -/
import Derived.Test.YtmkkegigajmhkaaN36
import Derived.Test.YtmkkegigajmhkaaN21
set_option linter.unusedVariables false
namespace Go.Proofs.Ytmkkegigajmhkaa
open Go.RowKit Go.Maps

theorem wpList_appU {ops : Array Oper} {Q : Exit → Act → World → Prop} {rest : List Oper} {a : Act} {w : World} {o : Oper} {base : Nat} (hgd : o.guard = none) (s x : Operand) (ho : o.op = .call { callee := .builtin .append, args := #[s, x], argTypes := #[53, 53] })
    (v : Value) (n : Nat) (us : List Value) (hs : a.eval s = v) (hown : w.ownsRow base 48 1 v n us) (vx : Value) (ys : List Value) (hx : a.eval x = vx) (hrd : Rd w vx ys) (h1 : ∀ u ∈ ys, u.oneCell' = true) (hlen : n + ys.length ≤ 1000000) (hbase : base ≤ w.heap.size)
    (hk : ∀ v' w', AppOut base 48 w v (n + ys.length) (us ++ ys) v' w' → wpList Try.prog ops Q rest (a.put o.dst v') w') : wpList Try.prog ops Q (o :: rest) a w := by
  obtain ⟨v', w', h, h2⟩ := exec_appU (base := base) s x ho v n us hs hown vx ys hx hrd h1 hlen hbase
  exact wpList_run hgd h (hk v' w' h2)
/-- what read returns: L is the whole list -/
def ReadR (L : List Int) (o : Option (Tr × List Int)) (p : Option Addr) (at' : Nat) (n : Nat) (w' : World) : Prop := match o with
  | none => p = none
  | some (t, r) => L.drop at' = r ∧ at' ≤ L.length ∧ TreeIn 105 (n ≤ ·) w' (.pointer p) t ∧ p ≠ none
def RReadOut (L : List Int) (o : Option (Tr × List Int)) (w : World) (e : Ending) (w' : World) : Prop := ∃ (p : Option Addr) (at' : Nat), e = .returned (.tuple #[.pointer p, .int .i64 (at' : Int)]) ∧ Below w.heap.size w w' ∧ ReadR L o p at' w.heap.size w'
set_option maxRecDepth 100000 in
set_option maxHeartbeats 16000000 in
theorem rread_any {W1 : World} {aL : Option Addr} {cL : Nat} {L : List Int} (hL : RdI W1 (.slice aL L.length cL) L) (hLl : L.length ≤ 5000) : ∀ (f k : Nat) (w : World), k ≤ L.length → L.length - k ≤ f → Below W1.heap.size W1 w →
    Calls Try.prog 74 #[.slice aL L.length cL, .int .i64 (k : Int)] w (RReadOut L (readF f (L.drop k)) w) := by
  have HLR := Lib.hid hL
  have hLc : L.length ≤ cL ∧ cL ≤ 9223372036854775807 := by
    obtain ⟨x, y, e, h3, h4, _⟩ := hL
    rw [ints_len] at h3
    simp only [Value.slice.injEq] at e
    omega
  clear hL
  intro f
  induction f with
  | zero =>
    intro k w hk hf hb
    have hki : (L.length : Int) < (k : Int) + 2 := by omega
    have hk0 : (0 : Int) ≤ (k : Int) := Int.natCast_nonneg _
    go_enter Try.func74, Try.ntmps74
    go_wp2_with fail
    go_ret2
    exact ⟨none, k, rfl, Below.refl _ _, rfl⟩
  | succ f ih =>
    intro k w hk hf hb
    have IH := Lib.hid ih
    have hk0 : (0 : Int) ≤ (k : Int) := Int.natCast_nonneg _
    clear ih
    by_cases hs : L.length < k + 2
    · have hki : (L.length : Int) < (k : Int) + 2 := by omega
      have hsh : readF (f + 1) (L.drop k) = none := readF_short (by rw [List.length_drop]; omega) _
      have HSH := Lib.hid hsh
      clear hsh
      go_enter Try.func74, Try.ntmps74
      go_wp2_with fail
      go_ret2
      rw [HSH.out]
      exact ⟨none, k, rfl, Below.refl _ _, rfl⟩
    · have hki : ¬ (L.length : Int) < (k : Int) + 2 := by omega
      obtain ⟨a, ha⟩ := elem_at (show k < L.length by omega)
      obtain ⟨n, hn⟩ := elem_at (show k + 1 < L.length by omega)
      obtain ⟨b, off, hab, hbl, hc0⟩ := ints_at HLR.out ha
      subst hab
      obtain ⟨b', off', hab, _, hc1⟩ := ints_at HLR.out hn
      cases hab
      have hc0 := (hb.cell (p := ⟨b, off + k, none⟩) hbl).trans hc0
      have hc1 := (hb.cell (p := ⟨b, off + (k + 1), none⟩) hbl).trans hc1
      have hd : L.drop k = a :: n :: L.drop (k + 2) := by
        rw [List.drop_eq_getElem_cons (show k < L.length by omega), List.drop_eq_getElem_cons (show k + 1 < L.length by omega)]
        rw [(List.getElem?_eq_some_iff.1 ha).2, (List.getElem?_eq_some_iff.1 hn).2]
      have HD := Lib.hid hd
      have hdl : (L.drop (k + 2)).length = L.length - (k + 2) := List.length_drop ..
      have HDL := Lib.hid hdl
      have hk1 : (k : Int) < (L.length : Int) := by omega
      have hk2 : (k : Int) + 1 < (L.length : Int) := by omega
      have HB := Lib.hid hb
      clear hd ha hn hs hdl hb
      by_cases haa : a = -1
      · subst haa
        go_enter Try.func74, Try.ntmps74
        go_wp2_with fail
        go_ret2
        rw [HD.out, readF_leaf]
        have hal := alloc_below w (.cells #[.int .i64 (-1), .int .i64 n, .slice none 0 0, .slice none 0 0] 105)
        exact ⟨_, k + 2, rfl, hal, rfl, by omega, TreeIn.of (ans := []) (kids := []) (us := []) (Nat.le_refl _) (Boxs.new _ _ _) (RdIn.nil _ _) (RdIn.nil _ _) (Trees.nil _ _ _), by simp⟩
      · have ha' : (a == -1) = false := by simpa using haa
        by_cases hn0 : n < 0
        · go_enter Try.func74, Try.ntmps74
          go_wp2_with fail
          go_ret2
          rw [HD.out, readF_bad haa (.inl hn0)]
          exact ⟨none, k + 2, rfl, Below.refl _ _, rfl⟩
        · obtain ⟨m, rfl⟩ : ∃ m : Nat, n = m := ⟨n.toNat, by omega⟩
          by_cases hnl : (L.length : Int) - ((k : Int) + 2) < (m : Int)
          · have HW := Lib.hid (show IntKind.i64.wrap ((L.length : Int) - ((k : Int) + 2)) = (L.length : Int) - ((k : Int) + 2) from IntWalk.i64_in _ (by omega))
            go_enter Try.func74, Try.ntmps74
            go_wp2_with fail
            go_ret2
            rw [HD.out, readF_bad haa (.inr (by rw [HDL.out]; omega))]
            exact ⟨none, k + 2, rfl, Below.refl _ _, rfl⟩
          · have hml : k + 2 + m ≤ L.length := by omega
            have HN := Lib.hid (readF_node haa (show m ≤ (L.drop (k + 2)).length by rw [HDL.out]; omega) f)
            have hb2 := HB.out.size
            have hcl : k + 2 + m ≤ cL := by omega
            have hki9 : (k : Int) + 2 ≤ (k : Int) + 2 + (m : Int) := by omega
            have hki8 : (k : Int) + 2 + (m : Int) ≤ (cL : Int) := by omega
            have hki7 : ¬ (cL : Int) < (k : Int) + 2 + (m : Int) := by omega
            have hki6 : ¬ (k : Int) + 2 + (m : Int) < (k : Int) + 2 := by omega
            go_enter Try.func74, Try.ntmps74
            go_upto_region 10 with fail
            go_cut [7, 8] (fun s7 s8 wx => s7 = .int .i64 (m : Int) ∧ ∃ bx a1 c1, s8 = .pointer (some ⟨bx, 0, none⟩) ∧ NodeU 105 48 w.heap.size wx bx a (.slice a1 m c1) (.slice none 0 0) [] [] ∧ RdIn (fun i => w.heap.size ≤ i ∧ i < bx) wx (.slice a1 m c1) (ints ((L.drop (k + 2)).take m)) ∧ Below w.heap.size w wx)
            case first =>
              have hend : ∀ (a1 : Option Addr) (c1 : Nat) (w4 : World), AppOut w.heap.size 3 (w.alloc (.cells #[] 3)) (.slice (some ⟨w.heap.size, 0, none⟩) 0 0) m (ints ((L.drop (k + 2)).take m)) (.slice a1 m c1) w4 →
                  NodeU 105 48 w.heap.size (w4.alloc (.cells #[.int .i64 a, .int .i64 0, .slice a1 m c1, .slice none 0 0] 105)) w4.heap.size a (.slice a1 m c1) (.slice none 0 0) [] [] ∧ RdIn (fun i => w.heap.size ≤ i ∧ i < w4.heap.size) (w4.alloc (.cells #[.int .i64 a, .int .i64 0, .slice a1 m c1, .slice none 0 0] 105)) (.slice a1 m c1) (ints ((L.drop (k + 2)).take m)) ∧ Below w.heap.size w (w4.alloc (.cells #[.int .i64 a, .int .i64 0, .slice a1 m c1, .slice none 0 0] 105)) := fun a1 c1 w4 happ => by
                have hal := alloc_below w4 (.cells #[.int .i64 a, .int .i64 0, .slice a1 m c1, .slice none 0 0] 105)
                have hb4 := happ.below (alloc_below w _) (owns_void w _ (Nat.le_refl _)) (Nat.le_refl _) (by simp)
                refine ⟨⟨hb4.size, by have := hb4.size; have := hal.size; omega, Boxs.new _ _ _, World.ownsRow_nil _ _ _ _, Trees.nil _ _ _⟩, RdIn.below ⟨Rd_of_owns happ.1, fun _ i hi => ⟨(happ.1.lt i hi).1, (happ.1.lt i hi).2⟩⟩ hal, hb4.trans (hal.mono hb4.size)⟩
              have HEND := Lib.hid hend
              have hrl : ((L.drop (k + 2)).take m).length = m := by rw [List.length_take, HDL.out]; omega
              have HRL := Lib.hid hrl
              clear hend hrl
              by_cases hcc : cL = k + 2
              · obtain rfl : m = 0 := by omega
                subst hcc
                have hrd : ∀ a n c, n = 0 → c ≤ 9223372036854775807 → RdI (w.alloc (.cells #[] 3)) (.slice a n c) ((L.drop (k + 2)).take 0) := fun a n c e e2 => by subst e; exact ⟨_, c, rfl, Nat.zero_le _, e2, .inl rfl⟩
                have HRD := Lib.hid hrd
                clear hrd
                go_wp2_with (at_builtin; refine wpList_appI (base := w.heap.size) rfl _ _ rfl (.slice (some ⟨w.heap.size, 0, none⟩) 0 0) [] rfl (owns_void w _ (Nat.le_refl _)) _ ((L.drop (k + 2)).take 0) rfl (by (try simp only [Act.eval]); exact HRD.out _ _ _ (by omega) (by omega)) (by simp) (by simp) ?_; intro v4 w4 happ; obtain ⟨a4, k4, rfl⟩ := happ.form)
                go_meet
                exact ⟨rfl, _, _, _, rfl, HEND.out a4 k4 w4 (by simpa using happ)⟩
              · have hrd := ((HLR.out.dropA (k := k + 2) (by omega)).take (k := m) (by omega)).below (HB.out.trans ((alloc_below w (.cells #[] 3)).mono hb2))
                rw [if_neg hcc] at hrd
                have HRD := Lib.hid (show RdI (w.alloc (.cells #[] 3)) (.slice (some ⟨b, off + (k + 2), none⟩) (k + 2 + m - (k + 2)) (cL - (k + 2))) ((L.drop (k + 2)).take m) by rw [show k + 2 + m - (k + 2) = m by omega]; exact hrd)
                clear hrd
                go_wp2_with (at_builtin; refine wpList_appI (base := w.heap.size) rfl _ _ rfl (.slice (some ⟨w.heap.size, 0, none⟩) 0 0) [] rfl (owns_void w _ (Nat.le_refl _)) (.slice (some ⟨b, off + (k + 2), none⟩) (k + 2 + m - (k + 2)) (cL - (k + 2))) ((L.drop (k + 2)).take m) rfl HRD.out (by rw [HRL.out]; simp; omega) (by simp) ?_; intro v4 w4 happ; rw [show (([] : List Int) ++ (L.drop (k + 2)).take m).length = m by rw [List.nil_append, HRL.out]] at happ; obtain ⟨a4, k4, rfl⟩ := happ.form)
                go_meet
                exact ⟨rfl, _, _, _, rfl, HEND.out a4 k4 w4 (by simpa using happ)⟩
            case rest =>
              obtain ⟨rfl, bx, a1, c1, rfl, hnu, hg, hbw⟩ := hcut
              rename World => w5
              have HNU5 := Lib.hid hnu; have HG5 := Lib.hid hg; have HB5 := Lib.hid hbw
              have hsw := hbw.size
              have hbxB := hnu.hb
              clear hnu hg hbw hc0 hc1 hki6 hki7 hki8 hki9
              have HKB0 := Lib.hid (show ∀ b, (Value.slice none 0 0).ownBlock = some b → w5.heap.size ≤ b from fun b hb => by cases hb)
              have HDD := Lib.hid (show (L.drop (k + 2)).drop m = L.drop (k + 2 + m) by rw [List.drop_drop])
              have hm0 : (0 : Int) ≤ (m : Int) := Int.natCast_nonneg _
              go_wp2_with fail
              go_loopw [1, 9] (fun pv iv wr => ∃ (q : Nat) (p : Nat) (us : List Value) (kv : Value) (ks : List Tr), q ≤ m ∧ iv = .int .i64 q ∧ pv = .int .i64 p ∧ p ≤ L.length ∧ L.length - p ≤ f ∧ us.length = q ∧ (∀ b, kv.ownBlock = some b → w5.heap.size ≤ b) ∧ NodeU 105 48 w.heap.size wr bx a (.slice a1 m c1) kv us ks ∧ putK ks (readKF (readF f) (m - q) (L.drop p)) = readKF (readF f) m ((L.drop (k + 2)).drop m) ∧ Keeps (· = bx) w5 wr) (fun _ iv _ => m - (intOf iv).toNat)
              case atStart =>
                refine ⟨0, k + 2 + m, [], _, [], Nat.zero_le _, rfl, by go_num, hml, by omega, rfl, HKB0.out, HNU5.out, ?_, Keeps.refl _ _⟩
                rw [Nat.sub_zero, HDD.out]
                cases readKF (readF f) m (L.drop (k + 2 + m)) with
                | none => rfl
                | some p => rfl
              case round =>
                obtain ⟨q, p, us, kv, ks, hq, rfl, rfl, hpl, hpf, hus, hkb, hnu, hput, hkp⟩ := hrel
                have HKB := Lib.hid hkb
                have hq0 : (0 : Int) ≤ (q : Int) := Int.natCast_nonneg _
                have hp0 : (0 : Int) ≤ (p : Int) := Int.natCast_nonneg _
                have NU := Lib.hid hnu; have HKP := Lib.hid hkp; have HUS := Lib.hid hus; have HPUT := Lib.hid hput
                have hsr := hkp.size
                have hbr := Lib.hid (HB5.out.trans (hkp.below hsw fun i _ hi => by have hi' : i = bx := hi; omega))
                clear hnu hkp hus hkb hput HKB0 HNU5
                by_cases hqm : q < m
                · have hq1 : (q : Int) < (m : Int) := by omega
                  obtain ⟨akv, ckv, hkv⟩ := owns_form NU.out.row
                  rw [HUS.out] at hkv
                  subst hkv
                  have RD := IH.out p wr hpl hpf (HB.out.trans (hbr.out.mono hb2))
                  unfold RReadOut at RD
                  obtain ⟨j, hj⟩ : ∃ j, m - q = j + 1 := ⟨m - q - 1, by omega⟩
                  have HJ := Lib.hid hj
                  clear hj
                  go_wp2_with fail
                  refine RD.mono ?_
                  rintro e w7 ⟨pp, p', rfl, hb7, hR⟩
                  have NU7 := Lib.hid (NU.out.under hb7)
                  have HB7 := Lib.hid hb7
                  have hs7 := hb7.size
                  clear hb7 RD
                  cases hrf : readF f (L.drop p) with
                  | none =>
                    rw [hrf] at hR
                    obtain rfl : pp = none := hR
                    go_wp2_with fail
                    go_ret2
                    have hn := HPUT.out
                    rw [HJ.out, readKF_fail hrf] at hn
                    rw [HD.out, HN.out, ← hn]
                    exact ⟨none, p, rfl, hbr.out.trans (HB7.out.mono hbr.out.size), rfl⟩
                  | some tr =>
                    obtain ⟨t, r2⟩ := tr
                    rw [hrf] at hR
                    obtain ⟨hdr, hpl', htr, hpn⟩ := hR
                    obtain ⟨pt, rfl⟩ : ∃ pt, pp = some pt := by cases pp with | none => exact absurd rfl hpn | some x => exact ⟨x, rfl⟩
                    have NU8 := NU7.out.under (alloc_below w7 (.cells #[.pointer (some pt)] 48))
                    have cx7 := NU7.out.cell
                    have HTR := Lib.hid htr
                    have HDR := Lib.hid hdr
                    clear htr hdr hpn
                    go_wp2_with (at_builtin; refine wpList_appU (base := w.heap.size) rfl _ _ rfl (.slice akv q ckv) q us rfl (by have := NU8.row; rw [HUS.out] at this; exact this) (.slice (some ⟨w7.heap.size, 0, none⟩) 1 1) [.pointer (some pt)] rfl (Rd_fresh w7 48 #[.pointer (some pt)] 1 rfl (by omega)) (by intro u hu; rw [List.mem_singleton.1 hu]; rfl) (by simp only [List.length_cons, List.length_nil]; omega) NU8.sz ?_; intro kv' w9 happ; obtain ⟨akv', ckv', rfl⟩ := happ.form; have hbx9 := Boxs.app NU8.box NU8.row happ (by decide); have cx9 := hbx9.cell 3; have cf9 := hbx9.frozen 3; have cl9 := hbx9.lt; simp only [List.getElem?_toArray, List.getElem?_cons_zero, List.getElem?_cons_succ] at cx9)
                    have happ' : AppOut w.heap.size 48 (w7.alloc (.cells #[.pointer (some pt)] 48)) (.slice akv q ckv) (us.length + 1) (us ++ [.pointer (some pt)]) (.slice akv' (q + 1) ckv') w9 := by rw [HUS.out]; exact happ
                    have hT8 := (HTR.out.mono (G := fun i => w.heap.size ≤ i ∧ i ≠ bx ∧ (Value.slice akv q ckv).ownBlock ≠ some i) fun i _ hi => by
                      have hi' : wr.heap.size ≤ i := hi
                      exact ⟨by omega, by have := NU.out.box.lt; omega, fun he => by have := (NU.out.row.lt i he).2; omega⟩).under (alloc_below w7 (.cells #[.pointer (some pt)] 48))
                    have NUN := Lib.hid (NU8.app (by decide) hT8 happ')
                    have HKN := Lib.hid ((((HKP.out.trans (Keeps.of_below HB7.out)).trans (Keeps.of_below (alloc_below w7 (.cells #[.pointer (some pt)] 48)))).app happ' HKB.out).setCell (p := ⟨bx, 3, none⟩) rfl (.slice akv' (q + 1) ckv'))
                    have HKB2 := Lib.hid (show ∀ b, (Value.slice akv' (q + 1) ckv').ownBlock = some b → w5.heap.size ≤ b from fun b hb => by
                      rcases happ'.2.2 with h2 | h2
                      · exact HKB.out b (h2 ▸ hb)
                      · rw [h2] at hb; cases hb
                        have h8 := (alloc_below w7 (.cells #[.pointer (some pt)] 48)).size
                        omega)
                    have HUS2 := Lib.hid (show (us ++ [Value.pointer (some pt)]).length = q + 1 by rw [List.length_append, HUS.out]; rfl)
                    have hl2 := readF_len f (L.drop p) t r2 hrf
                    have hpf' : L.length - p' ≤ f := by
                      have h1 := hl2.1
                      rw [← HDR.out, List.length_drop, List.length_drop] at h1; omega
                    have HPN := Lib.hid (show putK (ks ++ [t]) (readKF (readF f) (m - (q + 1)) (L.drop p')) = readKF (readF f) m ((L.drop (k + 2)).drop m) by
                      rw [show m - (q + 1) = j by have := HJ.out; omega, HDR.out, ← readKF_step ks hrf, ← HJ.out]; exact HPUT.out)
                    clear happ happ' hT8 NU8 cx7 hbx9 cx9 cf9 cl9 hl2 hrf
                    go_wp2_with fail
                    go_roundw
                    case rel => exact ⟨q + 1, p', _, _, _, by omega, by go_num, rfl, hpl', hpf', HUS2.out, HKB2.out, NUN.out, HPN.out, HKN.out⟩
                    case measure => simp [intOf]; omega
                · obtain rfl : q = m := by omega
                  have hq1 : ¬ (q : Int) < (q : Int) := by omega
                  go_wp2_with fail
                  go_ret2
                  have hp := HPUT.out
                  rw [Nat.sub_self] at hp
                  have hans : RdIn (w.heap.size ≤ ·) wr (.slice a1 q c1) (ints ((L.drop (k + 2)).take q)) := (HG5.out.block fun i hi hF => HKP.out.block i hi (by have h1 := hF.2; show ¬ i = bx; omega)).mono fun i _ hF => hF.1
                  rw [HD.out, HN.out, ← hp]
                  refine ⟨_, p, rfl, hbr.out, ?_⟩
                  show ReadR L (some (.node a 0 ((L.drop (k + 2)).take q) (ks ++ []), L.drop p)) _ _ _ _
                  rw [List.append_nil]
                  exact ⟨rfl, hpl, NU.out.done hans, by simp⟩
end Go.Proofs.Ytmkkegigajmhkaa

