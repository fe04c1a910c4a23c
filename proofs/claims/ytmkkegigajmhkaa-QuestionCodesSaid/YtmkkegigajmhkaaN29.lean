/- Decode's closure (program). -/
import Derived.Test.YtmkkegigajmhkaaN28
import Derived.Test.YtmkkegigajmhkaaN10
import Derived.Deep.DeepCutAuto
set_option linter.unusedVariables false
namespace Go.Proofs.Ytmkkegigajmhkaa
open Go.RowKit Go.Maps

/-- the variables of Decode -/
structure DecI (W1 : World) (bL bF : Nat) (l : List Int) (W : World) : Prop where
  bel : Below W1.heap.size W1 W
  hL : W1.heap.size ≤ bL
  hF : W1.heap.size ≤ bF
  ne : bF ≠ bL
  bf : Boxs W bF 111 #[.func (.func 72) #[] #[.pointer (some ⟨bL, 0, none⟩), .pointer (some ⟨bF, 0, none⟩)]]
  out : ∃ a c, Boxs W bL 22 #[.slice a l.length c] ∧ RdI W1 (.slice a l.length c) l
theorem DecI.under {W1 W W' : World} {bL bF : Nat} {l : List Int} (h : DecI W1 bL bF l W) (hb : Below W.heap.size W W') : DecI W1 bL bF l W' := by
  obtain ⟨a, c, h1, h2⟩ := h.out
  exact ⟨h.bel.trans (hb.mono h.bel.size), h.hL, h.hF, h.ne, Boxs.below h.bf hb, a, c, Boxs.below h1 hb, h2⟩
theorem DecI.put {W1 W : World} {bL bF : Nat} {l l' : List Int} {a' : Option Addr} {c' : Nat} (h : DecI W1 bL bF l W) (hr : RdI W1 (.slice a' l'.length c') l') : DecI W1 bL bF l' (W.setCell ⟨bL, 0, none⟩ (.slice a' l'.length c')) := by
  obtain ⟨a, c, h1, h2⟩ := h.out
  exact ⟨h.bel.setCell (p := ⟨bL, 0, none⟩) h.hL _, h.hL, h.hF, h.ne, Boxs.setOther h.bf h.ne _, a', c', by simpa using h1.put 0 (.slice a' l'.length c'), hr⟩
/-- where only the variable of the list is written, and beyond -/
theorem DecI.keeps {W1 W W' : World} {bL bF N : Nat} {l : List Int} (h : DecI W1 bL bF l W) (hk : Keeps (fun i => N ≤ i ∧ i ≠ bL ∧ i ≠ bF) W W') (hN : W1.heap.size ≤ N) : DecI W1 bL bF l W' := by
  obtain ⟨a, c, h1, h2⟩ := h.out
  exact ⟨h.bel.trans (hk.below h.bel.size fun i _ hi => Nat.le_trans hN hi.1), h.hL, h.hF, h.ne, Boxs.keeps h.bf hk (fun hi => hi.2.2 rfl), a, c, Boxs.keeps h1 hk (fun hi => hi.2.1 rfl), h2⟩
def DecR (o : Option (Tr × List Int)) (p : Option Addr) (l' : List Int) (n : Nat) (w' : World) : Prop := match o with
  | none => p = none
  | some (t, r) => l' = r ∧ TreeIn 108 (n ≤ ·) w' (.pointer p) t ∧ p ≠ none
def DecOut (W1 : World) (bL bF : Nat) (o : Option (Tr × List Int)) (w : World) (e : Ending) (w' : World) : Prop := ∃ p l', e = .returned (.pointer p) ∧ DecI W1 bL bF l' w' ∧ l'.length ≤ 5000 ∧ Keeps (· = bL) w w' ∧ DecR o p l' w.heap.size w'
set_option maxRecDepth 100000 in
set_option maxHeartbeats 4000000 in
theorem clone_any (v : Value) (xs : List Int) (w : World) (h : RdI w v xs) (hl : xs.length ≤ 100000) : Calls Try.prog 73 #[v] w fun e w' => OwnI w.heap.size w' e xs ∧ Below w.heap.size w w' := by
  obtain ⟨a, c, e0, h3, h4, h5⟩ := id h
  subst e0
  rw [ints_len] at h3 h5 h ⊢
  cases a with
  | none =>
    have hx : xs = [] := List.length_eq_zero_iff.1 (by rcases h5 with h5 | ⟨b, off, e, _⟩; exact h5; cases e)
    subst hx
    clear h h3 h4 h5
    go_enter Try.func73, Try.ntmps73
    go_wp2_with fail
    go_ret
    exact ⟨⟨_, rfl, World.ownsRow_nil _ _ _ _⟩, Below.refl _ _⟩
  | some p =>
    have HR := Lib.hid (h.below (alloc_below w (.cells #[] 3)))
    clear h h3 h4 h5
    go_enter Try.func73, Try.ntmps73
    go_wp2_with (at_builtin; refine wpList_appI (base := w.heap.size) rfl _ _ rfl (.slice (some ⟨w.heap.size, 0, none⟩) 0 0) [] rfl (owns_void w _ (Nat.le_refl _)) (.slice (some p) xs.length c) xs rfl HR.out (by simp; omega) (by simp) ?_; intro v4 w4 happ)
    obtain ⟨a4, k4, rfl⟩ := happ.form
    go_wp2_with fail
    go_ret
    exact ⟨⟨_, rfl, happ.1⟩, happ.below (alloc_below w _) (owns_void w _ (Nat.le_refl _)) (Nat.le_refl _) (by simp)⟩
set_option maxRecDepth 100000 in
set_option maxHeartbeats 4000000 in
theorem dec_short {W1 : World} {bL bF : Nat} (f : Nat) (l : List Int) (w : World) (hs : l.length < 2) (hI : DecI W1 bL bF l w) :
    Calls Try.prog 72 #[.pointer (some ⟨bL, 0, none⟩), .pointer (some ⟨bF, 0, none⟩)] w (DecOut W1 bL bF (readF f l) w) := by
  rw [readF_short hs]
  obtain ⟨a, c, h1, h2⟩ := hI.out
  have cO := h1.cell 0
  have hlt := h1.lt
  simp only [List.getElem?_toArray, List.getElem?_cons_zero, List.getElem?_cons_succ] at cO
  have hsi : (l.length : Int) < 2 := by omega
  have HI := Lib.hid hI
  clear h1 h2 hI
  go_enter Try.func72, Try.ntmps72
  go_wp2_with fail
  go_ret
  exact ⟨none, l, rfl, HI.out, by omega, Keeps.refl _ _, rfl⟩
theorem wpList_appT {ops : Array Oper} {Q : Exit → Act → World → Prop} {rest : List Oper} {a : Act} {w : World} {o : Oper} {base : Nat} (hgd : o.guard = none) (s x : Operand) (ho : o.op = .call { callee := .builtin .append, args := #[s, x], argTypes := #[106, 106] })
    (v : Value) (n : Nat) (us : List Value) (hs : a.eval s = v) (hown : w.ownsRow base 45 1 v n us) (vx : Value) (ys : List Value) (hx : a.eval x = vx) (hrd : Rd w vx ys) (h1 : ∀ u ∈ ys, u.oneCell' = true) (hlen : n + ys.length ≤ 1000000) (hbase : base ≤ w.heap.size)
    (hk : ∀ v' w', AppOut base 45 w v (n + ys.length) (us ++ ys) v' w' → wpList Try.prog ops Q rest (a.put o.dst v') w') : wpList Try.prog ops Q (o :: rest) a w := by
  obtain ⟨v', w', h, h2⟩ := exec_appT (base := base) s x ho v n us hs hown vx ys hx hrd h1 hlen hbase
  exact wpList_run hgd h (hk v' w' h2)
set_option maxRecDepth 100000 in
set_option maxHeartbeats 16000000 in
theorem dec_any {W1 : World} {bL bF : Nat} : ∀ (f : Nat) (l : List Int) (w : World), l.length ≤ f → l.length ≤ 5000 → DecI W1 bL bF l w →
    Calls Try.prog 72 #[.pointer (some ⟨bL, 0, none⟩), .pointer (some ⟨bF, 0, none⟩)] w (DecOut W1 bL bF (readF f l) w) := by
  intro f
  induction f with
  | zero => intro l w hl h5 hI; exact dec_short 0 l w (by omega) hI
  | succ f ih =>
    intro l w hl h5 hI
    by_cases hs : l.length < 2
    · exact dec_short _ l w hs hI
    · obtain ⟨a, n, r, rfl⟩ : ∃ a n r, l = a :: n :: r := by
        match l, hs with
        | a :: n :: r, _ => exact ⟨a, n, r, rfl⟩
        | [_], hs => exact absurd (by simp) hs
        | [], hs => exact absurd (by simp) hs
      have IH := Lib.hid ih
      obtain ⟨aL, cL, h1, h2⟩ := hI.out
      obtain ⟨b, off, hab, hbl, hc0⟩ := ints_at h2 (k := 0) (x := a) rfl
      subst hab
      obtain ⟨b', off', hab, _, hc1⟩ := ints_at h2 (k := 1) (x := n) rfl
      cases hab
      have HRL := Lib.hid h2
      have hlc : r.length + 2 ≤ cL := by
        obtain ⟨x, y, e, h3, _⟩ := h2
        rw [ints_len] at h3
        simp only [Value.slice.injEq] at e
        have := e.2.2
        simp only [List.length_cons] at h3
        omega
      rw [List.length_cons, List.length_cons] at hl h5 h1
      have hc0 := (hI.bel.cell (p := ⟨b, off, none⟩) hbl).trans hc0
      have hc1 := (hI.bel.cell (p := ⟨b, off + 1, none⟩) hbl).trans hc1
      have hblw := Nat.lt_of_lt_of_le hbl hI.bel.size
      have cO := h1.cell 0
      have hlt := h1.lt
      have hfO := h1.frozen 0
      have hbL := hI.hL
      have hbne : b ≠ bL := by omega
      simp only [List.getElem?_toArray, List.getElem?_cons_zero, List.getElem?_cons_succ] at cO
      have HI := Lib.hid hI; have HB1 := Lib.hid h1
      have hr5 : r.length ≤ 5000 := by omega
      have HLW := Lib.hid h1.lt; have HFW := Lib.hid hI.bf.lt
      clear ih hI h1 h2 hs
      have HRr := Lib.hid (HRL.out.dropA (k := 2) (show 2 ≤ (a :: n :: r).length by simp))
      go_enter Try.func72, Try.ntmps72
      go_wp2_with fail
      go_region
      go_upto_region 4 with fail
      obtain ⟨zz, hzz⟩ : ∃ z, (if cL = 2 then some (⟨b, off, none⟩ : Addr) else some ⟨b, off + 2, none⟩) = z := ⟨_, rfl⟩
      go_cut [] (fun wx => DecI W1 bL bF r wx ∧ Keeps (· = bL) w wx ∧ w.heap.size ≤ wx.heap.size)
      case first =>
        have hp := fun (a' : Option Addr) (h : RdI W1 (.slice a' r.length (cL - 2)) r) => (HI.out.under (Below.dn (Below.refl w.heap.size w) 1)).put h
        have hkp := fun (v : Value) => Keeps.setCell (F := (· = bL)) (p := ⟨bL, 0, none⟩) (Keeps.dn (Keeps.refl (· = bL) w) 1) rfl v
        by_cases hc2 : cL = 2
        · have hr := HRr.out
          rw [if_pos hc2] at hr
          subst hc2
          have hr0 : r = [] := List.length_eq_zero_iff.1 (by omega)
          subst hr0
          go_wp2_with fail
          go_meet
          exact ⟨hp _ hr, hkp _, by simp⟩
        · have hr := HRr.out
          rw [if_neg hc2] at hr
          go_wp2_with fail
          go_meet
          exact ⟨hp _ hr, hkp _, by simp⟩
      case rest =>
        obtain ⟨hI, hk, hsz⟩ := hcut
        clear HRr HRL hc0 hc1 cO hfO HI HB1 hzz hlc hblw hlt hbne hbl
        have HK := Lib.hid hk; have HI := Lib.hid hI
        obtain ⟨aR, cR, h1, h2⟩ := hI.out
        have cO := h1.cell 0
        have hlt := h1.lt
        simp only [List.getElem?_toArray, List.getElem?_cons_zero, List.getElem?_cons_succ] at cO
        have HRR := Lib.hid h2; have HB1 := Lib.hid h1
        have hrc : r.length ≤ cR := by
          obtain ⟨x, y, e, h3, _⟩ := h2
          rw [ints_len] at h3
          simp only [Value.slice.injEq] at e
          omega
        clear hI hk h1 h2
        by_cases ha : a = -1
        · subst ha
          go_wp2_with fail
          go_ret
          have hal := alloc_below wc (.cells #[.int .i64 (-1), .int .i64 n, .slice none 0 0, .slice none 0 0] 108)
          rw [readF_leaf]
          exact ⟨_, r, rfl, HI.out.under hal, by omega, HK.out.alloc _, rfl, TreeIn.of (ans := []) (kids := []) (us := []) (show w.heap.size ≤ wc.heap.size from hsz) (Boxs.new _ _ _) (RdIn.nil _ _) (RdIn.nil _ _) (Trees.nil _ _ _), by simp⟩
        · have ha' : (a == -1) = false := by simpa using ha
          by_cases hn0 : n < 0
          · go_wp2_with fail
            go_ret
            rw [readF_bad ha (.inl hn0)]
            exact ⟨none, r, rfl, HI.out, by omega, HK.out, rfl⟩
          · obtain ⟨m, rfl⟩ : ∃ m : Nat, n = m := ⟨n.toNat, by omega⟩
            by_cases hnl : (r.length : Int) < (m : Int)
            · go_wp2_with fail
              go_ret
              rw [readF_bad ha (.inr hnl)]
              exact ⟨none, r, rfl, HI.out, by omega, HK.out, rfl⟩
            · have hml : m ≤ r.length := by omega
              have hmc : m ≤ cR := by omega
              have HN := Lib.hid (readF_node ha hml f)
              have CL := clone_any _ _ wc ((HRR.out.take hml).below HI.out.bel) (by rw [List.length_take]; omega)
              have hrd := HRR.out
              go_wp2_with fail
              refine CL.mono ?_
              rintro e w2 ⟨⟨va, rfl, hown⟩, hb2⟩
              obtain ⟨a1, c1, rfl⟩ := owns_form hown
              rw [show (r.take m).length = m by rw [List.length_take]; omega] at hown ⊢
              have HO := Lib.hid hown
              have HI := Lib.hid (HI.out.under hb2)
              have HK := Lib.hid (HK.out.trans (Keeps.of_below hb2))
              have HB1 := Lib.hid (Boxs.below HB1.out hb2)
              have hs2 := hb2.size
              have cO := HB1.out.cell 0
              have hlt := HB1.out.lt
              simp only [List.getElem?_toArray, List.getElem?_cons_zero, List.getElem?_cons_succ] at cO
              clear CL hown hb2
              go_upto_region 10 with fail
              obtain ⟨bx, hbx⟩ : ∃ bx, w2.heap.size = bx := ⟨_, rfl⟩
              have hHO := HO.out
              have HG := Lib.hid (show RdIn (fun i => wc.heap.size ≤ i ∧ i < bx) w2 (.slice a1 m c1) (ints (r.take m)) from ⟨Rd_of_owns hHO, fun _ i hi => ⟨(hHO.lt i hi).1, by rw [← hbx]; exact (hHO.lt i hi).2⟩⟩)
              have hal := alloc_below w2 (.cells #[.int .i64 a, .int .i64 0, .slice a1 m c1, .slice none 0 0] 108)
              have bx0 := Boxs.new w2 108 #[.int .i64 a, .int .i64 0, .slice a1 m c1, .slice none 0 0]
              rw [hbx] at bx0
              have NU0 := Lib.hid (show NodeU 108 45 w.heap.size (w2.alloc (.cells #[.int .i64 a, .int .i64 0, .slice a1 m c1, .slice none 0 0] 108)) bx a (.slice a1 m c1) (.slice none 0 0) [] [] from ⟨by omega, by rw [World.size_alloc]; omega, bx0, World.ownsRow_nil _ _ _ _, Trees.nil _ _ _⟩)
              have HG := Lib.hid (HG.out.below hal)
              have HI := Lib.hid (HI.out.under hal)
              have HK := Lib.hid (HK.out.trans (Keeps.of_below hal))
              have HB1 := Lib.hid (Boxs.below HB1.out hal)
              have hlt3 := HB1.out.lt
              have cO3 := HB1.out.cell 0
              have cf3 := HB1.out.frozen 0
              simp only [List.getElem?_toArray, List.getElem?_cons_zero, List.getElem?_cons_succ] at cO3
              have hsw : w.heap.size ≤ wc.heap.size := hsz
              have hltw : bL < w.heap.size := HLW.out
              have hbxs : bx < (w2.alloc (.cells #[.int .i64 a, .int .i64 0, .slice a1 m c1, .slice none 0 0] 108)).heap.size := by rw [World.size_alloc]; omega
              rw [hbx]
              clear hHO hal bx0 HO hlt cO
              generalize w2.alloc (.cells #[.int .i64 a, .int .i64 0, .slice a1 m c1, .slice none 0 0] 108) = w3 at *
              have hbLx : bL ≠ bx := by omega
              go_cut [] (fun wx => DecI W1 bL bF (r.drop m) wx ∧ Keeps (· = bL) w wx ∧ NodeU 108 45 w.heap.size wx bx a (.slice a1 m c1) (.slice none 0 0) [] [] ∧ RdIn (fun i => wc.heap.size ≤ i ∧ i < bx) wx (.slice a1 m c1) (ints (r.take m)) ∧ bx < wx.heap.size)
              case first =>
                have hlen : (r.drop m).length = r.length - m := List.length_drop ..
                have hp := fun (a' : Option Addr) (c' : Nat) (h : RdI W1 (.slice a' (r.drop m).length c') (r.drop m)) => HI.out.put h
                have hkp := fun (v : Value) => Keeps.setCell (F := (· = bL)) (p := ⟨bL, 0, none⟩) HK.out rfl v
                have hn2 := fun (v : Value) => NU0.out.same (W' := w3.setCell ⟨bL, 0, none⟩ v) (by simp) (fun i hi h2 => Below.heap_setCell _ _ _ _ (show i ≠ bL by omega))
                have hg2 := fun (v : Value) => HG.out.block (W' := w3.setCell ⟨bL, 0, none⟩ v) (fun i hi h2 => Below.heap_setCell _ _ _ _ (show i ≠ bL by omega))
                have hfin : ∀ a' n' c', n' = (r.drop m).length → RdI W1 (.slice a' n' c') (r.drop m) → (DecI W1 bL bF (r.drop m) (w3.setCell ⟨bL, 0, none⟩ (.slice a' n' c')) ∧ Keeps (· = bL) w (w3.setCell ⟨bL, 0, none⟩ (.slice a' n' c')) ∧ NodeU 108 45 w.heap.size (w3.setCell ⟨bL, 0, none⟩ (.slice a' n' c')) bx a (.slice a1 m c1) (.slice none 0 0) [] [] ∧ RdIn (fun i => wc.heap.size ≤ i ∧ i < bx) (w3.setCell ⟨bL, 0, none⟩ (.slice a' n' c')) (.slice a1 m c1) (ints (r.take m)) ∧ bx < (w3.setCell ⟨bL, 0, none⟩ (.slice a' n' c')).heap.size) := fun a' n' c' e h => by
                  subst e
                  exact ⟨hp a' c' h, hkp _, hn2 _, hg2 _, by simpa using hbxs⟩
                have HF := Lib.hid hfin
                have HLD := Lib.hid hlen
                have hrr := HRR.out
                clear hp hkp hn2 hg2 HI HK NU0 HG hlen hfin
                by_cases hrm : m = r.length
                · have hnil : ∀ a' n' c', n' = (r.drop m).length → n' ≤ c' → c' ≤ 9223372036854775807 → RdI W1 (.slice a' n' c') (r.drop m) := fun a' n' c' e1 e2 e3 => by
                    have : (r.drop m).length = 0 := by rw [HLD.out]; omega
                    exact ⟨a', c', by rw [ints_len, e1], by rw [ints_len]; omega, e3, .inl (by rw [ints_len]; exact this)⟩
                  have hc63 : cR ≤ 9223372036854775807 := by
                    obtain ⟨x, y, e, _, h4, _⟩ := hrr
                    simp only [Value.slice.injEq] at e
                    omega
                  have HNL := Lib.hid hnil; have HRM := Lib.hid hrm
                  clear hrr hnil hrm
                  cases aR with
                  | none =>
                    go_wp2_with fail
                    all_goals go_meet
                    all_goals exact HF.out _ _ _ (by rw [HLD.out]) (HNL.out _ _ _ (by rw [HLD.out]) (by have := HRM.out; omega) (by omega))
                  | some p =>
                    go_wp2_with fail
                    all_goals go_meet
                    all_goals exact HF.out _ _ _ (by rw [HLD.out]) (HNL.out _ _ _ (by rw [HLD.out]) (by have := HRM.out; omega) (by omega))
                · obtain ⟨b0, o0, rfl⟩ : ∃ b0 o0, aR = some ⟨b0, o0, none⟩ := by
                    obtain ⟨x, y, e, _, _, h5⟩ := hrr
                    simp only [Value.slice.injEq] at e
                    rcases h5 with h5 | ⟨b0, o0, e2, _⟩
                    · rw [ints_len] at h5; omega
                    · exact ⟨b0, o0, by rw [e.1, e2]⟩
                  have hcm : ¬ cR = m := by omega
                  have hrd := hrr.dropA hml
                  rw [if_neg hcm] at hrd
                  have HRD := Lib.hid hrd
                  clear hrr hrd
                  go_wp2_with fail
                  go_meet
                  exact HF.out _ _ _ (by rw [HLD.out]) HRD.out
              case rest =>
                obtain ⟨hI, hk, hnu, hg, hbxs2⟩ := hcut
                rename World => w5
                clear HI HK NU0 HG HRR HB1 cO3 cf3 hlt3 hbxs
                have HI5 := Lib.hid hI; have HK5 := Lib.hid hk; have HNU5 := Lib.hid hnu; have HG5 := Lib.hid hg
                clear hI hk hnu hg
                have hlen : (r.drop m).length ≤ f := by rw [List.length_drop]; omega
                have hlen5 : (r.drop m).length ≤ 5000 := by rw [List.length_drop]; omega
                have HLF := Lib.hid hlen; have HL5 := Lib.hid hlen5
                clear hlen hlen5
                have HKB0 := Lib.hid (show ∀ b, (Value.slice none 0 0).ownBlock = some b → w5.heap.size ≤ b from fun b hb => by cases hb)
                have hm0 : (0 : Int) ≤ (m : Int) := Int.natCast_nonneg _
                go_wp2_with fail
                go_loopw [42] (fun iv wr => ∃ (q : Nat) (us : List Value) (kv : Value) (ks : List Tr) (lr : List Int), q ≤ m ∧ iv = .int .i64 q ∧ us.length = q ∧ (∀ b, kv.ownBlock = some b → w5.heap.size ≤ b) ∧ NodeU 108 45 w.heap.size wr bx a (.slice a1 m c1) kv us ks ∧ DecI W1 bL bF lr wr ∧ lr.length ≤ f ∧ lr.length ≤ 5000 ∧ putK ks (readKF (readF f) (m - q) lr) = readKF (readF f) m (r.drop m) ∧ Keeps (fun i => i = bL ∨ i = bx) w5 wr) (fun iv _ => m - (intOf iv).toNat)
                case atStart =>
                  refine ⟨0, [], _, [], r.drop m, Nat.zero_le _, rfl, rfl, HKB0.out, HNU5.out, HI5.out, HLF.out, HL5.out, ?_, Keeps.refl _ _⟩
                  rw [Nat.sub_zero]
                  cases readKF (readF f) m (r.drop m) with
                  | none => rfl
                  | some p => rfl
                case round =>
                  obtain ⟨q, us, kv, ks, lr, hq, rfl, hus, hkb, hnu, hI, hlf, hl5, hput, hkp⟩ := hrel
                  have HKB := Lib.hid hkb
                  have hq0 : (0 : Int) ≤ (q : Int) := Int.natCast_nonneg _
                  have NU := Lib.hid hnu; have HI := Lib.hid hI; have HKP := Lib.hid hkp; have HUS := Lib.hid hus; have HPUT := Lib.hid hput
                  have hsr := hkp.size
                  clear hnu hI hkp hus hkb hput HKB0 HNU5 HI5 HLF HL5
                  by_cases hqm : q < m
                  · have hq1 : (q : Int) < (m : Int) := by omega
                    obtain ⟨akv, ckv, hkv⟩ := owns_form NU.out.row
                    rw [HUS.out] at hkv
                    subst hkv
                    have hkb := HI.out.bf.cell 0
                    simp only [List.getElem?_toArray, List.getElem?_cons_zero, List.getElem?_cons_succ] at hkb
                    have DC := IH.out lr wr hlf hl5 HI.out
                    unfold DecOut at DC
                    obtain ⟨j, hj⟩ : ∃ j, m - q = j + 1 := ⟨m - q - 1, by omega⟩
                    have HJ := Lib.hid hj
                    clear hj
                    go_wp2_with fail
                    refine DC.mono ?_
                    rintro e w7 ⟨p, l', rfl, hI7, hl7, hk7, hR⟩
                    have HI7 := Lib.hid hI7
                    have hltL := NU.out.box.lt
                    have NU7 := Lib.hid (NU.out.same hk7.size (fun i hi h2 => hk7.block i hi (show ¬ i = bL by omega)))
                    have HK7 := Lib.hid hk7
                    have hs7 := hk7.size
                    clear hI7 hk7 DC hkb
                    cases hrf : readF f lr with
                    | none =>
                      rw [hrf] at hR
                      obtain rfl : p = none := hR
                      go_wp2_with fail
                      go_ret
                      have hn := HPUT.out
                      rw [HJ.out, readKF_fail hrf] at hn
                      rw [HN.out, ← hn]
                      exact ⟨none, l', rfl, HI7.out, hl7, (HK5.out.join HKP.out fun i hi hG => by
                        rcases hG with h | h
                        · exact h
                        · omega).trans HK7.out, rfl⟩
                    | some tr =>
                      obtain ⟨t, r2⟩ := tr
                      rw [hrf] at hR
                      obtain ⟨rfl, htr, hpn⟩ := hR
                      obtain ⟨pt, rfl⟩ : ∃ pt, p = some pt := by cases p with | none => exact absurd rfl hpn | some x => exact ⟨x, rfl⟩
                      have NU8 := NU7.out.under (alloc_below w7 (.cells #[.pointer (some pt)] 45))
                      have cx7 := NU7.out.cell
                      have hbxw : w.heap.size ≤ bx := NU7.out.hb
                      have HTR := Lib.hid htr
                      clear htr
                      go_wp2_with (at_builtin; refine wpList_appT (base := w.heap.size) rfl _ _ rfl (.slice akv q ckv) q us rfl (by have := NU8.row; rw [HUS.out] at this; exact this) (.slice (some ⟨w7.heap.size, 0, none⟩) 1 1) [.pointer (some pt)] rfl (Rd_fresh w7 45 #[.pointer (some pt)] 1 rfl (by omega)) (by intro u hu; rw [List.mem_singleton.1 hu]; rfl) (by simp only [List.length_cons, List.length_nil]; omega) NU8.sz ?_; intro kv' w9 happ; obtain ⟨akv', ckv', rfl⟩ := happ.form; have hbx9 := Boxs.app NU8.box NU8.row happ (by decide); have cx9 := hbx9.cell 3; have cf9 := hbx9.frozen 3; have cl9 := hbx9.lt; simp only [List.getElem?_toArray, List.getElem?_cons_zero, List.getElem?_cons_succ] at cx9)
                      have happ' : AppOut w.heap.size 45 (w7.alloc (.cells #[.pointer (some pt)] 45)) (.slice akv q ckv) (us.length + 1) (us ++ [.pointer (some pt)]) (.slice akv' (q + 1) ckv') w9 := by rw [HUS.out]; exact happ
                      have hT8 := (HTR.out.mono (G := fun i => w.heap.size ≤ i ∧ i ≠ bx ∧ (Value.slice akv q ckv).ownBlock ≠ some i) fun i _ hi => by
                        have hi' : wr.heap.size ≤ i := hi
                        exact ⟨by omega, by have := NU.out.box.lt; omega, fun he => by have := (NU.out.row.lt i he).2; omega⟩).under (alloc_below w7 (.cells #[.pointer (some pt)] 45))
                      have NUN := Lib.hid (NU8.app (by decide) hT8 happ')
                      have hkk : Keeps (fun i => w.heap.size ≤ i ∧ i ≠ bL ∧ i ≠ bF) w7 (w9.setCell ⟨bx, 3, none⟩ (.slice akv' (q + 1) ckv')) := by
                        refine Keeps.setCell ((Keeps.of_below (alloc_below w7 (.cells #[.pointer (some pt)] 45))).trans (happ'.keeps.mono fun i hi hv => ?_)) (p := ⟨bx, 3, none⟩) ⟨hbxw, by have := HLW.out; show bx ≠ bL; omega, by have := HFW.out; show bx ≠ bF; omega⟩ _
                        have h5 := HKB.out i hv
                        have h6 := HK5.out.size
                        have h7 := HLW.out; have h8 := HFW.out
                        exact ⟨by omega, by omega, by omega⟩
                      have HIN := Lib.hid (HI7.out.keeps hkk (by have := HI7.out.hL; have := HLW.out; omega))
                      have HKN := Lib.hid ((((HKP.out.trans (HK7.out.mono fun i _ hi => .inl hi)).trans (Keeps.of_below (alloc_below w7 (.cells #[.pointer (some pt)] 45)))).app happ' HKB.out).setCell (p := ⟨bx, 3, none⟩) (.inr rfl) (.slice akv' (q + 1) ckv'))
                      have HKB2 := Lib.hid (show ∀ b, (Value.slice akv' (q + 1) ckv').ownBlock = some b → w5.heap.size ≤ b from fun b hb => by
                        rcases happ'.2.2 with h2 | h2
                        · exact HKB.out b (h2 ▸ hb)
                        · rw [h2] at hb; cases hb
                          have h8 := (alloc_below w7 (.cells #[.pointer (some pt)] 45)).size
                          omega)
                      have HUS2 := Lib.hid (show (us ++ [Value.pointer (some pt)]).length = q + 1 by rw [List.length_append, HUS.out]; rfl)
                      have hl2 := readF_len f lr t l' hrf
                      have HPN := Lib.hid (show putK (ks ++ [t]) (readKF (readF f) (m - (q + 1)) l') = readKF (readF f) m (r.drop m) by
                        rw [show m - (q + 1) = j by have := HJ.out; omega, ← readKF_step ks hrf, ← HJ.out]; exact HPUT.out)
                      clear happ happ' hT8 hkk NU8 cx7 hbx9 cx9 cf9 cl9
                      go_wp2_with fail
                      go_roundw
                      case rel => exact ⟨q + 1, _, _, _, l', by omega, by go_num, HUS2.out, HKB2.out, NUN.out, HIN.out, by omega, by omega, HPN.out, HKN.out⟩
                      case measure => simp [intOf]; omega
                  · obtain rfl : q = m := by omega
                    have hq1 : ¬ (q : Int) < (q : Int) := by omega
                    go_wp2_with fail
                    go_ret
                    have hp := HPUT.out
                    rw [Nat.sub_self] at hp
                    have hans : RdIn (w.heap.size ≤ ·) wr (.slice a1 q c1) (ints (r.take q)) := (HG5.out.block fun i hi hF => HKP.out.block i hi (by have := HLW.out; omega)).mono fun i _ hF => by have := hF.1; show w.heap.size ≤ i; omega
                    rw [HN.out, ← hp]
                    refine ⟨_, lr, rfl, HI.out, hl5, HK5.out.join HKP.out fun i hi hG => ?_, ?_⟩
                    · have := NU.out.hb
                      rcases hG with h | h
                      · exact h
                      · omega
                    · show DecR (some (.node a 0 (r.take q) (ks ++ []), lr)) _ _ _ _
                      rw [List.append_nil]
                      exact ⟨rfl, NU.out.done hans, by simp⟩
end Go.Proofs.Ytmkkegigajmhkaa

