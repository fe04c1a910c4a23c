/- read (reference), ranges: two digits. read (reference), ranges: all. right (reference); normal (both). The normal list of increasing pages (both). Pages (reference). Pages (program). Normal (both). Rows and parts (plain law). -/
import Derived.Test.YtecdkpcapalifaaDoorM04
import Derived.Test.YtecdkpcapalifaaDoorM01
import Derived.IntWalk
import Derived.Test.YtecdkpcapalifaaDoorM02
import Derived.Deep.MidRow
import Derived.Laws.Tables
import Derived.Deep.WholeRow
set_option linter.unusedVariables false
namespace Go.Proofs.YtecdkpcapalifaaDoor
open Go.RowKit Go.Maps

set_option maxRecDepth 100000 in
set_option maxHeartbeats 4000000 in
theorem rread_dashc (s : Sty) (t q : List UInt8) (w : World) (hs : okSty s) (ht : t.length ≤ 1000000) (hd : t.drop (digs t).length = 45 :: q) (h1 : digs t ≠ []) (h2 : digs q ≠ []) (hjk : (digs q).length < (digs t).length) (hk2 : (digs q).length = 2) :
    Calls Tryd.prog 49 #[.agg #[.int .i64 s.k, .bool s.nx, .int .i64 s.row, .int .i64 s.pas], .string (bs t)] w (ReadOut w (readL s t)) := by
  obtain ⟨k, nx, row, pas⟩ := s
  obtain ⟨k1, k2, r0, r1, r2, p0, p1, p2⟩ := hs
  dsimp only at *
  have hql : q.length ≤ 1000000 := by have := congrArg List.length hd; rw [List.length_drop, List.length_cons] at this; omega
  have N := rnumber_any t (w.alloc (.cells #[.int .i64 k, .bool nx, .int .i64 row, .int .i64 pas] 24)) ht
  have M := rnumber_any q (w.alloc (.cells #[.int .i64 k, .bool nx, .int .i64 row, .int .i64 pas] 24)) hql
  have hV := valL_999 t
  have hdl := digs_len t
  have hV2 := valL_999 q
  have hdl2 := digs_len q
  have hdt : (digs t).length ≤ t.length := by unfold digs; exact Nat.le_trans (List.takeWhile_prefix _).length_le (by simp; omega)
  have hdq : (digs q).length ≤ q.length := by unfold digs; exact Nat.le_trans (List.takeWhile_prefix _).length_le (by simp; omega)
  have hTS : (bs t).size = t.length := bs_size t
  have hext : (bs t).extract (digs t).length (bs t).size = bs (45 :: q) := by rw [bs_size, bs_extract, List.take_of_length_le (by simp), hd]
  have hext2 : (bs (45 :: q)).extract 1 (bs (45 :: q)).size = bs q := by rw [bs_size, bs_extract, List.take_of_length_le (by simp)]; rfl
  have hext3 : (bs (45 :: q)).extract (1 + (digs q).length) (bs (45 :: q)).size = bs (q.drop (digs q).length) := by
    rw [bs_size, bs_extract, List.take_of_length_le (by simp), Nat.add_comm, List.drop_succ_cons]
  have hsz : (bs (45 :: q)).size = q.length + 1 := by rw [bs_size, List.length_cons]
  have hst1 : (bs (45 :: q)).toList = 45 :: q := bs_toList _
  have h00 : 0 < (bs (45 :: q)).size := by rw [hsz]; omega
  have e00 : (bs (45 :: q))[0] = 45 := rfl
  have u1 : ((bs (45 :: q)).toList == []) = false := by rw [hst1]; rfl
  have u1' : (bs (45 :: q)).toList.isEmpty = false := by rw [hst1]; rfl
  have u2 : ((bs (45 :: q)).toList == [102]) = false := by rw [hst1, beq_eq_false_iff_ne]; simp
  have u3 : ((bs (45 :: q)).toList == [102, 102]) = false := by rw [hst1, beq_eq_false_iff_ne]; simp
  have z1 : 1 ≤ (bs (45 :: q)).size := h00
  have z2 : (bs (45 :: q)).size ≤ 1000001 := by rw [hsz]; omega
  have z3 : 1 + (digs q).length ≤ (bs (45 :: q)).size := by rw [hsz]; omega
  clear hst1 hsz
  generalize hA : valL (digs t) = A at N hV
  generalize hJ : (digs t).length = J at N hdl hext hd hdt hjk
  generalize hB : valL (digs q) = B at M hV2
  generalize hK : (digs q).length = K at M hdl2 hext3 z3 hdq hjk hk2
  generalize hS : bs (45 :: q) = S at hext hext2 hext3 h00 e00 u1 u1' u2 u3 z1 z2 z3
  generalize hS3 : bs (q.drop K) = S3 at hext3
  generalize bs q = SQ at hext2 M
  generalize bs t = T at N hext hTS
  have hJT : J ≤ T.size := by omega
  have hTm : T.size ≤ 1000000 := by omega
  obtain ⟨hA1, hA2⟩ := hV
  obtain ⟨hB1, hB2⟩ := hV2
  have HA := Lib.hid hA; have HJ := Lib.hid hJ; have HD := Lib.hid hd; have HB := Lib.hid hB; have HK := Lib.hid hK
  have hst : S3.toList = q.drop K := by rw [← hS3, bs_toList]
  have HST := Lib.hid hst
  clear hA hJ hS hd hst hB hK hS3 hTS hdt hdq
  subst hk2
  have hq : 0 ≤ A - A % 100 ∧ A - A % 100 ≤ 999 ∧ 0 ≤ A % 100 ∧ A % 100 ≤ 999 := by omega
  obtain ⟨hq1, hq2, hq3, hq4⟩ := hq
  have hj1 : 1 ≤ J := by rw [← HJ.out]; exact List.length_pos_iff.2 h1
  have hk1' : 1 ≤ 2 := by decide
  have jn : ((J : Int) == 0) = false := beq_eq_false_iff_ne.2 (by omega)
  have kj : 2 < (J : Int) := by omega
  have hrd : readL ⟨k, nx, row, pas⟩ t = readRange ⟨k, nx, row, pas⟩ A J q := by
    rw [readL_dash h1 (by rw [HJ.out]; exact HD.out), HA.out, HJ.out]
  have hrb : restB A J q = A - A % 100 + B := by unfold restB; rw [if_pos (by rw [HK.out]; omega), HB.out, HK.out]; show B + A / 100 * 100 = _; omega
  have HRD := Lib.hid hrd; have HRB := Lib.hid hrb; have H2 := Lib.hid h2
  clear hrd hrb h1 h2
  generalize hr3 : q.drop 2 = r3 at HST
  have HR3 := Lib.hid (show q.drop (digs q).length = r3 from by rw [HK.out]; exact hr3)
  clear hr3
  by_cases c1 : r3 = []
  · have hn := HRD.out.trans ((range_one H2.out (HR3.out.trans c1)).trans (by rw [HRB.out]))
    have HN := Lib.hid hn
    have t1 : S3.toList = [] := HST.out.trans c1
    clear hn c1
    go_enter Tryd.func49, Tryd.ntmps49
    go_wp2_with fail
    refine N.mono ?_
    rintro e w1 ⟨rfl, rfl⟩
    go_wp2_with fail
    refine M.mono ?_
    rintro e w2 ⟨rfl, rfl⟩
    go_wp2_with fail
    refine (power_2 _).mono ?_
    rintro e w3 ⟨rfl, rfl⟩
    go_wp2_with fail
    go_ret2
    exact readOut_some HN.out (((Below.refl w.heap.size w).alloc (Nat.le_refl _) _).alloc (by simp) _) (one_pair _ _ _ _ (by simp))

  · have t1 : (S3.toList == []) = false := by rw [HST.out]; simpa using c1
    have t1' : S3.toList.isEmpty = false := by rw [HST.out]; simpa using c1
    by_cases c2 : r3 = passimB
    · have t2 : (S3.toList == [32, 112, 97, 115, 115, 105, 109]) = true := by rw [HST.out, c2]; rfl
      by_cases c3 : 0 < pas
      · have hn := HRD.out.trans ((range_pas (s := ⟨k, nx, row, pas⟩) H2.out (HR3.out.trans c2) c3).trans (by rw [HRB.out]))
        have HN := Lib.hid hn
        have pn : (pas == 0) = false := beq_eq_false_iff_ne.2 (by omega)
        obtain ⟨i0, hi0, hz0, hz1, hz2⟩ := info_parts Tryd.info68
        have HI := Lib.hid hi0; have HZ0 := Lib.hid hz0; have HZ1 := Lib.hid hz1; have HZ2 := Lib.hid hz2
        clear hi0 hz0 hz1 hz2
        clear hn c1 c2
        go_enter Tryd.func49, Tryd.ntmps49
        go_wp2_with fail
        refine N.mono ?_
        rintro e w1 ⟨rfl, rfl⟩
        go_wp2_with fail
        refine M.mono ?_
        rintro e w2 ⟨rfl, rfl⟩
        go_wp2_with fail
        refine (power_2 _).mono ?_
        rintro e w3 ⟨rfl, rfl⟩
        go_wp2_with fail
        go_loopw [10, 11] (fun v i wr => ∃ m : Nat, (m : Int) + 1 ≤ pas ∧ i = .int .i64 m ∧ wr.ownsRow (w.heap.size + 1) 68 2 v m (prs (singles A m)) ∧ Below (w.heap.size + 1) (w.alloc (.cells #[.int .i64 k, .bool nx, .int .i64 row, .int .i64 pas] 24)) wr) (fun _ i _ => pas.toNat - (intOf i).toNat)
        case atStart => exact ⟨0, by omega, rfl, by simpa [prs, singles] using World.ownsRow_nil _ _ _ _, Below.refl _ _⟩
        case round =>
          obtain ⟨m, hm, rfl, hown, hbl⟩ := hrel
          have hbsz : w.heap.size + 1 ≤ wr.heap.size := by have := hbl.size; rw [World.size_alloc] at this; exact this
          have e3 := hbl.cell (p := ⟨w.heap.size, 3, none⟩) (by show w.heap.size < w.heap.size + 1; omega)
          simp at e3
          have HO := Lib.hid hown; have HBL := Lib.hid hbl
          have hm2 : (m : Int) ≤ 1000 := by omega
          clear hown hbl
          by_cases hlt : (m : Int) + 1 < pas
          · have hT := (congrArg prs (singles_succ A m)).trans (prs_snoc _ _)
            have HT := Lib.hid hT
            clear hT
            go_wp2_with (at_builtin; refine wpList_append_lies _ rfl _ _ _ rfl (w.heap.size + 1) 68 i0 _ 2 16 Tryd.underlying28 HI.out HZ0.out HZ1.out HZ2.out rfl (by omega) _ m (prs (singles A m)) rfl (HO.out.alloc _) ⟨wr.heap.size, 0, none⟩ 1 1 [.int .i64 (A + 2 * (m : Int)), .int .i64 (A + 2 * (m : Int))] rfl rfl (World.news_of_block (cs := #[.int .i64 (A + 2 * (m : Int)), .int .i64 (A + 2 * (m : Int))]) (t := 68) (fr := (0, 0)) (heap_alloc_new wr _)) (by simp [Value.oneCell']) (by omega) (by unfold maxLen; omega) (by omega) (by simp; omega) (wr.heap.size + 1) (by simp) ?_; intro gg cap w3 hown1 hgrow hat hltg)
            have HO1 := Lib.hid hown1; clear hown1
            go_roundw
            case rel => exact ⟨m + 1, by omega, by go_num, by rw [HT.out]; exact HO1.out, (HBL.out.alloc hbsz _).grown hgrow (by simp; omega) (fun j e => (HO.out.lt j e).1)⟩
            case measure => simp [intOf]; omega
          · have hpm : pas = (m : Int) + 1 := by omega
            have hsc : prs (scat pas.toNat A (A - A % 100 + B)) = prs (singles A m) ++ [.int .i64 (A + 2 * (m : Int)), .int .i64 (A - A % 100 + B)] := by
              rw [show pas.toNat = m + 1 by omega, scat_eq _ _ _ (by omega), prs_snoc]; rfl
            have HSC := Lib.hid hsc
            subst hpm
            have hm1 : (m : Int) + 1 - 1 = (m : Int) := by omega
            have hm0 : ¬ ((m : Int) + 1 < (m : Int) + 1) := by omega
            clear hsc
            go_wp2_with (at_builtin; refine wpList_append_lies _ rfl _ _ _ rfl (w.heap.size + 1) 68 i0 _ 2 16 Tryd.underlying28 HI.out HZ0.out HZ1.out HZ2.out rfl (by omega) _ m (prs (singles A m)) rfl (HO.out.alloc _) ⟨wr.heap.size, 0, none⟩ 1 1 [.int .i64 (A + 2 * (m : Int)), .int .i64 (A - A % 100 + B)] rfl rfl (World.news_of_block (cs := #[.int .i64 (A + 2 * (m : Int)), .int .i64 (A - A % 100 + B)]) (t := 68) (fr := (0, 0)) (heap_alloc_new wr _)) (by simp [Value.oneCell']) (by omega) (by unfold maxLen; omega) (by omega) (by simp; omega) (wr.heap.size + 1) (by simp) ?_; intro gg cap w3 hown1 hgrow hat hltg)
            have HO1 := Lib.hid hown1; clear hown1
            go_ret2
            exact readOut_some HN.out (((Below.refl w.heap.size w).alloc (Nat.le_refl _) _).trans ((((HBL.out.alloc hbsz _).grown hgrow (by simp; omega) (fun j e => (HO.out.lt j e).1))).mono (by omega))) (RdP_of_owns (by have := HO1.out; rw [← HSC.out] at this; exact this))

      · have hn := HRD.out.trans (range_no (s := ⟨k, nx, row, pas⟩) H2.out (fun e => c1 (HR3.out.symm.trans e)) (fun e => c3 e.2))
        have HN := Lib.hid hn
        have pn : pas = 0 := by omega
        subst pn
        clear hn c1 c2
        go_enter Tryd.func49, Tryd.ntmps49
        go_wp2_with fail
        refine N.mono ?_
        rintro e w1 ⟨rfl, rfl⟩
        go_wp2_with fail
        refine M.mono ?_
        rintro e w2 ⟨rfl, rfl⟩
        go_wp2_with fail
        refine (power_2 _).mono ?_
        rintro e w3 ⟨rfl, rfl⟩
        go_wp2_with fail
        go_ret2
        exact readOut_none HN.out ((Below.refl w.heap.size w).alloc (Nat.le_refl _) _) _

    · have t2 : (S3.toList == [32, 112, 97, 115, 115, 105, 109]) = false := by rw [HST.out]; simpa [passimB] using c2
      have hn := HRD.out.trans (range_no (s := ⟨k, nx, row, pas⟩) H2.out (fun e => c1 (HR3.out.symm.trans e)) (fun e => c2 (HR3.out.symm.trans e.1)))
      have HN := Lib.hid hn
      clear hn c1 c2
      go_enter Tryd.func49, Tryd.ntmps49
      go_wp2_with fail
      refine N.mono ?_
      rintro e w1 ⟨rfl, rfl⟩
      go_wp2_with fail
      refine M.mono ?_
      rintro e w2 ⟨rfl, rfl⟩
      go_wp2_with fail
      refine (power_2 _).mono ?_
      rintro e w3 ⟨rfl, rfl⟩
      go_wp2_with fail
      go_ret2
      exact readOut_none HN.out ((Below.refl w.heap.size w).alloc (Nat.le_refl _) _) _

end Go.Proofs.YtecdkpcapalifaaDoor

namespace Go.Proofs.YtecdkpcapalifaaDoor
open Go.RowKit Go.Maps

theorem rread_any (s : Sty) (t : List UInt8) (w : World) (hs : okSty s) (ht : t.length ≤ 1000000) :
    Calls Tryd.prog 49 #[.agg #[.int .i64 s.k, .bool s.nx, .int .i64 s.row, .int .i64 s.pas], .string (bs t)] w (ReadOut w (readL s t)) := by
  by_cases h : ∃ q, t.drop (digs t).length = 45 :: q
  · obtain ⟨q, hq⟩ := h
    by_cases h1 : digs t = []
    · exact rread_dash0 s t q w hs ht hq (.inl h1)
    · by_cases h2 : digs q = []
      · exact rread_dash0 s t q w hs ht hq (.inr h2)
      · have h3 := digs_len t
        have h4 := List.length_pos_iff.2 h2
        by_cases h5 : (digs t).length ≤ (digs q).length
        · exact rread_dasha s t q w hs ht hq h1 h2 h5
        · by_cases h6 : (digs q).length = 1
          · exact rread_dashb s t q w hs ht hq h1 h2 (by omega) h6
          · exact rread_dashc s t q w hs ht hq h1 h2 (by omega) (by omega)
  · exact rread_plain s t w hs ht (fun q hq => h ⟨q, hq⟩)
end Go.Proofs.YtecdkpcapalifaaDoor

namespace Go.Proofs.YtecdkpcapalifaaDoor
open Go.RowKit Go.Maps

set_option maxHeartbeats 1000000 in
theorem rright_any (f t : Int) (w : World) :
    Calls Tryd.prog 60 #[.agg #[.int .i64 f, .int .i64 t]] w fun e w' => e = .returned (.bool (rightS f t)) ∧ Below w.heap.size w w' := by
  have hb := (Below.refl w.heap.size w).alloc (Nat.le_refl _) (.cells #[.int .i64 f, .int .i64 t] 68)
  by_cases h1 : 1 ≤ f
  · by_cases h2 : f ≤ t
    · by_cases h3 : t ≤ 999
      · go_enter Tryd.func60, Tryd.ntmps60
        go_wp2
        go_ret
        exact ⟨ret_bool (by simp [rightS, h1, h2, h3]), hb⟩
      · go_enter Tryd.func60, Tryd.ntmps60
        go_wp2
        go_ret
        exact ⟨ret_bool (by simp [rightS, h3]), hb⟩
    · go_enter Tryd.func60, Tryd.ntmps60
      go_wp2
      go_ret
      exact ⟨ret_bool (by simp [rightS]; omega), hb⟩
  · go_enter Tryd.func60, Tryd.ntmps60
    go_wp2
    go_ret
    exact ⟨ret_bool (by simp [rightS]; omega), hb⟩
theorem right_true (f t : Int) (w : World) (h : rightS f t = true) : Calls Tryd.prog 58 #[.agg #[.int .i64 f, .int .i64 t]] w fun e w' => e = .returned (.bool true) ∧ Below w.heap.size w w' := by rw [← h]; exact right_any f t w
theorem right_false (f t : Int) (w : World) (h : rightS f t = false) : Calls Tryd.prog 58 #[.agg #[.int .i64 f, .int .i64 t]] w fun e w' => e = .returned (.bool false) ∧ Below w.heap.size w w' := by rw [← h]; exact right_any f t w
theorem rright_true (f t : Int) (w : World) (h : rightS f t = true) : Calls Tryd.prog 60 #[.agg #[.int .i64 f, .int .i64 t]] w fun e w' => e = .returned (.bool true) ∧ Below w.heap.size w w' := by rw [← h]; exact rright_any f t w
theorem rright_false (f t : Int) (w : World) (h : rightS f t = false) : Calls Tryd.prog 60 #[.agg #[.int .i64 f, .int .i64 t]] w fun e w' => e = .returned (.bool false) ∧ Below w.heap.size w w' := by rw [← h]; exact rright_any f t w

/-- how a walk over a list finds that it is normal -/
theorem nrm_step0 {l : List Sp} {x : Sp} (hx : l[0]? = some x) (hr : rightS x.1 x.2 = true) : nrm (l.take 1) = true := by
  have := take_succ_at hx
  rw [this]; simp [nrm, nrmG, hr]
theorem nrm_stepk {l : List Sp} {k : Nat} {y x : Sp} (h : nrm (l.take (k + 1)) = true) (hy : l[k]? = some y) (hx : l[k + 1]? = some x) (hr : rightS x.1 x.2 = true) (hg : y.2 + 2 ≤ x.1) : nrm (l.take (k + 1 + 1)) = true := by
  have e := take_succ_at hx
  have e2 := take_succ_at hy
  rw [e]
  unfold nrm at h ⊢
  rw [nrmG_snoc, h, hr]
  have : lastTo none (l.take (k + 1)) = some y.2 := by unfold lastTo; rw [e2, List.getLast?_concat]
  rw [this]
  simp [hg]
theorem nrm_bad0 {l : List Sp} {k : Nat} {x : Sp} (hx : l[k]? = some x) (hr : rightS x.1 x.2 = false) : nrm l = false := by
  refine Bool.eq_false_iff.2 fun h => ?_
  have := nrmG_right h (List.mem_of_getElem? hx)
  rw [hr] at this; cases this
theorem nrm_badk {l : List Sp} {k : Nat} {y x : Sp} (hy : l[k]? = some y) (hx : l[k + 1]? = some x) (hg : x.1 < y.2 + 2) : nrm l = false := by
  refine nrm_no (k := k + 1 + 1) ?_
  have e := take_succ_at hx
  have e2 := take_succ_at hy
  rw [e]
  unfold nrm
  rw [nrmG_snoc]
  have : lastTo none (l.take (k + 1)) = some y.2 := by unfold lastTo; rw [e2, List.getLast?_concat]
  rw [this]
  have : ¬ (y.2 + 2 ≤ x.1) := by omega
  simp [this]
theorem right_le {f t : Int} (h : rightS f t = true) : t ≤ 999 ∧ f ≤ t ∧ 1 ≤ f := by have := rightS_iff.1 h; omega

set_option maxRecDepth 100000 in
set_option maxHeartbeats 4000000 in
theorem normal_any (v : Value) (xs : List Sp) (w : World) (h : RdP w v xs) (hn : xs.length ≤ 1000000) :
    Calls Tryd.prog 41 #[v] w fun e w' => e = .returned (.bool (nrm xs)) ∧ Below w.heap.size w w' := by
  obtain ⟨a, c, rfl, l1, l2, f⟩ := h.open
  clear h
  have F := Lib.hid f; clear f
  go_enter Tryd.func41, Tryd.ntmps41
  go_wp2
  go_loopw [7] (fun i wr => ∃ k : Nat, k ≤ xs.length ∧ i = .int .i64 k ∧ nrm (xs.take k) = true ∧ Below w.heap.size w wr) (fun i _ => xs.length - (intOf i).toNat)
  case atStart => exact ⟨0, Nat.zero_le _, rfl, by simp [nrm, nrmG], Below.refl _ _⟩
  case round =>
    obtain ⟨k, hk, rfl, hnr, hbl⟩ := hrel
    have HNR := Lib.hid hnr; have HBL := Lib.hid hbl
    by_cases hlt : k < xs.length
    · obtain ⟨⟨x0, x1⟩, hx⟩ := elem_at hlt
      obtain ⟨b1, o1, rfl, hb1, q0, q1⟩ := F.out k _ hx
      have g0 := (hbl.cell (p := ⟨b1, o1 + k * 2, none⟩) hb1).trans q0
      have g1 := (hbl.cell (p := ⟨b1, o1 + k * 2 + 1, none⟩) hb1).trans q1
      dsimp only at g0 g1
      have hbz := hbl.size
      have hne : ¬ b1 = wr.heap.size := by omega
      have hk1 : (k : Int) < (xs.length : Int) := by omega
      have hk0 : (0 : Int) ≤ (k : Int) := Int.natCast_nonneg _
      have HX := Lib.hid hx
      clear hnr hbl q0 q1 hx
      have hbsz := hbz
      have HBL0 := HBL
      by_cases hr : rightS x0 x1 = true
      · have hrr := right_le hr
        obtain ⟨hr1, hr2, hr3⟩ := hrr
        have HR := Lib.hid hr; clear hr
        rcases k with _ | k
        · simp only [Nat.zero_mul, Nat.add_zero] at g0 g1
          have HK0 := Lib.hid (show decide ((0 : Int) < ((0 : Nat) : Int)) = false from rfl)
          go_wp2_with fail
          have bX := Boxs.new wr 81 #[.int .i64 x0, .int .i64 x1]
          have z0 := bX.cell 0
          have z1 := bX.cell 1
          have hbl1 := HBL0.out.alloc hbsz (.cells #[.int .i64 x0, .int .i64 x1] 81)
          have hV0s : (wr.alloc (.cells #[.int .i64 x0, .int .i64 x1] 81)).heap.size = wr.heap.size + 1 := by simp
          generalize wr.alloc (.cells #[.int .i64 x0, .int .i64 x1] 81) = V0 at *
          have HBL := Lib.hid hbl1
          clear hbl1 bX
          generalize hBX : wr.heap.size = BX at *
          simp at z0 z1
          refine wp_region_held (S := fun W' => W'.cell? ⟨BX, 0, none⟩ = some (.int .i64 x0) ∧ W'.cell? ⟨BX, 1, none⟩ = some (.int .i64 x1)) (by kernel_rfl) ?_
          have hdr : (V0).drew = { V0 with drawn := (V0).drawn + 1 } := rfl
          rw [← hdr]
          clear hdr
          have G1 := Lib.hid (show (V0.drewN 1).cell? ⟨BX, 0, none⟩ = some (.int .i64 x0) ∧ (V0.drewN 1).cell? ⟨BX, 1, none⟩ = some (.int .i64 x1) from ⟨z0, z1⟩)
          have HBV := Lib.hid (Below.dn HBL.out 1)
          change wpAnyH _ _ _ _ _ _ _ _ (V0.drewN 1)
          have hs0 : w.heap.size ≤ (V0.drewN 1).heap.size := HBL.out.size
          have hbl1 : b1 < (V0.drewN 1).heap.size := by show b1 < V0.heap.size; omega
          have hbx1 : BX < (V0.drewN 1).heap.size := by show BX < V0.heap.size; omega
          clear z0 z1
          generalize V0.drewN 1 = V at *
          refine wpAnyHTake 0 (some 12) (.agg #[.int .i64 x0, .int .i64 x1]) rfl rfl (by kernel_rfl) (by kernel_rfl) (by kernel_rfl) (fun _ _ _ h => h) (by rfl) (fun W hW => by have g0 := hW.1; have g1 := hW.2; go_simp) (G1.out) ?_
          simp only [Act.put, List.setIfInBounds_toArray, List.set_cons_zero, List.set_cons_succ]
          refine wpAnyHCall 1 (some 13) 58 #[.agg #[.int .i64 x0, .int .i64 x1]] (by kernel_rfl) rfl rfl (by rfl) (by go_simp) (right_true x0 x1 _ HR.out) ?_
          rintro e V2 ⟨rfl, hb⟩
          have HB2 := Lib.hid hb
          have G2 := Lib.hid (show V2.cell? ⟨BX, 0, none⟩ = some (.int .i64 x0) ∧ V2.cell? ⟨BX, 1, none⟩ = some (.int .i64 x1) from
            ⟨(hb.cell (p := ⟨BX, 0, none⟩) hbx1).trans G1.out.1, (hb.cell (p := ⟨BX, 1, none⟩) hbx1).trans G1.out.2⟩)
          clear hb
          refine ⟨_, rfl, G2.out, ?_⟩
          simp only [Act.put, List.setIfInBounds_toArray, List.set_cons_zero, List.set_cons_succ]
          refine wpAnyHTake 2 (some 14) (.bool false) rfl rfl (by kernel_rfl) (by kernel_rfl) (by kernel_rfl) (fun _ _ _ h => h) (by rfl) (fun _ _ => by go_simp) (G2.out) ?_
          simp only [Act.put, List.setIfInBounds_toArray, List.set_cons_zero, List.set_cons_succ]
          refine wpAnyHTake 3 (some 15) (.bool false) rfl rfl (by kernel_rfl) (by kernel_rfl) (by kernel_rfl) (fun _ _ _ h => h) (by rfl) (fun _ _ => by rfl) (G2.out) ?_
          simp only [Act.put, List.setIfInBounds_toArray, List.set_cons_zero, List.set_cons_succ]
          refine wpAnyHTake 4 (some 16) (.int .i64 ((0 : Nat) : Int)) rfl rfl (by kernel_rfl) (by kernel_rfl) (by kernel_rfl) (fun _ _ _ h => h) (by rfl) (fun _ _ => by rfl) (G2.out) ?_
          simp only [Act.put, List.setIfInBounds_toArray, List.set_cons_zero, List.set_cons_succ]
          refine wpAnyHTake 5 (some 17) (.bool false) rfl rfl (by kernel_rfl) (by kernel_rfl) (by kernel_rfl) (fun _ _ _ h => h) (by rfl) (fun _ _ => by have h0 := HK0.out; go_simp) (G2.out) ?_
          simp only [Act.put, List.setIfInBounds_toArray, List.set_cons_zero, List.set_cons_succ]
          refine wpAnyHTake 6 (some 18) (.bool false) rfl rfl (by kernel_rfl) (by kernel_rfl) (by kernel_rfl) (fun _ _ _ h => h) (by rfl) (fun _ _ => by rfl) (G2.out) ?_
          simp only [Act.put, List.setIfInBounds_toArray, List.set_cons_zero, List.set_cons_succ]
          refine wpAnyHPass 7 (some 19) rfl rfl (by kernel_rfl) (by kernel_rfl) (by kernel_rfl) (fun _ _ _ h => h) (by rfl) (G2.out) ?_
          simp only [Act.put, List.setIfInBounds_toArray, List.set_cons_zero, List.set_cons_succ]
          refine wpAnyHPass 8 (some 20) rfl rfl (by kernel_rfl) (by kernel_rfl) (by kernel_rfl) (fun _ _ _ h => h) (by rfl) (G2.out) ?_
          simp only [Act.put, List.setIfInBounds_toArray, List.set_cons_zero, List.set_cons_succ]
          refine wpAnyHPass 9 (some 21) rfl rfl (by kernel_rfl) (by kernel_rfl) (by kernel_rfl) (fun _ _ _ h => h) (by rfl) (G2.out) ?_
          simp only [Act.put, List.setIfInBounds_toArray, List.set_cons_zero, List.set_cons_succ]
          refine wpAnyHPass 10 (some 22) rfl rfl (by kernel_rfl) (by kernel_rfl) (by kernel_rfl) (fun _ _ _ h => h) (by rfl) (G2.out) ?_
          simp only [Act.put, List.setIfInBounds_toArray, List.set_cons_zero, List.set_cons_succ]
          refine wpAnyHPass 11 (some 23) rfl rfl (by kernel_rfl) (by kernel_rfl) (by kernel_rfl) (fun _ _ _ h => h) (by rfl) (G2.out) ?_
          simp only [Act.put, List.setIfInBounds_toArray, List.set_cons_zero, List.set_cons_succ]
          refine wpAnyHPass 12 (some 24) rfl rfl (by kernel_rfl) (by kernel_rfl) (by kernel_rfl) (fun _ _ _ h => h) (by rfl) (G2.out) ?_
          simp only [Act.put, List.setIfInBounds_toArray, List.set_cons_zero, List.set_cons_succ]
          refine wpAnyHPass 13 (some 25) rfl rfl (by kernel_rfl) (by kernel_rfl) (by kernel_rfl) (fun _ _ _ h => h) (by rfl) (G2.out) ?_
          simp only [Act.put, List.setIfInBounds_toArray, List.set_cons_zero, List.set_cons_succ]
          refine wpAnyHPass 14 (some 26) rfl rfl (by kernel_rfl) (by kernel_rfl) (by kernel_rfl) (fun _ _ _ h => h) (by rfl) (G2.out) ?_
          simp only [Act.put, List.setIfInBounds_toArray, List.set_cons_zero, List.set_cons_succ]
          refine wpAnyHPass 15 (some 27) rfl rfl (by kernel_rfl) (by kernel_rfl) (by kernel_rfl) (fun _ _ _ h => h) (by rfl) (G2.out) ?_
          simp only [Act.put, List.setIfInBounds_toArray, List.set_cons_zero, List.set_cons_succ]
          refine wpAnyHPass 16 (some 28) rfl rfl (by kernel_rfl) (by kernel_rfl) (by kernel_rfl) (fun _ _ _ h => h) (by rfl) (G2.out) ?_
          simp only [Act.put, List.setIfInBounds_toArray, List.set_cons_zero, List.set_cons_succ]
          refine wpAnyHTake 17 (some 29) (.bool false) rfl rfl (by kernel_rfl) (by kernel_rfl) (by kernel_rfl) (fun _ _ _ h => h) (by rfl) (fun _ _ => by go_simp) (G2.out) ?_
          simp only [Act.put, List.setIfInBounds_toArray, List.set_cons_zero, List.set_cons_succ]
          refine wpAnyHTake 18 (some 30) (.bool false) rfl rfl (by kernel_rfl) (by kernel_rfl) (by kernel_rfl) (fun _ _ _ h => h) (by rfl) (fun _ _ => by go_simp) (G2.out) ?_
          simp only [Act.put, List.setIfInBounds_toArray, List.set_cons_zero, List.set_cons_succ]
          refine wpAnyH_done (by kernel_rfl) ?_ _
          rename_i K hK
          refine hK _ _ ?_
          clear hK
          go_wp2_with fail
          go_roundw
          case rel => exact ⟨0 + 1, by omega, by go_num, nrm_step0 HX.out HR.out, HBV.out.trans (HB2.out.mono hs0)⟩
          case measure => simp [intOf]; omega
        · obtain ⟨⟨y0, y1⟩, hy⟩ := elem_at (l := xs) (k := k) (by omega)
          have hyr := nrm_right HNR.out (x := (y0, y1)) (List.mem_of_getElem? (i := k) (by rw [List.getElem?_take, if_pos (by omega)]; exact hy))
          obtain ⟨hy1, hy2, hy3⟩ := hyr
          obtain ⟨b2, o2, hbo, hb2, p0, p1⟩ := F.out k _ hy
          have hbb : b1 = b2 ∧ o1 = o2 := by cases hbo; exact ⟨rfl, rfl⟩
          obtain ⟨rfl, rfl⟩ := hbb
          have HY := Lib.hid hy
          dsimp only at p0 p1 hy1 hy2 hy3
          have PV := Lib.hid ((HBL0.out.cell (p := ⟨b1, o1 + k * 2 + 1, none⟩) hb1).trans p1)
          have HK0 := Lib.hid (show decide ((0 : Int) < ((k + 1 : Nat) : Int)) = true from decide_eq_true (by omega))
          have e1 : ((k + 1 : Nat) : Int) - 1 = (k : Int) := by omega
          have HW1 := Lib.hid (show IntKind.i64.wrap (k : Int) = (k : Int) from IntWalk.i64_in _ (by omega))
          have HW2 := Lib.hid (show IntKind.i64.wrap (y1 + 2) = y1 + 2 from IntWalk.i64_in _ (by omega))
          have hlk : k < xs.length := by omega
          have hlki : (k : Int) < (xs.length : Int) := by omega
          have hk0' : (0 : Int) ≤ (k : Int) := Int.natCast_nonneg _
          have hk1' : (0 : Int) ≤ (k : Int) + 1 := by omega
          clear p0 p1 hbo hy
          by_cases hg : x0 < y1 + 2
          · have HG := Lib.hid (show decide (x0 < y1 + 2) = true from decide_eq_true hg)
            have hno : nrm xs = false := nrm_badk HY.out HX.out hg
            have HNO := Lib.hid hno
            clear hg hno
            go_wp2_with fail
            have bX := Boxs.new wr 81 #[.int .i64 x0, .int .i64 x1]
            have z0 := bX.cell 0
            have z1 := bX.cell 1
            have hbl1 := HBL0.out.alloc hbsz (.cells #[.int .i64 x0, .int .i64 x1] 81)
            have hV0s : (wr.alloc (.cells #[.int .i64 x0, .int .i64 x1] 81)).heap.size = wr.heap.size + 1 := by simp
            have z2 := ((Below.refl wr.heap.size wr).alloc (Nat.le_refl _) (.cells #[.int .i64 x0, .int .i64 x1] 81)).cell (p := ⟨b1, o1 + k * 2 + 1, none⟩) (by show b1 < wr.heap.size; omega)
            rw [PV.out] at z2
            generalize wr.alloc (.cells #[.int .i64 x0, .int .i64 x1] 81) = V0 at *
            have HBL := Lib.hid hbl1
            clear hbl1 bX
            generalize hBX : wr.heap.size = BX at *
            simp at z0 z1
            refine wp_region_held (S := fun W' => W'.cell? ⟨BX, 0, none⟩ = some (.int .i64 x0) ∧ W'.cell? ⟨BX, 1, none⟩ = some (.int .i64 x1) ∧ W'.cell? ⟨b1, o1 + k * 2 + 1, none⟩ = some (.int .i64 y1)) (by kernel_rfl) ?_
            have hdr : (V0).drew = { V0 with drawn := (V0).drawn + 1 } := rfl
            rw [← hdr]
            clear hdr
            have G1 := Lib.hid (show (V0.drewN 1).cell? ⟨BX, 0, none⟩ = some (.int .i64 x0) ∧ (V0.drewN 1).cell? ⟨BX, 1, none⟩ = some (.int .i64 x1) ∧ (V0.drewN 1).cell? ⟨b1, o1 + k * 2 + 1, none⟩ = some (.int .i64 y1) from ⟨z0, z1, z2⟩)
            have HBV := Lib.hid (Below.dn HBL.out 1)
            change wpAnyH _ _ _ _ _ _ _ _ (V0.drewN 1)
            have hs0 : w.heap.size ≤ (V0.drewN 1).heap.size := HBL.out.size
            have hbl1 : b1 < (V0.drewN 1).heap.size := by show b1 < V0.heap.size; omega
            have hbx1 : BX < (V0.drewN 1).heap.size := by show BX < V0.heap.size; omega
            clear z0 z1 z2
            generalize V0.drewN 1 = V at *
            refine wpAnyHTake 0 (some 12) (.agg #[.int .i64 x0, .int .i64 x1]) rfl rfl (by kernel_rfl) (by kernel_rfl) (by kernel_rfl) (fun _ _ _ h => h) (by rfl) (fun W hW => by have g0 := hW.1; have g1 := hW.2.1; go_simp) (G1.out) ?_
            simp only [Act.put, List.setIfInBounds_toArray, List.set_cons_zero, List.set_cons_succ]
            refine wpAnyHCall 1 (some 13) 58 #[.agg #[.int .i64 x0, .int .i64 x1]] (by kernel_rfl) rfl rfl (by rfl) (by go_simp) (right_true x0 x1 _ HR.out) ?_
            rintro e V2 ⟨rfl, hb⟩
            have HB2 := Lib.hid hb
            have G2 := Lib.hid (show V2.cell? ⟨BX, 0, none⟩ = some (.int .i64 x0) ∧ V2.cell? ⟨BX, 1, none⟩ = some (.int .i64 x1) ∧ V2.cell? ⟨b1, o1 + k * 2 + 1, none⟩ = some (.int .i64 y1) from
              ⟨(hb.cell (p := ⟨BX, 0, none⟩) hbx1).trans G1.out.1, (hb.cell (p := ⟨BX, 1, none⟩) hbx1).trans G1.out.2.1, (hb.cell (p := ⟨b1, o1 + k * 2 + 1, none⟩) hbl1).trans G1.out.2.2⟩)
            clear hb
            refine ⟨_, rfl, G2.out, ?_⟩
            simp only [Act.put, List.setIfInBounds_toArray, List.set_cons_zero, List.set_cons_succ]
            refine wpAnyHTake 2 (some 14) (.bool false) rfl rfl (by kernel_rfl) (by kernel_rfl) (by kernel_rfl) (fun _ _ _ h => h) (by rfl) (fun _ _ => by go_simp) (G2.out) ?_
            simp only [Act.put, List.setIfInBounds_toArray, List.set_cons_zero, List.set_cons_succ]
            refine wpAnyHTake 3 (some 15) (.bool false) rfl rfl (by kernel_rfl) (by kernel_rfl) (by kernel_rfl) (fun _ _ _ h => h) (by rfl) (fun _ _ => by rfl) (G2.out) ?_
            simp only [Act.put, List.setIfInBounds_toArray, List.set_cons_zero, List.set_cons_succ]
            refine wpAnyHTake 4 (some 16) (.int .i64 ((k + 1 : Nat) : Int)) rfl rfl (by kernel_rfl) (by kernel_rfl) (by kernel_rfl) (fun _ _ _ h => h) (by rfl) (fun _ _ => by rfl) (G2.out) ?_
            simp only [Act.put, List.setIfInBounds_toArray, List.set_cons_zero, List.set_cons_succ]
            refine wpAnyHTake 5 (some 17) (.bool true) rfl rfl (by kernel_rfl) (by kernel_rfl) (by kernel_rfl) (fun _ _ _ h => h) (by rfl) (fun _ _ => by have h0 := HK0.out; go_simp) (G2.out) ?_
            simp only [Act.put, List.setIfInBounds_toArray, List.set_cons_zero, List.set_cons_succ]
            refine wpAnyHTake 6 (some 18) (.bool true) rfl rfl (by kernel_rfl) (by kernel_rfl) (by kernel_rfl) (fun _ _ _ h => h) (by rfl) (fun _ _ => by rfl) (G2.out) ?_
            simp only [Act.put, List.setIfInBounds_toArray, List.set_cons_zero, List.set_cons_succ]
            refine wpAnyHTake 7 (some 19) (.pointer (some ⟨BX, 0, none⟩)) rfl rfl (by kernel_rfl) (by kernel_rfl) (by kernel_rfl) (fun _ _ _ h => h) (by rfl) (fun _ _ => by go_simp) (G2.out) ?_
            simp only [Act.put, List.setIfInBounds_toArray, List.set_cons_zero, List.set_cons_succ]
            refine wpAnyHTake 8 (some 20) (.int .i64 x0) rfl rfl (by kernel_rfl) (by kernel_rfl) (by kernel_rfl) (fun _ _ _ h => h) (by rfl) (fun W hW => by have g0 := hW.1; go_simp) (G2.out) ?_
            simp only [Act.put, List.setIfInBounds_toArray, List.set_cons_zero, List.set_cons_succ]
            refine wpAnyHTake 9 (some 21) (.slice (some ⟨b1, o1, none⟩) xs.length c) rfl rfl (by kernel_rfl) (by kernel_rfl) (by kernel_rfl) (fun _ _ _ h => h) (by rfl) (fun _ _ => by rfl) (G2.out) ?_
            simp only [Act.put, List.setIfInBounds_toArray, List.set_cons_zero, List.set_cons_succ]
            refine wpAnyHTake 10 (some 22) (.int .i64 ((k + 1 : Nat) : Int)) rfl rfl (by kernel_rfl) (by kernel_rfl) (by kernel_rfl) (fun _ _ _ h => h) (by rfl) (fun _ _ => by rfl) (G2.out) ?_
            simp only [Act.put, List.setIfInBounds_toArray, List.set_cons_zero, List.set_cons_succ]
            refine wpAnyHTake 11 (some 23) (.int .i64 (k : Int)) rfl rfl (by kernel_rfl) (by kernel_rfl) (by kernel_rfl) (fun _ _ _ h => h) (by rfl) (fun _ _ => by have h0 := HW1.out; go_simp) (G2.out) ?_
            simp only [Act.put, List.setIfInBounds_toArray, List.set_cons_zero, List.set_cons_succ]
            refine wpAnyHTake 12 (some 24) (.pointer (some ⟨b1, o1 + k * 2, none⟩)) rfl rfl (by kernel_rfl) (by kernel_rfl) (by kernel_rfl) (fun _ _ _ h => h) (by rfl) (fun _ _ => by go_simp) (G2.out) ?_
            simp only [Act.put, List.setIfInBounds_toArray, List.set_cons_zero, List.set_cons_succ]
            refine wpAnyHTake 13 (some 25) (.pointer (some ⟨b1, o1 + k * 2 + 1, none⟩)) rfl rfl (by kernel_rfl) (by kernel_rfl) (by kernel_rfl) (fun _ _ _ h => h) (by rfl) (fun _ _ => by go_simp) (G2.out) ?_
            simp only [Act.put, List.setIfInBounds_toArray, List.set_cons_zero, List.set_cons_succ]
            refine wpAnyHTake 14 (some 26) (.int .i64 y1) rfl rfl (by kernel_rfl) (by kernel_rfl) (by kernel_rfl) (fun _ _ _ h => h) (by rfl) (fun W hW => by have g0 := hW.2.2; go_simp) (G2.out) ?_
            simp only [Act.put, List.setIfInBounds_toArray, List.set_cons_zero, List.set_cons_succ]
            refine wpAnyHTake 15 (some 27) (.int .i64 (y1 + 2)) rfl rfl (by kernel_rfl) (by kernel_rfl) (by kernel_rfl) (fun _ _ _ h => h) (by rfl) (fun _ _ => by have h0 := HW2.out; go_simp) (G2.out) ?_
            simp only [Act.put, List.setIfInBounds_toArray, List.set_cons_zero, List.set_cons_succ]
            refine wpAnyHTake 16 (some 28) (.bool true) rfl rfl (by kernel_rfl) (by kernel_rfl) (by kernel_rfl) (fun _ _ _ h => h) (by rfl) (fun _ _ => by have h0 := HG.out; go_simp) (G2.out) ?_
            simp only [Act.put, List.setIfInBounds_toArray, List.set_cons_zero, List.set_cons_succ]
            refine wpAnyHTake 17 (some 29) (.bool true) rfl rfl (by kernel_rfl) (by kernel_rfl) (by kernel_rfl) (fun _ _ _ h => h) (by rfl) (fun _ _ => by go_simp) (G2.out) ?_
            simp only [Act.put, List.setIfInBounds_toArray, List.set_cons_zero, List.set_cons_succ]
            refine wpAnyHTake 18 (some 30) (.bool true) rfl rfl (by kernel_rfl) (by kernel_rfl) (by kernel_rfl) (fun _ _ _ h => h) (by rfl) (fun _ _ => by go_simp) (G2.out) ?_
            simp only [Act.put, List.setIfInBounds_toArray, List.set_cons_zero, List.set_cons_succ]
            refine wpAnyH_done (by kernel_rfl) ?_ _
            rename_i K hK
            refine hK _ _ ?_
            clear hK
            go_wp2_with fail
            go_ret
            exact ⟨ret_bool HNO.out.symm, HBV.out.trans (HB2.out.mono hs0)⟩
          · have HG := Lib.hid (show decide (x0 < y1 + 2) = false from decide_eq_false hg)
            have hok := nrm_stepk HNR.out HY.out HX.out HR.out (show y1 + 2 ≤ x0 by omega)
            have HOK := Lib.hid hok
            clear hg hok
            go_wp2_with fail
            have bX := Boxs.new wr 81 #[.int .i64 x0, .int .i64 x1]
            have z0 := bX.cell 0
            have z1 := bX.cell 1
            have hbl1 := HBL0.out.alloc hbsz (.cells #[.int .i64 x0, .int .i64 x1] 81)
            have hV0s : (wr.alloc (.cells #[.int .i64 x0, .int .i64 x1] 81)).heap.size = wr.heap.size + 1 := by simp
            have z2 := ((Below.refl wr.heap.size wr).alloc (Nat.le_refl _) (.cells #[.int .i64 x0, .int .i64 x1] 81)).cell (p := ⟨b1, o1 + k * 2 + 1, none⟩) (by show b1 < wr.heap.size; omega)
            rw [PV.out] at z2
            generalize wr.alloc (.cells #[.int .i64 x0, .int .i64 x1] 81) = V0 at *
            have HBL := Lib.hid hbl1
            clear hbl1 bX
            generalize hBX : wr.heap.size = BX at *
            simp at z0 z1
            refine wp_region_held (S := fun W' => W'.cell? ⟨BX, 0, none⟩ = some (.int .i64 x0) ∧ W'.cell? ⟨BX, 1, none⟩ = some (.int .i64 x1) ∧ W'.cell? ⟨b1, o1 + k * 2 + 1, none⟩ = some (.int .i64 y1)) (by kernel_rfl) ?_
            have hdr : (V0).drew = { V0 with drawn := (V0).drawn + 1 } := rfl
            rw [← hdr]
            clear hdr
            have G1 := Lib.hid (show (V0.drewN 1).cell? ⟨BX, 0, none⟩ = some (.int .i64 x0) ∧ (V0.drewN 1).cell? ⟨BX, 1, none⟩ = some (.int .i64 x1) ∧ (V0.drewN 1).cell? ⟨b1, o1 + k * 2 + 1, none⟩ = some (.int .i64 y1) from ⟨z0, z1, z2⟩)
            have HBV := Lib.hid (Below.dn HBL.out 1)
            change wpAnyH _ _ _ _ _ _ _ _ (V0.drewN 1)
            have hs0 : w.heap.size ≤ (V0.drewN 1).heap.size := HBL.out.size
            have hbl1 : b1 < (V0.drewN 1).heap.size := by show b1 < V0.heap.size; omega
            have hbx1 : BX < (V0.drewN 1).heap.size := by show BX < V0.heap.size; omega
            clear z0 z1 z2
            generalize V0.drewN 1 = V at *
            refine wpAnyHTake 0 (some 12) (.agg #[.int .i64 x0, .int .i64 x1]) rfl rfl (by kernel_rfl) (by kernel_rfl) (by kernel_rfl) (fun _ _ _ h => h) (by rfl) (fun W hW => by have g0 := hW.1; have g1 := hW.2.1; go_simp) (G1.out) ?_
            simp only [Act.put, List.setIfInBounds_toArray, List.set_cons_zero, List.set_cons_succ]
            refine wpAnyHCall 1 (some 13) 58 #[.agg #[.int .i64 x0, .int .i64 x1]] (by kernel_rfl) rfl rfl (by rfl) (by go_simp) (right_true x0 x1 _ HR.out) ?_
            rintro e V2 ⟨rfl, hb⟩
            have HB2 := Lib.hid hb
            have G2 := Lib.hid (show V2.cell? ⟨BX, 0, none⟩ = some (.int .i64 x0) ∧ V2.cell? ⟨BX, 1, none⟩ = some (.int .i64 x1) ∧ V2.cell? ⟨b1, o1 + k * 2 + 1, none⟩ = some (.int .i64 y1) from
              ⟨(hb.cell (p := ⟨BX, 0, none⟩) hbx1).trans G1.out.1, (hb.cell (p := ⟨BX, 1, none⟩) hbx1).trans G1.out.2.1, (hb.cell (p := ⟨b1, o1 + k * 2 + 1, none⟩) hbl1).trans G1.out.2.2⟩)
            clear hb
            refine ⟨_, rfl, G2.out, ?_⟩
            simp only [Act.put, List.setIfInBounds_toArray, List.set_cons_zero, List.set_cons_succ]
            refine wpAnyHTake 2 (some 14) (.bool false) rfl rfl (by kernel_rfl) (by kernel_rfl) (by kernel_rfl) (fun _ _ _ h => h) (by rfl) (fun _ _ => by go_simp) (G2.out) ?_
            simp only [Act.put, List.setIfInBounds_toArray, List.set_cons_zero, List.set_cons_succ]
            refine wpAnyHTake 3 (some 15) (.bool false) rfl rfl (by kernel_rfl) (by kernel_rfl) (by kernel_rfl) (fun _ _ _ h => h) (by rfl) (fun _ _ => by rfl) (G2.out) ?_
            simp only [Act.put, List.setIfInBounds_toArray, List.set_cons_zero, List.set_cons_succ]
            refine wpAnyHTake 4 (some 16) (.int .i64 ((k + 1 : Nat) : Int)) rfl rfl (by kernel_rfl) (by kernel_rfl) (by kernel_rfl) (fun _ _ _ h => h) (by rfl) (fun _ _ => by rfl) (G2.out) ?_
            simp only [Act.put, List.setIfInBounds_toArray, List.set_cons_zero, List.set_cons_succ]
            refine wpAnyHTake 5 (some 17) (.bool true) rfl rfl (by kernel_rfl) (by kernel_rfl) (by kernel_rfl) (fun _ _ _ h => h) (by rfl) (fun _ _ => by have h0 := HK0.out; go_simp) (G2.out) ?_
            simp only [Act.put, List.setIfInBounds_toArray, List.set_cons_zero, List.set_cons_succ]
            refine wpAnyHTake 6 (some 18) (.bool true) rfl rfl (by kernel_rfl) (by kernel_rfl) (by kernel_rfl) (fun _ _ _ h => h) (by rfl) (fun _ _ => by rfl) (G2.out) ?_
            simp only [Act.put, List.setIfInBounds_toArray, List.set_cons_zero, List.set_cons_succ]
            refine wpAnyHTake 7 (some 19) (.pointer (some ⟨BX, 0, none⟩)) rfl rfl (by kernel_rfl) (by kernel_rfl) (by kernel_rfl) (fun _ _ _ h => h) (by rfl) (fun _ _ => by go_simp) (G2.out) ?_
            simp only [Act.put, List.setIfInBounds_toArray, List.set_cons_zero, List.set_cons_succ]
            refine wpAnyHTake 8 (some 20) (.int .i64 x0) rfl rfl (by kernel_rfl) (by kernel_rfl) (by kernel_rfl) (fun _ _ _ h => h) (by rfl) (fun W hW => by have g0 := hW.1; go_simp) (G2.out) ?_
            simp only [Act.put, List.setIfInBounds_toArray, List.set_cons_zero, List.set_cons_succ]
            refine wpAnyHTake 9 (some 21) (.slice (some ⟨b1, o1, none⟩) xs.length c) rfl rfl (by kernel_rfl) (by kernel_rfl) (by kernel_rfl) (fun _ _ _ h => h) (by rfl) (fun _ _ => by rfl) (G2.out) ?_
            simp only [Act.put, List.setIfInBounds_toArray, List.set_cons_zero, List.set_cons_succ]
            refine wpAnyHTake 10 (some 22) (.int .i64 ((k + 1 : Nat) : Int)) rfl rfl (by kernel_rfl) (by kernel_rfl) (by kernel_rfl) (fun _ _ _ h => h) (by rfl) (fun _ _ => by rfl) (G2.out) ?_
            simp only [Act.put, List.setIfInBounds_toArray, List.set_cons_zero, List.set_cons_succ]
            refine wpAnyHTake 11 (some 23) (.int .i64 (k : Int)) rfl rfl (by kernel_rfl) (by kernel_rfl) (by kernel_rfl) (fun _ _ _ h => h) (by rfl) (fun _ _ => by have h0 := HW1.out; go_simp) (G2.out) ?_
            simp only [Act.put, List.setIfInBounds_toArray, List.set_cons_zero, List.set_cons_succ]
            refine wpAnyHTake 12 (some 24) (.pointer (some ⟨b1, o1 + k * 2, none⟩)) rfl rfl (by kernel_rfl) (by kernel_rfl) (by kernel_rfl) (fun _ _ _ h => h) (by rfl) (fun _ _ => by go_simp) (G2.out) ?_
            simp only [Act.put, List.setIfInBounds_toArray, List.set_cons_zero, List.set_cons_succ]
            refine wpAnyHTake 13 (some 25) (.pointer (some ⟨b1, o1 + k * 2 + 1, none⟩)) rfl rfl (by kernel_rfl) (by kernel_rfl) (by kernel_rfl) (fun _ _ _ h => h) (by rfl) (fun _ _ => by go_simp) (G2.out) ?_
            simp only [Act.put, List.setIfInBounds_toArray, List.set_cons_zero, List.set_cons_succ]
            refine wpAnyHTake 14 (some 26) (.int .i64 y1) rfl rfl (by kernel_rfl) (by kernel_rfl) (by kernel_rfl) (fun _ _ _ h => h) (by rfl) (fun W hW => by have g0 := hW.2.2; go_simp) (G2.out) ?_
            simp only [Act.put, List.setIfInBounds_toArray, List.set_cons_zero, List.set_cons_succ]
            refine wpAnyHTake 15 (some 27) (.int .i64 (y1 + 2)) rfl rfl (by kernel_rfl) (by kernel_rfl) (by kernel_rfl) (fun _ _ _ h => h) (by rfl) (fun _ _ => by have h0 := HW2.out; go_simp) (G2.out) ?_
            simp only [Act.put, List.setIfInBounds_toArray, List.set_cons_zero, List.set_cons_succ]
            refine wpAnyHTake 16 (some 28) (.bool false) rfl rfl (by kernel_rfl) (by kernel_rfl) (by kernel_rfl) (fun _ _ _ h => h) (by rfl) (fun _ _ => by have h0 := HG.out; go_simp) (G2.out) ?_
            simp only [Act.put, List.setIfInBounds_toArray, List.set_cons_zero, List.set_cons_succ]
            refine wpAnyHTake 17 (some 29) (.bool false) rfl rfl (by kernel_rfl) (by kernel_rfl) (by kernel_rfl) (fun _ _ _ h => h) (by rfl) (fun _ _ => by go_simp) (G2.out) ?_
            simp only [Act.put, List.setIfInBounds_toArray, List.set_cons_zero, List.set_cons_succ]
            refine wpAnyHTake 18 (some 30) (.bool false) rfl rfl (by kernel_rfl) (by kernel_rfl) (by kernel_rfl) (fun _ _ _ h => h) (by rfl) (fun _ _ => by go_simp) (G2.out) ?_
            simp only [Act.put, List.setIfInBounds_toArray, List.set_cons_zero, List.set_cons_succ]
            refine wpAnyH_done (by kernel_rfl) ?_ _
            rename_i K hK
            refine hK _ _ ?_
            clear hK
            go_wp2_with fail
            go_roundw
            case rel => exact ⟨k + 1 + 1, by omega, by go_num, HOK.out, HBV.out.trans (HB2.out.mono hs0)⟩
            case measure => simp [intOf]; omega
      · have hr' : rightS x0 x1 = false := by simpa using hr
        have HR := Lib.hid hr'
        have hno : nrm xs = false := nrm_bad0 HX.out hr'
        have HNO := Lib.hid hno
        clear hr hr' hno
        go_wp2_with fail
        have bX := Boxs.new wr 81 #[.int .i64 x0, .int .i64 x1]
        have z0 := bX.cell 0
        have z1 := bX.cell 1
        have hbl1 := HBL0.out.alloc hbsz (.cells #[.int .i64 x0, .int .i64 x1] 81)
        have hV0s : (wr.alloc (.cells #[.int .i64 x0, .int .i64 x1] 81)).heap.size = wr.heap.size + 1 := by simp
        generalize wr.alloc (.cells #[.int .i64 x0, .int .i64 x1] 81) = V0 at *
        have HBL := Lib.hid hbl1
        clear hbl1 bX
        generalize hBX : wr.heap.size = BX at *
        simp at z0 z1
        refine wp_region_held (S := fun W' => W'.cell? ⟨BX, 0, none⟩ = some (.int .i64 x0) ∧ W'.cell? ⟨BX, 1, none⟩ = some (.int .i64 x1)) (by kernel_rfl) ?_
        have hdr : (V0).drew = { V0 with drawn := (V0).drawn + 1 } := rfl
        rw [← hdr]
        clear hdr
        have G1 := Lib.hid (show (V0.drewN 1).cell? ⟨BX, 0, none⟩ = some (.int .i64 x0) ∧ (V0.drewN 1).cell? ⟨BX, 1, none⟩ = some (.int .i64 x1) from ⟨z0, z1⟩)
        have HBV := Lib.hid (Below.dn HBL.out 1)
        change wpAnyH _ _ _ _ _ _ _ _ (V0.drewN 1)
        have hs0 : w.heap.size ≤ (V0.drewN 1).heap.size := HBL.out.size
        have hbl1 : b1 < (V0.drewN 1).heap.size := by show b1 < V0.heap.size; omega
        have hbx1 : BX < (V0.drewN 1).heap.size := by show BX < V0.heap.size; omega
        clear z0 z1
        generalize V0.drewN 1 = V at *
        refine wpAnyHTake 0 (some 12) (.agg #[.int .i64 x0, .int .i64 x1]) rfl rfl (by kernel_rfl) (by kernel_rfl) (by kernel_rfl) (fun _ _ _ h => h) (by rfl) (fun W hW => by have g0 := hW.1; have g1 := hW.2; go_simp) (G1.out) ?_
        simp only [Act.put, List.setIfInBounds_toArray, List.set_cons_zero, List.set_cons_succ]
        refine wpAnyHCall 1 (some 13) 58 #[.agg #[.int .i64 x0, .int .i64 x1]] (by kernel_rfl) rfl rfl (by rfl) (by go_simp) (right_false x0 x1 _ HR.out) ?_
        rintro e V2 ⟨rfl, hb⟩
        have HB2 := Lib.hid hb
        have G2 := Lib.hid (show V2.cell? ⟨BX, 0, none⟩ = some (.int .i64 x0) ∧ V2.cell? ⟨BX, 1, none⟩ = some (.int .i64 x1) from
          ⟨(hb.cell (p := ⟨BX, 0, none⟩) hbx1).trans G1.out.1, (hb.cell (p := ⟨BX, 1, none⟩) hbx1).trans G1.out.2⟩)
        clear hb
        refine ⟨_, rfl, G2.out, ?_⟩
        simp only [Act.put, List.setIfInBounds_toArray, List.set_cons_zero, List.set_cons_succ]
        refine wpAnyHTake 2 (some 14) (.bool true) rfl rfl (by kernel_rfl) (by kernel_rfl) (by kernel_rfl) (fun _ _ _ h => h) (by rfl) (fun _ _ => by go_simp) (G2.out) ?_
        simp only [Act.put, List.setIfInBounds_toArray, List.set_cons_zero, List.set_cons_succ]
        refine wpAnyHTake 3 (some 15) (.bool true) rfl rfl (by kernel_rfl) (by kernel_rfl) (by kernel_rfl) (fun _ _ _ h => h) (by rfl) (fun _ _ => by rfl) (G2.out) ?_
        simp only [Act.put, List.setIfInBounds_toArray, List.set_cons_zero, List.set_cons_succ]
        refine wpAnyHPass 4 (some 16) rfl rfl (by kernel_rfl) (by kernel_rfl) (by kernel_rfl) (fun _ _ _ h => h) (by rfl) (G2.out) ?_
        simp only [Act.put, List.setIfInBounds_toArray, List.set_cons_zero, List.set_cons_succ]
        refine wpAnyHPass 5 (some 17) rfl rfl (by kernel_rfl) (by kernel_rfl) (by kernel_rfl) (fun _ _ _ h => h) (by rfl) (G2.out) ?_
        simp only [Act.put, List.setIfInBounds_toArray, List.set_cons_zero, List.set_cons_succ]
        refine wpAnyHPass 6 (some 18) rfl rfl (by kernel_rfl) (by kernel_rfl) (by kernel_rfl) (fun _ _ _ h => h) (by rfl) (G2.out) ?_
        simp only [Act.put, List.setIfInBounds_toArray, List.set_cons_zero, List.set_cons_succ]
        refine wpAnyHPass 7 (some 19) rfl rfl (by kernel_rfl) (by kernel_rfl) (by kernel_rfl) (fun _ _ _ h => h) (by rfl) (G2.out) ?_
        simp only [Act.put, List.setIfInBounds_toArray, List.set_cons_zero, List.set_cons_succ]
        refine wpAnyHPass 8 (some 20) rfl rfl (by kernel_rfl) (by kernel_rfl) (by kernel_rfl) (fun _ _ _ h => h) (by rfl) (G2.out) ?_
        simp only [Act.put, List.setIfInBounds_toArray, List.set_cons_zero, List.set_cons_succ]
        refine wpAnyHPass 9 (some 21) rfl rfl (by kernel_rfl) (by kernel_rfl) (by kernel_rfl) (fun _ _ _ h => h) (by rfl) (G2.out) ?_
        simp only [Act.put, List.setIfInBounds_toArray, List.set_cons_zero, List.set_cons_succ]
        refine wpAnyHPass 10 (some 22) rfl rfl (by kernel_rfl) (by kernel_rfl) (by kernel_rfl) (fun _ _ _ h => h) (by rfl) (G2.out) ?_
        simp only [Act.put, List.setIfInBounds_toArray, List.set_cons_zero, List.set_cons_succ]
        refine wpAnyHPass 11 (some 23) rfl rfl (by kernel_rfl) (by kernel_rfl) (by kernel_rfl) (fun _ _ _ h => h) (by rfl) (G2.out) ?_
        simp only [Act.put, List.setIfInBounds_toArray, List.set_cons_zero, List.set_cons_succ]
        refine wpAnyHPass 12 (some 24) rfl rfl (by kernel_rfl) (by kernel_rfl) (by kernel_rfl) (fun _ _ _ h => h) (by rfl) (G2.out) ?_
        simp only [Act.put, List.setIfInBounds_toArray, List.set_cons_zero, List.set_cons_succ]
        refine wpAnyHPass 13 (some 25) rfl rfl (by kernel_rfl) (by kernel_rfl) (by kernel_rfl) (fun _ _ _ h => h) (by rfl) (G2.out) ?_
        simp only [Act.put, List.setIfInBounds_toArray, List.set_cons_zero, List.set_cons_succ]
        refine wpAnyHPass 14 (some 26) rfl rfl (by kernel_rfl) (by kernel_rfl) (by kernel_rfl) (fun _ _ _ h => h) (by rfl) (G2.out) ?_
        simp only [Act.put, List.setIfInBounds_toArray, List.set_cons_zero, List.set_cons_succ]
        refine wpAnyHPass 15 (some 27) rfl rfl (by kernel_rfl) (by kernel_rfl) (by kernel_rfl) (fun _ _ _ h => h) (by rfl) (G2.out) ?_
        simp only [Act.put, List.setIfInBounds_toArray, List.set_cons_zero, List.set_cons_succ]
        refine wpAnyHPass 16 (some 28) rfl rfl (by kernel_rfl) (by kernel_rfl) (by kernel_rfl) (fun _ _ _ h => h) (by rfl) (G2.out) ?_
        simp only [Act.put, List.setIfInBounds_toArray, List.set_cons_zero, List.set_cons_succ]
        refine wpAnyHPass 17 (some 29) rfl rfl (by kernel_rfl) (by kernel_rfl) (by kernel_rfl) (fun _ _ _ h => h) (by rfl) (G2.out) ?_
        simp only [Act.put, List.setIfInBounds_toArray, List.set_cons_zero, List.set_cons_succ]
        refine wpAnyHTake 18 (some 30) (.bool true) rfl rfl (by kernel_rfl) (by kernel_rfl) (by kernel_rfl) (fun _ _ _ h => h) (by rfl) (fun _ _ => by go_simp) (G2.out) ?_
        simp only [Act.put, List.setIfInBounds_toArray, List.set_cons_zero, List.set_cons_succ]
        refine wpAnyH_done (by kernel_rfl) ?_ _
        rename_i K hK
        refine hK _ _ ?_
        clear hK
        go_wp2_with fail
        go_ret
        exact ⟨ret_bool HNO.out.symm, HBV.out.trans (HB2.out.mono hs0)⟩
    · obtain rfl : k = xs.length := by omega
      rw [List.take_length] at hnr
      have HN := Lib.hid hnr
      clear hnr hbl HNR
      go_wp2_with fail
      go_ret
      exact ⟨ret_bool HN.out.symm, HBL.out⟩

set_option maxRecDepth 100000 in
set_option maxHeartbeats 4000000 in
theorem is_any (v : Value) (xs : List Sp) (w : World) (h : RdP w v xs) (hn : xs.length ≤ 1000000) :
    Calls Tryd.prog 44 #[v] w fun e w' => e = .returned (.bool (nrm xs)) ∧ Below w.heap.size w w' := by
  obtain ⟨a, c, rfl, l1, l2, f⟩ := h.open
  clear h
  have F := Lib.hid f; clear f
  go_enter Tryd.func44, Tryd.ntmps44
  go_wp2
  go_loopw [3] (fun i wr => ∃ k : Nat, k ≤ xs.length ∧ i = .int .i64 k ∧ nrm (xs.take k) = true ∧ Below w.heap.size w wr) (fun i _ => xs.length - (intOf i).toNat)
  case atStart => exact ⟨0, Nat.zero_le _, rfl, by simp [nrm, nrmG], Below.refl _ _⟩
  case round =>
    obtain ⟨k, hk, rfl, hnr, hbl⟩ := hrel
    have HNR := Lib.hid hnr; have HBL := Lib.hid hbl
    by_cases hlt : k < xs.length
    · obtain ⟨⟨x0, x1⟩, hx⟩ := elem_at hlt
      obtain ⟨b1, o1, rfl, hb1, q0, q1⟩ := F.out k _ hx
      have g0 := (hbl.cell (p := ⟨b1, o1 + k * 2, none⟩) hb1).trans q0
      have g1 := (hbl.cell (p := ⟨b1, o1 + k * 2 + 1, none⟩) hb1).trans q1
      dsimp only at g0 g1
      have hbz := hbl.size
      have hne : ¬ b1 = wr.heap.size := by omega
      have hk1 : (k : Int) < (xs.length : Int) := by omega
      have hk0 : (0 : Int) ≤ (k : Int) := Int.natCast_nonneg _
      have HX := Lib.hid hx
      clear hnr hbl q0 q1 hx
      have hbsz := hbz
      have HBL0 := HBL
      by_cases hr : rightS x0 x1 = true
      · have hrr := right_le hr
        obtain ⟨hr1, hr2, hr3⟩ := hrr
        have HR := Lib.hid hr; clear hr
        rcases k with _ | k
        · simp only [Nat.zero_mul, Nat.add_zero] at g0 g1
          have HK0 := Lib.hid (show decide ((0 : Int) < ((0 : Nat) : Int)) = false from rfl)
          go_wp2_with fail
          have z0 := g0
          have z1 := g1
          generalize wr = V0 at *
          refine wp_region_held (S := fun W' => W'.cell? ⟨b1, o1, none⟩ = some (.int .i64 x0) ∧ W'.cell? ⟨b1, o1 + 1, none⟩ = some (.int .i64 x1)) (by kernel_rfl) ?_
          have hdr : (V0).drew = { V0 with drawn := (V0).drawn + 1 } := rfl
          rw [← hdr]
          clear hdr
          have G1 := Lib.hid (show (V0.drewN 1).cell? ⟨b1, o1, none⟩ = some (.int .i64 x0) ∧ (V0.drewN 1).cell? ⟨b1, o1 + 1, none⟩ = some (.int .i64 x1) from ⟨z0, z1⟩)
          have HBV := Lib.hid (Below.dn HBL.out 1)
          change wpAnyH _ _ _ _ _ _ _ _ (V0.drewN 1)
          have hs0 : w.heap.size ≤ (V0.drewN 1).heap.size := HBL.out.size
          have hbl1 : b1 < (V0.drewN 1).heap.size := by show b1 < V0.heap.size; omega
          
          clear z0 z1
          generalize V0.drewN 1 = V at *
          refine wpAnyHTake 0 (some 10) (.slice (some ⟨b1, o1, none⟩) xs.length c) rfl rfl (by kernel_rfl) (by kernel_rfl) (by kernel_rfl) (fun _ _ _ h => h) (by rfl) (fun _ _ => by rfl) (G1.out) ?_
          simp only [Act.put, List.setIfInBounds_toArray, List.set_cons_zero, List.set_cons_succ]
          refine wpAnyHTake 1 (some 11) (.int .i64 ((0 : Nat) : Int)) rfl rfl (by kernel_rfl) (by kernel_rfl) (by kernel_rfl) (fun _ _ _ h => h) (by rfl) (fun _ _ => by rfl) (G1.out) ?_
          simp only [Act.put, List.setIfInBounds_toArray, List.set_cons_zero, List.set_cons_succ]
          refine wpAnyHTake 2 (some 12) (.pointer (some ⟨b1, o1, none⟩)) rfl rfl (by kernel_rfl) (by kernel_rfl) (by kernel_rfl) (fun _ _ _ h => h) (by rfl) (fun _ _ => by go_simp) (G1.out) ?_
          simp only [Act.put, List.setIfInBounds_toArray, List.set_cons_zero, List.set_cons_succ]
          refine wpAnyHTake 3 (some 13) (.agg #[.int .i64 x0, .int .i64 x1]) rfl rfl (by kernel_rfl) (by kernel_rfl) (by kernel_rfl) (fun _ _ _ h => h) (by rfl) (fun W hW => by have g0 := hW.1; have g1 := hW.2; go_simp) (G1.out) ?_
          simp only [Act.put, List.setIfInBounds_toArray, List.set_cons_zero, List.set_cons_succ]
          refine wpAnyHCall 4 (some 14) 60 #[.agg #[.int .i64 x0, .int .i64 x1]] (by kernel_rfl) rfl rfl (by rfl) (by go_simp) (rright_true x0 x1 _ HR.out) ?_
          rintro e V2 ⟨rfl, hb⟩
          have HB2 := Lib.hid hb
          have G2 := Lib.hid (show V2.cell? ⟨b1, o1, none⟩ = some (.int .i64 x0) ∧ V2.cell? ⟨b1, o1 + 1, none⟩ = some (.int .i64 x1) from
            ⟨(hb.cell (p := ⟨b1, o1, none⟩) hbl1).trans G1.out.1, (hb.cell (p := ⟨b1, o1 + 1, none⟩) hbl1).trans G1.out.2⟩)
          clear hb
          refine ⟨_, rfl, G2.out, ?_⟩
          simp only [Act.put, List.setIfInBounds_toArray, List.set_cons_zero, List.set_cons_succ]
          refine wpAnyHTake 5 (some 15) (.bool false) rfl rfl (by kernel_rfl) (by kernel_rfl) (by kernel_rfl) (fun _ _ _ h => h) (by rfl) (fun _ _ => by go_simp) (G2.out) ?_
          simp only [Act.put, List.setIfInBounds_toArray, List.set_cons_zero, List.set_cons_succ]
          refine wpAnyHTake 6 (some 16) (.bool false) rfl rfl (by kernel_rfl) (by kernel_rfl) (by kernel_rfl) (fun _ _ _ h => h) (by rfl) (fun _ _ => by rfl) (G2.out) ?_
          simp only [Act.put, List.setIfInBounds_toArray, List.set_cons_zero, List.set_cons_succ]
          refine wpAnyHTake 7 (some 17) (.int .i64 ((0 : Nat) : Int)) rfl rfl (by kernel_rfl) (by kernel_rfl) (by kernel_rfl) (fun _ _ _ h => h) (by rfl) (fun _ _ => by rfl) (G2.out) ?_
          simp only [Act.put, List.setIfInBounds_toArray, List.set_cons_zero, List.set_cons_succ]
          refine wpAnyHTake 8 (some 18) (.bool false) rfl rfl (by kernel_rfl) (by kernel_rfl) (by kernel_rfl) (fun _ _ _ h => h) (by rfl) (fun _ _ => by have h0 := HK0.out; go_simp) (G2.out) ?_
          simp only [Act.put, List.setIfInBounds_toArray, List.set_cons_zero, List.set_cons_succ]
          refine wpAnyHTake 9 (some 19) (.bool false) rfl rfl (by kernel_rfl) (by kernel_rfl) (by kernel_rfl) (fun _ _ _ h => h) (by rfl) (fun _ _ => by rfl) (G2.out) ?_
          simp only [Act.put, List.setIfInBounds_toArray, List.set_cons_zero, List.set_cons_succ]
          refine wpAnyHPass 10 (some 20) rfl rfl (by kernel_rfl) (by kernel_rfl) (by kernel_rfl) (fun _ _ _ h => h) (by rfl) (G2.out) ?_
          simp only [Act.put, List.setIfInBounds_toArray, List.set_cons_zero, List.set_cons_succ]
          refine wpAnyHPass 11 (some 21) rfl rfl (by kernel_rfl) (by kernel_rfl) (by kernel_rfl) (fun _ _ _ h => h) (by rfl) (G2.out) ?_
          simp only [Act.put, List.setIfInBounds_toArray, List.set_cons_zero, List.set_cons_succ]
          refine wpAnyHPass 12 (some 22) rfl rfl (by kernel_rfl) (by kernel_rfl) (by kernel_rfl) (fun _ _ _ h => h) (by rfl) (G2.out) ?_
          simp only [Act.put, List.setIfInBounds_toArray, List.set_cons_zero, List.set_cons_succ]
          refine wpAnyHPass 13 (some 23) rfl rfl (by kernel_rfl) (by kernel_rfl) (by kernel_rfl) (fun _ _ _ h => h) (by rfl) (G2.out) ?_
          simp only [Act.put, List.setIfInBounds_toArray, List.set_cons_zero, List.set_cons_succ]
          refine wpAnyHPass 14 (some 24) rfl rfl (by kernel_rfl) (by kernel_rfl) (by kernel_rfl) (fun _ _ _ h => h) (by rfl) (G2.out) ?_
          simp only [Act.put, List.setIfInBounds_toArray, List.set_cons_zero, List.set_cons_succ]
          refine wpAnyHPass 15 (some 25) rfl rfl (by kernel_rfl) (by kernel_rfl) (by kernel_rfl) (fun _ _ _ h => h) (by rfl) (G2.out) ?_
          simp only [Act.put, List.setIfInBounds_toArray, List.set_cons_zero, List.set_cons_succ]
          refine wpAnyHPass 16 (some 26) rfl rfl (by kernel_rfl) (by kernel_rfl) (by kernel_rfl) (fun _ _ _ h => h) (by rfl) (G2.out) ?_
          simp only [Act.put, List.setIfInBounds_toArray, List.set_cons_zero, List.set_cons_succ]
          refine wpAnyHPass 17 (some 27) rfl rfl (by kernel_rfl) (by kernel_rfl) (by kernel_rfl) (fun _ _ _ h => h) (by rfl) (G2.out) ?_
          simp only [Act.put, List.setIfInBounds_toArray, List.set_cons_zero, List.set_cons_succ]
          refine wpAnyHPass 18 (some 28) rfl rfl (by kernel_rfl) (by kernel_rfl) (by kernel_rfl) (fun _ _ _ h => h) (by rfl) (G2.out) ?_
          simp only [Act.put, List.setIfInBounds_toArray, List.set_cons_zero, List.set_cons_succ]
          refine wpAnyHPass 19 (some 29) rfl rfl (by kernel_rfl) (by kernel_rfl) (by kernel_rfl) (fun _ _ _ h => h) (by rfl) (G2.out) ?_
          simp only [Act.put, List.setIfInBounds_toArray, List.set_cons_zero, List.set_cons_succ]
          refine wpAnyHPass 20 (some 30) rfl rfl (by kernel_rfl) (by kernel_rfl) (by kernel_rfl) (fun _ _ _ h => h) (by rfl) (G2.out) ?_
          simp only [Act.put, List.setIfInBounds_toArray, List.set_cons_zero, List.set_cons_succ]
          refine wpAnyHPass 21 (some 31) rfl rfl (by kernel_rfl) (by kernel_rfl) (by kernel_rfl) (fun _ _ _ h => h) (by rfl) (G2.out) ?_
          simp only [Act.put, List.setIfInBounds_toArray, List.set_cons_zero, List.set_cons_succ]
          refine wpAnyHPass 22 (some 32) rfl rfl (by kernel_rfl) (by kernel_rfl) (by kernel_rfl) (fun _ _ _ h => h) (by rfl) (G2.out) ?_
          simp only [Act.put, List.setIfInBounds_toArray, List.set_cons_zero, List.set_cons_succ]
          refine wpAnyHTake 23 (some 33) (.bool false) rfl rfl (by kernel_rfl) (by kernel_rfl) (by kernel_rfl) (fun _ _ _ h => h) (by rfl) (fun _ _ => by go_simp) (G2.out) ?_
          simp only [Act.put, List.setIfInBounds_toArray, List.set_cons_zero, List.set_cons_succ]
          refine wpAnyHTake 24 (some 34) (.bool false) rfl rfl (by kernel_rfl) (by kernel_rfl) (by kernel_rfl) (fun _ _ _ h => h) (by rfl) (fun _ _ => by go_simp) (G2.out) ?_
          simp only [Act.put, List.setIfInBounds_toArray, List.set_cons_zero, List.set_cons_succ]
          refine wpAnyH_done (by kernel_rfl) ?_ _
          rename_i K hK
          refine hK _ _ ?_
          clear hK
          go_wp2_with fail
          go_roundw
          case rel => exact ⟨0 + 1, by omega, by go_num, nrm_step0 HX.out HR.out, HBV.out.trans (HB2.out.mono hs0)⟩
          case measure => simp [intOf]; omega
        · obtain ⟨⟨y0, y1⟩, hy⟩ := elem_at (l := xs) (k := k) (by omega)
          have hyr := nrm_right HNR.out (x := (y0, y1)) (List.mem_of_getElem? (i := k) (by rw [List.getElem?_take, if_pos (by omega)]; exact hy))
          obtain ⟨hy1, hy2, hy3⟩ := hyr
          obtain ⟨b2, o2, hbo, hb2, p0, p1⟩ := F.out k _ hy
          have hbb : b1 = b2 ∧ o1 = o2 := by cases hbo; exact ⟨rfl, rfl⟩
          obtain ⟨rfl, rfl⟩ := hbb
          have HY := Lib.hid hy
          dsimp only at p0 p1 hy1 hy2 hy3
          have PV := Lib.hid ((HBL0.out.cell (p := ⟨b1, o1 + k * 2 + 1, none⟩) hb1).trans p1)
          have HK0 := Lib.hid (show decide ((0 : Int) < ((k + 1 : Nat) : Int)) = true from decide_eq_true (by omega))
          have e1 : ((k + 1 : Nat) : Int) - 1 = (k : Int) := by omega
          have HW1 := Lib.hid (show IntKind.i64.wrap (k : Int) = (k : Int) from IntWalk.i64_in _ (by omega))
          have HW2 := Lib.hid (show IntKind.i64.wrap (y1 + 2) = y1 + 2 from IntWalk.i64_in _ (by omega))
          have hlk : k < xs.length := by omega
          have hlki : (k : Int) < (xs.length : Int) := by omega
          have hk0' : (0 : Int) ≤ (k : Int) := Int.natCast_nonneg _
          have hk1' : (0 : Int) ≤ (k : Int) + 1 := by omega
          clear p0 p1 hbo hy
          by_cases hg : x0 < y1 + 2
          · have HG := Lib.hid (show decide (x0 < y1 + 2) = true from decide_eq_true hg)
            have hno : nrm xs = false := nrm_badk HY.out HX.out hg
            have HNO := Lib.hid hno
            clear hg hno
            go_wp2_with fail
            have z0 := g0
            have z1 := g1
            have z2 := PV.out
            generalize wr = V0 at *
            refine wp_region_held (S := fun W' => W'.cell? ⟨b1, o1 + (k + 1) * 2, none⟩ = some (.int .i64 x0) ∧ W'.cell? ⟨b1, o1 + (k + 1) * 2 + 1, none⟩ = some (.int .i64 x1) ∧ W'.cell? ⟨b1, o1 + k * 2 + 1, none⟩ = some (.int .i64 y1)) (by kernel_rfl) ?_
            have hdr : (V0).drew = { V0 with drawn := (V0).drawn + 1 } := rfl
            rw [← hdr]
            clear hdr
            have G1 := Lib.hid (show (V0.drewN 1).cell? ⟨b1, o1 + (k + 1) * 2, none⟩ = some (.int .i64 x0) ∧ (V0.drewN 1).cell? ⟨b1, o1 + (k + 1) * 2 + 1, none⟩ = some (.int .i64 x1) ∧ (V0.drewN 1).cell? ⟨b1, o1 + k * 2 + 1, none⟩ = some (.int .i64 y1) from ⟨z0, z1, z2⟩)
            have HBV := Lib.hid (Below.dn HBL.out 1)
            change wpAnyH _ _ _ _ _ _ _ _ (V0.drewN 1)
            have hs0 : w.heap.size ≤ (V0.drewN 1).heap.size := HBL.out.size
            have hbl1 : b1 < (V0.drewN 1).heap.size := by show b1 < V0.heap.size; omega
            
            clear z0 z1 z2
            generalize V0.drewN 1 = V at *
            refine wpAnyHTake 0 (some 10) (.slice (some ⟨b1, o1, none⟩) xs.length c) rfl rfl (by kernel_rfl) (by kernel_rfl) (by kernel_rfl) (fun _ _ _ h => h) (by rfl) (fun _ _ => by rfl) (G1.out) ?_
            simp only [Act.put, List.setIfInBounds_toArray, List.set_cons_zero, List.set_cons_succ]
            refine wpAnyHTake 1 (some 11) (.int .i64 ((k + 1 : Nat) : Int)) rfl rfl (by kernel_rfl) (by kernel_rfl) (by kernel_rfl) (fun _ _ _ h => h) (by rfl) (fun _ _ => by rfl) (G1.out) ?_
            simp only [Act.put, List.setIfInBounds_toArray, List.set_cons_zero, List.set_cons_succ]
            refine wpAnyHTake 2 (some 12) (.pointer (some ⟨b1, o1 + (k + 1) * 2, none⟩)) rfl rfl (by kernel_rfl) (by kernel_rfl) (by kernel_rfl) (fun _ _ _ h => h) (by rfl) (fun _ _ => by go_simp) (G1.out) ?_
            simp only [Act.put, List.setIfInBounds_toArray, List.set_cons_zero, List.set_cons_succ]
            refine wpAnyHTake 3 (some 13) (.agg #[.int .i64 x0, .int .i64 x1]) rfl rfl (by kernel_rfl) (by kernel_rfl) (by kernel_rfl) (fun _ _ _ h => h) (by rfl) (fun W hW => by have g0 := hW.1; have g1 := hW.2.1; go_simp) (G1.out) ?_
            simp only [Act.put, List.setIfInBounds_toArray, List.set_cons_zero, List.set_cons_succ]
            refine wpAnyHCall 4 (some 14) 60 #[.agg #[.int .i64 x0, .int .i64 x1]] (by kernel_rfl) rfl rfl (by rfl) (by go_simp) (rright_true x0 x1 _ HR.out) ?_
            rintro e V2 ⟨rfl, hb⟩
            have HB2 := Lib.hid hb
            have G2 := Lib.hid (show V2.cell? ⟨b1, o1 + (k + 1) * 2, none⟩ = some (.int .i64 x0) ∧ V2.cell? ⟨b1, o1 + (k + 1) * 2 + 1, none⟩ = some (.int .i64 x1) ∧ V2.cell? ⟨b1, o1 + k * 2 + 1, none⟩ = some (.int .i64 y1) from
              ⟨(hb.cell (p := ⟨b1, o1 + (k + 1) * 2, none⟩) hbl1).trans G1.out.1, (hb.cell (p := ⟨b1, o1 + (k + 1) * 2 + 1, none⟩) hbl1).trans G1.out.2.1, (hb.cell (p := ⟨b1, o1 + k * 2 + 1, none⟩) hbl1).trans G1.out.2.2⟩)
            clear hb
            refine ⟨_, rfl, G2.out, ?_⟩
            simp only [Act.put, List.setIfInBounds_toArray, List.set_cons_zero, List.set_cons_succ]
            refine wpAnyHTake 5 (some 15) (.bool false) rfl rfl (by kernel_rfl) (by kernel_rfl) (by kernel_rfl) (fun _ _ _ h => h) (by rfl) (fun _ _ => by go_simp) (G2.out) ?_
            simp only [Act.put, List.setIfInBounds_toArray, List.set_cons_zero, List.set_cons_succ]
            refine wpAnyHTake 6 (some 16) (.bool false) rfl rfl (by kernel_rfl) (by kernel_rfl) (by kernel_rfl) (fun _ _ _ h => h) (by rfl) (fun _ _ => by rfl) (G2.out) ?_
            simp only [Act.put, List.setIfInBounds_toArray, List.set_cons_zero, List.set_cons_succ]
            refine wpAnyHTake 7 (some 17) (.int .i64 ((k + 1 : Nat) : Int)) rfl rfl (by kernel_rfl) (by kernel_rfl) (by kernel_rfl) (fun _ _ _ h => h) (by rfl) (fun _ _ => by rfl) (G2.out) ?_
            simp only [Act.put, List.setIfInBounds_toArray, List.set_cons_zero, List.set_cons_succ]
            refine wpAnyHTake 8 (some 18) (.bool true) rfl rfl (by kernel_rfl) (by kernel_rfl) (by kernel_rfl) (fun _ _ _ h => h) (by rfl) (fun _ _ => by have h0 := HK0.out; go_simp) (G2.out) ?_
            simp only [Act.put, List.setIfInBounds_toArray, List.set_cons_zero, List.set_cons_succ]
            refine wpAnyHTake 9 (some 19) (.bool true) rfl rfl (by kernel_rfl) (by kernel_rfl) (by kernel_rfl) (fun _ _ _ h => h) (by rfl) (fun _ _ => by rfl) (G2.out) ?_
            simp only [Act.put, List.setIfInBounds_toArray, List.set_cons_zero, List.set_cons_succ]
            refine wpAnyHTake 10 (some 20) (.slice (some ⟨b1, o1, none⟩) xs.length c) rfl rfl (by kernel_rfl) (by kernel_rfl) (by kernel_rfl) (fun _ _ _ h => h) (by rfl) (fun _ _ => by rfl) (G2.out) ?_
            simp only [Act.put, List.setIfInBounds_toArray, List.set_cons_zero, List.set_cons_succ]
            refine wpAnyHTake 11 (some 21) (.int .i64 ((k + 1 : Nat) : Int)) rfl rfl (by kernel_rfl) (by kernel_rfl) (by kernel_rfl) (fun _ _ _ h => h) (by rfl) (fun _ _ => by rfl) (G2.out) ?_
            simp only [Act.put, List.setIfInBounds_toArray, List.set_cons_zero, List.set_cons_succ]
            refine wpAnyHTake 12 (some 22) (.pointer (some ⟨b1, o1 + (k + 1) * 2, none⟩)) rfl rfl (by kernel_rfl) (by kernel_rfl) (by kernel_rfl) (fun _ _ _ h => h) (by rfl) (fun _ _ => by go_simp) (G2.out) ?_
            simp only [Act.put, List.setIfInBounds_toArray, List.set_cons_zero, List.set_cons_succ]
            refine wpAnyHTake 13 (some 23) (.pointer (some ⟨b1, o1 + (k + 1) * 2, none⟩)) rfl rfl (by kernel_rfl) (by kernel_rfl) (by kernel_rfl) (fun _ _ _ h => h) (by rfl) (fun _ _ => by go_simp) (G2.out) ?_
            simp only [Act.put, List.setIfInBounds_toArray, List.set_cons_zero, List.set_cons_succ]
            refine wpAnyHTake 14 (some 24) (.int .i64 x0) rfl rfl (by kernel_rfl) (by kernel_rfl) (by kernel_rfl) (fun _ _ _ h => h) (by rfl) (fun W hW => by have g0 := hW.1; go_simp) (G2.out) ?_
            simp only [Act.put, List.setIfInBounds_toArray, List.set_cons_zero, List.set_cons_succ]
            refine wpAnyHTake 15 (some 25) (.slice (some ⟨b1, o1, none⟩) xs.length c) rfl rfl (by kernel_rfl) (by kernel_rfl) (by kernel_rfl) (fun _ _ _ h => h) (by rfl) (fun _ _ => by rfl) (G2.out) ?_
            simp only [Act.put, List.setIfInBounds_toArray, List.set_cons_zero, List.set_cons_succ]
            refine wpAnyHTake 16 (some 26) (.int .i64 ((k + 1 : Nat) : Int)) rfl rfl (by kernel_rfl) (by kernel_rfl) (by kernel_rfl) (fun _ _ _ h => h) (by rfl) (fun _ _ => by rfl) (G2.out) ?_
            simp only [Act.put, List.setIfInBounds_toArray, List.set_cons_zero, List.set_cons_succ]
            refine wpAnyHTake 17 (some 27) (.int .i64 (k : Int)) rfl rfl (by kernel_rfl) (by kernel_rfl) (by kernel_rfl) (fun _ _ _ h => h) (by rfl) (fun _ _ => by have h0 := HW1.out; go_simp) (G2.out) ?_
            simp only [Act.put, List.setIfInBounds_toArray, List.set_cons_zero, List.set_cons_succ]
            refine wpAnyHTake 18 (some 28) (.pointer (some ⟨b1, o1 + k * 2, none⟩)) rfl rfl (by kernel_rfl) (by kernel_rfl) (by kernel_rfl) (fun _ _ _ h => h) (by rfl) (fun _ _ => by go_simp) (G2.out) ?_
            simp only [Act.put, List.setIfInBounds_toArray, List.set_cons_zero, List.set_cons_succ]
            refine wpAnyHTake 19 (some 29) (.pointer (some ⟨b1, o1 + k * 2 + 1, none⟩)) rfl rfl (by kernel_rfl) (by kernel_rfl) (by kernel_rfl) (fun _ _ _ h => h) (by rfl) (fun _ _ => by go_simp) (G2.out) ?_
            simp only [Act.put, List.setIfInBounds_toArray, List.set_cons_zero, List.set_cons_succ]
            refine wpAnyHTake 20 (some 30) (.int .i64 y1) rfl rfl (by kernel_rfl) (by kernel_rfl) (by kernel_rfl) (fun _ _ _ h => h) (by rfl) (fun W hW => by have g0 := hW.2.2; go_simp) (G2.out) ?_
            simp only [Act.put, List.setIfInBounds_toArray, List.set_cons_zero, List.set_cons_succ]
            refine wpAnyHTake 21 (some 31) (.int .i64 (y1 + 2)) rfl rfl (by kernel_rfl) (by kernel_rfl) (by kernel_rfl) (fun _ _ _ h => h) (by rfl) (fun _ _ => by have h0 := HW2.out; go_simp) (G2.out) ?_
            simp only [Act.put, List.setIfInBounds_toArray, List.set_cons_zero, List.set_cons_succ]
            refine wpAnyHTake 22 (some 32) (.bool true) rfl rfl (by kernel_rfl) (by kernel_rfl) (by kernel_rfl) (fun _ _ _ h => h) (by rfl) (fun _ _ => by have h0 := HG.out; go_simp) (G2.out) ?_
            simp only [Act.put, List.setIfInBounds_toArray, List.set_cons_zero, List.set_cons_succ]
            refine wpAnyHTake 23 (some 33) (.bool true) rfl rfl (by kernel_rfl) (by kernel_rfl) (by kernel_rfl) (fun _ _ _ h => h) (by rfl) (fun _ _ => by go_simp) (G2.out) ?_
            simp only [Act.put, List.setIfInBounds_toArray, List.set_cons_zero, List.set_cons_succ]
            refine wpAnyHTake 24 (some 34) (.bool true) rfl rfl (by kernel_rfl) (by kernel_rfl) (by kernel_rfl) (fun _ _ _ h => h) (by rfl) (fun _ _ => by go_simp) (G2.out) ?_
            simp only [Act.put, List.setIfInBounds_toArray, List.set_cons_zero, List.set_cons_succ]
            refine wpAnyH_done (by kernel_rfl) ?_ _
            rename_i K hK
            refine hK _ _ ?_
            clear hK
            go_wp2_with fail
            go_ret
            exact ⟨ret_bool HNO.out.symm, HBV.out.trans (HB2.out.mono hs0)⟩
          · have HG := Lib.hid (show decide (x0 < y1 + 2) = false from decide_eq_false hg)
            have hok := nrm_stepk HNR.out HY.out HX.out HR.out (show y1 + 2 ≤ x0 by omega)
            have HOK := Lib.hid hok
            clear hg hok
            go_wp2_with fail
            have z0 := g0
            have z1 := g1
            have z2 := PV.out
            generalize wr = V0 at *
            refine wp_region_held (S := fun W' => W'.cell? ⟨b1, o1 + (k + 1) * 2, none⟩ = some (.int .i64 x0) ∧ W'.cell? ⟨b1, o1 + (k + 1) * 2 + 1, none⟩ = some (.int .i64 x1) ∧ W'.cell? ⟨b1, o1 + k * 2 + 1, none⟩ = some (.int .i64 y1)) (by kernel_rfl) ?_
            have hdr : (V0).drew = { V0 with drawn := (V0).drawn + 1 } := rfl
            rw [← hdr]
            clear hdr
            have G1 := Lib.hid (show (V0.drewN 1).cell? ⟨b1, o1 + (k + 1) * 2, none⟩ = some (.int .i64 x0) ∧ (V0.drewN 1).cell? ⟨b1, o1 + (k + 1) * 2 + 1, none⟩ = some (.int .i64 x1) ∧ (V0.drewN 1).cell? ⟨b1, o1 + k * 2 + 1, none⟩ = some (.int .i64 y1) from ⟨z0, z1, z2⟩)
            have HBV := Lib.hid (Below.dn HBL.out 1)
            change wpAnyH _ _ _ _ _ _ _ _ (V0.drewN 1)
            have hs0 : w.heap.size ≤ (V0.drewN 1).heap.size := HBL.out.size
            have hbl1 : b1 < (V0.drewN 1).heap.size := by show b1 < V0.heap.size; omega
            
            clear z0 z1 z2
            generalize V0.drewN 1 = V at *
            refine wpAnyHTake 0 (some 10) (.slice (some ⟨b1, o1, none⟩) xs.length c) rfl rfl (by kernel_rfl) (by kernel_rfl) (by kernel_rfl) (fun _ _ _ h => h) (by rfl) (fun _ _ => by rfl) (G1.out) ?_
            simp only [Act.put, List.setIfInBounds_toArray, List.set_cons_zero, List.set_cons_succ]
            refine wpAnyHTake 1 (some 11) (.int .i64 ((k + 1 : Nat) : Int)) rfl rfl (by kernel_rfl) (by kernel_rfl) (by kernel_rfl) (fun _ _ _ h => h) (by rfl) (fun _ _ => by rfl) (G1.out) ?_
            simp only [Act.put, List.setIfInBounds_toArray, List.set_cons_zero, List.set_cons_succ]
            refine wpAnyHTake 2 (some 12) (.pointer (some ⟨b1, o1 + (k + 1) * 2, none⟩)) rfl rfl (by kernel_rfl) (by kernel_rfl) (by kernel_rfl) (fun _ _ _ h => h) (by rfl) (fun _ _ => by go_simp) (G1.out) ?_
            simp only [Act.put, List.setIfInBounds_toArray, List.set_cons_zero, List.set_cons_succ]
            refine wpAnyHTake 3 (some 13) (.agg #[.int .i64 x0, .int .i64 x1]) rfl rfl (by kernel_rfl) (by kernel_rfl) (by kernel_rfl) (fun _ _ _ h => h) (by rfl) (fun W hW => by have g0 := hW.1; have g1 := hW.2.1; go_simp) (G1.out) ?_
            simp only [Act.put, List.setIfInBounds_toArray, List.set_cons_zero, List.set_cons_succ]
            refine wpAnyHCall 4 (some 14) 60 #[.agg #[.int .i64 x0, .int .i64 x1]] (by kernel_rfl) rfl rfl (by rfl) (by go_simp) (rright_true x0 x1 _ HR.out) ?_
            rintro e V2 ⟨rfl, hb⟩
            have HB2 := Lib.hid hb
            have G2 := Lib.hid (show V2.cell? ⟨b1, o1 + (k + 1) * 2, none⟩ = some (.int .i64 x0) ∧ V2.cell? ⟨b1, o1 + (k + 1) * 2 + 1, none⟩ = some (.int .i64 x1) ∧ V2.cell? ⟨b1, o1 + k * 2 + 1, none⟩ = some (.int .i64 y1) from
              ⟨(hb.cell (p := ⟨b1, o1 + (k + 1) * 2, none⟩) hbl1).trans G1.out.1, (hb.cell (p := ⟨b1, o1 + (k + 1) * 2 + 1, none⟩) hbl1).trans G1.out.2.1, (hb.cell (p := ⟨b1, o1 + k * 2 + 1, none⟩) hbl1).trans G1.out.2.2⟩)
            clear hb
            refine ⟨_, rfl, G2.out, ?_⟩
            simp only [Act.put, List.setIfInBounds_toArray, List.set_cons_zero, List.set_cons_succ]
            refine wpAnyHTake 5 (some 15) (.bool false) rfl rfl (by kernel_rfl) (by kernel_rfl) (by kernel_rfl) (fun _ _ _ h => h) (by rfl) (fun _ _ => by go_simp) (G2.out) ?_
            simp only [Act.put, List.setIfInBounds_toArray, List.set_cons_zero, List.set_cons_succ]
            refine wpAnyHTake 6 (some 16) (.bool false) rfl rfl (by kernel_rfl) (by kernel_rfl) (by kernel_rfl) (fun _ _ _ h => h) (by rfl) (fun _ _ => by rfl) (G2.out) ?_
            simp only [Act.put, List.setIfInBounds_toArray, List.set_cons_zero, List.set_cons_succ]
            refine wpAnyHTake 7 (some 17) (.int .i64 ((k + 1 : Nat) : Int)) rfl rfl (by kernel_rfl) (by kernel_rfl) (by kernel_rfl) (fun _ _ _ h => h) (by rfl) (fun _ _ => by rfl) (G2.out) ?_
            simp only [Act.put, List.setIfInBounds_toArray, List.set_cons_zero, List.set_cons_succ]
            refine wpAnyHTake 8 (some 18) (.bool true) rfl rfl (by kernel_rfl) (by kernel_rfl) (by kernel_rfl) (fun _ _ _ h => h) (by rfl) (fun _ _ => by have h0 := HK0.out; go_simp) (G2.out) ?_
            simp only [Act.put, List.setIfInBounds_toArray, List.set_cons_zero, List.set_cons_succ]
            refine wpAnyHTake 9 (some 19) (.bool true) rfl rfl (by kernel_rfl) (by kernel_rfl) (by kernel_rfl) (fun _ _ _ h => h) (by rfl) (fun _ _ => by rfl) (G2.out) ?_
            simp only [Act.put, List.setIfInBounds_toArray, List.set_cons_zero, List.set_cons_succ]
            refine wpAnyHTake 10 (some 20) (.slice (some ⟨b1, o1, none⟩) xs.length c) rfl rfl (by kernel_rfl) (by kernel_rfl) (by kernel_rfl) (fun _ _ _ h => h) (by rfl) (fun _ _ => by rfl) (G2.out) ?_
            simp only [Act.put, List.setIfInBounds_toArray, List.set_cons_zero, List.set_cons_succ]
            refine wpAnyHTake 11 (some 21) (.int .i64 ((k + 1 : Nat) : Int)) rfl rfl (by kernel_rfl) (by kernel_rfl) (by kernel_rfl) (fun _ _ _ h => h) (by rfl) (fun _ _ => by rfl) (G2.out) ?_
            simp only [Act.put, List.setIfInBounds_toArray, List.set_cons_zero, List.set_cons_succ]
            refine wpAnyHTake 12 (some 22) (.pointer (some ⟨b1, o1 + (k + 1) * 2, none⟩)) rfl rfl (by kernel_rfl) (by kernel_rfl) (by kernel_rfl) (fun _ _ _ h => h) (by rfl) (fun _ _ => by go_simp) (G2.out) ?_
            simp only [Act.put, List.setIfInBounds_toArray, List.set_cons_zero, List.set_cons_succ]
            refine wpAnyHTake 13 (some 23) (.pointer (some ⟨b1, o1 + (k + 1) * 2, none⟩)) rfl rfl (by kernel_rfl) (by kernel_rfl) (by kernel_rfl) (fun _ _ _ h => h) (by rfl) (fun _ _ => by go_simp) (G2.out) ?_
            simp only [Act.put, List.setIfInBounds_toArray, List.set_cons_zero, List.set_cons_succ]
            refine wpAnyHTake 14 (some 24) (.int .i64 x0) rfl rfl (by kernel_rfl) (by kernel_rfl) (by kernel_rfl) (fun _ _ _ h => h) (by rfl) (fun W hW => by have g0 := hW.1; go_simp) (G2.out) ?_
            simp only [Act.put, List.setIfInBounds_toArray, List.set_cons_zero, List.set_cons_succ]
            refine wpAnyHTake 15 (some 25) (.slice (some ⟨b1, o1, none⟩) xs.length c) rfl rfl (by kernel_rfl) (by kernel_rfl) (by kernel_rfl) (fun _ _ _ h => h) (by rfl) (fun _ _ => by rfl) (G2.out) ?_
            simp only [Act.put, List.setIfInBounds_toArray, List.set_cons_zero, List.set_cons_succ]
            refine wpAnyHTake 16 (some 26) (.int .i64 ((k + 1 : Nat) : Int)) rfl rfl (by kernel_rfl) (by kernel_rfl) (by kernel_rfl) (fun _ _ _ h => h) (by rfl) (fun _ _ => by rfl) (G2.out) ?_
            simp only [Act.put, List.setIfInBounds_toArray, List.set_cons_zero, List.set_cons_succ]
            refine wpAnyHTake 17 (some 27) (.int .i64 (k : Int)) rfl rfl (by kernel_rfl) (by kernel_rfl) (by kernel_rfl) (fun _ _ _ h => h) (by rfl) (fun _ _ => by have h0 := HW1.out; go_simp) (G2.out) ?_
            simp only [Act.put, List.setIfInBounds_toArray, List.set_cons_zero, List.set_cons_succ]
            refine wpAnyHTake 18 (some 28) (.pointer (some ⟨b1, o1 + k * 2, none⟩)) rfl rfl (by kernel_rfl) (by kernel_rfl) (by kernel_rfl) (fun _ _ _ h => h) (by rfl) (fun _ _ => by go_simp) (G2.out) ?_
            simp only [Act.put, List.setIfInBounds_toArray, List.set_cons_zero, List.set_cons_succ]
            refine wpAnyHTake 19 (some 29) (.pointer (some ⟨b1, o1 + k * 2 + 1, none⟩)) rfl rfl (by kernel_rfl) (by kernel_rfl) (by kernel_rfl) (fun _ _ _ h => h) (by rfl) (fun _ _ => by go_simp) (G2.out) ?_
            simp only [Act.put, List.setIfInBounds_toArray, List.set_cons_zero, List.set_cons_succ]
            refine wpAnyHTake 20 (some 30) (.int .i64 y1) rfl rfl (by kernel_rfl) (by kernel_rfl) (by kernel_rfl) (fun _ _ _ h => h) (by rfl) (fun W hW => by have g0 := hW.2.2; go_simp) (G2.out) ?_
            simp only [Act.put, List.setIfInBounds_toArray, List.set_cons_zero, List.set_cons_succ]
            refine wpAnyHTake 21 (some 31) (.int .i64 (y1 + 2)) rfl rfl (by kernel_rfl) (by kernel_rfl) (by kernel_rfl) (fun _ _ _ h => h) (by rfl) (fun _ _ => by have h0 := HW2.out; go_simp) (G2.out) ?_
            simp only [Act.put, List.setIfInBounds_toArray, List.set_cons_zero, List.set_cons_succ]
            refine wpAnyHTake 22 (some 32) (.bool false) rfl rfl (by kernel_rfl) (by kernel_rfl) (by kernel_rfl) (fun _ _ _ h => h) (by rfl) (fun _ _ => by have h0 := HG.out; go_simp) (G2.out) ?_
            simp only [Act.put, List.setIfInBounds_toArray, List.set_cons_zero, List.set_cons_succ]
            refine wpAnyHTake 23 (some 33) (.bool false) rfl rfl (by kernel_rfl) (by kernel_rfl) (by kernel_rfl) (fun _ _ _ h => h) (by rfl) (fun _ _ => by go_simp) (G2.out) ?_
            simp only [Act.put, List.setIfInBounds_toArray, List.set_cons_zero, List.set_cons_succ]
            refine wpAnyHTake 24 (some 34) (.bool false) rfl rfl (by kernel_rfl) (by kernel_rfl) (by kernel_rfl) (fun _ _ _ h => h) (by rfl) (fun _ _ => by go_simp) (G2.out) ?_
            simp only [Act.put, List.setIfInBounds_toArray, List.set_cons_zero, List.set_cons_succ]
            refine wpAnyH_done (by kernel_rfl) ?_ _
            rename_i K hK
            refine hK _ _ ?_
            clear hK
            go_wp2_with fail
            go_roundw
            case rel => exact ⟨k + 1 + 1, by omega, by go_num, HOK.out, HBV.out.trans (HB2.out.mono hs0)⟩
            case measure => simp [intOf]; omega
      · have hr' : rightS x0 x1 = false := by simpa using hr
        have HR := Lib.hid hr'
        have hno : nrm xs = false := nrm_bad0 HX.out hr'
        have HNO := Lib.hid hno
        clear hr hr' hno
        go_wp2_with fail
        have z0 := g0
        have z1 := g1
        generalize wr = V0 at *
        refine wp_region_held (S := fun W' => W'.cell? ⟨b1, o1 + k * 2, none⟩ = some (.int .i64 x0) ∧ W'.cell? ⟨b1, o1 + k * 2 + 1, none⟩ = some (.int .i64 x1)) (by kernel_rfl) ?_
        have hdr : (V0).drew = { V0 with drawn := (V0).drawn + 1 } := rfl
        rw [← hdr]
        clear hdr
        have G1 := Lib.hid (show (V0.drewN 1).cell? ⟨b1, o1 + k * 2, none⟩ = some (.int .i64 x0) ∧ (V0.drewN 1).cell? ⟨b1, o1 + k * 2 + 1, none⟩ = some (.int .i64 x1) from ⟨z0, z1⟩)
        have HBV := Lib.hid (Below.dn HBL.out 1)
        change wpAnyH _ _ _ _ _ _ _ _ (V0.drewN 1)
        have hs0 : w.heap.size ≤ (V0.drewN 1).heap.size := HBL.out.size
        have hbl1 : b1 < (V0.drewN 1).heap.size := by show b1 < V0.heap.size; omega
        
        clear z0 z1
        generalize V0.drewN 1 = V at *
        refine wpAnyHTake 0 (some 10) (.slice (some ⟨b1, o1, none⟩) xs.length c) rfl rfl (by kernel_rfl) (by kernel_rfl) (by kernel_rfl) (fun _ _ _ h => h) (by rfl) (fun _ _ => by rfl) (G1.out) ?_
        simp only [Act.put, List.setIfInBounds_toArray, List.set_cons_zero, List.set_cons_succ]
        refine wpAnyHTake 1 (some 11) (.int .i64 (k : Int)) rfl rfl (by kernel_rfl) (by kernel_rfl) (by kernel_rfl) (fun _ _ _ h => h) (by rfl) (fun _ _ => by rfl) (G1.out) ?_
        simp only [Act.put, List.setIfInBounds_toArray, List.set_cons_zero, List.set_cons_succ]
        refine wpAnyHTake 2 (some 12) (.pointer (some ⟨b1, o1 + k * 2, none⟩)) rfl rfl (by kernel_rfl) (by kernel_rfl) (by kernel_rfl) (fun _ _ _ h => h) (by rfl) (fun _ _ => by go_simp) (G1.out) ?_
        simp only [Act.put, List.setIfInBounds_toArray, List.set_cons_zero, List.set_cons_succ]
        refine wpAnyHTake 3 (some 13) (.agg #[.int .i64 x0, .int .i64 x1]) rfl rfl (by kernel_rfl) (by kernel_rfl) (by kernel_rfl) (fun _ _ _ h => h) (by rfl) (fun W hW => by have g0 := hW.1; have g1 := hW.2; go_simp) (G1.out) ?_
        simp only [Act.put, List.setIfInBounds_toArray, List.set_cons_zero, List.set_cons_succ]
        refine wpAnyHCall 4 (some 14) 60 #[.agg #[.int .i64 x0, .int .i64 x1]] (by kernel_rfl) rfl rfl (by rfl) (by go_simp) (rright_false x0 x1 _ HR.out) ?_
        rintro e V2 ⟨rfl, hb⟩
        have HB2 := Lib.hid hb
        have G2 := Lib.hid (show V2.cell? ⟨b1, o1 + k * 2, none⟩ = some (.int .i64 x0) ∧ V2.cell? ⟨b1, o1 + k * 2 + 1, none⟩ = some (.int .i64 x1) from
          ⟨(hb.cell (p := ⟨b1, o1 + k * 2, none⟩) hbl1).trans G1.out.1, (hb.cell (p := ⟨b1, o1 + k * 2 + 1, none⟩) hbl1).trans G1.out.2⟩)
        clear hb
        refine ⟨_, rfl, G2.out, ?_⟩
        simp only [Act.put, List.setIfInBounds_toArray, List.set_cons_zero, List.set_cons_succ]
        refine wpAnyHTake 5 (some 15) (.bool true) rfl rfl (by kernel_rfl) (by kernel_rfl) (by kernel_rfl) (fun _ _ _ h => h) (by rfl) (fun _ _ => by go_simp) (G2.out) ?_
        simp only [Act.put, List.setIfInBounds_toArray, List.set_cons_zero, List.set_cons_succ]
        refine wpAnyHTake 6 (some 16) (.bool true) rfl rfl (by kernel_rfl) (by kernel_rfl) (by kernel_rfl) (fun _ _ _ h => h) (by rfl) (fun _ _ => by rfl) (G2.out) ?_
        simp only [Act.put, List.setIfInBounds_toArray, List.set_cons_zero, List.set_cons_succ]
        refine wpAnyHPass 7 (some 17) rfl rfl (by kernel_rfl) (by kernel_rfl) (by kernel_rfl) (fun _ _ _ h => h) (by rfl) (G2.out) ?_
        simp only [Act.put, List.setIfInBounds_toArray, List.set_cons_zero, List.set_cons_succ]
        refine wpAnyHPass 8 (some 18) rfl rfl (by kernel_rfl) (by kernel_rfl) (by kernel_rfl) (fun _ _ _ h => h) (by rfl) (G2.out) ?_
        simp only [Act.put, List.setIfInBounds_toArray, List.set_cons_zero, List.set_cons_succ]
        refine wpAnyHPass 9 (some 19) rfl rfl (by kernel_rfl) (by kernel_rfl) (by kernel_rfl) (fun _ _ _ h => h) (by rfl) (G2.out) ?_
        simp only [Act.put, List.setIfInBounds_toArray, List.set_cons_zero, List.set_cons_succ]
        refine wpAnyHPass 10 (some 20) rfl rfl (by kernel_rfl) (by kernel_rfl) (by kernel_rfl) (fun _ _ _ h => h) (by rfl) (G2.out) ?_
        simp only [Act.put, List.setIfInBounds_toArray, List.set_cons_zero, List.set_cons_succ]
        refine wpAnyHPass 11 (some 21) rfl rfl (by kernel_rfl) (by kernel_rfl) (by kernel_rfl) (fun _ _ _ h => h) (by rfl) (G2.out) ?_
        simp only [Act.put, List.setIfInBounds_toArray, List.set_cons_zero, List.set_cons_succ]
        refine wpAnyHPass 12 (some 22) rfl rfl (by kernel_rfl) (by kernel_rfl) (by kernel_rfl) (fun _ _ _ h => h) (by rfl) (G2.out) ?_
        simp only [Act.put, List.setIfInBounds_toArray, List.set_cons_zero, List.set_cons_succ]
        refine wpAnyHPass 13 (some 23) rfl rfl (by kernel_rfl) (by kernel_rfl) (by kernel_rfl) (fun _ _ _ h => h) (by rfl) (G2.out) ?_
        simp only [Act.put, List.setIfInBounds_toArray, List.set_cons_zero, List.set_cons_succ]
        refine wpAnyHPass 14 (some 24) rfl rfl (by kernel_rfl) (by kernel_rfl) (by kernel_rfl) (fun _ _ _ h => h) (by rfl) (G2.out) ?_
        simp only [Act.put, List.setIfInBounds_toArray, List.set_cons_zero, List.set_cons_succ]
        refine wpAnyHPass 15 (some 25) rfl rfl (by kernel_rfl) (by kernel_rfl) (by kernel_rfl) (fun _ _ _ h => h) (by rfl) (G2.out) ?_
        simp only [Act.put, List.setIfInBounds_toArray, List.set_cons_zero, List.set_cons_succ]
        refine wpAnyHPass 16 (some 26) rfl rfl (by kernel_rfl) (by kernel_rfl) (by kernel_rfl) (fun _ _ _ h => h) (by rfl) (G2.out) ?_
        simp only [Act.put, List.setIfInBounds_toArray, List.set_cons_zero, List.set_cons_succ]
        refine wpAnyHPass 17 (some 27) rfl rfl (by kernel_rfl) (by kernel_rfl) (by kernel_rfl) (fun _ _ _ h => h) (by rfl) (G2.out) ?_
        simp only [Act.put, List.setIfInBounds_toArray, List.set_cons_zero, List.set_cons_succ]
        refine wpAnyHPass 18 (some 28) rfl rfl (by kernel_rfl) (by kernel_rfl) (by kernel_rfl) (fun _ _ _ h => h) (by rfl) (G2.out) ?_
        simp only [Act.put, List.setIfInBounds_toArray, List.set_cons_zero, List.set_cons_succ]
        refine wpAnyHPass 19 (some 29) rfl rfl (by kernel_rfl) (by kernel_rfl) (by kernel_rfl) (fun _ _ _ h => h) (by rfl) (G2.out) ?_
        simp only [Act.put, List.setIfInBounds_toArray, List.set_cons_zero, List.set_cons_succ]
        refine wpAnyHPass 20 (some 30) rfl rfl (by kernel_rfl) (by kernel_rfl) (by kernel_rfl) (fun _ _ _ h => h) (by rfl) (G2.out) ?_
        simp only [Act.put, List.setIfInBounds_toArray, List.set_cons_zero, List.set_cons_succ]
        refine wpAnyHPass 21 (some 31) rfl rfl (by kernel_rfl) (by kernel_rfl) (by kernel_rfl) (fun _ _ _ h => h) (by rfl) (G2.out) ?_
        simp only [Act.put, List.setIfInBounds_toArray, List.set_cons_zero, List.set_cons_succ]
        refine wpAnyHPass 22 (some 32) rfl rfl (by kernel_rfl) (by kernel_rfl) (by kernel_rfl) (fun _ _ _ h => h) (by rfl) (G2.out) ?_
        simp only [Act.put, List.setIfInBounds_toArray, List.set_cons_zero, List.set_cons_succ]
        refine wpAnyHPass 23 (some 33) rfl rfl (by kernel_rfl) (by kernel_rfl) (by kernel_rfl) (fun _ _ _ h => h) (by rfl) (G2.out) ?_
        simp only [Act.put, List.setIfInBounds_toArray, List.set_cons_zero, List.set_cons_succ]
        refine wpAnyHTake 24 (some 34) (.bool true) rfl rfl (by kernel_rfl) (by kernel_rfl) (by kernel_rfl) (fun _ _ _ h => h) (by rfl) (fun _ _ => by go_simp) (G2.out) ?_
        simp only [Act.put, List.setIfInBounds_toArray, List.set_cons_zero, List.set_cons_succ]
        refine wpAnyH_done (by kernel_rfl) ?_ _
        rename_i K hK
        refine hK _ _ ?_
        clear hK
        go_wp2_with fail
        go_ret
        exact ⟨ret_bool HNO.out.symm, HBV.out.trans (HB2.out.mono hs0)⟩
    · obtain rfl : k = xs.length := by omega
      rw [List.take_length] at hnr
      have HN := Lib.hid hnr
      clear hnr hbl HNR
      go_wp2_with fail
      go_ret
      exact ⟨ret_bool HN.out.symm, HBL.out⟩
end Go.Proofs.YtecdkpcapalifaaDoor

namespace Go.Proofs.YtecdkpcapalifaaDoor
open Go.RowKit Go.Maps

def ofStep (out : List Sp) (p : Int) : List Sp := match out.getLast? with
  | some (f, t) => if t + 1 = p then out.dropLast ++ [(f, p)] else out ++ [(p, p)]
  | none => [(p, p)]
def ofL (ps : List Int) : List Sp := ps.foldl ofStep []
theorem ofL_succ {ps : List Int} {k : Nat} {p : Int} (h : ps[k]? = some p) : ofL (ps.take (k + 1)) = ofStep (ofL (ps.take k)) p := by
  rw [take_succ_at h]; unfold ofL; rw [List.foldl_append]; rfl
theorem ofStep_nil (p : Int) : ofStep [] p = [(p, p)] := rfl
theorem ofStep_join (M : List Sp) (f t p : Int) (h : t + 1 = p) : ofStep (M ++ [(f, t)]) p = M ++ [(f, p)] := by
  unfold ofStep; rw [List.getLast?_concat, List.dropLast_concat]; exact if_pos h
theorem ofStep_new (M : List Sp) (f t p : Int) (h : t + 1 ≠ p) : ofStep (M ++ [(f, t)]) p = M ++ [(f, t)] ++ [(p, p)] := by
  unfold ofStep; rw [List.getLast?_concat]; exact if_neg h
theorem owns_slice {w : World} {base : Nat} {e : TypeId} {size : Nat} {v : Value} {n : Nat} {xs : List Value} (h : w.ownsRow base e size v n xs) : ∃ a c, v = .slice a n c := by
  rcases h.2 with ⟨h, h0⟩ | ⟨g, cap, cur, h, _⟩
  · exact ⟨_, _, by rw [h, h0]⟩
  · exact ⟨_, _, h⟩
theorem snoc_cases {α : Type} (L : List α) : L = [] ∨ ∃ M x, L = M ++ [x] := by
  rcases List.eq_nil_or_concat L with h | ⟨M, x, h⟩
  · exact .inl h
  · exact .inr ⟨M, x, by rw [h, List.concat_eq_append]⟩
theorem last_cell {M : List Sp} {f t : Int} : (prs (M ++ [(f, t)]))[M.length * 2 + 1]? = some (.int .i64 t) :=
  prs_at (M ++ [(f, t)]) M.length 1 (f, t) (by rw [List.getElem?_append_right (Nat.le_refl _), Nat.sub_self]; rfl) (by omega)

set_option maxRecDepth 100000 in
set_option maxHeartbeats 4000000 in
theorem of_any (v : Value) (ps : List Int) (w : World) (h : RdI w v ps) (hn : ps.length ≤ 1000000) (hp : ∀ p ∈ ps, 0 ≤ p ∧ p ≤ 1000) :
    Calls Tryd.prog 59 #[v] w fun e w' => ∃ v, e = .returned v ∧ w'.ownsRow w.heap.size 81 2 v (ofL ps).length (prs (ofL ps)) ∧ Below w.heap.size w w' := by
  obtain ⟨a, c, rfl, l1, f⟩ := h.open
  clear h
  have F := Lib.hid f; have HP := Lib.hid hp; clear f hp
  obtain ⟨i0, hi0, hz0, hz1, hz2⟩ := info_parts Tryd.info81
  have HI := Lib.hid hi0; have HZ0 := Lib.hid hz0; have HZ1 := Lib.hid hz1; have HZ2 := Lib.hid hz2
  clear hi0 hz0 hz1 hz2
  go_enter Tryd.func59, Tryd.ntmps59
  go_wp2
  go_loopw [3, 9] (fun v i wr => ∃ (k : Nat) (L : List Sp), k ≤ ps.length ∧ i = .int .i64 k ∧ wr.ownsRow w.heap.size 81 2 v L.length (prs L) ∧ L.length ≤ k ∧ ofL (ps.take k) = L ∧ (∀ x ∈ L, 0 ≤ x.2 ∧ x.2 ≤ 1000) ∧ Below w.heap.size w wr) (fun _ i _ => ps.length - (intOf i).toNat)
  case atStart => exact ⟨0, [], Nat.zero_le _, rfl, by simpa [prs] using World.ownsRow_nil w _ _ _, Nat.le_refl _, rfl, (fun x hx => by cases hx), Below.refl _ _⟩
  case round =>
    obtain ⟨k, L, hk, rfl, hown, hL, hof, hbd, hbl⟩ := hrel
    have HO := Lib.hid hown; have HBL := Lib.hid hbl; have HOF := Lib.hid hof; have HBD := Lib.hid hbd
    by_cases hlt : k < ps.length
    · obtain ⟨p, hx⟩ := elem_at hlt
      obtain ⟨b1, o1, rfl, hb1, q0⟩ := F.out k _ hx
      have g0 := (hbl.cell (p := ⟨b1, o1 + k, none⟩) hb1).trans q0
      have hpb := HP.out p (List.mem_of_getElem? hx)
      obtain ⟨hp0, hp1⟩ := hpb
      have hbsz := hbl.size
      have ag := own_ne hown hb1
      have hk1 : (k : Int) < (ps.length : Int) := by omega
      have hk0 : (0 : Int) ≤ (k : Int) := Int.natCast_nonneg _
      have hs := (ofL_succ hx)
      rw [hof] at hs
      have HS := Lib.hid hs
      clear hx q0 hs hof hbd
      rcases snoc_cases L with rfl | ⟨M, ⟨f, t⟩, rfl⟩
      · obtain ⟨a2, c2, rfl⟩ := owns_slice hown
        simp only [List.length_nil] at *
        clear hown hbl
        go_wp2_with (at_builtin; refine wpList_append_lies _ rfl _ _ _ rfl w.heap.size 81 i0 _ 2 16 Tryd.underlying38 HI.out HZ0.out HZ1.out HZ2.out rfl (by omega) _ 0 (prs ([] : List Sp)) rfl (HO.out.alloc _) ⟨wr.heap.size, 0, none⟩ 1 1 [.int .i64 p, .int .i64 p] rfl rfl (World.news_of_block (cs := #[.int .i64 p, .int .i64 p]) (t := 81) (fr := (0, 0)) (heap_alloc_new wr _)) (by simp [Value.oneCell']) (by omega) (by unfold maxLen; omega) (by omega) (by simp; omega) (wr.heap.size + 1) (by simp) ?_; intro gg cap2 w3 hown1 hgrow hat hltg)
        have HO1 := Lib.hid hown1; clear hown1
        go_roundw
        case rel => exact ⟨k + 1, [(p, p)], by omega, by go_num, HO1.out, by simp, HS.out, (fun x hx => by rw [List.mem_singleton.1 hx]; exact ⟨hp0, hp1⟩), (HBL.out.alloc hbsz _).grown hgrow (by simp; omega) (fun j e => (HO.out.lt j e).1)⟩
        case measure => simp [intOf]; omega
      · obtain ⟨g, cap, rfl, hgb, hgl⟩ := hown.form (by simp)
        have hc := hown.cellAt (M.length * 2 + 1) (by simp; omega)
        rw [last_cell] at hc
        have hf := hown.frozenAt (M.length * 2 + 1)
        have htb := HBD.out (f, t) (by simp)
        dsimp only at htb
        obtain ⟨ht0, ht1⟩ := htb
        have hlen : (M ++ [(f, t)]).length = M.length + 1 := by simp
        have HLEN := Lib.hid hlen
        rw [hlen] at hL hown ag ⊢
        have HO2 := Lib.hid hown
        have hm0 : (M.length : Int) ≤ 1000000 := by omega
        have e1 : ((M.length + 1 : Nat) : Int) - 1 = (M.length : Int) := by omega
        have e2 : (0 : Int) < ((M.length + 1 : Nat) : Int) := by omega
        clear hown hbl hlen
        by_cases hj : t + 1 = p
        · have j1 : (t == p - 1) = true := by rw [beq_iff_eq]; omega
          have j2 : (t + 1 == p) = true := by rw [beq_iff_eq]; omega
          have hst := (HO2.out.stored (M.length * 2 + 1) (.int .i64 p)).1
          rw [prs_set] at hst
          have hs2 : ofL (ps.take (k + 1)) = M ++ [(f, p)] := HS.out.trans (ofStep_join M f t p hj)
          have HST := Lib.hid hst; have HS2 := Lib.hid hs2
          clear hst hs2 hj
          go_wp2_with fail
          go_roundw
          case rel =>
            refine ⟨k + 1, M ++ [(f, p)], by omega, by go_num, ?_, ?_, HS2.out, ?_, ?_⟩
            · rw [show (M ++ [(f, p)]).length = M.length + 1 by simp]; exact HST.out
            · simp; omega
            · intro x hx
              rcases List.mem_append.1 hx with h | h
              · exact HBD.out x (List.mem_append_left _ h)
              · rw [List.mem_singleton.1 h]; exact ⟨hp0, hp1⟩
            · first | exact HBL.out.setCell (p := ⟨g, _, none⟩) hgb _ | exact (Below.dn HBL.out _).setCell (p := ⟨g, _, none⟩) hgb _
          case measure => simp [intOf]; omega
        · have j1 : (t == p - 1) = false := by rw [beq_eq_false_iff_ne]; omega
          have j2 : (t + 1 == p) = false := by rw [beq_eq_false_iff_ne]; omega
          have hs2 : ofL (ps.take (k + 1)) = (M ++ [(f, t)]) ++ [(p, p)] := HS.out.trans (ofStep_new M f t p hj)
          have HS2 := Lib.hid hs2
          clear hs2 hj
          go_wp2_with (at_builtin; refine wpList_append_lies _ rfl _ _ _ rfl w.heap.size 81 i0 _ 2 16 Tryd.underlying38 HI.out HZ0.out HZ1.out HZ2.out rfl (by omega) _ (M.length + 1) (prs (M ++ [(f, t)])) rfl (HO2.out.alloc _) ⟨wr.heap.size, 0, none⟩ 1 1 [.int .i64 p, .int .i64 p] rfl rfl (World.news_of_block (cs := #[.int .i64 p, .int .i64 p]) (t := 81) (fr := (0, 0)) (heap_alloc_new wr _)) (by simp [Value.oneCell']) (by omega) (by unfold maxLen; omega) (by omega) (by simp; omega) (wr.heap.size + 1) (by simp) ?_; intro gg cap2 w3 hown1 hgrow hat hltg)
          have HO1 := Lib.hid hown1; clear hown1
          go_roundw
          case rel =>
            refine ⟨k + 1, (M ++ [(f, t)]) ++ [(p, p)], by omega, by go_num, ?_, ?_, HS2.out, ?_, ?_⟩
            · rw [show ((M ++ [(f, t)]) ++ [(p, p)]).length = M.length + 1 + 1 by simp, prs_snoc]; exact HO1.out
            · simp; omega
            · intro x hx
              rcases List.mem_append.1 hx with h | h
              · exact HBD.out x h
              · rw [List.mem_singleton.1 h]; exact ⟨hp0, hp1⟩
            · exact (HBL.out.alloc hbsz _).grown hgrow (by simp; omega) (fun j e => by cases e; exact hgb)
          case measure => simp [intOf]; omega
    · obtain rfl : k = ps.length := by omega
      obtain ⟨a2, c2, rfl⟩ := owns_slice hown
      rw [List.take_length] at hof
      subst hof
      clear hown hbl hbd HOF HBD
      go_wp2_with fail
      go_ret
      exact ⟨_, rfl, HO.out, HBL.out⟩

set_option maxRecDepth 100000 in
set_option maxHeartbeats 4000000 in
theorem rof_any (v : Value) (ps : List Int) (w : World) (h : RdI w v ps) (hn : ps.length ≤ 1000000) (hp : ∀ p ∈ ps, 0 ≤ p ∧ p ≤ 1000) :
    Calls Tryd.prog 50 #[v] w fun e w' => ∃ v, e = .returned v ∧ w'.ownsRow w.heap.size 68 2 v (ofL ps).length (prs (ofL ps)) ∧ Below w.heap.size w w' := by
  obtain ⟨a, c, rfl, l1, f⟩ := h.open
  clear h
  have F := Lib.hid f; have HP := Lib.hid hp; clear f hp
  obtain ⟨i0, hi0, hz0, hz1, hz2⟩ := info_parts Tryd.info68
  have HI := Lib.hid hi0; have HZ0 := Lib.hid hz0; have HZ1 := Lib.hid hz1; have HZ2 := Lib.hid hz2
  clear hi0 hz0 hz1 hz2
  go_enter Tryd.func50, Tryd.ntmps50
  go_wp2
  go_loopw [3, 4] (fun v i wr => ∃ (k : Nat) (L : List Sp), k ≤ ps.length ∧ i = .int .i64 k ∧ wr.ownsRow w.heap.size 68 2 v L.length (prs L) ∧ L.length ≤ k ∧ ofL (ps.take k) = L ∧ (∀ x ∈ L, 0 ≤ x.2 ∧ x.2 ≤ 1000) ∧ Below w.heap.size w wr) (fun _ i _ => ps.length - (intOf i).toNat)
  case atStart => exact ⟨0, [], Nat.zero_le _, rfl, by simpa [prs] using World.ownsRow_nil w _ _ _, Nat.le_refl _, rfl, (fun x hx => by cases hx), Below.refl _ _⟩
  case round =>
    obtain ⟨k, L, hk, rfl, hown, hL, hof, hbd, hbl⟩ := hrel
    have HO := Lib.hid hown; have HBL := Lib.hid hbl; have HOF := Lib.hid hof; have HBD := Lib.hid hbd
    by_cases hlt : k < ps.length
    · obtain ⟨p, hx⟩ := elem_at hlt
      obtain ⟨b1, o1, rfl, hb1, q0⟩ := F.out k _ hx
      have g0 := (hbl.cell (p := ⟨b1, o1 + k, none⟩) hb1).trans q0
      have hpb := HP.out p (List.mem_of_getElem? hx)
      obtain ⟨hp0, hp1⟩ := hpb
      have hbsz := hbl.size
      have ag := own_ne hown hb1
      have hk1 : (k : Int) < (ps.length : Int) := by omega
      have hk0 : (0 : Int) ≤ (k : Int) := Int.natCast_nonneg _
      have hs := (ofL_succ hx)
      rw [hof] at hs
      have HS := Lib.hid hs
      clear hx q0 hs hof hbd
      rcases snoc_cases L with rfl | ⟨M, ⟨f, t⟩, rfl⟩
      · obtain ⟨a2, c2, rfl⟩ := owns_slice hown
        simp only [List.length_nil] at *
        clear hown hbl
        go_wp2_with fail
        go_quiet (fail)
        rename_i nq _
        have HOQ := Lib.hid (show (wr.drewN nq).ownsRow w.heap.size 68 2 _ 0 (prs ([] : List Sp)) from HO.out)
        have HBQ := Lib.hid (Below.dn HBL.out nq)
        have gq : (wr.drewN nq).cell? ⟨b1, o1 + k, none⟩ = some (.int .i64 p) := g0
        have hbsz : w.heap.size ≤ (wr.drewN nq).heap.size := hbsz
        generalize wr.drewN nq = Wq at *
        go_wp2_with fail
        go_region_held3 (fun w' => w'.cell? ⟨b1, o1 + k, none⟩ = some (.int .i64 p))
        (first
          | go_keep
          | (go_split_ands
             rw [hgrow.cell_far _ (by simp; omega) (Ne.symm ag)]; assumption))
        ((refine step_append_lies _ (by rfl) _ _ _ (by rfl) w.heap.size 68 i0 _ 2 16 Tryd.underlying28 HI.out HZ0.out HZ1.out HZ2.out rfl (by omega) _ 0 (prs ([] : List Sp)) (by rfl) ((HOQ.out.alloc _).drew) ⟨Wq.heap.size, 0, none⟩ 1 1 [.int .i64 p, .int .i64 p] (by rfl) (by rfl) (World.news_of_block (cs := #[.int .i64 p, .int .i64 p]) (t := 68) (fr := (0, 0)) (heap_alloc_new Wq _)) (by simp [Value.oneCell'])
            (by omega) (by unfold maxLen; omega) (by omega) (by simp; omega) (Wq.heap.size + 1) (by simp) ?_; intro gg cap2 w3 hown1 hgrow hat hltg))
        go_wp2_with fail
        have HO1 := Lib.hid hown1; clear hown1
        go_roundw
        case rel => exact ⟨k + 1, [(p, p)], by omega, by go_num, HO1.out, by simp, HS.out, (fun x hx => by rw [List.mem_singleton.1 hx]; exact ⟨hp0, hp1⟩), ((HBQ.out.alloc hbsz _).drew).grown hgrow (by simp; omega) (fun j e => (HO.out.lt j e).1)⟩
        case measure => simp [intOf]; omega
      · obtain ⟨g, cap, rfl, hgb, hgl⟩ := hown.form (by simp)
        have hc := hown.cellAt (M.length * 2 + 1) (by simp; omega)
        rw [last_cell] at hc
        have hf := hown.frozenAt (M.length * 2 + 1)
        have htb := HBD.out (f, t) (by simp)
        dsimp only at htb
        obtain ⟨ht0, ht1⟩ := htb
        have hlen : (M ++ [(f, t)]).length = M.length + 1 := by simp
        have HLEN := Lib.hid hlen
        rw [hlen] at hL hown ag ⊢
        have HO2 := Lib.hid hown
        have hm0 : (M.length : Int) ≤ 1000000 := by omega
        have e1 : ((M.length + 1 : Nat) : Int) - 1 = (M.length : Int) := by omega
        have e2 : (0 : Int) < ((M.length + 1 : Nat) : Int) := by omega
        clear hown hbl hlen
        by_cases hj : t + 1 = p
        · have j1 : (t == p - 1) = true := by rw [beq_iff_eq]; omega
          have j2 : (t + 1 == p) = true := by rw [beq_iff_eq]; omega
          have hst := (HO2.out.stored (M.length * 2 + 1) (.int .i64 p)).1
          rw [prs_set] at hst
          have hs2 : ofL (ps.take (k + 1)) = M ++ [(f, p)] := HS.out.trans (ofStep_join M f t p hj)
          have HST := Lib.hid hst; have HS2 := Lib.hid hs2
          clear hst hs2 hj
          go_wp2_with fail
          go_quiet (fail)
          go_wp2_with fail
          go_roundw
          case rel =>
            refine ⟨k + 1, M ++ [(f, p)], by omega, by go_num, ?_, ?_, HS2.out, ?_, ?_⟩
            · rw [show (M ++ [(f, p)]).length = M.length + 1 by simp]; exact HST.out
            · simp; omega
            · intro x hx
              rcases List.mem_append.1 hx with h | h
              · exact HBD.out x (List.mem_append_left _ h)
              · rw [List.mem_singleton.1 h]; exact ⟨hp0, hp1⟩
            · first | exact HBL.out.setCell (p := ⟨g, _, none⟩) hgb _ | exact (Below.dn HBL.out _).setCell (p := ⟨g, _, none⟩) hgb _
          case measure => simp [intOf]; omega
        · have j1 : (t == p - 1) = false := by rw [beq_eq_false_iff_ne]; omega
          have j2 : (t + 1 == p) = false := by rw [beq_eq_false_iff_ne]; omega
          have hs2 : ofL (ps.take (k + 1)) = (M ++ [(f, t)]) ++ [(p, p)] := HS.out.trans (ofStep_new M f t p hj)
          have HS2 := Lib.hid hs2
          clear hs2 hj
          go_wp2_with fail
          go_quiet (fail)
          rename_i nq _
          have HOQ := Lib.hid (show (wr.drewN nq).ownsRow w.heap.size 68 2 _ (M.length + 1) (prs (M ++ [(f, t)])) from HO2.out)
          have HBQ := Lib.hid (Below.dn HBL.out nq)
          have gq : (wr.drewN nq).cell? ⟨b1, o1 + k, none⟩ = some (.int .i64 p) := g0
          have hbsz : w.heap.size ≤ (wr.drewN nq).heap.size := hbsz
          generalize wr.drewN nq = Wq at *
          go_wp2_with fail
          go_region_held3 (fun w' => w'.cell? ⟨b1, o1 + k, none⟩ = some (.int .i64 p))
        (first
          | go_keep
          | (go_split_ands
             rw [hgrow.cell_far _ (by simp; omega) (Ne.symm ag)]; assumption))
        ((refine step_append_lies _ (by rfl) _ _ _ (by rfl) w.heap.size 68 i0 _ 2 16 Tryd.underlying28 HI.out HZ0.out HZ1.out HZ2.out rfl (by omega) _ (M.length + 1) (prs (M ++ [(f, t)])) (by rfl) ((HOQ.out.alloc _).drew) ⟨Wq.heap.size, 0, none⟩ 1 1 [.int .i64 p, .int .i64 p] (by rfl) (by rfl) (World.news_of_block (cs := #[.int .i64 p, .int .i64 p]) (t := 68) (fr := (0, 0)) (heap_alloc_new Wq _)) (by simp [Value.oneCell'])
            (by omega) (by unfold maxLen; omega) (by omega) (by simp; omega) (Wq.heap.size + 1) (by simp) ?_; intro gg cap2 w3 hown1 hgrow hat hltg))
          go_wp2_with fail
          have HO1 := Lib.hid hown1; clear hown1
          go_roundw
          case rel =>
            refine ⟨k + 1, (M ++ [(f, t)]) ++ [(p, p)], by omega, by go_num, ?_, ?_, HS2.out, ?_, ?_⟩
            · rw [show ((M ++ [(f, t)]) ++ [(p, p)]).length = M.length + 1 + 1 by simp, prs_snoc]; exact HO1.out
            · simp; omega
            · intro x hx
              rcases List.mem_append.1 hx with h | h
              · exact HBD.out x h
              · rw [List.mem_singleton.1 h]; exact ⟨hp0, hp1⟩
            · exact ((HBQ.out.alloc hbsz _).drew).grown hgrow (by simp; omega) (fun j e => by cases e; exact hgb)
          case measure => simp [intOf]; omega
    · obtain rfl : k = ps.length := by omega
      obtain ⟨a2, c2, rfl⟩ := owns_slice hown
      rw [List.take_length] at hof
      subst hof
      clear hown hbl hbd HOF HBD
      go_wp2_with fail
      go_ret
      exact ⟨_, rfl, HO.out, HBL.out⟩
end Go.Proofs.YtecdkpcapalifaaDoor

namespace Go.Proofs.YtecdkpcapalifaaDoor
open Go.RowKit Go.Maps

def inL (l : List Sp) (p : Int) : Bool := l.any fun x => decide (x.1 ≤ p) && decide (p ≤ x.2)
theorem inL_snoc (l : List Sp) (x : Sp) (p : Int) : inL (l ++ [x]) p = (inL l p || (decide (x.1 ≤ p) && decide (p ≤ x.2))) := by unfold inL; rw [List.any_append]; simp
theorem inL_take {l : List Sp} {k : Nat} {p : Int} (h : inL (l.take k) p = true) : inL l p = true := by
  unfold inL at h ⊢
  rw [List.any_eq_true] at h ⊢
  obtain ⟨x, hx, h⟩ := h
  exact ⟨x, List.mem_of_mem_take hx, h⟩
def onP (l : List Sp) (i : Nat) : Bool := decide (1 ≤ i) && inL l i
def pagesN (l : List Sp) (n : Nat) : List Int := ((List.range n).filter (onP l)).map fun i : Nat => (i : Int)
def pagesL (l : List Sp) : List Int := pagesN l 1000
theorem pagesN_yes {l : List Sp} {n : Nat} (h : onP l n = true) : pagesN l (n + 1) = pagesN l n ++ [(n : Int)] := by
  unfold pagesN; rw [List.range_succ, List.filter_append, List.map_append]; simp [h]
theorem pagesN_no {l : List Sp} {n : Nat} (h : onP l n = false) : pagesN l (n + 1) = pagesN l n := by
  unfold pagesN; rw [List.range_succ, List.filter_append, List.map_append]; simp [h]
theorem pagesN_len (l : List Sp) (n : Nat) : (pagesN l n).length ≤ n := by
  unfold pagesN; rw [List.length_map]; exact Nat.le_trans (List.length_filter_le _ _) (by simp)
theorem pagesN_bd (l : List Sp) (n : Nat) : ∀ p ∈ pagesN l n, 0 ≤ p ∧ p < n := fun p hp => by
  unfold pagesN at hp
  obtain ⟨i, hi, rfl⟩ := List.mem_map.1 hp
  have := List.mem_range.1 (List.mem_filter.1 hi).1
  omega
theorem Tryd.info3i : (Tryd.prog.info? 3).map (fun i => (i.zero, i.size, i.bytes)) = some (some (.int .i64 0), 1, 8) := by kernel_rfl
theorem cell_one_new (W : World) (t : TypeId) (v : Value) : ∀ j u, [v][j]? = some u → (W.alloc (.cells #[v] t)).cell? ((⟨W.heap.size, 0, none⟩ : Addr).add j) = some u :=
  World.news_of_block (cs := #[v]) (t := t) (fr := (0, 0)) (heap_alloc_new W _)
theorem owns_ints {w : World} {base : Nat} {v : Value} {n : Nat} {xs : List Int} (h : w.ownsRow base 3 1 v n (ints xs)) : RdI w v xs := by
  unfold RdI; exact Rd_of_owns h
theorem ints_app (xs ys : List Int) : ints (xs ++ ys) = ints xs ++ ints ys := by unfold ints; rw [List.map_append]

set_option maxRecDepth 100000 in
set_option maxHeartbeats 4000000 in
theorem rpages_any (v : Value) (l : List Sp) (w : World) (h : RdP w v l) :
    Calls Tryd.prog 38 #[v] w fun e w' => ∃ v, e = .returned v ∧ w'.ownsRow w.heap.size 3 1 v (pagesL l).length (ints (pagesL l)) ∧ Below w.heap.size w w' := by
  obtain ⟨a, c, rfl, l1, l2, f⟩ := h.open
  clear h
  have F := Lib.hid f; clear f
  obtain ⟨i0, hi0, hz0, hz1, hz2⟩ := info_parts Tryd.info3i
  have HI := Lib.hid hi0; have HZ0 := Lib.hid hz0; have HZ1 := Lib.hid hz1; have HZ2 := Lib.hid hz2
  clear hi0 hz0 hz1 hz2
  go_enter Tryd.func38, Tryd.ntmps38
  go_wp2
  go_loopw [3, 4] (fun v i wr => ∃ (p : Nat) (P : List Int), 1 ≤ p ∧ p ≤ 1000 ∧ i = .int .i64 p ∧ wr.ownsRow w.heap.size 3 1 v P.length (ints P) ∧ P.length ≤ p ∧ pagesN l p = P ∧ Below w.heap.size w wr) (fun _ i _ => 1000 - (intOf i).toNat)
  case atStart => exact ⟨1, [], Nat.le_refl _, by omega, rfl, World.ownsRow_nil w _ _ _, by simp, rfl, Below.refl _ _⟩
  case round =>
    obtain ⟨p, P, hp1, hp2, rfl, hown, hPl, hpn, hbl⟩ := hrel
    obtain ⟨a2, c2, rfl⟩ := owns_slice hown
    have HO := Lib.hid hown; have HBL := Lib.hid hbl; have HPN := Lib.hid hpn
    clear hown hbl hpn
    by_cases hlt : p ≤ 999
    · have hlt' : (p : Int) ≤ 999 := by omega
      have hp1' : (1 : Int) ≤ (p : Int) := by omega
      go_wp2_with fail
      go_loopw [5, 6] (fun bv iv w2 => ∃ j : Nat, j ≤ l.length ∧ iv = .int .i64 j ∧ bv = .bool (inL (l.take j) p) ∧ w2 = wr) (fun _ iv _ => l.length - (intOf iv).toNat)
      case atStart => exact ⟨0, Nat.zero_le _, rfl, rfl, rfl⟩
      case round =>
        obtain ⟨j, hj, rfl, rfl, rfl⟩ := hrel
        by_cases hin : inL (l.take j) p = true
        · have hon : onP l p = true := by unfold onP; rw [inL_take hin]; simp; omega
          have hpp := pagesN_yes hon
          rw [HPN.out] at hpp
          have HPP := Lib.hid hpp
          have hbsz : w.heap.size ≤ wr.heap.size := HBL.out.size
          rw [hin]
          clear hon hpp hin
          by_cases hjl : j < l.length
          · have hjl' : (j : Int) < (l.length : Int) := by omega
            go_wp2_with (at_builtin; refine wpList_append_lies _ rfl _ _ _ rfl w.heap.size 3 i0 _ 1 8 Tryd.underlying22 HI.out HZ0.out HZ1.out HZ2.out rfl (by omega) _ P.length (ints P) rfl (HO.out.alloc _) ⟨wr.heap.size, 0, none⟩ 1 1 [.int .i64 p] rfl rfl (cell_one_new _ _ _) (by simp [Value.oneCell']) (by omega) (by unfold maxLen; omega) (by omega) (by simp; omega) (wr.heap.size + 1) (by simp) ?_; intro gg cap2 w3 hown1 hgrow hat hltg)
            have HO1 := Lib.hid hown1; clear hown1
            go_roundw
            case rel => exact ⟨p + 1, P ++ [(p : Int)], by omega, by omega, by go_num, by rw [show (P ++ [(p : Int)]).length = P.length + 1 by simp, ints_app]; exact HO1.out, by simp; omega, HPP.out, (HBL.out.alloc hbsz _).grown hgrow (by simp; omega) (fun j e => (HO.out.lt j e).1)⟩
            case measure => simp [intOf]; omega
          · have hjl' : ¬ (j : Int) < (l.length : Int) := by omega
            go_wp2_with (at_builtin; refine wpList_append_lies _ rfl _ _ _ rfl w.heap.size 3 i0 _ 1 8 Tryd.underlying22 HI.out HZ0.out HZ1.out HZ2.out rfl (by omega) _ P.length (ints P) rfl (HO.out.alloc _) ⟨wr.heap.size, 0, none⟩ 1 1 [.int .i64 p] rfl rfl (cell_one_new _ _ _) (by simp [Value.oneCell']) (by omega) (by unfold maxLen; omega) (by omega) (by simp; omega) (wr.heap.size + 1) (by simp) ?_; intro gg cap2 w3 hown1 hgrow hat hltg)
            have HO1 := Lib.hid hown1; clear hown1
            go_roundw
            case rel => exact ⟨p + 1, P ++ [(p : Int)], by omega, by omega, by go_num, by rw [show (P ++ [(p : Int)]).length = P.length + 1 by simp, ints_app]; exact HO1.out, by simp; omega, HPP.out, (HBL.out.alloc hbsz _).grown hgrow (by simp; omega) (fun j e => (HO.out.lt j e).1)⟩
            case measure => simp [intOf]; omega
        · have hin' : inL (l.take j) p = false := by simpa using hin
          rw [hin']
          clear hin
          by_cases hjl : j < l.length
          · have hjl' : (j : Int) < (l.length : Int) := by omega
            obtain ⟨⟨x0, x1⟩, hx⟩ := elem_at hjl
            obtain ⟨b1, o1, rfl, hb1, q0, q1⟩ := F.out j _ hx
            have g0 := (HBL.out.cell (p := ⟨b1, o1 + j * 2, none⟩) hb1).trans q0
            have g1 := (HBL.out.cell (p := ⟨b1, o1 + j * 2 + 1, none⟩) hb1).trans q1
            dsimp only at g0 g1
            have hnx : inL (l.take (j + 1)) p = (decide (x0 ≤ p) && decide ((p : Int) ≤ x1)) := by rw [take_succ_at hx, inL_snoc, hin']; rfl
            have HNX := Lib.hid hnx
            have hj0 : (0 : Int) ≤ (j : Int) := Int.natCast_nonneg _
            clear hx q0 q1 hin' hnx
            by_cases c1 : x0 ≤ (p : Int)
            · by_cases c2 : (p : Int) ≤ x1
              all_goals
                go_wp2_with fail
                go_roundw
                case rel => exact ⟨j + 1, by omega, by go_num, by rw [HNX.out]; simp [c1, c2], by first | rfl | trivial⟩
                case measure => simp [intOf]; omega
            · go_wp2_with fail
              go_roundw
              case rel => exact ⟨j + 1, by omega, by go_num, by rw [HNX.out]; simp [c1], by first | rfl | trivial⟩
              case measure => simp [intOf]; omega
          · have hjl' : ¬ (j : Int) < (l.length : Int) := by omega
            obtain rfl : j = l.length := by omega
            rw [List.take_length] at hin'
            have hon : onP l p = false := by unfold onP; rw [hin']; simp
            have hpp := pagesN_no hon
            rw [HPN.out] at hpp
            have HPP := Lib.hid hpp
            clear hon hpp hin'
            go_wp2_with fail
            go_roundw
            case rel => exact ⟨p + 1, P, by omega, by omega, by go_num, HO.out, by omega, HPP.out, HBL.out⟩
            case measure => simp [intOf]; omega
    · obtain rfl : p = 1000 := by omega
      go_wp2_with fail
      go_ret
      exact ⟨_, rfl, by unfold pagesL; rw [HPN.out]; exact HO.out, HBL.out⟩
end Go.Proofs.YtecdkpcapalifaaDoor

namespace Go.Proofs.YtecdkpcapalifaaDoor
open Go.RowKit Go.Maps

def boolsV (f : Nat → Bool) : List Value := (List.range 1000).map fun i => .bool (f i)
theorem boolsV_len (f : Nat → Bool) : (boolsV f).length = 1000 := by unfold boolsV; rw [List.length_map, List.length_range]
theorem boolsV_at (f : Nat → Bool) {i : Nat} (h : i < 1000) : (boolsV f)[i]? = some (.bool (f i)) := by unfold boolsV; rw [List.getElem?_map, List.getElem?_range h]; rfl
theorem boolsV_set (f g : Nat → Bool) (p : Nat) (hp : p < 1000) (h1 : g p = true) (h2 : ∀ i, i ≠ p → g i = f i) : (boolsV f).set p (.bool true) = boolsV g := by
  apply List.ext_getElem?
  intro i
  rw [List.getElem?_set]
  by_cases hi : p = i
  · subst hi
    rw [if_pos rfl, if_pos (by rw [boolsV_len]; exact hp), boolsV_at g hp, h1]
  · rw [if_neg hi]
    by_cases h : i < 1000
    · rw [boolsV_at f h, boolsV_at g h, h2 i (fun e => hi e.symm)]
    · rw [List.getElem?_eq_none (by rw [boolsV_len]; omega), List.getElem?_eq_none (by rw [boolsV_len]; omega)]
theorem boolsV_ext {f g : Nat → Bool} (h : ∀ i, i < 1000 → f i = g i) : boolsV f = boolsV g := by
  unfold boolsV
  exact List.map_congr_left fun i hi => by rw [h i (List.mem_range.1 hi)]
def zeroB : Value := .agg (boolsV fun _ => false).toArray
set_option maxRecDepth 100000 in
theorem Tryd.info96 : (Tryd.prog.info? 96).map (fun i => (i.zero, i.size)) = some (some zeroB, 1000) := by kernel_rfl
theorem Tryd.size96 : (Tryd.prog.info? 96).map (·.size) = some 1000 := (zero_of_info Tryd.info96).2
theorem Tryd.zero96 (w : World) : (zeroValue 96).run Tryd.prog w = .ok zeroB w := (zero_of_info Tryd.info96).1 w
theorem Tryd.under96 : Tryd.prog.underlying 96 = some (.array 1000 4) := by kernel_rfl
theorem Tryd.info4 : (Tryd.prog.info? 4).map (fun i => (i.zero, i.size, i.bytes)) = some (some (.bool false), 1, 1) := by kernel_rfl
theorem idx_bools (f : Nat → Bool) (k : Nat) (hk : k < 1000) (w : World) : (Instr.index 96 (.agg (boolsV f).toArray) (.int .i64 k)).run Tryd.prog w = .ok (.bool (f k)) w := by
  obtain ⟨i0, hi, hz0, hz1, hz2⟩ := info_parts Tryd.info4
  have h1 : (k : Int) < 1000 := by omega
  simp [Instr.index, run_underlying Tryd.under96, asIntOf, sizeOf, typeInfo, hi, hz1, part, isAgg, run_underlying Tryd.underlying4, boolsV_at f hk]
  omega
theorem start_eq {l : List Sp} {k i : Nat} {x0 p : Int} (h : p ≤ x0 ∨ p ≤ 1) : (decide (1 ≤ i) && (inL (l.take k) i || (decide (x0 ≤ (i : Int)) && decide ((i : Int) < p)))) = (decide (1 ≤ i) && inL (l.take k) i) := by
  cases inL (l.take k) i with
  | true => simp
  | false =>
    rw [Bool.eq_iff_iff]
    simp
    omega
theorem step_eq {l : List Sp} {k i pn : Nat} {x0 : Int} (h : i ≠ pn) : (decide (1 ≤ i) && (inL (l.take k) i || (decide (x0 ≤ (i : Int)) && decide ((i : Int) < (pn : Int) + 1)))) = (decide (1 ≤ i) && (inL (l.take k) i || (decide (x0 ≤ (i : Int)) && decide ((i : Int) < (pn : Int))))) := by
  cases inL (l.take k) i with
  | true => simp
  | false =>
    rw [Bool.eq_iff_iff]
    simp
    omega
theorem end_eq {l : List Sp} {k i : Nat} {x0 x1 p : Int} (hi : i < 1000) (h : (p ≤ x0 ∨ p ≤ 1 ∨ (p ≤ x1 + 1 ∧ p ≤ 1000)) ∧ x0 ≤ p ∧ 1 ≤ p ∧ (x1 < p ∨ 999 < p)) :
    (decide (1 ≤ i) && (inL (l.take k) i || (decide (x0 ≤ (i : Int)) && decide ((i : Int) < p)))) = (decide (1 ≤ i) && (inL (l.take k) i || (decide (x0 ≤ (i : Int)) && decide ((i : Int) ≤ x1)))) := by
  cases inL (l.take k) i with
  | true => simp
  | false =>
    rw [Bool.eq_iff_iff]
    simp
    omega
theorem Boxs.setOther {W : World} {B : Nat} {t : TypeId} {cs : Array Value} (h : Boxs W B t cs) {b : Nat} (hb : b ≠ B) (o : Nat) (u : Value) : Boxs (W.setCell ⟨b, o, none⟩ u) B t cs :=
  (Below.heap_setCell _ _ _ _ (fun e => hb (by rw [e]))).trans h

set_option maxRecDepth 100000 in
set_option maxHeartbeats 8000000 in
theorem pages_any (v : Value) (l : List Sp) (w : World) (h : RdP w v l) :
    Calls Tryd.prog 37 #[v] w fun e w' => ∃ v, e = .returned v ∧ w'.ownsRow w.heap.size 3 1 v (pagesL l).length (ints (pagesL l)) ∧ Below w.heap.size w w' := by
  obtain ⟨a, c, rfl, l1, l2, f⟩ := h.open
  clear h
  have F := Lib.hid f; clear f
  obtain ⟨i0, hi0, hz0, hz1, hz2⟩ := info_parts Tryd.info3i
  have HI := Lib.hid hi0; have HZ0 := Lib.hid hz0; have HZ1 := Lib.hid hz1; have HZ2 := Lib.hid hz2
  clear hi0 hz0 hz1 hz2
  have Z : ∀ w, (zeroValue 96).run Tryd.prog w = .ok (.agg (boolsV fun _ => false).toArray) w := Tryd.zero96
  generalize hBZ : (boolsV fun _ => false).toArray = BZ at Z
  have HBZ := Lib.hid hBZ; clear hBZ
  go_enter Tryd.func37, Tryd.ntmps37
  go_wp2
  have bB := Boxs.new w 96 BZ
  have HBB := Lib.hid bB
  have HBL0 := Lib.hid ((Below.refl w.heap.size w).alloc (Nat.le_refl _) (.cells BZ 96))
  have hs0 : (w.alloc (.cells BZ 96)).heap.size = w.heap.size + 1 := by simp
  clear bB Z
  generalize w.alloc (.cells BZ 96) = W0 at *
  go_loopw [12] (fun i wr => ∃ k : Nat, k ≤ l.length ∧ i = .int .i64 k ∧ Boxs wr w.heap.size 96 (boolsV (fun i => decide (1 ≤ i) && inL (l.take k) i)).toArray ∧ Below w.heap.size w wr ∧ w.heap.size + 1 ≤ wr.heap.size) (fun i _ => l.length - (intOf i).toNat)
  case atStart => exact ⟨0, Nat.zero_le _, rfl, by have := HBB.out; rw [← HBZ.out] at this; rw [boolsV_ext (g := fun _ => false) (fun i _ => by simp [inL])]; exact this, HBL0.out, by omega⟩
  case round =>
    obtain ⟨k, hk, rfl, hbx, hbl, hsz⟩ := hrel
    obtain ⟨wo, hwo⟩ : ∃ wo, wo = wr := ⟨_, rfl⟩
    subst hwo
    have HBX := Lib.hid hbx; have HBL := Lib.hid hbl
    clear hbx
    by_cases hlt : k < l.length
    · obtain ⟨⟨x0, x1⟩, hx⟩ := elem_at hlt
      obtain ⟨b1, o1, rfl, hb1, q0, q1⟩ := F.out k _ hx
      have g0 := (hbl.cell (p := ⟨b1, o1 + k * 2, none⟩) hb1).trans q0
      have g1 := (hbl.cell (p := ⟨b1, o1 + k * 2 + 1, none⟩) hb1).trans q1
      dsimp only at g0 g1
      have hne : ¬ b1 = wo.heap.size := by omega
      have hne2 : ¬ wo.heap.size = b1 := by omega
      have hk1 : (k : Int) < (l.length : Int) := by omega
      have hk0 : (0 : Int) ≤ (k : Int) := Int.natCast_nonneg _
      have hnx : ∀ p, inL (l.take (k + 1)) p = (inL (l.take k) p || (decide (x0 ≤ p) && decide (p ≤ x1))) := fun p => by rw [take_succ_at hx, inL_snoc]
      have HNX := Lib.hid hnx
      clear q0 q1 hx hbl hnx
      have bN := Boxs.new wo 81 #[.int .i64 x0, .int .i64 x1]
      have bM := (Below.refl wo.heap.size wo).alloc (Nat.le_refl _) (.cells #[.int .i64 x0, .int .i64 x1] 81)
      have hB1 : Boxs (wo.alloc (.cells #[.int .i64 x0, .int .i64 x1] 81)) w.heap.size 96 (boolsV (fun i => decide (1 ≤ i) && inL (l.take k) i)).toArray := (bM.block _ (by omega)).trans HBX.out
      have HB1 := Lib.hid hB1; have HBN := Lib.hid bN; have HBM := Lib.hid (HBL.out.alloc HBL.out.size (.cells #[.int .i64 x0, .int .i64 x1] 81))
      have hs1 : (wo.alloc (.cells #[.int .i64 x0, .int .i64 x1] 81)).heap.size = wo.heap.size + 1 := by simp
      clear bN bM hB1
      rcases (show x0 ≤ 1 ∨ 1 < x0 by omega) with hx0 | hx0
      all_goals
        go_wp2_with fail
        all_goals
          go_loopw [6] (fun pv wr => ∃ p : Int, pv = .int .i64 p ∧ x0 ≤ p ∧ 1 ≤ p ∧ (p ≤ x0 ∨ p ≤ 1 ∨ (p ≤ x1 + 1 ∧ p ≤ 1000)) ∧ Boxs wr w.heap.size 96 (boolsV (fun i => decide (1 ≤ i) && (inL (l.take k) i || (decide (x0 ≤ (i : Int)) && decide ((i : Int) < p))))).toArray ∧ Boxs wr wo.heap.size 81 #[.int .i64 x0, .int .i64 x1] ∧ Below w.heap.size w wr ∧ wo.heap.size + 1 ≤ wr.heap.size) (fun pv _ => (1001 - intOf pv).toNat)
          case atStart => exact ⟨_, rfl, by omega, by omega, by omega, by have := HB1.out; rw [boolsV_ext (g := fun i => decide (1 ≤ i) && inL (l.take k) i) (fun i hi => start_eq (by omega))]; exact this, HBN.out, HBM.out, by omega⟩
          case round =>
            obtain ⟨p, rfl, hp0, hp1, hpm, hbx2, hbn2, hbl2, hsz2⟩ := hrel
            have c0 := hbn2.cell 0
            have c1 := hbn2.cell 1
            simp at c0 c1
            have HX2 := Lib.hid hbx2; have HN2 := Lib.hid hbn2; have HL2 := Lib.hid hbl2
            clear hbx2 hbn2 hbl2
            by_cases hgo : p ≤ x1 ∧ p ≤ 999
            · obtain ⟨hg1, hg2⟩ := hgo
              obtain ⟨pn, rfl⟩ : ∃ pn : Nat, p = pn := ⟨p.toNat, by omega⟩
              have cb := HX2.out.cell pn
              rw [List.getElem?_toArray, boolsV_at _ (by omega)] at cb
              have cf := HX2.out.frozen pn
              have hp' := HX2.out.put pn (.bool true)
              rw [List.setIfInBounds_toArray, boolsV_set _ (fun i => decide (1 ≤ i) && (inL (l.take k) i || (decide (x0 ≤ (i : Int)) && decide ((i : Int) < (pn : Int) + 1)))) pn (by omega) (by simp; omega) (fun i hi => step_eq hi)] at hp'
              have HP2 := Lib.hid hp'
              have hN2' := HN2.out.setOther (b := w.heap.size) (by omega) pn (.bool true)
              have HN3 := Lib.hid hN2'
              have HL3 := Lib.hid (HL2.out.setCell (p := ⟨w.heap.size, pn, none⟩) (Nat.le_refl _) (.bool true))
              generalize (decide (1 ≤ pn) && (inL (l.take k) ↑pn || (decide (x0 ≤ (pn : Int)) && decide ((pn : Int) < (pn : Int))))) = ob at cb
              have hs3 : (wr.setCell ⟨w.heap.size, pn, none⟩ (.bool true)).heap.size = wr.heap.size := by simp
              clear hp' hN2'
              go_wp2_with fail
              all_goals
                go_roundw
                case rel => exact ⟨(pn : Int) + 1, rfl, by omega, by omega, by omega, HP2.out, HN3.out, HL3.out, by omega⟩
                case measure => simp [intOf]; omega
            · have hfin : Boxs wr w.heap.size 96 (boolsV (fun i => decide (1 ≤ i) && inL (l.take (k + 1)) i)).toArray := by
                have := HX2.out
                rw [boolsV_ext (g := fun i => decide (1 ≤ i) && inL (l.take (k + 1)) i) (fun i hi => by rw [HNX.out]; exact end_eq hi (by omega))] at this
                exact this
              have HFIN := Lib.hid hfin
              clear hfin
              by_cases h9 : x1 ≤ 999
              · have hg1 : ¬ p ≤ x1 := by omega
                have hg2 : x1 < p := by omega
                clear hgo
                go_wp2_with fail
                all_goals
                  go_roundw
                  case rel => exact ⟨k + 1, by omega, by go_num, HFIN.out, HL2.out, by omega⟩
                  case measure => simp [intOf]; omega
              · have hg1 : ¬ p ≤ 999 := by omega
                have hg2 : 999 < p := by omega
                clear hgo
                go_wp2_with fail
                all_goals
                  go_roundw
                  case rel => exact ⟨k + 1, by omega, by go_num, HFIN.out, HL2.out, by omega⟩
                  case measure => simp [intOf]; omega
    · obtain rfl : k = l.length := by omega
      have hall := HBX.out
      rw [List.take_length] at hall
      have HALL := Lib.hid hall
      have hk1 : ¬ (l.length : Int) < (l.length : Int) := by omega
      have hrow : wo.rangeAt w.heap.size 0 (boolsV (onP l)) := by
        intro j u hu
        rw [Nat.zero_add, hall.cell j, List.getElem?_toArray]
        exact hu
      have HROW := Lib.hid hrow
      clear hall hbl hrow HBX
      go_wp2_with (refine wpList_load_mid rfl 96 (.tmp 3) rfl w.heap.size 0 rfl (boolsV (onP l)) _ HROW.out Tryd.under96 rfl (by rw [boolsV_len]; exact Tryd.size96) ?_)
      go_loopw [7, 30] (fun v i wr => ∃ (p : Nat) (P : List Int), p ≤ 1000 ∧ i = .int .i64 p ∧ wr.ownsRow w.heap.size 3 1 v P.length (ints P) ∧ P.length ≤ p ∧ pagesN l p = P ∧ Below w.heap.size w wr) (fun _ i _ => 1000 - (intOf i).toNat)
      case atStart => exact ⟨0, [], by omega, rfl, World.ownsRow_nil _ _ _ _, by simp, rfl, HBL.out⟩
      case round =>
        obtain ⟨p, P, hp2, rfl, hown, hPl, hpn, hbl⟩ := hrel
        obtain ⟨a2, c2, rfl⟩ := owns_slice hown
        have HO := Lib.hid hown; have HBL2 := Lib.hid hbl; have HPN := Lib.hid hpn
        clear hown hbl hpn
        by_cases hlt : p < 1000
        · have hlt' : (p : Int) < 1000 := by omega
          have hix := idx_bools (onP l) p hlt
          by_cases hon : onP l p = true
          · rw [hon] at hix
            have hpp := pagesN_yes hon
            rw [HPN.out] at hpp
            have HPP := Lib.hid hpp
            have hbsz : w.heap.size ≤ wr.heap.size := HBL2.out.size
            clear hpp hon
            go_wp2_with (at_builtin; refine wpList_append_lies _ rfl _ _ _ rfl w.heap.size 3 i0 _ 1 8 Tryd.underlying22 HI.out HZ0.out HZ1.out HZ2.out rfl (by omega) _ P.length (ints P) rfl (HO.out.alloc _) ⟨wr.heap.size, 0, none⟩ 1 1 [.int .i64 p] rfl rfl (cell_one_new _ _ _) (by simp [Value.oneCell']) (by omega) (by unfold maxLen; omega) (by omega) (by simp; omega) (wr.heap.size + 1) (by simp) ?_; intro gg cap2 w3 hown1 hgrow hat hltg)
            have HO1 := Lib.hid hown1; clear hown1
            go_roundw
            case rel => exact ⟨p + 1, P ++ [(p : Int)], by omega, by go_num, by rw [show (P ++ [(p : Int)]).length = P.length + 1 by simp, ints_app]; exact HO1.out, by simp; omega, HPP.out, (HBL2.out.alloc hbsz _).grown hgrow (by simp; omega) (fun j e => (HO.out.lt j e).1)⟩
            case measure => simp [intOf]; omega
          · have hon' : onP l p = false := by simpa using hon
            rw [hon'] at hix
            have hpp := pagesN_no hon'
            rw [HPN.out] at hpp
            have HPP := Lib.hid hpp
            clear hpp hon hon'
            go_wp2_with fail
            go_roundw
            case rel => exact ⟨p + 1, P, by omega, by go_num, HO.out, by omega, HPP.out, HBL2.out⟩
            case measure => simp [intOf]; omega
        · obtain rfl : p = 1000 := by omega
          go_wp2_with fail
          go_ret
          exact ⟨_, rfl, by unfold pagesL; rw [HPN.out]; exact HO.out, HBL2.out⟩
end Go.Proofs.YtecdkpcapalifaaDoor

namespace Go.Proofs.YtecdkpcapalifaaDoor
open Go.RowKit Go.Maps

def rights (l : List Sp) : Bool := l.all fun x => rightS x.1 x.2
theorem rights_step {l : List Sp} {k : Nat} {x : Sp} (h : rights (l.take k) = true) (hx : l[k]? = some x) (hr : rightS x.1 x.2 = true) : rights (l.take (k + 1)) = true := by
  unfold rights at h ⊢
  rw [take_succ_at hx, List.all_append, h]; simp [hr]
theorem rights_no {l : List Sp} {k : Nat} {x : Sp} (hx : l[k]? = some x) (hr : rightS x.1 x.2 = false) : rights l = false := by
  unfold rights
  refine Bool.eq_false_iff.2 fun h => ?_
  rw [List.all_eq_true] at h
  have := h x (List.mem_of_getElem? hx)
  rw [hr] at this; cases this

set_option maxHeartbeats 1000000 in
theorem bad_any (f t : Int) (w : World) (b : Bool) (hr : rightS f t = b) :
    Calls Tryd.prog 57 #[.agg #[.int .i64 f, .int .i64 t]] w fun e w' => e = .returned (.bool (!b)) ∧ Below w.heap.size w w' := by
  have R := right_any f t (w.alloc (.cells #[.int .i64 f, .int .i64 t] 81))
  rw [hr] at R
  have hb := (Below.refl w.heap.size w).alloc (Nat.le_refl _) (.cells #[.int .i64 f, .int .i64 t] 81)
  have HB := Lib.hid hb
  clear hr hb
  go_enter Tryd.func57, Tryd.ntmps57
  go_wp2_with fail
  refine R.mono ?_
  rintro e w1 ⟨rfl, hb1⟩
  cases b
  all_goals
    go_wp2_with fail
    go_ret
    exact ⟨rfl, HB.out.trans (hb1.mono (by simp))⟩

def IdxOut (w : World) (xs : List Sp) (e : Ending) (w' : World) : Prop := ∃ i : Int, e = .returned (.int .i64 i) ∧ (rights xs = true → i = -1) ∧ (rights xs = false → 0 ≤ i) ∧ Below w.heap.size w w'
set_option maxRecDepth 100000 in
set_option maxHeartbeats 4000000 in
theorem indexBad_any (v : Value) (xs : List Sp) (w : World) (h : RdP w v xs) :
    Calls Tryd.prog 73 #[v, .func (.func 57) #[] #[]] w (IdxOut w xs) := by
  obtain ⟨a, c, rfl, l1, l2, f⟩ := h.open
  clear h
  have F := Lib.hid f; clear f
  go_enter Tryd.func73, Tryd.ntmps73
  go_wp2
  go_loopw [8] (fun i wr => ∃ k : Nat, k ≤ xs.length ∧ i = .int .i64 k ∧ rights (xs.take k) = true ∧ Below w.heap.size w wr) (fun i _ => xs.length - (intOf i).toNat)
  case atStart => exact ⟨0, Nat.zero_le _, rfl, rfl, Below.refl _ _⟩
  case round =>
    obtain ⟨k, hk, rfl, hnr, hbl⟩ := hrel
    have HNR := Lib.hid hnr; have HBL := Lib.hid hbl
    by_cases hlt : k < xs.length
    · obtain ⟨⟨x0, x1⟩, hx⟩ := elem_at hlt
      obtain ⟨b1, o1, rfl, hb1, q0, q1⟩ := F.out k _ hx
      have g0 := (hbl.cell (p := ⟨b1, o1 + k * 2, none⟩) hb1).trans q0
      have g1 := (hbl.cell (p := ⟨b1, o1 + k * 2 + 1, none⟩) hb1).trans q1
      dsimp only at g0 g1
      have hk1 : (k : Int) < (xs.length : Int) := by omega
      have hk0 : (0 : Int) ≤ (k : Int) := Int.natCast_nonneg _
      have hbz := hbl.size
      have HX := Lib.hid hx
      obtain ⟨b, hr⟩ : ∃ b, rightS x0 x1 = b := ⟨_, rfl⟩
      have BA := bad_any x0 x1 wr b hr
      have HR := Lib.hid hr
      clear hnr hbl q0 q1 hx hr
      cases b
      · go_wp2_with fail
        refine BA.mono ?_
        rintro e w1 ⟨rfl, hb2⟩
        go_wp2_with fail
        go_ret
        exact ⟨k, rfl, fun h => by rw [rights_no HX.out HR.out] at h; (cases h), fun _ => hk0, HBL.out.trans (hb2.mono hbz)⟩
      · go_wp2_with fail
        refine BA.mono ?_
        rintro e w1 ⟨rfl, hb2⟩
        go_wp2_with fail
        go_roundw
        case rel => exact ⟨k + 1, by omega, by go_num, rights_step HNR.out HX.out HR.out, HBL.out.trans (hb2.mono hbz)⟩
        case measure => simp [intOf]; omega
    · obtain rfl : k = xs.length := by omega
      rw [List.take_length] at hnr
      have HN := Lib.hid hnr
      clear hnr hbl HNR
      go_wp2_with fail
      go_ret
      exact ⟨-1, rfl, fun _ => rfl, fun h => by rw [HN.out] at h; (cases h), HBL.out⟩

set_option maxHeartbeats 1000000 in
theorem containsBad_any (v : Value) (xs : List Sp) (w : World) (h : RdP w v xs) :
    Calls Tryd.prog 56 #[v, .func (.func 57) #[] #[]] w fun e w' => e = .returned (.bool (!rights xs)) ∧ Below w.heap.size w w' := by
  have I := indexBad_any v xs w h
  obtain ⟨b, hr⟩ : ∃ b, rights xs = b := ⟨_, rfl⟩
  rw [hr]
  have HR := Lib.hid hr
  clear hr h
  cases b
  · go_enter Tryd.func56, Tryd.ntmps56
    go_wp2_with fail
    refine I.mono ?_
    rintro e w1 ⟨i, rfl, _, h2, hb⟩
    have h3 := h2 HR.out
    clear h2
    go_wp2_with fail
    go_ret
    exact ⟨rfl, hb⟩
  · go_enter Tryd.func56, Tryd.ntmps56
    go_wp2_with fail
    refine I.mono ?_
    rintro e w1 ⟨i, rfl, h2, _, hb⟩
    obtain rfl := h2 HR.out
    go_wp2_with fail
    go_ret
    exact ⟨rfl, hb⟩

def normalL (xs : List Sp) : List Sp := if rights xs = true then ofL (pagesL xs) else []
def normalE (xs : List Sp) : Int := if rights xs = true then 0 else 5
theorem pagesL_bd (xs : List Sp) : ∀ p ∈ pagesL xs, 0 ≤ p ∧ p ≤ 1000 := fun p hp => by have := pagesN_bd xs 1000 p hp; omega
theorem pagesL_len (xs : List Sp) : (pagesL xs).length ≤ 1000 := pagesN_len xs 1000

set_option maxRecDepth 100000 in
set_option maxHeartbeats 4000000 in
theorem pnormal_any (v : Value) (xs : List Sp) (w : World) (h : RdP w v xs) :
    Calls Tryd.prog 34 #[v] w fun e w' => ∃ v, e = .returned (.tuple #[v, .int .i64 (normalE xs)]) ∧ RdP w' v (normalL xs) ∧ Below w.heap.size w w' := by
  have C := containsBad_any v xs w h
  obtain ⟨b, hr⟩ : ∃ b, rights xs = b := ⟨_, rfl⟩
  rw [hr] at C
  have hL : normalL xs = if b = true then ofL (pagesL xs) else [] := by unfold normalL; rw [hr]
  have hE : normalE xs = if b = true then 0 else 5 := by unfold normalE; rw [hr]
  rw [hL, hE]
  clear hL hE hr
  have HV := Lib.hid h
  cases b
  · clear h
    go_enter Tryd.func34, Tryd.ntmps34
    go_wp2_with fail
    refine C.mono ?_
    rintro e w1 ⟨rfl, hb⟩
    go_wp2_with fail
    go_ret2
    exact ⟨_, rfl, RdP.none _, hb⟩
  · clear h
    go_enter Tryd.func34, Tryd.ntmps34
    go_wp2_with fail
    refine C.mono ?_
    rintro e w1 ⟨rfl, hb⟩
    have P := pages_any v xs w1 (HV.out.below hb)
    have HB := Lib.hid hb
    clear hb
    go_wp2_with fail
    refine P.mono ?_
    rintro e w2 ⟨pv, rfl, hown, hb2⟩
    have O := of_any pv (pagesL xs) w2 (owns_ints hown) (by have := pagesL_len xs; omega) (pagesL_bd xs)
    have HB2 := Lib.hid hb2
    clear hb2 hown
    go_wp2_with fail
    refine O.mono ?_
    rintro e w3 ⟨ov, rfl, hown3, hb3⟩
    have HO3 := Lib.hid hown3; have HB3 := Lib.hid hb3
    clear hown3 hb3
    go_wp2_with fail
    go_ret2
    exact ⟨_, rfl, RdP_of_owns HO3.out, HB.out.trans ((HB2.out.mono HB.out.size).trans (HB3.out.mono (by have := HB.out.size; have := HB2.out.size; omega)))⟩

set_option maxRecDepth 100000 in
set_option maxHeartbeats 4000000 in
theorem rnormal_any (v : Value) (xs : List Sp) (w : World) (h : RdP w v xs) :
    Calls Tryd.prog 35 #[v] w fun e w' => ∃ v, e = .returned (.tuple #[v, .int .i64 (normalE xs)]) ∧ RdP w' v (normalL xs) ∧ Below w.heap.size w w' := by
  have HV := Lib.hid h
  obtain ⟨a, c, rfl, l1, l2, f⟩ := h.open
  clear h
  have F := Lib.hid f; clear f
  go_enter Tryd.func35, Tryd.ntmps35
  go_wp2
  go_loopw [4] (fun i wr => ∃ k : Nat, k ≤ xs.length ∧ i = .int .i64 k ∧ rights (xs.take k) = true ∧ Below w.heap.size w wr) (fun i _ => xs.length - (intOf i).toNat)
  case atStart => exact ⟨0, Nat.zero_le _, rfl, rfl, Below.refl _ _⟩
  case round =>
    obtain ⟨k, hk, rfl, hnr, hbl⟩ := hrel
    have HNR := Lib.hid hnr; have HBL := Lib.hid hbl
    by_cases hlt : k < xs.length
    · obtain ⟨⟨x0, x1⟩, hx⟩ := elem_at hlt
      obtain ⟨b1, o1, rfl, hb1, q0, q1⟩ := F.out k _ hx
      have g0 := (hbl.cell (p := ⟨b1, o1 + k * 2, none⟩) hb1).trans q0
      have g1 := (hbl.cell (p := ⟨b1, o1 + k * 2 + 1, none⟩) hb1).trans q1
      dsimp only at g0 g1
      have hk1 : (k : Int) < (xs.length : Int) := by omega
      have hk0 : (0 : Int) ≤ (k : Int) := Int.natCast_nonneg _
      have hbz := hbl.size
      have HX := Lib.hid hx
      clear hnr hbl q0 q1 hx
      by_cases hr : rightS x0 x1 = true
      · have BA := rright_true x0 x1 wr hr
        have HR := Lib.hid hr
        clear hr
        go_wp2_with fail
        refine BA.mono ?_
        rintro e w1 ⟨rfl, hb2⟩
        go_wp2_with fail
        go_roundw
        case rel => exact ⟨k + 1, by omega, by go_num, rights_step HNR.out HX.out HR.out, HBL.out.trans (hb2.mono hbz)⟩
        case measure => simp [intOf]; omega
      · have hr' : rightS x0 x1 = false := by simpa using hr
        have BA := rright_false x0 x1 wr hr'
        have hno := rights_no HX.out hr'
        have hL : normalL xs = [] := by unfold normalL; rw [hno]; rfl
        have hE : normalE xs = 5 := by unfold normalE; rw [hno]; rfl
        have HL := Lib.hid hL; have HE := Lib.hid hE
        clear hr hr' hno hL hE
        go_wp2_with fail
        refine BA.mono ?_
        rintro e w1 ⟨rfl, hb2⟩
        go_wp2_with fail
        go_ret2
        exact ⟨_, by rw [HE.out]; rfl, by rw [HL.out]; exact RdP.none _, HBL.out.trans (hb2.mono hbz)⟩
    · obtain rfl : k = xs.length := by omega
      rw [List.take_length] at hnr
      have hL : normalL xs = ofL (pagesL xs) := if_pos hnr
      have hE : normalE xs = 0 := if_pos hnr
      have HL := Lib.hid hL; have HE := Lib.hid hE
      have P := rpages_any _ xs wr (HV.out.below hbl)
      clear hnr hbl HNR hL hE
      go_wp2_with fail
      refine P.mono ?_
      rintro e w2 ⟨pv, rfl, hown, hb2⟩
      have O := rof_any pv (pagesL xs) w2 (owns_ints hown) (by have := pagesL_len xs; omega) (pagesL_bd xs)
      have HB2 := Lib.hid hb2
      clear hb2 hown
      go_wp2_with fail
      refine O.mono ?_
      rintro e w3 ⟨ov, rfl, hown3, hb3⟩
      have HO3 := Lib.hid hown3; have HB3 := Lib.hid hb3
      clear hown3 hb3
      go_wp2_with fail
      go_ret2
      exact ⟨_, by rw [HE.out]; rfl, by rw [HL.out]; exact RdP_of_owns HO3.out, HBL.out.trans ((HB2.out.mono HBL.out.size).trans (HB3.out.mono (by have := HBL.out.size; have := HB2.out.size; omega)))⟩
end Go.Proofs.YtecdkpcapalifaaDoor

namespace Go.Proofs.YtecdkpcapalifaaDoor
open Go.RowKit Go.Maps

theorem partsF_fuel (s : Sty) : ∀ (f g : Nat) (l : List Sp), l.length ≤ f → l.length ≤ g → partsF s f l = partsF s g l := by
  intro f
  induction f with
  | zero => intro g l hf hg; cases l with
    | nil => cases g <;> rfl
    | cons x r => simp at hf
  | succ f ih =>
    intro g l hf hg
    cases l with
    | nil => cases g <;> rfl
    | cons x r =>
      cases g with
      | zero => simp at hg
      | succ g =>
        show rowParts s _ ++ partsF s f _ = rowParts s _ ++ partsF s g _
        have h1 := rowN_pos (l := x :: r) (by simp)
        simp only [List.length_cons] at hf hg
        rw [ih g _ (by rw [List.length_drop, List.length_cons]; omega) (by rw [List.length_drop, List.length_cons]; omega)]
theorem partsL_nil (s : Sty) : partsL s [] = [] := rfl
theorem partsL_step (s : Sty) {l : List Sp} (h : l ≠ []) : partsL s l = rowParts s (l.take (rowN l)) ++ partsL s (l.drop (rowN l)) := by
  unfold partsL
  cases l with
  | nil => exact absurd rfl h
  | cons x r =>
    have h1 := rowN_pos (l := x :: r) (by simp)
    show rowParts s _ ++ partsF s r.length _ = _
    rw [partsF_fuel s r.length ((x :: r).drop (rowN (x :: r))).length _ (by rw [List.length_drop, List.length_cons]; omega) (Nat.le_refl _)]
theorem joinL_snoc (P : List (List UInt8)) (x : List UInt8) (h : P ≠ []) : joinL (P ++ [x]) = joinL P ++ (44 :: 32 :: x) := by
  induction P with
  | nil => exact absurd rfl h
  | cons a r ih =>
    cases r with
    | nil => rfl
    | cons b q =>
      show a ++ (44 :: 32 :: joinL ((b :: q) ++ [x])) = a ++ (44 :: 32 :: joinL (b :: q)) ++ _
      rw [ih (by simp)]; simp
theorem joinL_one (x : List UInt8) : joinL ([] ++ [x]) = x := rfl
theorem elementL_len (s : Sty) (x : Sp) : (elementL s x).length ≤ 8 := by
  have h1 := (textL_len x.1).2
  have h2 := (textL_len x.2).2
  unfold elementL betweenL
  split
  · omega
  · split
    · simp; omega
    · split
      · simp; omega
      · simp; omega
theorem betweenL_len (k a b : Int) : (betweenL k a b).length ≤ 7 := by
  have h1 := (textL_len a).2
  have h2 := (textL_len b).2
  unfold betweenL
  simp; omega
theorem rowParts_pas {s : Sty} {r : List Sp} (h : 0 < s.pas) (h2 : s.pas ≤ (r.length : Int)) : rowParts s r = [betweenL s.k (headS r).1 (lastS r).2 ++ passimB] := if_pos ⟨h, h2⟩
theorem rowParts_el {s : Sty} {r : List Sp} (h : ¬ (0 < s.pas ∧ s.pas ≤ (r.length : Int))) : rowParts s r = r.map (elementL s) := if_neg h
theorem drop_at {l : List Sp} {a i : Nat} : (l.drop a)[i]? = l[a + i]? := List.getElem?_drop
theorem headS_at {l : List Sp} {a n : Nat} {x : Sp} (h : l[a]? = some x) (hn : 1 ≤ n) : headS ((l.drop a).take n) = x := by
  have : ((l.drop a).take n)[0]? = some x := by rw [List.getElem?_take, if_pos (by omega), drop_at]; exact h
  unfold headS
  rw [List.head?_eq_getElem?, this]; rfl
theorem lastS_at {l : List Sp} {a n : Nat} {x : Sp} (h : l[a + n - 1]? = some x) (hn : 1 ≤ n) (hl : a + n ≤ l.length) : lastS ((l.drop a).take n) = x := by
  have hlen : ((l.drop a).take n).length = n := by rw [List.length_take, List.length_drop]; omega
  have : ((l.drop a).take n)[n - 1]? = some x := by rw [List.getElem?_take, if_pos (by omega), drop_at, show a + (n - 1) = a + n - 1 by omega]; exact h
  unfold lastS
  rw [List.getLast?_eq_getElem?, hlen, this]; rfl
theorem row_len {l : List Sp} {a n : Nat} (hl : a + n ≤ l.length) : ((l.drop a).take n).length = n := by rw [List.length_take, List.length_drop]; omega
/-- how a walk finds the length of a row that begins at a place -/
theorem rowN_walk {l : List Sp} {p n : Nat} (h1 : 1 ≤ n) (hn : p + n ≤ l.length)
    (hin : ∀ i x y, i + 1 < n → (l.drop p)[i]? = some x → (l.drop p)[i + 1]? = some y → y.1 = x.2 + 2)
    (hend : p + n = l.length ∨ ∃ x y, l[p + n - 1]? = some x ∧ l[p + n]? = some y ∧ y.1 ≠ x.2 + 2) : rowN (l.drop p) = n := by
  refine rowN_eq h1 (by rw [List.length_drop]; omega) hin ?_
  intro x y hx hy
  rw [drop_at] at hx hy
  rcases hend with h | ⟨x', y', hx', hy', hne⟩
  · rw [List.getElem?_eq_none (by omega)] at hy; cases hy
  · rw [show p + (n - 1) = p + n - 1 by omega, hx'] at hx
    rw [hy'] at hy
    cases hx; cases hy; exact hne
theorem chain_step {l : List Sp} {p n : Nat} {x y : Sp} (h1 : 1 ≤ n)
    (hin : ∀ i x y, i + 1 < n → (l.drop p)[i]? = some x → (l.drop p)[i + 1]? = some y → y.1 = x.2 + 2) (hx : l[p + n - 1]? = some x) (hy : l[p + n]? = some y) (hg : y.1 = x.2 + 2) :
    ∀ i x y, i + 1 < n + 1 → (l.drop p)[i]? = some x → (l.drop p)[i + 1]? = some y → y.1 = x.2 + 2 := by
  intro i x' y' hi hx' hy'
  rcases Nat.lt_or_ge (i + 1) n with h | h
  · exact hin i x' y' h hx' hy'
  · rw [drop_at] at hx' hy'
    rw [show p + i = p + n - 1 by omega, hx] at hx'
    rw [show p + (i + 1) = p + n by omega, hy] at hy'
    cases hx'; cases hy'; exact hg

def StyAt (W : World) (B : Nat) (k : Int) (nx : Bool) (row pas : Int) : Prop := W.cell? ⟨B, 0, none⟩ = some (.int .i64 k) ∧ W.cell? ⟨B, 1, none⟩ = some (.bool nx) ∧ W.cell? ⟨B, 2, none⟩ = some (.int .i64 row) ∧ W.cell? ⟨B, 3, none⟩ = some (.int .i64 pas)
theorem StyAt.below {W W' : World} {n B : Nat} {k row pas : Int} {nx : Bool} (h : StyAt W B k nx row pas) (hb : Below n W W') (hn : B < n) : StyAt W' B k nx row pas :=
  ⟨(hb.cell (p := ⟨B, 0, none⟩) hn).trans h.1, (hb.cell (p := ⟨B, 1, none⟩) hn).trans h.2.1, (hb.cell (p := ⟨B, 2, none⟩) hn).trans h.2.2.1, (hb.cell (p := ⟨B, 3, none⟩) hn).trans h.2.2.2⟩
theorem StyAt.new (W : World) (t : TypeId) (k : Int) (nx : Bool) (row pas : Int) : StyAt (W.alloc (.cells #[.int .i64 k, .bool nx, .int .i64 row, .int .i64 pas] t)) W.heap.size k nx row pas := by
  have b := Boxs.new W t #[.int .i64 k, .bool nx, .int .i64 row, .int .i64 pas]
  exact ⟨b.cell 0, b.cell 1, b.cell 2, b.cell 3⟩
def SpAt (W : World) (b o : Nat) (x0 x1 : Int) : Prop := W.cell? ⟨b, o, none⟩ = some (.int .i64 x0) ∧ W.cell? ⟨b, o + 1, none⟩ = some (.int .i64 x1)
theorem SpAt.below {W W' : World} {n b o : Nat} {x0 x1 : Int} (h : SpAt W b o x0 x1) (hb : Below n W W') (hn : b < n) : SpAt W' b o x0 x1 :=
  ⟨(hb.cell (p := ⟨b, o, none⟩) hn).trans h.1, (hb.cell (p := ⟨b, o + 1, none⟩) hn).trans h.2⟩
theorem RdP.open2 {w : World} {v : Value} {xs : List Sp} (h : RdP w v xs) (hne : xs ≠ []) : ∃ b off cap, v = .slice (some ⟨b, off, .none⟩) xs.length cap ∧ xs.length ≤ cap ∧ cap ≤ 9223372036854775807 ∧ b < w.heap.size ∧
    (∀ k x, xs[k]? = some x → SpAt w b (off + k * 2) x.1 x.2) := by
  obtain ⟨a, cap, rfl, h1, h2, h3⟩ := h.open
  obtain ⟨x, hx⟩ := elem_at (l := xs) (k := 0) (List.length_pos_iff.2 hne)
  obtain ⟨b, off, rfl, hb, _⟩ := h3 0 x hx
  refine ⟨b, off, cap, rfl, h1, h2, hb, fun k y hy => ?_⟩
  obtain ⟨b', off', e, _, g0, g1⟩ := h3 k y hy
  cases e
  exact ⟨g0, g1⟩
end Go.Proofs.YtecdkpcapalifaaDoor

