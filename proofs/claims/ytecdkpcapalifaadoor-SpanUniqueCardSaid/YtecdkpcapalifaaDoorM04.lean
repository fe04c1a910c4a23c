/- read (program), ranges: two digits. read (program), ranges: all. read (reference), without ranges. read (reference), ranges: no digits, no fewer digits. read (reference), ranges: one digit. -/
import Derived.Test.YtecdkpcapalifaaDoorM02
import Derived.Test.YtecdkpcapalifaaDoorM03
import Derived.LoopN
set_option linter.unusedVariables false
namespace Go.Proofs.YtecdkpcapalifaaDoor
open Go.RowKit Go.Maps

set_option maxRecDepth 100000 in
set_option maxHeartbeats 4000000 in
theorem read_dashc (s : Sty) (t q : List UInt8) (w : World) (hs : okSty s) (ht : t.length ≤ 1000000) (hd : t.drop (digs t).length = 45 :: q) (h1 : digs t ≠ []) (h2 : digs q ≠ []) (hjk : (digs q).length < (digs t).length) (hk2 : (digs q).length = 2) :
    Calls Tryd.prog 48 #[.agg #[.int .i64 s.k, .bool s.nx, .int .i64 s.row, .int .i64 s.pas], .string (bs t)] w (ReadOut w (readL s t)) := by
  obtain ⟨k, nx, row, pas⟩ := s
  obtain ⟨k1, k2, r0, r1, r2, p0, p1, p2⟩ := hs
  dsimp only at *
  have hql : q.length ≤ 1000000 := by have := congrArg List.length hd; rw [List.length_drop, List.length_cons] at this; omega
  have N := number_any (w.heap.size + 1) t ((w.alloc (.cells #[.int .i64 k, .bool nx, .int .i64 row, .int .i64 pas] 36)).alloc (.cells #[.string (bs t)] 9)) ht (by simp) (by simp)
  have D := dash_yes q ((w.alloc (.cells #[.int .i64 k, .bool nx, .int .i64 row, .int .i64 pas] 36)).alloc (.cells #[.string (bs (t.drop (digs t).length))] 9)) hql
  have M := number_any (w.heap.size + 1) q ((w.alloc (.cells #[.int .i64 k, .bool nx, .int .i64 row, .int .i64 pas] 36)).alloc (.cells #[.string (bs q)] 9)) hql (by simp) (by simp)
  have hV := valL_999 t
  have hdl := digs_len t
  have hV2 := valL_999 q
  have hdl2 := digs_len q
  rw [hd] at N D
  have hext : (bs (45 :: q)).extract 1 (bs (45 :: q)).size = bs q := by rw [bs_size, bs_extract, List.take_of_length_le (by simp)]; rfl
  have hsz : 1 ≤ (bs (45 :: q)).size := by rw [bs_size]; simp
  have hsz2 : (bs (45 :: q)).size ≤ 1000001 := by rw [bs_size]; simp; omega
  generalize hA : valL (digs t) = A at N hV
  generalize hJ : (digs t).length = J at N hdl D hd hjk
  generalize hB : valL (digs q) = B at M hV2
  generalize hK : (digs q).length = K at M hdl2 hjk hk2
  generalize hS : bs (45 :: q) = S at N D hext hsz hsz2
  generalize hS3 : bs (q.drop K) = S3 at M
  generalize hQ : bs q = SQ at hext M
  obtain ⟨hA1, hA2⟩ := hV
  obtain ⟨hB1, hB2⟩ := hV2
  have HA := Lib.hid hA; have HJ := Lib.hid hJ; have HS := Lib.hid hS; have HD := Lib.hid hd; have HB := Lib.hid hB; have HK := Lib.hid hK
  have hst : S3.toList = q.drop K := by rw [← hS3, bs_toList]
  have HST := Lib.hid hst
  clear hA hJ hS hd hst hB hK hS3 hQ
  generalize bs t = T at N
  subst hk2
  have hq : 0 ≤ A / 100 * 100 ∧ A / 100 * 100 ≤ 999 := by omega
  obtain ⟨hq1, hq2⟩ := hq
  have hj1 : 1 ≤ J := by rw [← HJ.out]; exact List.length_pos_iff.2 h1
  have hk1' : 1 ≤ 2 := by decide
  have jn : ((J : Int) == 0) = false := beq_eq_false_iff_ne.2 (by omega)
  have kj : 2 < (J : Int) := by omega
  have hrd : readL ⟨k, nx, row, pas⟩ t = readRange ⟨k, nx, row, pas⟩ A J q := by
    rw [readL_dash h1 (by rw [HJ.out]; exact HD.out), HA.out, HJ.out]
  have hrb : restB A J q = B + A / 100 * 100 := by unfold restB; rw [if_pos (by rw [HK.out]; omega), HB.out, HK.out]; rfl
  have HRD := Lib.hid hrd; have HRB := Lib.hid hrb; have H2 := Lib.hid h2
  clear hrd hrb h1 h2
  generalize hr3 : q.drop 2 = r3 at HST
  have HR3 := Lib.hid (show q.drop (digs q).length = r3 from by rw [HK.out]; exact hr3)
  clear hr3
  by_cases c1 : r3 = []
  · have hn := HRD.out.trans ((range_one H2.out (HR3.out.trans c1)).trans (by rw [HRB.out]))
    have HN := Lib.hid hn
    have t1 : S3.toList = [] := HST.out.trans c1
    clear hn c1
    go_enter Tryd.func48, Tryd.ntmps48
    go_wp2_with fail
    refine N.mono ?_
    rintro e w1 ⟨rfl, rfl⟩
    go_wp2_with fail
    refine D.mono ?_
    rintro e w2 ⟨rfl, rfl⟩
    go_wp2_with fail
    refine M.mono ?_
    rintro e w3 ⟨rfl, rfl⟩
    go_wp2_with fail
    go_ret2
    exact readOut_some HN.out ((((Below.refl w.heap.size w).alloc (Nat.le_refl _) _).alloc (by simp) _).alloc (by simp; omega) _) (one_pair _ _ _ _ (by simp))

  · have t1 : (S3.toList == []) = false := by rw [HST.out]; simpa using c1
    have t1' : S3.toList.isEmpty = false := by rw [HST.out]; simpa using c1
    by_cases c2 : r3 = passimB
    · have t2 : (S3.toList == [32, 112, 97, 115, 115, 105, 109]) = true := by rw [HST.out, c2]; rfl
      by_cases c3 : 0 < pas
      · have hn := HRD.out.trans ((range_pas (s := ⟨k, nx, row, pas⟩) H2.out (HR3.out.trans c2) c3).trans (by rw [HRB.out]))
        have HN := Lib.hid hn
        have SC := scattered_any pas.toNat A (B + A / 100 * 100) ((w.alloc (.cells #[.int .i64 k, .bool nx, .int .i64 row, .int .i64 pas] 36)).alloc (.cells #[.string S3] 9)) (by omega) (by omega) hA1 (by omega)
        rw [show ((pas.toNat : Nat) : Int) = pas by omega] at SC
        have hS3 : S3 = S3 := rfl
        clear hn c1 c2 hS3
        go_enter Tryd.func48, Tryd.ntmps48
        go_wp2_with fail
        refine N.mono ?_
        rintro e w1 ⟨rfl, rfl⟩
        go_wp2_with fail
        refine D.mono ?_
        rintro e w2 ⟨rfl, rfl⟩
        go_wp2_with fail
        refine M.mono ?_
        rintro e w3 ⟨rfl, rfl⟩
        go_wp2_with fail
        refine SC.mono ?_
        rintro e w4 ⟨v, rfl, hown, hb4⟩
        go_wp2_with fail
        go_ret2
        exact readOut_some HN.out ((((Below.refl w.heap.size w).alloc (Nat.le_refl _) _).alloc (by simp) _).trans (hb4.mono (by simp; omega))) (RdP_of_owns hown)

      · have hn := HRD.out.trans (range_no (s := ⟨k, nx, row, pas⟩) H2.out (fun e => c1 (HR3.out.symm.trans e)) (fun e => c3 e.2))
        have HN := Lib.hid hn
        clear hn c1 c2
        go_enter Tryd.func48, Tryd.ntmps48
        go_wp2_with fail
        refine N.mono ?_
        rintro e w1 ⟨rfl, rfl⟩
        go_wp2_with fail
        refine D.mono ?_
        rintro e w2 ⟨rfl, rfl⟩
        go_wp2_with fail
        refine M.mono ?_
        rintro e w3 ⟨rfl, rfl⟩
        go_wp2_with fail
        go_ret2
        exact readOut_none HN.out (((Below.refl w.heap.size w).alloc (Nat.le_refl _) _).alloc (by simp) _) _

    · have t2 : (S3.toList == [32, 112, 97, 115, 115, 105, 109]) = false := by rw [HST.out]; simpa [passimB] using c2
      have hn := HRD.out.trans (range_no (s := ⟨k, nx, row, pas⟩) H2.out (fun e => c1 (HR3.out.symm.trans e)) (fun e => c2 (HR3.out.symm.trans e.1)))
      have HN := Lib.hid hn
      clear hn c1 c2
      go_enter Tryd.func48, Tryd.ntmps48
      go_wp2_with fail
      refine N.mono ?_
      rintro e w1 ⟨rfl, rfl⟩
      go_wp2_with fail
      refine D.mono ?_
      rintro e w2 ⟨rfl, rfl⟩
      go_wp2_with fail
      refine M.mono ?_
      rintro e w3 ⟨rfl, rfl⟩
      go_wp2_with fail
      go_ret2
      exact readOut_none HN.out (((Below.refl w.heap.size w).alloc (Nat.le_refl _) _).alloc (by simp) _) _

end Go.Proofs.YtecdkpcapalifaaDoor

namespace Go.Proofs.YtecdkpcapalifaaDoor
open Go.RowKit Go.Maps

theorem read_any (s : Sty) (t : List UInt8) (w : World) (hs : okSty s) (ht : t.length ≤ 1000000) :
    Calls Tryd.prog 48 #[.agg #[.int .i64 s.k, .bool s.nx, .int .i64 s.row, .int .i64 s.pas], .string (bs t)] w (ReadOut w (readL s t)) := by
  by_cases h : ∃ q, t.drop (digs t).length = 45 :: q
  · obtain ⟨q, hq⟩ := h
    by_cases h1 : digs t = []
    · exact read_dash0 s t q w hs ht hq (.inl h1)
    · by_cases h2 : digs q = []
      · exact read_dash0 s t q w hs ht hq (.inr h2)
      · have h3 := digs_len t
        have h4 := List.length_pos_iff.2 h2
        by_cases h5 : (digs t).length ≤ (digs q).length
        · exact read_dasha s t q w hs ht hq h1 h2 h5
        · by_cases h6 : (digs q).length = 1
          · exact read_dashb s t q w hs ht hq h1 h2 (by omega) h6
          · exact read_dashc s t q w hs ht hq h1 h2 (by omega) (by omega)
  · exact read_plain s t w hs ht (fun q hq => h ⟨q, hq⟩)
end Go.Proofs.YtecdkpcapalifaaDoor

namespace Go.Proofs.YtecdkpcapalifaaDoor
open Go.RowKit Go.Maps

set_option maxRecDepth 100000 in
set_option maxHeartbeats 1000000 in
theorem power_1 (w : World) : Calls Tryd.prog 70 #[.int .i64 1] w fun e w' => e = .returned (.int .i64 10) ∧ w = w' := by
  go_enter Tryd.func70, Tryd.ntmps70
  go_wp2
  refine wp_loop_rounds 2 ?_
  rw [rounds_succ]
  go_wp2
  rw [rounds_succ]
  go_wp2
  go_ret
  exact ⟨rfl, rfl⟩
set_option maxRecDepth 100000 in
set_option maxHeartbeats 1000000 in
theorem power_2 (w : World) : Calls Tryd.prog 70 #[.int .i64 2] w fun e w' => e = .returned (.int .i64 100) ∧ w = w' := by
  go_enter Tryd.func70, Tryd.ntmps70
  go_wp2
  refine wp_loop_rounds 3 ?_
  rw [rounds_succ]
  go_wp2
  rw [rounds_succ]
  go_wp2
  rw [rounds_succ]
  go_wp2
  go_ret
  exact ⟨rfl, rfl⟩

set_option maxRecDepth 100000 in
set_option maxHeartbeats 4000000 in
theorem rread_plain (s : Sty) (t : List UInt8) (w : World) (hs : okSty s) (ht : t.length ≤ 1000000) (hd : ∀ q, t.drop (digs t).length ≠ 45 :: q) :
    Calls Tryd.prog 49 #[.agg #[.int .i64 s.k, .bool s.nx, .int .i64 s.row, .int .i64 s.pas], .string (bs t)] w (ReadOut w (readL s t)) := by
  obtain ⟨k, nx, row, pas⟩ := s
  obtain ⟨k1, k2, r0, r1, r2, p0, p1, p2⟩ := hs
  dsimp only at *
  have N := rnumber_any t (w.alloc (.cells #[.int .i64 k, .bool nx, .int .i64 row, .int .i64 pas] 24)) ht
  have hV := valL_999 t
  have hdl := digs_len t
  have hdt : (digs t).length ≤ t.length := by unfold digs; exact Nat.le_trans (List.takeWhile_prefix _).length_le (by simp; omega)
  have hTS : (bs t).size = t.length := bs_size t
  have hext : (bs t).extract (digs t).length (bs t).size = bs (t.drop (digs t).length) := by rw [bs_size, bs_extract, List.take_of_length_le (by simp)]
  generalize hr : t.drop (digs t).length = r at hext hd
  generalize hA : valL (digs t) = A at N hV
  generalize hJ : (digs t).length = J at N hdl hext hdt
  generalize hS : bs r = S at hext
  generalize bs t = T at N hext hTS
  have hJT : J ≤ T.size := by omega
  have hTm : T.size ≤ 1000000 := by omega
  obtain ⟨hA1, hA2⟩ := hV
  have HR := Lib.hid hr; have HA := Lib.hid hA; have HJ := Lib.hid hJ; have HS := Lib.hid hS; have HD := Lib.hid hd
  have hst : S.toList = r := by rw [← hS, bs_toList]
  have hss : S.size = r.length := by rw [← hS, bs_size]
  have hsm : S.size ≤ 1000000 := by rw [hss, ← hr, List.length_drop]; omega
  have HST := Lib.hid hst; have HSS := Lib.hid hss
  clear hr hA hJ hS hd hst hTS hdt hss
  have HR0 := HR
  by_cases j0 : J = 0
  · have hn : readL ⟨k, nx, row, pas⟩ t = none := readL_none0 (List.length_eq_zero_iff.1 (HJ.out.trans j0))
    have HN := Lib.hid hn
    clear hn
    subst j0
    go_enter Tryd.func49, Tryd.ntmps49
    go_wp2_with fail
    refine N.mono ?_
    rintro e w1 ⟨rfl, rfl⟩
    go_wp2_with fail
    go_ret2
    exact readOut_none HN.out ((Below.refl w.heap.size w).alloc (Nat.le_refl _) _) _

  · have j1 : 1 ≤ J := by omega
    have jn : ((J : Int) == 0) = false := beq_eq_false_iff_ne.2 (by omega)
    have jd : digs t ≠ [] := fun e => j0 (by rw [← HJ.out, e]; rfl)
    have HJD := Lib.hid jd
    clear j0 jd
    by_cases c1 : r = []
    · subst c1
      have hn : readL ⟨k, nx, row, pas⟩ t = some [(A, A)] := by unfold readL; dsimp only; rw [HR0.out, HA.out]; rw [if_neg HJD.out, if_pos rfl]
      have HN := Lib.hid hn
      have t1 : S.toList = [] := HST.out
      clear hn
      go_enter Tryd.func49, Tryd.ntmps49
      go_wp2_with fail
      refine N.mono ?_
      rintro e w1 ⟨rfl, rfl⟩
      go_wp2_with fail
      go_ret2
      exact readOut_some HN.out (((Below.refl w.heap.size w).alloc (Nat.le_refl _) _).alloc (by simp) _) (one_pair _ _ _ _ (by simp))

    · have t1 : (S.toList == []) = false := by rw [HST.out]; simpa using c1
      have t1' : S.toList.isEmpty = false := by rw [HST.out]; simpa using c1
      have C1 := Lib.hid c1
      clear c1
      by_cases c2 : r = [102]
      · have hn : readL ⟨k, nx, row, pas⟩ t = some [(A, A + 1)] := by unfold readL; dsimp only; rw [HR0.out, HA.out]; rw [if_neg HJD.out, if_neg C1.out, if_pos c2]
        have HN := Lib.hid hn
        have t2 : (S.toList == [102]) = true := by rw [HST.out, c2]; rfl
        clear hn c2
        go_enter Tryd.func49, Tryd.ntmps49
        go_wp2_with fail
        refine N.mono ?_
        rintro e w1 ⟨rfl, rfl⟩
        go_wp2_with fail
        go_ret2
        exact readOut_some HN.out (((Below.refl w.heap.size w).alloc (Nat.le_refl _) _).alloc (by simp) _) (one_pair _ _ _ _ (by simp))

      · have t2 : (S.toList == [102]) = false := by rw [HST.out]; simpa using c2
        have C2 := Lib.hid c2
        clear c2
        by_cases c3 : r = [102, 102]
        · have t3 : (S.toList == [102, 102]) = true := by rw [HST.out, c3]; rfl
          by_cases c4 : 0 < row
          · have hn : readL ⟨k, nx, row, pas⟩ t = some [(A, A + row - 1)] := by unfold readL; dsimp only; rw [HR0.out, HA.out]; rw [if_neg HJD.out, if_neg C1.out, if_neg C2.out, if_pos c3, if_pos c4]
            have HN := Lib.hid hn
            have c5 : decide (0 < row) = true := decide_eq_true c4
            clear hn c3
            go_enter Tryd.func49, Tryd.ntmps49
            go_wp2_with fail
            refine N.mono ?_
            rintro e w1 ⟨rfl, rfl⟩
            go_wp2_with fail
            go_region
            go_wp2_with fail
            go_ret2
            exact readOut_some HN.out (Below.dn (((Below.refl w.heap.size w).alloc (Nat.le_refl _) _).alloc (by simp) _) 1) ((one_pair _ _ _ _ (by simp)).below (Below.dn (Below.refl _ _) 1))

          · have hn : readL ⟨k, nx, row, pas⟩ t = none := by unfold readL; dsimp only; rw [HR0.out, HA.out]; rw [if_neg HJD.out, if_neg C1.out, if_neg C2.out, if_pos c3, if_neg c4]
            have HN := Lib.hid hn
            have c5 : decide (0 < row) = false := decide_eq_false c4
            clear hn c3
            go_enter Tryd.func49, Tryd.ntmps49
            go_wp2_with fail
            refine N.mono ?_
            rintro e w1 ⟨rfl, rfl⟩
            go_wp2_with fail
            go_region
            go_wp2_with fail
            go_ret2
            exact readOut_none HN.out (Below.dn (((Below.refl w.heap.size w).alloc (Nat.le_refl _) _).alloc (by simp) _) 1) _

        · have t3 : (S.toList == [102, 102]) = false := by rw [HST.out]; simpa using c3
          have hn : readL ⟨k, nx, row, pas⟩ t = none := by
            unfold readL; dsimp only; rw [HR0.out, HA.out]; rw [if_neg HJD.out, if_neg C1.out, if_neg C2.out, if_neg c3]
            split
            · rename_i q; exact absurd rfl (HD.out q)
            · rfl
          have HN := Lib.hid hn
          obtain ⟨c, q, hcq⟩ : ∃ c q, r = c :: q := by
            cases r with
            | nil => exact absurd rfl C1.out
            | cons c q => exact ⟨c, q, rfl⟩
          have i0 : 0 < S.size := by rw [HSS.out, hcq]; simp
          have e0 : S[0] = c := by
            have := HS.out
            subst this
            exact bs_get (by rw [hcq]; rfl) _
          have hcc : ((c.toNat : Int) == 45) = false := by
            rw [beq_eq_false_iff_ne]
            intro h
            have : c = 45 := UInt8.toNat_inj.1 (by show c.toNat = 45; omega)
            exact HD.out q (by rw [hcq, this])
          have hcc2 : ((c.toNat : Int) != 45) = true := by rw [bne, hcc]; rfl
          clear hn c3 hcq
          go_enter Tryd.func49, Tryd.ntmps49
          go_wp2_with fail
          refine N.mono ?_
          rintro e w1 ⟨rfl, rfl⟩
          go_wp2_with fail
          go_ret2
          exact readOut_none HN.out ((Below.refl w.heap.size w).alloc (Nat.le_refl _) _) _

end Go.Proofs.YtecdkpcapalifaaDoor

namespace Go.Proofs.YtecdkpcapalifaaDoor
open Go.RowKit Go.Maps

set_option maxRecDepth 100000 in
set_option maxHeartbeats 4000000 in
theorem rread_dash0 (s : Sty) (t q : List UInt8) (w : World) (hs : okSty s) (ht : t.length ≤ 1000000) (hd : t.drop (digs t).length = 45 :: q) (h0 : digs t = [] ∨ digs q = []) :
    Calls Tryd.prog 49 #[.agg #[.int .i64 s.k, .bool s.nx, .int .i64 s.row, .int .i64 s.pas], .string (bs t)] w (ReadOut w (readL s t)) := by
  obtain ⟨k, nx, row, pas⟩ := s
  obtain ⟨k1, k2, r0, r1, r2, p0, p1, p2⟩ := hs
  dsimp only at *
  have hql : q.length ≤ 1000000 := by have := congrArg List.length hd; rw [List.length_drop, List.length_cons] at this; omega
  have N := rnumber_any t (w.alloc (.cells #[.int .i64 k, .bool nx, .int .i64 row, .int .i64 pas] 24)) ht
  have M := rnumber_any q (w.alloc (.cells #[.int .i64 k, .bool nx, .int .i64 row, .int .i64 pas] 24)) hql
  have hV := valL_999 t
  have hdl := digs_len t
  have hV2 := valL_999 q
  have hdl2 := digs_len q
  have hdt : (digs t).length ≤ t.length := by unfold digs; exact Nat.le_trans (List.takeWhile_prefix _).length_le (by simp; omega)
  have hdq : (digs q).length ≤ q.length := by unfold digs; exact Nat.le_trans (List.takeWhile_prefix _).length_le (by simp; omega)
  have hTS : (bs t).size = t.length := bs_size t
  have hext : (bs t).extract (digs t).length (bs t).size = bs (45 :: q) := by rw [bs_size, bs_extract, List.take_of_length_le (by simp), hd]
  have hext2 : (bs (45 :: q)).extract 1 (bs (45 :: q)).size = bs q := by rw [bs_size, bs_extract, List.take_of_length_le (by simp)]; rfl
  have hext3 : (bs (45 :: q)).extract (1 + (digs q).length) (bs (45 :: q)).size = bs (q.drop (digs q).length) := by
    rw [bs_size, bs_extract, List.take_of_length_le (by simp), Nat.add_comm, List.drop_succ_cons]
  have hsz : (bs (45 :: q)).size = q.length + 1 := by rw [bs_size, List.length_cons]
  have hst1 : (bs (45 :: q)).toList = 45 :: q := bs_toList _
  have h00 : 0 < (bs (45 :: q)).size := by rw [hsz]; omega
  have e00 : (bs (45 :: q))[0] = 45 := rfl
  have u1 : ((bs (45 :: q)).toList == []) = false := by rw [hst1]; rfl
  have u1' : (bs (45 :: q)).toList.isEmpty = false := by rw [hst1]; rfl
  have u2 : ((bs (45 :: q)).toList == [102]) = false := by rw [hst1, beq_eq_false_iff_ne]; simp
  have u3 : ((bs (45 :: q)).toList == [102, 102]) = false := by rw [hst1, beq_eq_false_iff_ne]; simp
  have z1 : 1 ≤ (bs (45 :: q)).size := h00
  have z2 : (bs (45 :: q)).size ≤ 1000001 := by rw [hsz]; omega
  have z3 : 1 + (digs q).length ≤ (bs (45 :: q)).size := by rw [hsz]; omega
  clear hst1 hsz
  generalize hA : valL (digs t) = A at N hV
  generalize hJ : (digs t).length = J at N hdl hext hd hdt
  generalize hB : valL (digs q) = B at M hV2
  generalize hK : (digs q).length = K at M hdl2 hext3 z3 hdq
  generalize hS : bs (45 :: q) = S at hext hext2 hext3 h00 e00 u1 u1' u2 u3 z1 z2 z3
  generalize hS3 : bs (q.drop K) = S3 at hext3
  generalize bs q = SQ at hext2 M
  generalize bs t = T at N hext hTS
  have hJT : J ≤ T.size := by omega
  have hTm : T.size ≤ 1000000 := by omega
  obtain ⟨hA1, hA2⟩ := hV
  obtain ⟨hB1, hB2⟩ := hV2
  have HA := Lib.hid hA; have HJ := Lib.hid hJ; have HD := Lib.hid hd; have HB := Lib.hid hB; have HK := Lib.hid hK
  have hst : S3.toList = q.drop K := by rw [← hS3, bs_toList]
  have HST := Lib.hid hst
  clear hA hJ hS hd hst hB hK hS3 hTS hdt hdq
  have hn : readL ⟨k, nx, row, pas⟩ t = none := by
    rcases h0 with h | h
    · exact readL_none0 h
    · by_cases h' : digs t = []
      · exact readL_none0 h'
      · rw [readL_dash h' (by rw [HJ.out]; exact HD.out), range_none h]
  have HN := Lib.hid hn
  clear hn
  by_cases j0 : J = 0
  · subst j0
    clear h0
    go_enter Tryd.func49, Tryd.ntmps49
    go_wp2_with fail
    refine N.mono ?_
    rintro e w1 ⟨rfl, rfl⟩
    go_wp2_with fail
    go_ret2
    exact readOut_none HN.out ((Below.refl w.heap.size w).alloc (Nat.le_refl _) _) _

  · have k0 : K = 0 := by
      rcases h0 with h | h
      · exact absurd (by rw [← HJ.out, h]; rfl) j0
      · rw [← HK.out, h]; rfl
    subst k0
    have jn : ((J : Int) == 0) = false := beq_eq_false_iff_ne.2 (by omega)
    clear h0 j0
    go_enter Tryd.func49, Tryd.ntmps49
    go_wp2_with fail
    refine N.mono ?_
    rintro e w1 ⟨rfl, rfl⟩
    go_wp2_with fail
    refine M.mono ?_
    rintro e w2 ⟨rfl, rfl⟩
    go_wp2_with fail
    go_ret2
    exact readOut_none HN.out ((Below.refl w.heap.size w).alloc (Nat.le_refl _) _) _


set_option maxRecDepth 100000 in
set_option maxHeartbeats 4000000 in
theorem rread_dasha (s : Sty) (t q : List UInt8) (w : World) (hs : okSty s) (ht : t.length ≤ 1000000) (hd : t.drop (digs t).length = 45 :: q) (h1 : digs t ≠ []) (h2 : digs q ≠ []) (hjk : (digs t).length ≤ (digs q).length) :
    Calls Tryd.prog 49 #[.agg #[.int .i64 s.k, .bool s.nx, .int .i64 s.row, .int .i64 s.pas], .string (bs t)] w (ReadOut w (readL s t)) := by
  obtain ⟨k, nx, row, pas⟩ := s
  obtain ⟨k1, k2, r0, r1, r2, p0, p1, p2⟩ := hs
  dsimp only at *
  have hql : q.length ≤ 1000000 := by have := congrArg List.length hd; rw [List.length_drop, List.length_cons] at this; omega
  have N := rnumber_any t (w.alloc (.cells #[.int .i64 k, .bool nx, .int .i64 row, .int .i64 pas] 24)) ht
  have M := rnumber_any q (w.alloc (.cells #[.int .i64 k, .bool nx, .int .i64 row, .int .i64 pas] 24)) hql
  have hV := valL_999 t
  have hdl := digs_len t
  have hV2 := valL_999 q
  have hdl2 := digs_len q
  have hdt : (digs t).length ≤ t.length := by unfold digs; exact Nat.le_trans (List.takeWhile_prefix _).length_le (by simp; omega)
  have hdq : (digs q).length ≤ q.length := by unfold digs; exact Nat.le_trans (List.takeWhile_prefix _).length_le (by simp; omega)
  have hTS : (bs t).size = t.length := bs_size t
  have hext : (bs t).extract (digs t).length (bs t).size = bs (45 :: q) := by rw [bs_size, bs_extract, List.take_of_length_le (by simp), hd]
  have hext2 : (bs (45 :: q)).extract 1 (bs (45 :: q)).size = bs q := by rw [bs_size, bs_extract, List.take_of_length_le (by simp)]; rfl
  have hext3 : (bs (45 :: q)).extract (1 + (digs q).length) (bs (45 :: q)).size = bs (q.drop (digs q).length) := by
    rw [bs_size, bs_extract, List.take_of_length_le (by simp), Nat.add_comm, List.drop_succ_cons]
  have hsz : (bs (45 :: q)).size = q.length + 1 := by rw [bs_size, List.length_cons]
  have hst1 : (bs (45 :: q)).toList = 45 :: q := bs_toList _
  have h00 : 0 < (bs (45 :: q)).size := by rw [hsz]; omega
  have e00 : (bs (45 :: q))[0] = 45 := rfl
  have u1 : ((bs (45 :: q)).toList == []) = false := by rw [hst1]; rfl
  have u1' : (bs (45 :: q)).toList.isEmpty = false := by rw [hst1]; rfl
  have u2 : ((bs (45 :: q)).toList == [102]) = false := by rw [hst1, beq_eq_false_iff_ne]; simp
  have u3 : ((bs (45 :: q)).toList == [102, 102]) = false := by rw [hst1, beq_eq_false_iff_ne]; simp
  have z1 : 1 ≤ (bs (45 :: q)).size := h00
  have z2 : (bs (45 :: q)).size ≤ 1000001 := by rw [hsz]; omega
  have z3 : 1 + (digs q).length ≤ (bs (45 :: q)).size := by rw [hsz]; omega
  clear hst1 hsz
  generalize hA : valL (digs t) = A at N hV
  generalize hJ : (digs t).length = J at N hdl hext hd hdt hjk
  generalize hB : valL (digs q) = B at M hV2
  generalize hK : (digs q).length = K at M hdl2 hext3 z3 hdq hjk
  generalize hS : bs (45 :: q) = S at hext hext2 hext3 h00 e00 u1 u1' u2 u3 z1 z2 z3
  generalize hS3 : bs (q.drop K) = S3 at hext3
  generalize bs q = SQ at hext2 M
  generalize bs t = T at N hext hTS
  have hJT : J ≤ T.size := by omega
  have hTm : T.size ≤ 1000000 := by omega
  obtain ⟨hA1, hA2⟩ := hV
  obtain ⟨hB1, hB2⟩ := hV2
  have HA := Lib.hid hA; have HJ := Lib.hid hJ; have HD := Lib.hid hd; have HB := Lib.hid hB; have HK := Lib.hid hK
  have hst : S3.toList = q.drop K := by rw [← hS3, bs_toList]
  have HST := Lib.hid hst
  clear hA hJ hS hd hst hB hK hS3 hTS hdt hdq
  have hj1 : 1 ≤ J := by rw [← HJ.out]; exact List.length_pos_iff.2 h1
  have hk1' : 1 ≤ K := by rw [← HK.out]; exact List.length_pos_iff.2 h2
  have jn : ((J : Int) == 0) = false := beq_eq_false_iff_ne.2 (by omega)
  have kn : ((K : Int) == 0) = false := beq_eq_false_iff_ne.2 (by omega)
  have kj : ¬ (K : Int) < (J : Int) := by omega
  have hrd : readL ⟨k, nx, row, pas⟩ t = readRange ⟨k, nx, row, pas⟩ A J q := by
    rw [readL_dash h1 (by rw [HJ.out]; exact HD.out), HA.out, HJ.out]
  have hrb : restB A J q = B := by unfold restB; rw [if_neg (by rw [HK.out]; omega), HB.out]
  have HRD := Lib.hid hrd; have HRB := Lib.hid hrb; have H2 := Lib.hid h2
  clear hrd hrb h1 h2
  generalize hr3 : q.drop K = r3 at HST
  have HR3 := Lib.hid (show q.drop (digs q).length = r3 from by rw [HK.out]; exact hr3)
  clear hr3
  by_cases c1 : r3 = []
  · have hn := HRD.out.trans ((range_one H2.out (HR3.out.trans c1)).trans (by rw [HRB.out]))
    have HN := Lib.hid hn
    have t1 : S3.toList = [] := HST.out.trans c1
    clear hn c1
    go_enter Tryd.func49, Tryd.ntmps49
    go_wp2_with fail
    refine N.mono ?_
    rintro e w1 ⟨rfl, rfl⟩
    go_wp2_with fail
    refine M.mono ?_
    rintro e w2 ⟨rfl, rfl⟩
    go_wp2_with fail
    go_ret2
    exact readOut_some HN.out (((Below.refl w.heap.size w).alloc (Nat.le_refl _) _).alloc (by simp) _) (one_pair _ _ _ _ (by simp))

  · have t1 : (S3.toList == []) = false := by rw [HST.out]; simpa using c1
    have t1' : S3.toList.isEmpty = false := by rw [HST.out]; simpa using c1
    by_cases c2 : r3 = passimB
    · have t2 : (S3.toList == [32, 112, 97, 115, 115, 105, 109]) = true := by rw [HST.out, c2]; rfl
      by_cases c3 : 0 < pas
      · have hn := HRD.out.trans ((range_pas (s := ⟨k, nx, row, pas⟩) H2.out (HR3.out.trans c2) c3).trans (by rw [HRB.out]))
        have HN := Lib.hid hn
        have pn : (pas == 0) = false := beq_eq_false_iff_ne.2 (by omega)
        obtain ⟨i0, hi0, hz0, hz1, hz2⟩ := info_parts Tryd.info68
        have HI := Lib.hid hi0; have HZ0 := Lib.hid hz0; have HZ1 := Lib.hid hz1; have HZ2 := Lib.hid hz2
        clear hi0 hz0 hz1 hz2
        clear hn c1 c2
        go_enter Tryd.func49, Tryd.ntmps49
        go_wp2_with fail
        refine N.mono ?_
        rintro e w1 ⟨rfl, rfl⟩
        go_wp2_with fail
        refine M.mono ?_
        rintro e w2 ⟨rfl, rfl⟩
        go_wp2_with fail
        go_loopw [10, 11] (fun v i wr => ∃ m : Nat, (m : Int) + 1 ≤ pas ∧ i = .int .i64 m ∧ wr.ownsRow (w.heap.size + 1) 68 2 v m (prs (singles A m)) ∧ Below (w.heap.size + 1) (w.alloc (.cells #[.int .i64 k, .bool nx, .int .i64 row, .int .i64 pas] 24)) wr) (fun _ i _ => pas.toNat - (intOf i).toNat)
        case atStart => exact ⟨0, by omega, rfl, by simpa [prs, singles] using World.ownsRow_nil _ _ _ _, Below.refl _ _⟩
        case round =>
          obtain ⟨m, hm, rfl, hown, hbl⟩ := hrel
          have hbsz : w.heap.size + 1 ≤ wr.heap.size := by have := hbl.size; rw [World.size_alloc] at this; exact this
          have e3 := hbl.cell (p := ⟨w.heap.size, 3, none⟩) (by show w.heap.size < w.heap.size + 1; omega)
          simp at e3
          have HO := Lib.hid hown; have HBL := Lib.hid hbl
          have hm2 : (m : Int) ≤ 1000 := by omega
          clear hown hbl
          by_cases hlt : (m : Int) + 1 < pas
          · have hT := (congrArg prs (singles_succ A m)).trans (prs_snoc _ _)
            have HT := Lib.hid hT
            clear hT
            go_wp2_with (at_builtin; refine wpList_append_lies _ rfl _ _ _ rfl (w.heap.size + 1) 68 i0 _ 2 16 Tryd.underlying28 HI.out HZ0.out HZ1.out HZ2.out rfl (by omega) _ m (prs (singles A m)) rfl (HO.out.alloc _) ⟨wr.heap.size, 0, none⟩ 1 1 [.int .i64 (A + 2 * (m : Int)), .int .i64 (A + 2 * (m : Int))] rfl rfl (World.news_of_block (cs := #[.int .i64 (A + 2 * (m : Int)), .int .i64 (A + 2 * (m : Int))]) (t := 68) (fr := (0, 0)) (heap_alloc_new wr _)) (by simp [Value.oneCell']) (by omega) (by unfold maxLen; omega) (by omega) (by simp; omega) (wr.heap.size + 1) (by simp) ?_; intro gg cap w3 hown1 hgrow hat hltg)
            have HO1 := Lib.hid hown1; clear hown1
            go_roundw
            case rel => exact ⟨m + 1, by omega, by go_num, by rw [HT.out]; exact HO1.out, (HBL.out.alloc hbsz _).grown hgrow (by simp; omega) (fun j e => (HO.out.lt j e).1)⟩
            case measure => simp [intOf]; omega
          · have hpm : pas = (m : Int) + 1 := by omega
            have hsc : prs (scat pas.toNat A (B)) = prs (singles A m) ++ [.int .i64 (A + 2 * (m : Int)), .int .i64 (B)] := by
              rw [show pas.toNat = m + 1 by omega, scat_eq _ _ _ (by omega), prs_snoc]; rfl
            have HSC := Lib.hid hsc
            subst hpm
            have hm1 : (m : Int) + 1 - 1 = (m : Int) := by omega
            have hm0 : ¬ ((m : Int) + 1 < (m : Int) + 1) := by omega
            clear hsc
            go_wp2_with (at_builtin; refine wpList_append_lies _ rfl _ _ _ rfl (w.heap.size + 1) 68 i0 _ 2 16 Tryd.underlying28 HI.out HZ0.out HZ1.out HZ2.out rfl (by omega) _ m (prs (singles A m)) rfl (HO.out.alloc _) ⟨wr.heap.size, 0, none⟩ 1 1 [.int .i64 (A + 2 * (m : Int)), .int .i64 (B)] rfl rfl (World.news_of_block (cs := #[.int .i64 (A + 2 * (m : Int)), .int .i64 (B)]) (t := 68) (fr := (0, 0)) (heap_alloc_new wr _)) (by simp [Value.oneCell']) (by omega) (by unfold maxLen; omega) (by omega) (by simp; omega) (wr.heap.size + 1) (by simp) ?_; intro gg cap w3 hown1 hgrow hat hltg)
            have HO1 := Lib.hid hown1; clear hown1
            go_ret2
            exact readOut_some HN.out (((Below.refl w.heap.size w).alloc (Nat.le_refl _) _).trans ((((HBL.out.alloc hbsz _).grown hgrow (by simp; omega) (fun j e => (HO.out.lt j e).1))).mono (by omega))) (RdP_of_owns (by have := HO1.out; rw [← HSC.out] at this; exact this))

      · have hn := HRD.out.trans (range_no (s := ⟨k, nx, row, pas⟩) H2.out (fun e => c1 (HR3.out.symm.trans e)) (fun e => c3 e.2))
        have HN := Lib.hid hn
        have pn : pas = 0 := by omega
        subst pn
        clear hn c1 c2
        go_enter Tryd.func49, Tryd.ntmps49
        go_wp2_with fail
        refine N.mono ?_
        rintro e w1 ⟨rfl, rfl⟩
        go_wp2_with fail
        refine M.mono ?_
        rintro e w2 ⟨rfl, rfl⟩
        go_wp2_with fail
        go_ret2
        exact readOut_none HN.out ((Below.refl w.heap.size w).alloc (Nat.le_refl _) _) _

    · have t2 : (S3.toList == [32, 112, 97, 115, 115, 105, 109]) = false := by rw [HST.out]; simpa [passimB] using c2
      have hn := HRD.out.trans (range_no (s := ⟨k, nx, row, pas⟩) H2.out (fun e => c1 (HR3.out.symm.trans e)) (fun e => c2 (HR3.out.symm.trans e.1)))
      have HN := Lib.hid hn
      clear hn c1 c2
      go_enter Tryd.func49, Tryd.ntmps49
      go_wp2_with fail
      refine N.mono ?_
      rintro e w1 ⟨rfl, rfl⟩
      go_wp2_with fail
      refine M.mono ?_
      rintro e w2 ⟨rfl, rfl⟩
      go_wp2_with fail
      go_ret2
      exact readOut_none HN.out ((Below.refl w.heap.size w).alloc (Nat.le_refl _) _) _

end Go.Proofs.YtecdkpcapalifaaDoor

namespace Go.Proofs.YtecdkpcapalifaaDoor
open Go.RowKit Go.Maps

set_option maxRecDepth 100000 in
set_option maxHeartbeats 4000000 in
theorem rread_dashb (s : Sty) (t q : List UInt8) (w : World) (hs : okSty s) (ht : t.length ≤ 1000000) (hd : t.drop (digs t).length = 45 :: q) (h1 : digs t ≠ []) (h2 : digs q ≠ []) (hjk : (digs q).length < (digs t).length) (hk1 : (digs q).length = 1) :
    Calls Tryd.prog 49 #[.agg #[.int .i64 s.k, .bool s.nx, .int .i64 s.row, .int .i64 s.pas], .string (bs t)] w (ReadOut w (readL s t)) := by
  obtain ⟨k, nx, row, pas⟩ := s
  obtain ⟨k1, k2, r0, r1, r2, p0, p1, p2⟩ := hs
  dsimp only at *
  have hql : q.length ≤ 1000000 := by have := congrArg List.length hd; rw [List.length_drop, List.length_cons] at this; omega
  have N := rnumber_any t (w.alloc (.cells #[.int .i64 k, .bool nx, .int .i64 row, .int .i64 pas] 24)) ht
  have M := rnumber_any q (w.alloc (.cells #[.int .i64 k, .bool nx, .int .i64 row, .int .i64 pas] 24)) hql
  have hV := valL_999 t
  have hdl := digs_len t
  have hV2 := valL_999 q
  have hdl2 := digs_len q
  have hdt : (digs t).length ≤ t.length := by unfold digs; exact Nat.le_trans (List.takeWhile_prefix _).length_le (by simp; omega)
  have hdq : (digs q).length ≤ q.length := by unfold digs; exact Nat.le_trans (List.takeWhile_prefix _).length_le (by simp; omega)
  have hTS : (bs t).size = t.length := bs_size t
  have hext : (bs t).extract (digs t).length (bs t).size = bs (45 :: q) := by rw [bs_size, bs_extract, List.take_of_length_le (by simp), hd]
  have hext2 : (bs (45 :: q)).extract 1 (bs (45 :: q)).size = bs q := by rw [bs_size, bs_extract, List.take_of_length_le (by simp)]; rfl
  have hext3 : (bs (45 :: q)).extract (1 + (digs q).length) (bs (45 :: q)).size = bs (q.drop (digs q).length) := by
    rw [bs_size, bs_extract, List.take_of_length_le (by simp), Nat.add_comm, List.drop_succ_cons]
  have hsz : (bs (45 :: q)).size = q.length + 1 := by rw [bs_size, List.length_cons]
  have hst1 : (bs (45 :: q)).toList = 45 :: q := bs_toList _
  have h00 : 0 < (bs (45 :: q)).size := by rw [hsz]; omega
  have e00 : (bs (45 :: q))[0] = 45 := rfl
  have u1 : ((bs (45 :: q)).toList == []) = false := by rw [hst1]; rfl
  have u1' : (bs (45 :: q)).toList.isEmpty = false := by rw [hst1]; rfl
  have u2 : ((bs (45 :: q)).toList == [102]) = false := by rw [hst1, beq_eq_false_iff_ne]; simp
  have u3 : ((bs (45 :: q)).toList == [102, 102]) = false := by rw [hst1, beq_eq_false_iff_ne]; simp
  have z1 : 1 ≤ (bs (45 :: q)).size := h00
  have z2 : (bs (45 :: q)).size ≤ 1000001 := by rw [hsz]; omega
  have z3 : 1 + (digs q).length ≤ (bs (45 :: q)).size := by rw [hsz]; omega
  clear hst1 hsz
  generalize hA : valL (digs t) = A at N hV
  generalize hJ : (digs t).length = J at N hdl hext hd hdt hjk
  generalize hB : valL (digs q) = B at M hV2
  generalize hK : (digs q).length = K at M hdl2 hext3 z3 hdq hjk hk1
  generalize hS : bs (45 :: q) = S at hext hext2 hext3 h00 e00 u1 u1' u2 u3 z1 z2 z3
  generalize hS3 : bs (q.drop K) = S3 at hext3
  generalize bs q = SQ at hext2 M
  generalize bs t = T at N hext hTS
  have hJT : J ≤ T.size := by omega
  have hTm : T.size ≤ 1000000 := by omega
  obtain ⟨hA1, hA2⟩ := hV
  obtain ⟨hB1, hB2⟩ := hV2
  have HA := Lib.hid hA; have HJ := Lib.hid hJ; have HD := Lib.hid hd; have HB := Lib.hid hB; have HK := Lib.hid hK
  have hst : S3.toList = q.drop K := by rw [← hS3, bs_toList]
  have HST := Lib.hid hst
  clear hA hJ hS hd hst hB hK hS3 hTS hdt hdq
  subst hk1
  have hq : 0 ≤ A - A % 10 ∧ A - A % 10 ≤ 999 ∧ 0 ≤ A % 10 ∧ A % 10 ≤ 999 := by omega
  obtain ⟨hq1, hq2, hq3, hq4⟩ := hq
  have hj1 : 1 ≤ J := by rw [← HJ.out]; exact List.length_pos_iff.2 h1
  have hk1' : 1 ≤ 1 := by decide
  have jn : ((J : Int) == 0) = false := beq_eq_false_iff_ne.2 (by omega)
  have kj : 1 < (J : Int) := by omega
  have hrd : readL ⟨k, nx, row, pas⟩ t = readRange ⟨k, nx, row, pas⟩ A J q := by
    rw [readL_dash h1 (by rw [HJ.out]; exact HD.out), HA.out, HJ.out]
  have hrb : restB A J q = A - A % 10 + B := by unfold restB; rw [if_pos (by rw [HK.out]; omega), HB.out, HK.out]; show B + A / 10 * 10 = _; omega
  have HRD := Lib.hid hrd; have HRB := Lib.hid hrb; have H2 := Lib.hid h2
  clear hrd hrb h1 h2
  generalize hr3 : q.drop 1 = r3 at HST
  have HR3 := Lib.hid (show q.drop (digs q).length = r3 from by rw [HK.out]; exact hr3)
  clear hr3
  by_cases c1 : r3 = []
  · have hn := HRD.out.trans ((range_one H2.out (HR3.out.trans c1)).trans (by rw [HRB.out]))
    have HN := Lib.hid hn
    have t1 : S3.toList = [] := HST.out.trans c1
    clear hn c1
    go_enter Tryd.func49, Tryd.ntmps49
    go_wp2_with fail
    refine N.mono ?_
    rintro e w1 ⟨rfl, rfl⟩
    go_wp2_with fail
    refine M.mono ?_
    rintro e w2 ⟨rfl, rfl⟩
    go_wp2_with fail
    refine (power_1 _).mono ?_
    rintro e w3 ⟨rfl, rfl⟩
    go_wp2_with fail
    go_ret2
    exact readOut_some HN.out (((Below.refl w.heap.size w).alloc (Nat.le_refl _) _).alloc (by simp) _) (one_pair _ _ _ _ (by simp))

  · have t1 : (S3.toList == []) = false := by rw [HST.out]; simpa using c1
    have t1' : S3.toList.isEmpty = false := by rw [HST.out]; simpa using c1
    by_cases c2 : r3 = passimB
    · have t2 : (S3.toList == [32, 112, 97, 115, 115, 105, 109]) = true := by rw [HST.out, c2]; rfl
      by_cases c3 : 0 < pas
      · have hn := HRD.out.trans ((range_pas (s := ⟨k, nx, row, pas⟩) H2.out (HR3.out.trans c2) c3).trans (by rw [HRB.out]))
        have HN := Lib.hid hn
        have pn : (pas == 0) = false := beq_eq_false_iff_ne.2 (by omega)
        obtain ⟨i0, hi0, hz0, hz1, hz2⟩ := info_parts Tryd.info68
        have HI := Lib.hid hi0; have HZ0 := Lib.hid hz0; have HZ1 := Lib.hid hz1; have HZ2 := Lib.hid hz2
        clear hi0 hz0 hz1 hz2
        clear hn c1 c2
        go_enter Tryd.func49, Tryd.ntmps49
        go_wp2_with fail
        refine N.mono ?_
        rintro e w1 ⟨rfl, rfl⟩
        go_wp2_with fail
        refine M.mono ?_
        rintro e w2 ⟨rfl, rfl⟩
        go_wp2_with fail
        refine (power_1 _).mono ?_
        rintro e w3 ⟨rfl, rfl⟩
        go_wp2_with fail
        go_loopw [10, 11] (fun v i wr => ∃ m : Nat, (m : Int) + 1 ≤ pas ∧ i = .int .i64 m ∧ wr.ownsRow (w.heap.size + 1) 68 2 v m (prs (singles A m)) ∧ Below (w.heap.size + 1) (w.alloc (.cells #[.int .i64 k, .bool nx, .int .i64 row, .int .i64 pas] 24)) wr) (fun _ i _ => pas.toNat - (intOf i).toNat)
        case atStart => exact ⟨0, by omega, rfl, by simpa [prs, singles] using World.ownsRow_nil _ _ _ _, Below.refl _ _⟩
        case round =>
          obtain ⟨m, hm, rfl, hown, hbl⟩ := hrel
          have hbsz : w.heap.size + 1 ≤ wr.heap.size := by have := hbl.size; rw [World.size_alloc] at this; exact this
          have e3 := hbl.cell (p := ⟨w.heap.size, 3, none⟩) (by show w.heap.size < w.heap.size + 1; omega)
          simp at e3
          have HO := Lib.hid hown; have HBL := Lib.hid hbl
          have hm2 : (m : Int) ≤ 1000 := by omega
          clear hown hbl
          by_cases hlt : (m : Int) + 1 < pas
          · have hT := (congrArg prs (singles_succ A m)).trans (prs_snoc _ _)
            have HT := Lib.hid hT
            clear hT
            go_wp2_with (at_builtin; refine wpList_append_lies _ rfl _ _ _ rfl (w.heap.size + 1) 68 i0 _ 2 16 Tryd.underlying28 HI.out HZ0.out HZ1.out HZ2.out rfl (by omega) _ m (prs (singles A m)) rfl (HO.out.alloc _) ⟨wr.heap.size, 0, none⟩ 1 1 [.int .i64 (A + 2 * (m : Int)), .int .i64 (A + 2 * (m : Int))] rfl rfl (World.news_of_block (cs := #[.int .i64 (A + 2 * (m : Int)), .int .i64 (A + 2 * (m : Int))]) (t := 68) (fr := (0, 0)) (heap_alloc_new wr _)) (by simp [Value.oneCell']) (by omega) (by unfold maxLen; omega) (by omega) (by simp; omega) (wr.heap.size + 1) (by simp) ?_; intro gg cap w3 hown1 hgrow hat hltg)
            have HO1 := Lib.hid hown1; clear hown1
            go_roundw
            case rel => exact ⟨m + 1, by omega, by go_num, by rw [HT.out]; exact HO1.out, (HBL.out.alloc hbsz _).grown hgrow (by simp; omega) (fun j e => (HO.out.lt j e).1)⟩
            case measure => simp [intOf]; omega
          · have hpm : pas = (m : Int) + 1 := by omega
            have hsc : prs (scat pas.toNat A (A - A % 10 + B)) = prs (singles A m) ++ [.int .i64 (A + 2 * (m : Int)), .int .i64 (A - A % 10 + B)] := by
              rw [show pas.toNat = m + 1 by omega, scat_eq _ _ _ (by omega), prs_snoc]; rfl
            have HSC := Lib.hid hsc
            subst hpm
            have hm1 : (m : Int) + 1 - 1 = (m : Int) := by omega
            have hm0 : ¬ ((m : Int) + 1 < (m : Int) + 1) := by omega
            clear hsc
            go_wp2_with (at_builtin; refine wpList_append_lies _ rfl _ _ _ rfl (w.heap.size + 1) 68 i0 _ 2 16 Tryd.underlying28 HI.out HZ0.out HZ1.out HZ2.out rfl (by omega) _ m (prs (singles A m)) rfl (HO.out.alloc _) ⟨wr.heap.size, 0, none⟩ 1 1 [.int .i64 (A + 2 * (m : Int)), .int .i64 (A - A % 10 + B)] rfl rfl (World.news_of_block (cs := #[.int .i64 (A + 2 * (m : Int)), .int .i64 (A - A % 10 + B)]) (t := 68) (fr := (0, 0)) (heap_alloc_new wr _)) (by simp [Value.oneCell']) (by omega) (by unfold maxLen; omega) (by omega) (by simp; omega) (wr.heap.size + 1) (by simp) ?_; intro gg cap w3 hown1 hgrow hat hltg)
            have HO1 := Lib.hid hown1; clear hown1
            go_ret2
            exact readOut_some HN.out (((Below.refl w.heap.size w).alloc (Nat.le_refl _) _).trans ((((HBL.out.alloc hbsz _).grown hgrow (by simp; omega) (fun j e => (HO.out.lt j e).1))).mono (by omega))) (RdP_of_owns (by have := HO1.out; rw [← HSC.out] at this; exact this))

      · have hn := HRD.out.trans (range_no (s := ⟨k, nx, row, pas⟩) H2.out (fun e => c1 (HR3.out.symm.trans e)) (fun e => c3 e.2))
        have HN := Lib.hid hn
        have pn : pas = 0 := by omega
        subst pn
        clear hn c1 c2
        go_enter Tryd.func49, Tryd.ntmps49
        go_wp2_with fail
        refine N.mono ?_
        rintro e w1 ⟨rfl, rfl⟩
        go_wp2_with fail
        refine M.mono ?_
        rintro e w2 ⟨rfl, rfl⟩
        go_wp2_with fail
        refine (power_1 _).mono ?_
        rintro e w3 ⟨rfl, rfl⟩
        go_wp2_with fail
        go_ret2
        exact readOut_none HN.out ((Below.refl w.heap.size w).alloc (Nat.le_refl _) _) _

    · have t2 : (S3.toList == [32, 112, 97, 115, 115, 105, 109]) = false := by rw [HST.out]; simpa [passimB] using c2
      have hn := HRD.out.trans (range_no (s := ⟨k, nx, row, pas⟩) H2.out (fun e => c1 (HR3.out.symm.trans e)) (fun e => c2 (HR3.out.symm.trans e.1)))
      have HN := Lib.hid hn
      clear hn c1 c2
      go_enter Tryd.func49, Tryd.ntmps49
      go_wp2_with fail
      refine N.mono ?_
      rintro e w1 ⟨rfl, rfl⟩
      go_wp2_with fail
      refine M.mono ?_
      rintro e w2 ⟨rfl, rfl⟩
      go_wp2_with fail
      refine (power_1 _).mono ?_
      rintro e w3 ⟨rfl, rfl⟩
      go_wp2_with fail
      go_ret2
      exact readOut_none HN.out ((Below.refl w.heap.size w).alloc (Nat.le_refl _) _) _

end Go.Proofs.YtecdkpcapalifaaDoor

