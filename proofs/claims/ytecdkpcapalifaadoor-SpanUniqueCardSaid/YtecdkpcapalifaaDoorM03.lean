/- read (program), ranges: no digits, no fewer digits. read (program), ranges: one digit. -/
import Derived.Test.YtecdkpcapalifaaDoorM02
set_option linter.unusedVariables false
namespace Go.Proofs.YtecdkpcapalifaaDoor
open Go.RowKit Go.Maps

set_option maxRecDepth 100000 in
set_option maxHeartbeats 4000000 in
theorem read_dash0 (s : Sty) (t q : List UInt8) (w : World) (hs : okSty s) (ht : t.length ≤ 1000000) (hd : t.drop (digs t).length = 45 :: q) (h0 : digs t = [] ∨ digs q = []) :
    Calls Tryd.prog 48 #[.agg #[.int .i64 s.k, .bool s.nx, .int .i64 s.row, .int .i64 s.pas], .string (bs t)] w (ReadOut w (readL s t)) := by
  obtain ⟨k, nx, row, pas⟩ := s
  obtain ⟨k1, k2, r0, r1, r2, p0, p1, p2⟩ := hs
  dsimp only at *
  have hql : q.length ≤ 1000000 := by have := congrArg List.length hd; rw [List.length_drop, List.length_cons] at this; omega
  have N := number_any (w.heap.size + 1) t ((w.alloc (.cells #[.int .i64 k, .bool nx, .int .i64 row, .int .i64 pas] 36)).alloc (.cells #[.string (bs t)] 9)) ht (by simp) (by simp)
  have D := dash_yes q ((w.alloc (.cells #[.int .i64 k, .bool nx, .int .i64 row, .int .i64 pas] 36)).alloc (.cells #[.string (bs (t.drop (digs t).length))] 9)) hql
  have M := number_any (w.heap.size + 1) q ((w.alloc (.cells #[.int .i64 k, .bool nx, .int .i64 row, .int .i64 pas] 36)).alloc (.cells #[.string (bs q)] 9)) hql (by simp) (by simp)
  have hV := valL_999 t
  have hdl := digs_len t
  have hV2 := valL_999 q
  have hdl2 := digs_len q
  rw [hd] at N D
  have hext : (bs (45 :: q)).extract 1 (bs (45 :: q)).size = bs q := by rw [bs_size, bs_extract, List.take_of_length_le (by simp)]; rfl
  have hsz : 1 ≤ (bs (45 :: q)).size := by rw [bs_size]; simp
  have hsz2 : (bs (45 :: q)).size ≤ 1000001 := by rw [bs_size]; simp; omega
  generalize hA : valL (digs t) = A at N hV
  generalize hJ : (digs t).length = J at N hdl D hd
  generalize hB : valL (digs q) = B at M hV2
  generalize hK : (digs q).length = K at M hdl2
  generalize hS : bs (45 :: q) = S at N D hext hsz hsz2
  generalize hS3 : bs (q.drop K) = S3 at M
  generalize hQ : bs q = SQ at hext M
  obtain ⟨hA1, hA2⟩ := hV
  obtain ⟨hB1, hB2⟩ := hV2
  have HA := Lib.hid hA; have HJ := Lib.hid hJ; have HS := Lib.hid hS; have HD := Lib.hid hd; have HB := Lib.hid hB; have HK := Lib.hid hK
  have hst : S3.toList = q.drop K := by rw [← hS3, bs_toList]
  have HST := Lib.hid hst
  clear hA hJ hS hd hst hB hK hS3 hQ
  generalize bs t = T at N
  have hn : readL ⟨k, nx, row, pas⟩ t = none := by
    rcases h0 with h | h
    · exact readL_none0 h
    · by_cases h' : digs t = []
      · exact readL_none0 h'
      · rw [readL_dash h' (by rw [HJ.out]; exact HD.out), range_none h]
  have HN := Lib.hid hn
  clear hn
  by_cases k0 : K = 0
  · subst k0
    clear h0
    go_enter Tryd.func48, Tryd.ntmps48
    go_wp2_with fail
    refine N.mono ?_
    rintro e w1 ⟨rfl, rfl⟩
    go_wp2_with fail
    refine D.mono ?_
    rintro e w2 ⟨rfl, rfl⟩
    go_wp2_with fail
    refine M.mono ?_
    rintro e w3 ⟨rfl, rfl⟩
    go_wp2_with fail
    go_ret2
    exact readOut_none HN.out (((Below.refl w.heap.size w).alloc (Nat.le_refl _) _).alloc (by simp) _) _

  · have j0 : J = 0 := by
      rcases h0 with h | h
      · rw [← HJ.out, h]; rfl
      · exact absurd (by rw [← HK.out, h]; rfl) k0
    subst j0
    have kn : ((K : Int) == 0) = false := beq_eq_false_iff_ne.2 (by omega)
    clear h0 k0
    go_enter Tryd.func48, Tryd.ntmps48
    go_wp2_with fail
    refine N.mono ?_
    rintro e w1 ⟨rfl, rfl⟩
    go_wp2_with fail
    refine D.mono ?_
    rintro e w2 ⟨rfl, rfl⟩
    go_wp2_with fail
    refine M.mono ?_
    rintro e w3 ⟨rfl, rfl⟩
    go_wp2_with fail
    go_ret2
    exact readOut_none HN.out (((Below.refl w.heap.size w).alloc (Nat.le_refl _) _).alloc (by simp) _) _


set_option maxRecDepth 100000 in
set_option maxHeartbeats 4000000 in
theorem read_dasha (s : Sty) (t q : List UInt8) (w : World) (hs : okSty s) (ht : t.length ≤ 1000000) (hd : t.drop (digs t).length = 45 :: q) (h1 : digs t ≠ []) (h2 : digs q ≠ []) (hjk : (digs t).length ≤ (digs q).length) :
    Calls Tryd.prog 48 #[.agg #[.int .i64 s.k, .bool s.nx, .int .i64 s.row, .int .i64 s.pas], .string (bs t)] w (ReadOut w (readL s t)) := by
  obtain ⟨k, nx, row, pas⟩ := s
  obtain ⟨k1, k2, r0, r1, r2, p0, p1, p2⟩ := hs
  dsimp only at *
  have hql : q.length ≤ 1000000 := by have := congrArg List.length hd; rw [List.length_drop, List.length_cons] at this; omega
  have N := number_any (w.heap.size + 1) t ((w.alloc (.cells #[.int .i64 k, .bool nx, .int .i64 row, .int .i64 pas] 36)).alloc (.cells #[.string (bs t)] 9)) ht (by simp) (by simp)
  have D := dash_yes q ((w.alloc (.cells #[.int .i64 k, .bool nx, .int .i64 row, .int .i64 pas] 36)).alloc (.cells #[.string (bs (t.drop (digs t).length))] 9)) hql
  have M := number_any (w.heap.size + 1) q ((w.alloc (.cells #[.int .i64 k, .bool nx, .int .i64 row, .int .i64 pas] 36)).alloc (.cells #[.string (bs q)] 9)) hql (by simp) (by simp)
  have hV := valL_999 t
  have hdl := digs_len t
  have hV2 := valL_999 q
  have hdl2 := digs_len q
  rw [hd] at N D
  have hext : (bs (45 :: q)).extract 1 (bs (45 :: q)).size = bs q := by rw [bs_size, bs_extract, List.take_of_length_le (by simp)]; rfl
  have hsz : 1 ≤ (bs (45 :: q)).size := by rw [bs_size]; simp
  have hsz2 : (bs (45 :: q)).size ≤ 1000001 := by rw [bs_size]; simp; omega
  generalize hA : valL (digs t) = A at N hV
  generalize hJ : (digs t).length = J at N hdl D hd hjk
  generalize hB : valL (digs q) = B at M hV2
  generalize hK : (digs q).length = K at M hdl2 hjk
  generalize hS : bs (45 :: q) = S at N D hext hsz hsz2
  generalize hS3 : bs (q.drop K) = S3 at M
  generalize hQ : bs q = SQ at hext M
  obtain ⟨hA1, hA2⟩ := hV
  obtain ⟨hB1, hB2⟩ := hV2
  have HA := Lib.hid hA; have HJ := Lib.hid hJ; have HS := Lib.hid hS; have HD := Lib.hid hd; have HB := Lib.hid hB; have HK := Lib.hid hK
  have hst : S3.toList = q.drop K := by rw [← hS3, bs_toList]
  have HST := Lib.hid hst
  clear hA hJ hS hd hst hB hK hS3 hQ
  generalize bs t = T at N
  have hj1 : 1 ≤ J := by rw [← HJ.out]; exact List.length_pos_iff.2 h1
  have hk1' : 1 ≤ K := by rw [← HK.out]; exact List.length_pos_iff.2 h2
  have jn : ((J : Int) == 0) = false := beq_eq_false_iff_ne.2 (by omega)
  have kn : ((K : Int) == 0) = false := beq_eq_false_iff_ne.2 (by omega)
  have kj : ¬ (K : Int) < (J : Int) := by omega
  have kp : 0 < (K : Int) := by omega
  have hrd : readL ⟨k, nx, row, pas⟩ t = readRange ⟨k, nx, row, pas⟩ A J q := by
    rw [readL_dash h1 (by rw [HJ.out]; exact HD.out), HA.out, HJ.out]
  have hrb : restB A J q = B := by unfold restB; rw [if_neg (by rw [HK.out]; omega), HB.out]
  have HRD := Lib.hid hrd; have HRB := Lib.hid hrb; have H2 := Lib.hid h2
  clear hrd hrb h1 h2
  generalize hr3 : q.drop K = r3 at HST
  have HR3 := Lib.hid (show q.drop (digs q).length = r3 from by rw [HK.out]; exact hr3)
  clear hr3
  by_cases c1 : r3 = []
  · have hn := HRD.out.trans ((range_one H2.out (HR3.out.trans c1)).trans (by rw [HRB.out]))
    have HN := Lib.hid hn
    have t1 : S3.toList = [] := HST.out.trans c1
    clear hn c1
    go_enter Tryd.func48, Tryd.ntmps48
    go_wp2_with fail
    refine N.mono ?_
    rintro e w1 ⟨rfl, rfl⟩
    go_wp2_with fail
    refine D.mono ?_
    rintro e w2 ⟨rfl, rfl⟩
    go_wp2_with fail
    refine M.mono ?_
    rintro e w3 ⟨rfl, rfl⟩
    go_wp2_with fail
    go_ret2
    exact readOut_some HN.out ((((Below.refl w.heap.size w).alloc (Nat.le_refl _) _).alloc (by simp) _).alloc (by simp; omega) _) (one_pair _ _ _ _ (by simp))

  · have t1 : (S3.toList == []) = false := by rw [HST.out]; simpa using c1
    have t1' : S3.toList.isEmpty = false := by rw [HST.out]; simpa using c1
    by_cases c2 : r3 = passimB
    · have t2 : (S3.toList == [32, 112, 97, 115, 115, 105, 109]) = true := by rw [HST.out, c2]; rfl
      by_cases c3 : 0 < pas
      · have hn := HRD.out.trans ((range_pas (s := ⟨k, nx, row, pas⟩) H2.out (HR3.out.trans c2) c3).trans (by rw [HRB.out]))
        have HN := Lib.hid hn
        have SC := scattered_any pas.toNat A (B) ((w.alloc (.cells #[.int .i64 k, .bool nx, .int .i64 row, .int .i64 pas] 36)).alloc (.cells #[.string S3] 9)) (by omega) (by omega) hA1 (by omega)
        rw [show ((pas.toNat : Nat) : Int) = pas by omega] at SC
        have hS3 : S3 = S3 := rfl
        clear hn c1 c2 hS3
        go_enter Tryd.func48, Tryd.ntmps48
        go_wp2_with fail
        refine N.mono ?_
        rintro e w1 ⟨rfl, rfl⟩
        go_wp2_with fail
        refine D.mono ?_
        rintro e w2 ⟨rfl, rfl⟩
        go_wp2_with fail
        refine M.mono ?_
        rintro e w3 ⟨rfl, rfl⟩
        go_wp2_with fail
        refine SC.mono ?_
        rintro e w4 ⟨v, rfl, hown, hb4⟩
        go_wp2_with fail
        go_ret2
        exact readOut_some HN.out ((((Below.refl w.heap.size w).alloc (Nat.le_refl _) _).alloc (by simp) _).trans (hb4.mono (by simp; omega))) (RdP_of_owns hown)

      · have hn := HRD.out.trans (range_no (s := ⟨k, nx, row, pas⟩) H2.out (fun e => c1 (HR3.out.symm.trans e)) (fun e => c3 e.2))
        have HN := Lib.hid hn
        clear hn c1 c2
        go_enter Tryd.func48, Tryd.ntmps48
        go_wp2_with fail
        refine N.mono ?_
        rintro e w1 ⟨rfl, rfl⟩
        go_wp2_with fail
        refine D.mono ?_
        rintro e w2 ⟨rfl, rfl⟩
        go_wp2_with fail
        refine M.mono ?_
        rintro e w3 ⟨rfl, rfl⟩
        go_wp2_with fail
        go_ret2
        exact readOut_none HN.out (((Below.refl w.heap.size w).alloc (Nat.le_refl _) _).alloc (by simp) _) _

    · have t2 : (S3.toList == [32, 112, 97, 115, 115, 105, 109]) = false := by rw [HST.out]; simpa [passimB] using c2
      have hn := HRD.out.trans (range_no (s := ⟨k, nx, row, pas⟩) H2.out (fun e => c1 (HR3.out.symm.trans e)) (fun e => c2 (HR3.out.symm.trans e.1)))
      have HN := Lib.hid hn
      clear hn c1 c2
      go_enter Tryd.func48, Tryd.ntmps48
      go_wp2_with fail
      refine N.mono ?_
      rintro e w1 ⟨rfl, rfl⟩
      go_wp2_with fail
      refine D.mono ?_
      rintro e w2 ⟨rfl, rfl⟩
      go_wp2_with fail
      refine M.mono ?_
      rintro e w3 ⟨rfl, rfl⟩
      go_wp2_with fail
      go_ret2
      exact readOut_none HN.out (((Below.refl w.heap.size w).alloc (Nat.le_refl _) _).alloc (by simp) _) _

end Go.Proofs.YtecdkpcapalifaaDoor

namespace Go.Proofs.YtecdkpcapalifaaDoor
open Go.RowKit Go.Maps

set_option maxRecDepth 100000 in
set_option maxHeartbeats 4000000 in
theorem read_dashb (s : Sty) (t q : List UInt8) (w : World) (hs : okSty s) (ht : t.length ≤ 1000000) (hd : t.drop (digs t).length = 45 :: q) (h1 : digs t ≠ []) (h2 : digs q ≠ []) (hjk : (digs q).length < (digs t).length) (hk1 : (digs q).length = 1) :
    Calls Tryd.prog 48 #[.agg #[.int .i64 s.k, .bool s.nx, .int .i64 s.row, .int .i64 s.pas], .string (bs t)] w (ReadOut w (readL s t)) := by
  obtain ⟨k, nx, row, pas⟩ := s
  obtain ⟨k1, k2, r0, r1, r2, p0, p1, p2⟩ := hs
  dsimp only at *
  have hql : q.length ≤ 1000000 := by have := congrArg List.length hd; rw [List.length_drop, List.length_cons] at this; omega
  have N := number_any (w.heap.size + 1) t ((w.alloc (.cells #[.int .i64 k, .bool nx, .int .i64 row, .int .i64 pas] 36)).alloc (.cells #[.string (bs t)] 9)) ht (by simp) (by simp)
  have D := dash_yes q ((w.alloc (.cells #[.int .i64 k, .bool nx, .int .i64 row, .int .i64 pas] 36)).alloc (.cells #[.string (bs (t.drop (digs t).length))] 9)) hql
  have M := number_any (w.heap.size + 1) q ((w.alloc (.cells #[.int .i64 k, .bool nx, .int .i64 row, .int .i64 pas] 36)).alloc (.cells #[.string (bs q)] 9)) hql (by simp) (by simp)
  have hV := valL_999 t
  have hdl := digs_len t
  have hV2 := valL_999 q
  have hdl2 := digs_len q
  rw [hd] at N D
  have hext : (bs (45 :: q)).extract 1 (bs (45 :: q)).size = bs q := by rw [bs_size, bs_extract, List.take_of_length_le (by simp)]; rfl
  have hsz : 1 ≤ (bs (45 :: q)).size := by rw [bs_size]; simp
  have hsz2 : (bs (45 :: q)).size ≤ 1000001 := by rw [bs_size]; simp; omega
  generalize hA : valL (digs t) = A at N hV
  generalize hJ : (digs t).length = J at N hdl D hd hjk
  generalize hB : valL (digs q) = B at M hV2
  generalize hK : (digs q).length = K at M hdl2 hjk hk1
  generalize hS : bs (45 :: q) = S at N D hext hsz hsz2
  generalize hS3 : bs (q.drop K) = S3 at M
  generalize hQ : bs q = SQ at hext M
  obtain ⟨hA1, hA2⟩ := hV
  obtain ⟨hB1, hB2⟩ := hV2
  have HA := Lib.hid hA; have HJ := Lib.hid hJ; have HS := Lib.hid hS; have HD := Lib.hid hd; have HB := Lib.hid hB; have HK := Lib.hid hK
  have hst : S3.toList = q.drop K := by rw [← hS3, bs_toList]
  have HST := Lib.hid hst
  clear hA hJ hS hd hst hB hK hS3 hQ
  generalize bs t = T at N
  subst hk1
  have hq : 0 ≤ A / 10 * 10 ∧ A / 10 * 10 ≤ 999 := by omega
  obtain ⟨hq1, hq2⟩ := hq
  have hj1 : 1 ≤ J := by rw [← HJ.out]; exact List.length_pos_iff.2 h1
  have hk1' : 1 ≤ 1 := by decide
  have jn : ((J : Int) == 0) = false := beq_eq_false_iff_ne.2 (by omega)
  have kj : 1 < (J : Int) := by omega
  have hrd : readL ⟨k, nx, row, pas⟩ t = readRange ⟨k, nx, row, pas⟩ A J q := by
    rw [readL_dash h1 (by rw [HJ.out]; exact HD.out), HA.out, HJ.out]
  have hrb : restB A J q = B + A / 10 * 10 := by unfold restB; rw [if_pos (by rw [HK.out]; omega), HB.out, HK.out]; rfl
  have HRD := Lib.hid hrd; have HRB := Lib.hid hrb; have H2 := Lib.hid h2
  clear hrd hrb h1 h2
  generalize hr3 : q.drop 1 = r3 at HST
  have HR3 := Lib.hid (show q.drop (digs q).length = r3 from by rw [HK.out]; exact hr3)
  clear hr3
  by_cases c1 : r3 = []
  · have hn := HRD.out.trans ((range_one H2.out (HR3.out.trans c1)).trans (by rw [HRB.out]))
    have HN := Lib.hid hn
    have t1 : S3.toList = [] := HST.out.trans c1
    clear hn c1
    go_enter Tryd.func48, Tryd.ntmps48
    go_wp2_with fail
    refine N.mono ?_
    rintro e w1 ⟨rfl, rfl⟩
    go_wp2_with fail
    refine D.mono ?_
    rintro e w2 ⟨rfl, rfl⟩
    go_wp2_with fail
    refine M.mono ?_
    rintro e w3 ⟨rfl, rfl⟩
    go_wp2_with fail
    go_ret2
    exact readOut_some HN.out ((((Below.refl w.heap.size w).alloc (Nat.le_refl _) _).alloc (by simp) _).alloc (by simp; omega) _) (one_pair _ _ _ _ (by simp))

  · have t1 : (S3.toList == []) = false := by rw [HST.out]; simpa using c1
    have t1' : S3.toList.isEmpty = false := by rw [HST.out]; simpa using c1
    by_cases c2 : r3 = passimB
    · have t2 : (S3.toList == [32, 112, 97, 115, 115, 105, 109]) = true := by rw [HST.out, c2]; rfl
      by_cases c3 : 0 < pas
      · have hn := HRD.out.trans ((range_pas (s := ⟨k, nx, row, pas⟩) H2.out (HR3.out.trans c2) c3).trans (by rw [HRB.out]))
        have HN := Lib.hid hn
        have SC := scattered_any pas.toNat A (B + A / 10 * 10) ((w.alloc (.cells #[.int .i64 k, .bool nx, .int .i64 row, .int .i64 pas] 36)).alloc (.cells #[.string S3] 9)) (by omega) (by omega) hA1 (by omega)
        rw [show ((pas.toNat : Nat) : Int) = pas by omega] at SC
        have hS3 : S3 = S3 := rfl
        clear hn c1 c2 hS3
        go_enter Tryd.func48, Tryd.ntmps48
        go_wp2_with fail
        refine N.mono ?_
        rintro e w1 ⟨rfl, rfl⟩
        go_wp2_with fail
        refine D.mono ?_
        rintro e w2 ⟨rfl, rfl⟩
        go_wp2_with fail
        refine M.mono ?_
        rintro e w3 ⟨rfl, rfl⟩
        go_wp2_with fail
        refine SC.mono ?_
        rintro e w4 ⟨v, rfl, hown, hb4⟩
        go_wp2_with fail
        go_ret2
        exact readOut_some HN.out ((((Below.refl w.heap.size w).alloc (Nat.le_refl _) _).alloc (by simp) _).trans (hb4.mono (by simp; omega))) (RdP_of_owns hown)

      · have hn := HRD.out.trans (range_no (s := ⟨k, nx, row, pas⟩) H2.out (fun e => c1 (HR3.out.symm.trans e)) (fun e => c3 e.2))
        have HN := Lib.hid hn
        clear hn c1 c2
        go_enter Tryd.func48, Tryd.ntmps48
        go_wp2_with fail
        refine N.mono ?_
        rintro e w1 ⟨rfl, rfl⟩
        go_wp2_with fail
        refine D.mono ?_
        rintro e w2 ⟨rfl, rfl⟩
        go_wp2_with fail
        refine M.mono ?_
        rintro e w3 ⟨rfl, rfl⟩
        go_wp2_with fail
        go_ret2
        exact readOut_none HN.out (((Below.refl w.heap.size w).alloc (Nat.le_refl _) _).alloc (by simp) _) _

    · have t2 : (S3.toList == [32, 112, 97, 115, 115, 105, 109]) = false := by rw [HST.out]; simpa [passimB] using c2
      have hn := HRD.out.trans (range_no (s := ⟨k, nx, row, pas⟩) H2.out (fun e => c1 (HR3.out.symm.trans e)) (fun e => c2 (HR3.out.symm.trans e.1)))
      have HN := Lib.hid hn
      clear hn c1 c2
      go_enter Tryd.func48, Tryd.ntmps48
      go_wp2_with fail
      refine N.mono ?_
      rintro e w1 ⟨rfl, rfl⟩
      go_wp2_with fail
      refine D.mono ?_
      rintro e w2 ⟨rfl, rfl⟩
      go_wp2_with fail
      refine M.mono ?_
      rintro e w3 ⟨rfl, rfl⟩
      go_wp2_with fail
      go_ret2
      exact readOut_none HN.out (((Below.refl w.heap.size w).alloc (Nat.le_refl _) _).alloc (by simp) _) _

end Go.Proofs.YtecdkpcapalifaaDoor

