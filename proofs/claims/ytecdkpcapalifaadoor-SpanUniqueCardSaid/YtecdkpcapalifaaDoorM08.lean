/- Valid and Parse of the reference. invalid styles: Valid and Parse (both). of: pairs of raw numbers. List. -/
import Derived.Test.YtecdkpcapalifaaDoorM07
import Derived.Test.YtecdkpcapalifaaDoorM05
import Derived.Test.YtecdkpcapalifaaDoorM06
import Derived.Test.YtecdkpcapalifaaDoorM01
set_option linter.unusedVariables false
namespace Go.Proofs.YtecdkpcapalifaaDoor
open Go.RowKit Go.Maps

set_option maxHeartbeats 2000000 in
theorem rvalid_ok (k r p : Int) (b : Bool) (w : World) (hs : okSty ⟨k, b, r, p⟩) :
    Calls Tryd.prog 30 #[.agg #[.int .i64 k, .bool b, .int .i64 r, .int .i64 p]] w fun e w' => e = .returned (.int .i64 0) ∧ Below w.heap.size w w' := by
  have hb := (Below.refl w.heap.size w).alloc (Nat.le_refl _) (.cells #[.int .i64 k, .bool b, .int .i64 r, .int .i64 p] 24)
  obtain ⟨h1, h2, h3, h4, h5, h6, h7, h8⟩ := hs
  dsimp only at h1 h2 h3 h4 h5 h6 h7 h8
  have e4 : (r == 1) = false := beq_eq_false_iff_ne.2 h4
  have e7 : (p == 1) = false := beq_eq_false_iff_ne.2 h7
  clear h4 h7
  go_enter Tryd.func30, Tryd.ntmps30
  go_wp2_with fail
  go_ret
  exact ⟨ret_int rfl, hb⟩

theorem parseOut_none {s : Sty} {t : List UInt8} {w w' : World} (h : parseS s t = none) (hb : Below w.heap.size w w') : ParseOut s t w (.returned (.tuple #[.slice none 0 0, .int .i64 2])) w' := by
  refine ⟨.slice none 0 0, ?_, ?_, hb⟩
  · unfold parseE; rw [h]; rfl
  · unfold parseV; rw [h]; exact RdP.none _
theorem parseOut_some {s : Sty} {t : List UInt8} {l : List Sp} {w w' : World} {v : Value} (h : parseS s t = some l) (hv : RdP w' v l) (hb : Below w.heap.size w w') : ParseOut s t w (.returned (.tuple #[v, .int .i64 0])) w' := by
  refine ⟨v, ?_, ?_, hb⟩
  · unfold parseE; rw [h]; rfl
  · unfold parseV; rw [h]; exact hv
theorem occ_no1 {u : List UInt8} {q : Nat} {x : UInt8} (hx : u[q]? = some x) (h : x ≠ 44) : Lib.occAt u sepB q = false := by
  cases ho : Lib.occAt u sepB q with
  | false => rfl
  | true =>
    have := Lib.occAt_head (sub := sepB) rfl ho
    rw [hx] at this
    exact absurd (Option.some.inj this) h
theorem occ_two {u : List UInt8} {q : Nat} {x y : UInt8} (hx : u[q]? = some x) (hy : u[q + 1]? = some y) : Lib.occAt u sepB q = (x == 44 && y == 32) := by
  unfold Lib.occAt
  have e : u.drop q = x :: y :: u.drop (q + 2) := by
    obtain ⟨h1, rfl⟩ := List.getElem?_eq_some_iff.1 hx
    obtain ⟨h2, rfl⟩ := List.getElem?_eq_some_iff.1 hy
    rw [List.drop_eq_getElem_cons h1, List.drop_eq_getElem_cons h2]
  rw [e]
  unfold sepB
  simp [List.isPrefixOf]
  rw [Bool.eq_iff_iff]
  simp
  constructor
  · rintro ⟨h1, h2⟩; exact ⟨h1.symm, h2.symm⟩
  · rintro ⟨h1, h2⟩; exact ⟨h1.symm, h2.symm⟩
theorem occ_end {u : List UInt8} {q j : Nat} (h : u.length ≤ q + 1) (hj : q ≤ j) : Lib.occAt u sepB j = false := by
  cases ho : Lib.occAt u sepB j with
  | false => rfl
  | true =>
    rcases Lib.occAt_room ho with h1 | h1
    · have : sepB.length = 2 := rfl
      omega
    · cases h1
theorem min_i (a b : Nat) (h : b ≤ a) : min (a : Int) (b : Int) = b := by omega

set_option maxRecDepth 100000 in
set_option maxHeartbeats 16000000 in
theorem rparse_any (s : Sty) (t : List UInt8) (w : World) (hs : okSty s) (ht : t.length ≤ 1000) :
    Calls Tryd.prog 24 #[.agg #[.int .i64 s.k, .bool s.nx, .int .i64 s.row, .int .i64 s.pas], .string (bs t)] w (ParseOut s t w) := by
  obtain ⟨k, nx, row, pas⟩ := s
  dsimp only
  have VA := rvalid_ok k row pas nx (w.alloc (.cells #[.int .i64 k, .bool nx, .int .i64 row, .int .i64 pas] 24)) hs
  have hb0 := (Below.refl w.heap.size w).alloc (Nat.le_refl _) (.cells #[.int .i64 k, .bool nx, .int .i64 row, .int .i64 pas] 24)
  have hx0 := Boxs.new w 24 #[.int .i64 k, .bool nx, .int .i64 row, .int .i64 pas]
  have HS := Lib.hid hs; have HX0 := Lib.hid hx0; have HB0 := Lib.hid hb0
  have hw1 : (w.alloc (.cells #[.int .i64 k, .bool nx, .int .i64 row, .int .i64 pas] 24)).heap.size = w.heap.size + 1 := by simp
  clear hs hx0 hb0
  obtain ⟨i0, hi0, hz0, hz1, hz2⟩ := info_parts Tryd.info68
  have HI := Lib.hid hi0; have HZ0 := Lib.hid hz0; have HZ1 := Lib.hid hz1; have HZ2 := Lib.hid hz2
  clear hi0 hz0 hz1 hz2
  go_enter Tryd.func24, Tryd.ntmps24
  go_wp2_with fail
  refine VA.mono ?_
  rintro e w1 ⟨rfl, hb⟩
  have hx1 := HX0.out.below hb (by omega)
  have HX1 := Lib.hid hx1
  have HB1 := Lib.hid (HB0.out.trans (hb.mono (by omega)))
  have hs1 := hb.size
  clear hb hx1
  go_wp2_with fail
  go_loopw [7, 8] (fun v sv wr => ∃ (u : List UInt8) (D : List (List UInt8)) (L : List Sp), sv = .string (bs u) ∧ u.length ≤ t.length ∧ D.length + u.length ≤ t.length ∧ piecesT t = D ++ piecesT u ∧ readAll ⟨k, nx, row, pas⟩ D = some L ∧ wr.ownsRow (w.heap.size + 1) 68 2 v L.length (prs L) ∧ Boxs wr w.heap.size 24 #[.int .i64 k, .bool nx, .int .i64 row, .int .i64 pas] ∧ Below w.heap.size w wr) (fun _ sv _ => match sv with | .string b => b.size | _ => 0)
  case atStart => exact ⟨t, [], [], rfl, Nat.le_refl _, by simp, by simp, rfl, World.ownsRow_nil _ _ _ _, HX1.out, HB1.out⟩
  case round =>
    obtain ⟨u, D, L, rfl, hul, hdl, hpc, hrd, hown, hbx, hbl⟩ := hrel
    have hLl := readAll_len HS.out _ _ hrd
    obtain ⟨wo, hwo⟩ : ∃ wo, wo = wr := ⟨_, rfl⟩
    subst hwo
    have hsz := hbx.lt
    have HO := Lib.hid hown; have HBX := Lib.hid hbx; have HBL := Lib.hid hbl; have HRD := Lib.hid hrd; have HPC := Lib.hid hpc
    clear hown hrd hbx hbl hpc
    by_cases hu0 : u = []
    · subst hu0
      have hne := bs_nil
      have hps : piecesT t = D := by rw [HPC.out, piecesT_nil, List.append_nil]
      have HPS := Lib.hid hps
      have hv : RdP wo _ L := RdP_of_owns HO.out
      have NM := is_any _ L wo hv (by omega)
      have HV := Lib.hid hv
      have hbsz := HBL.out.size
      clear hv hps
      have hrr : nrm L = true → formL ⟨k, nx, row, pas⟩ L = t → parseR ⟨k, nx, row, pas⟩ t = some L := fun h1 h2 => by unfold parseR; rw [HPS.out, HRD.out]; exact if_pos ⟨h1, h2⟩
      have hrn : ¬ (nrm L = true ∧ formL ⟨k, nx, row, pas⟩ L = t) → parseR ⟨k, nx, row, pas⟩ t = none := fun h => by unfold parseR; rw [HPS.out, HRD.out]; exact if_neg h
      have HRR := Lib.hid hrr; have HRN := Lib.hid hrn
      clear hrr hrn
      by_cases hn : nrm L = true
      · rw [hn] at NM
        have HN := Lib.hid hn
        clear hn
        go_wp2_with fail
        refine NM.mono ?_
        rintro e w3 ⟨rfl, hb⟩
        have hx3 := HBX.out.below hb (by omega)
        have hv3 := HV.out.below hb
        have cx0 := hx3.cell 0
        have cx1 := hx3.cell 1
        have cx2 := hx3.cell 2
        have cx3 := hx3.cell 3
        simp at cx0 cx1 cx2 cx3
        have FM := rform_any ⟨k, nx, row, pas⟩ _ L w3 hv3 HS.out (by have := nrm_len HN.out; omega) (nrm_bd HN.out)
        dsimp only at FM
        have HB3 := Lib.hid (HBL.out.trans (hb.mono hbsz))
        have hbz := hb.size
        have HV3 := Lib.hid hv3
        clear hb hx3 hv3
        by_cases hf : formL ⟨k, nx, row, pas⟩ L = t
        · have HP := Lib.hid (HRR.out HN.out hf)
          rw [hf] at FM
          clear hf
          go_wp2_with fail
          refine FM.mono ?_
          rintro e w4 ⟨rfl, hb⟩
          have HV4 := Lib.hid (HV3.out.below hb)
          have HB4 := Lib.hid (HB3.out.trans (hb.mono (by omega)))
          clear hb
          go_wp2_with fail
          go_ret2
          exact parseOut_some (by rw [← parse_same]; exact HP.out) HV4.out HB4.out
        · have HP := Lib.hid (HRN.out (fun h => hf h.2))
          have hfn : (!((bs (formL ⟨k, nx, row, pas⟩ L)).toList == (bs t).toList)) = true := by rw [bs_toList, bs_toList]; simpa using hf
          clear hf
          go_wp2_with fail
          refine FM.mono ?_
          rintro e w4 ⟨rfl, hb⟩
          have HB4 := Lib.hid (HB3.out.trans (hb.mono (by omega)))
          clear hb
          go_wp2_with fail
          go_ret2
          exact parseOut_none (by rw [← parse_same]; exact HP.out) HB4.out
      · have HP := Lib.hid (HRN.out (fun h => hn h.1))
        have hn' : nrm L = false := by simpa using hn
        rw [hn'] at NM
        clear hn hn'
        go_wp2_with fail
        refine NM.mono ?_
        rintro e w3 ⟨rfl, hb⟩
        have HB3 := Lib.hid (HBL.out.trans (hb.mono hbsz))
        clear hb
        go_wp2_with fail
        go_ret2
        exact parseOut_none (by rw [← parse_same]; exact HP.out) HB3.out
    · have hne := bs_full hu0
      have hup := List.length_pos_iff.2 hu0
      have HU0 := Lib.hid hu0
      obtain ⟨U, hU⟩ : ∃ U, bs u = U := ⟨_, rfl⟩
      have hUs : U.size = u.length := by rw [← hU, bs_size]
      have HUS := Lib.hid hUs
      rw [hU] at hne ⊢
      have HU := Lib.hid hU
      have hU1 : 1 ≤ U.size := by omega
      have hU2 : U.size ≤ 1000 := by omega
      clear hu0 hU hUs
      go_wp2_with fail
      go_loopw [9] (fun iv wr => ∃ q : Nat, iv = .int .i64 q ∧ q ≤ U.size ∧ (∀ j, j < q → Lib.occAt u sepB j = false) ∧ wr = wo) (fun iv _ => 1001 - (intOf iv).toNat)
      case atStart => exact ⟨0, rfl, by omega, fun j hj => absurd hj (by omega), rfl⟩
      case round =>
        obtain ⟨q, rfl, hqU, hoc, rfl⟩ := hrel
        have HOC := Lib.hid hoc
        clear hoc
        by_cases hg : q + 1 < U.size
        · obtain ⟨x, hx⟩ := elem_at (l := u) (k := q) (by have := HUS.out; omega)
          obtain ⟨y, hy⟩ := elem_at (l := u) (k := q + 1) (by have := HUS.out; omega)
          have i1 : q < U.size := by omega
          have hg1 : (q : Int) + 1 < (U.size : Int) := by omega
          have e1 : U[q] = x := by
            have := HU.out
            subst this
            exact bs_get hx _
          have e2 : U[q + 1] = y := by
            have := HU.out
            subst this
            exact bs_get hy _
          have hocc := occ_two hx hy
          have HOT := Lib.hid hocc
          clear hx hy hocc
          by_cases hx44 : x = 44
          · subst hx44
            by_cases hy32 : y = 32
            · subst hy32
              have hix : Lib.index u sepB = q := Lib.index_first (by have := HUS.out; omega) (by rw [HOT.out]; rfl) HOC.out
              have hpt := piecesT_hit hix
              have hP : bs (u.take q) = U.extract 0 q := by rw [← HU.out, bs_extract]; simp
              have hR : bs (u.drop (q + 2)) = U.extract (q + 2) U.size := by rw [← HU.out, bs_extract, bs_size, List.take_of_length_le (by simp)]
              have hdn : u.drop (q + 2) = u.drop (q + 2) := rfl
              generalize hPL : u.take q = PL at hpt hP
              have hPl : PL.length ≤ 1000 := by rw [← hPL, List.length_take]; omega
              generalize hRL : u.drop (q + 2) = RL at hpt hR
              have hRl : RL.length + 2 ≤ u.length := by rw [← hRL, List.length_drop]; have := HUS.out; omega
              have HPT := Lib.hid hpt; have HP := Lib.hid hP; have HR := Lib.hid hR
              clear hix hpt hP hR hdn hPL hRL
              have hcut : U.extract 0 q = bs PL := HP.out.symm
              have hmin : min ((q : Int) + 2) (U.size : Int) = (((q + 2 : Nat)) : Int) := by omega
              have hcut2 : U.extract (q + 2) U.size = bs RL := HR.out.symm
              have hq2 : q + 2 ≤ U.size := by omega
              have HCE := Lib.hid hcut2
              have RD := fun W => rread_any ⟨k, nx, row, pas⟩ PL W HS.out (by omega)
              dsimp only at RD
              go_wp2_with fail
              cases hrl : readL ⟨k, nx, row, pas⟩ PL with
              | none =>
                refine wp_region_held (S := fun W => Boxs W w.heap.size 24 #[.int .i64 k, .bool nx, .int .i64 row, .int .i64 pas]) (by kernel_rfl) ?_
                have hdr : (wr).drew = { wr with drawn := (wr).drawn + 1 } := rfl
                rw [← hdr]
                clear hdr
                have G1 := Lib.hid (HBX.out.dn 1)
                change wpAnyH _ _ _ _ _ _ _ _ (wr.drewN 1)
                refine wpAnyHTake 0 (some 48) (.agg #[.int .i64 k, .bool nx, .int .i64 row, .int .i64 pas]) rfl rfl (by kernel_rfl) (by kernel_rfl) (by kernel_rfl) (fun _ _ _ h => h) (by rfl) (fun W hW => by have c0 := hW.cell 0; have c1 := hW.cell 1; have c2 := hW.cell 2; have c3 := hW.cell 3; simp at c0 c1 c2 c3; go_simp) (G1.out) ?_
                simp only [Act.put, List.setIfInBounds_toArray, List.set_cons_zero, List.set_cons_succ]
                refine wpAnyHTake 1 (some 49) (.string U) rfl rfl (by kernel_rfl) (by kernel_rfl) (by kernel_rfl) (fun _ _ _ h => h) (by rfl) (fun _ _ => by rfl) (G1.out) ?_
                simp only [Act.put, List.setIfInBounds_toArray, List.set_cons_zero, List.set_cons_succ]
                refine wpAnyHTake 2 (some 50) (.int .i64 ((q : Nat) : Int)) rfl rfl (by kernel_rfl) (by kernel_rfl) (by kernel_rfl) (fun _ _ _ h => h) (by rfl) (fun _ _ => by rfl) (G1.out) ?_
                simp only [Act.put, List.setIfInBounds_toArray, List.set_cons_zero, List.set_cons_succ]
                refine wpAnyHTake 3 (some 51) (.string (bs PL)) rfl rfl (by kernel_rfl) (by kernel_rfl) (by kernel_rfl) (fun _ _ _ h => h) (by rfl) (fun _ _ => by go_simp) (G1.out) ?_
                simp only [Act.put, List.setIfInBounds_toArray, List.set_cons_zero, List.set_cons_succ]
                refine wpAnyHCall 4 (some 52) 49 #[.agg #[.int .i64 k, .bool nx, .int .i64 row, .int .i64 pas], .string (bs PL)] (by kernel_rfl) rfl rfl (by rfl) (by go_simp) (RD _) ?_
                rintro e w3 ⟨hb, hr⟩
                rw [hrl] at hr
                obtain ⟨v, rfl⟩ := hr
                have G3 := Lib.hid (G1.out.below hb (by have := G1.out.lt; exact this))
                have HO3 := Lib.hid (owns_below (show (wr.drewN 1).ownsRow (w.heap.size + 1) 68 2 _ L.length (prs L) from HO.out) hb)
                have HBL3 := Lib.hid ((show Below w.heap.size w (wr.drewN 1) from Below.dn HBL.out _).trans (hb.mono HBL.out.size))
                have hbz := hb.size
                clear hb
                refine ⟨_, rfl, G3.out, ?_⟩
                simp only [Act.put, List.setIfInBounds_toArray, List.set_cons_zero, List.set_cons_succ]
                refine wpAnyHTake 5 (some 47) (.tuple #[v, .bool false]) rfl rfl (by kernel_rfl) (by kernel_rfl) (by kernel_rfl) (fun _ _ _ h => h) (by rfl) (fun _ _ => by rfl) (G3.out) ?_
                simp only [Act.put, List.setIfInBounds_toArray, List.set_cons_zero, List.set_cons_succ]
                refine wpAnyHTake 6 (some 53) (v) rfl rfl (by kernel_rfl) (by kernel_rfl) (by kernel_rfl) (fun _ _ _ h => h) (by rfl) (fun _ _ => by go_simp) (G3.out) ?_
                simp only [Act.put, List.setIfInBounds_toArray, List.set_cons_zero, List.set_cons_succ]
                refine wpAnyHTake 7 (some 54) (.bool false) rfl rfl (by kernel_rfl) (by kernel_rfl) (by kernel_rfl) (fun _ _ _ h => h) (by rfl) (fun _ _ => by go_simp) (G3.out) ?_
                simp only [Act.put, List.setIfInBounds_toArray, List.set_cons_zero, List.set_cons_succ]
                refine wpAnyHTake 8 (some 10) (v) rfl rfl (by kernel_rfl) (by kernel_rfl) (by kernel_rfl) (fun _ _ _ h => h) (by rfl) (fun _ _ => by rfl) (G3.out) ?_
                simp only [Act.put, List.setIfInBounds_toArray, List.set_cons_zero, List.set_cons_succ]
                refine wpAnyHTake 9 (some 11) (.bool false) rfl rfl (by kernel_rfl) (by kernel_rfl) (by kernel_rfl) (fun _ _ _ h => h) (by rfl) (fun _ _ => by rfl) (G3.out) ?_
                simp only [Act.put, List.setIfInBounds_toArray, List.set_cons_zero, List.set_cons_succ]
                refine wpAnyH_done (by kernel_rfl) ?_ _
                refine ‹∀ (a : Act) (w : World), Code.wp Tryd.prog _ _ a w → (_ : Act → World → Prop) a w› _ _ ?_
                have hno : parseR ⟨k, nx, row, pas⟩ t = none := by
                  unfold parseR
                  rw [HPC.out, HPT.out, readAll_app]
                  have : readAll ⟨k, nx, row, pas⟩ (PL :: piecesT RL) = none := by simp [readAll, hrl]
                  rw [this, HRD.out]
                have HP := Lib.hid hno
                clear hno hrl RD
                go_wp2_with fail
                go_ret2
                exact parseOut_none (by rw [← parse_same]; exact HP.out) HBL3.out
              | some l =>
                obtain ⟨hl0, hl5⟩ := readL_ne HS.out hrl
                have HL0 := Lib.hid hl0
                have hlp := List.length_pos_iff.2 hl0
                clear hl0
                refine wp_region_held (S := fun W => Boxs W w.heap.size 24 #[.int .i64 k, .bool nx, .int .i64 row, .int .i64 pas]) (by kernel_rfl) ?_
                have hdr : (wr).drew = { wr with drawn := (wr).drawn + 1 } := rfl
                rw [← hdr]
                clear hdr
                have G1 := Lib.hid (HBX.out.dn 1)
                change wpAnyH _ _ _ _ _ _ _ _ (wr.drewN 1)
                refine wpAnyHTake 0 (some 48) (.agg #[.int .i64 k, .bool nx, .int .i64 row, .int .i64 pas]) rfl rfl (by kernel_rfl) (by kernel_rfl) (by kernel_rfl) (fun _ _ _ h => h) (by rfl) (fun W hW => by have c0 := hW.cell 0; have c1 := hW.cell 1; have c2 := hW.cell 2; have c3 := hW.cell 3; simp at c0 c1 c2 c3; go_simp) (G1.out) ?_
                simp only [Act.put, List.setIfInBounds_toArray, List.set_cons_zero, List.set_cons_succ]
                refine wpAnyHTake 1 (some 49) (.string U) rfl rfl (by kernel_rfl) (by kernel_rfl) (by kernel_rfl) (fun _ _ _ h => h) (by rfl) (fun _ _ => by rfl) (G1.out) ?_
                simp only [Act.put, List.setIfInBounds_toArray, List.set_cons_zero, List.set_cons_succ]
                refine wpAnyHTake 2 (some 50) (.int .i64 ((q : Nat) : Int)) rfl rfl (by kernel_rfl) (by kernel_rfl) (by kernel_rfl) (fun _ _ _ h => h) (by rfl) (fun _ _ => by rfl) (G1.out) ?_
                simp only [Act.put, List.setIfInBounds_toArray, List.set_cons_zero, List.set_cons_succ]
                refine wpAnyHTake 3 (some 51) (.string (bs PL)) rfl rfl (by kernel_rfl) (by kernel_rfl) (by kernel_rfl) (fun _ _ _ h => h) (by rfl) (fun _ _ => by go_simp) (G1.out) ?_
                simp only [Act.put, List.setIfInBounds_toArray, List.set_cons_zero, List.set_cons_succ]
                refine wpAnyHCall 4 (some 52) 49 #[.agg #[.int .i64 k, .bool nx, .int .i64 row, .int .i64 pas], .string (bs PL)] (by kernel_rfl) rfl rfl (by rfl) (by go_simp) (RD _) ?_
                rintro e w3 ⟨hb, hr⟩
                rw [hrl] at hr
                obtain ⟨v, rfl, hv⟩ := hr
                obtain ⟨ad, cc, rfl, hnews⟩ := hv.news HL0.out
                have HNW := Lib.hid hnews
                clear hnews hv
                have G3 := Lib.hid (G1.out.below hb (by have := G1.out.lt; exact this))
                have HO3 := Lib.hid (owns_below (show (wr.drewN 1).ownsRow (w.heap.size + 1) 68 2 _ L.length (prs L) from HO.out) hb)
                have HBL3 := Lib.hid ((show Below w.heap.size w (wr.drewN 1) from Below.dn HBL.out _).trans (hb.mono HBL.out.size))
                have hbz := hb.size
                clear hb
                refine ⟨_, rfl, G3.out, ?_⟩
                simp only [Act.put, List.setIfInBounds_toArray, List.set_cons_zero, List.set_cons_succ]
                refine wpAnyHTake 5 (some 47) (.tuple #[.slice (some ad) l.length cc, .bool true]) rfl rfl (by kernel_rfl) (by kernel_rfl) (by kernel_rfl) (fun _ _ _ h => h) (by rfl) (fun _ _ => by rfl) (G3.out) ?_
                simp only [Act.put, List.setIfInBounds_toArray, List.set_cons_zero, List.set_cons_succ]
                refine wpAnyHTake 6 (some 53) (.slice (some ad) l.length cc) rfl rfl (by kernel_rfl) (by kernel_rfl) (by kernel_rfl) (fun _ _ _ h => h) (by rfl) (fun _ _ => by go_simp) (G3.out) ?_
                simp only [Act.put, List.setIfInBounds_toArray, List.set_cons_zero, List.set_cons_succ]
                refine wpAnyHTake 7 (some 54) (.bool true) rfl rfl (by kernel_rfl) (by kernel_rfl) (by kernel_rfl) (fun _ _ _ h => h) (by rfl) (fun _ _ => by go_simp) (G3.out) ?_
                simp only [Act.put, List.setIfInBounds_toArray, List.set_cons_zero, List.set_cons_succ]
                refine wpAnyHTake 8 (some 10) (.slice (some ad) l.length cc) rfl rfl (by kernel_rfl) (by kernel_rfl) (by kernel_rfl) (fun _ _ _ h => h) (by rfl) (fun _ _ => by rfl) (G3.out) ?_
                simp only [Act.put, List.setIfInBounds_toArray, List.set_cons_zero, List.set_cons_succ]
                refine wpAnyHTake 9 (some 11) (.bool true) rfl rfl (by kernel_rfl) (by kernel_rfl) (by kernel_rfl) (fun _ _ _ h => h) (by rfl) (fun _ _ => by rfl) (G3.out) ?_
                simp only [Act.put, List.setIfInBounds_toArray, List.set_cons_zero, List.set_cons_succ]
                refine wpAnyH_done (by kernel_rfl) ?_ _
                refine ‹∀ (a : Act) (w : World), Code.wp Tryd.prog _ _ a w → (_ : Act → World → Prop) a w› _ _ ?_
                have hnx : readAll ⟨k, nx, row, pas⟩ (D ++ [PL]) = some (L ++ l) := by
                  rw [readAll_app, HRD.out]; simp [readAll, hrl]
                have HNX := Lib.hid hnx
                clear hnx hrl RD
                have hDl : D.length ≤ 1000 := by omega
                go_wp2_with (at_builtin; refine wpList_append_lies _ rfl _ _ _ rfl (w.heap.size + 1) 68 i0 _ 2 16 Tryd.underlying28 HI.out HZ0.out HZ1.out HZ2.out rfl (by omega) _ L.length (prs L) rfl HO3.out ad l.length cc (prs l) rfl (prs_len l) HNW.out (prs_one l) hlp (by unfold maxLen; omega) (by omega) (by have := G3.out.lt; omega) w3.heap.size rfl ?_; intro gg cap2 w4 hown1 hgrow hat hltg)
                rw [← prs_app] at hown1
                have hnb : ∀ b, b < w.heap.size + 1 → some b ≠ _ := fun b hb e => own_ne HO3.out hb e.symm
                have HO4 := Lib.hid hown1
                have HX4 := Lib.hid (G3.out.kept hgrow (hnb _ (by omega)))
                have HBL4 := Lib.hid (HBL3.out.grown hgrow (by have := HBL3.out.size; omega) (fun j e => by have := (HO3.out.lt j e).1; omega))
                clear hown1 hgrow hat hnb
                go_wp2_with fail
                go_roundw
                case rel => exact ⟨RL, D ++ [PL], L ++ l, congrArg Value.string HCE.out, by omega, by rw [List.length_append, List.length_singleton]; omega, by rw [HPC.out, HPT.out, List.append_assoc]; rfl, HNX.out, by rw [List.length_append]; exact HO4.out, HX4.out, HBL4.out⟩
                case measure => show ByteArray.size _ < U.size; rw [HCE.out, bs_size, HUS.out]; omega
            · have hy' : ((y.toNat : Int) == 32) = false := by rw [beq_eq_false_iff_ne]; exact fun e => hy32 (UInt8.toNat_inj.1 (by have : (32 : UInt8).toNat = 32 := rfl; omega))
              have hoo : Lib.occAt u sepB q = false := by rw [HOT.out]; simp [hy32]
              have HOO := Lib.hid hoo
              clear hy32 hoo
              go_wp2_with fail
              go_roundw
              case rel => exact ⟨q + 1, by go_num, by omega, fun j hj => by
                rcases Nat.lt_or_ge j q with h | h
                · exact HOC.out j h
                · obtain rfl : j = q := by omega
                  exact HOO.out, by first | rfl | trivial⟩
              case measure => simp [intOf]; omega
          · have hx' : ((x.toNat : Int) == 44) = false := by rw [beq_eq_false_iff_ne]; exact fun e => hx44 (UInt8.toNat_inj.1 (by have : (44 : UInt8).toNat = 44 := rfl; omega))
            have hoo : Lib.occAt u sepB q = false := by rw [HOT.out]; simp [hx44]
            have HOO := Lib.hid hoo
            clear hx44 hoo
            go_wp2_with fail
            go_roundw
            case rel => exact ⟨q + 1, by go_num, by omega, fun j hj => by
              rcases Nat.lt_or_ge j q with h | h
              · exact HOC.out j h
              · obtain rfl : j = q := by omega
                exact HOO.out, by first | rfl | trivial⟩
            case measure => simp [intOf]; omega
        · have hix : Lib.index u sepB = -1 := Lib.index_none fun j _ => by
            rcases Nat.lt_or_ge j q with h | h
            · exact HOC.out j h
            · exact occ_end (by have := HUS.out; omega) h
          have hpt := piecesT_miss HU0.out hix
          have hg1 : (U.size : Int) ≤ (q : Int) + 1 := by omega
          have hg2 : ¬ (q : Int) + 1 < (U.size : Int) := by omega
          have hcut : U.extract 0 U.size = bs u := by rw [← HU.out, bs_extract, bs_size]; simp
          have hcut2 : U.extract U.size U.size = bs [] := by rw [← HU.out, bs_extract]; simp
          have hmin : min ((U.size : Int) + 2) (U.size : Int) = ((U.size : Nat) : Int) := by omega
          have HPT := Lib.hid (show piecesT u = u :: piecesT [] from hpt)
          have hRl : ([] : List UInt8).length + 1 ≤ u.length := by simp; omega
          obtain ⟨PL, hPL⟩ : ∃ PL, u = PL := ⟨_, rfl⟩
          have hPl : PL.length ≤ 1000 := by rw [← hPL]; omega
          rw [hPL] at hcut
          have HPT2 := Lib.hid (show piecesT u = PL :: piecesT [] by rw [← hPL]; exact HPT.out)
          clear HPT hPL hix hpt
          have HPT := HPT2
          clear HPT2
          obtain ⟨RL, hRL⟩ : ∃ RL, ([] : List UInt8) = RL := ⟨_, rfl⟩
          rw [hRL] at HPT hRl hcut2
          have HCE := Lib.hid (show ByteArray.empty = bs RL by rw [← hRL]; rfl)
          clear hRL
          have RD := fun W => rread_any ⟨k, nx, row, pas⟩ PL W HS.out (by omega)
          dsimp only at RD
          go_wp2_with fail
          cases hrl : readL ⟨k, nx, row, pas⟩ PL with
          | none =>
            refine wp_region_held (S := fun W => Boxs W w.heap.size 24 #[.int .i64 k, .bool nx, .int .i64 row, .int .i64 pas]) (by kernel_rfl) ?_
            have hdr : (wr).drew = { wr with drawn := (wr).drawn + 1 } := rfl
            rw [← hdr]
            clear hdr
            have G1 := Lib.hid (HBX.out.dn 1)
            change wpAnyH _ _ _ _ _ _ _ _ (wr.drewN 1)
            refine wpAnyHTake 0 (some 48) (.agg #[.int .i64 k, .bool nx, .int .i64 row, .int .i64 pas]) rfl rfl (by kernel_rfl) (by kernel_rfl) (by kernel_rfl) (fun _ _ _ h => h) (by rfl) (fun W hW => by have c0 := hW.cell 0; have c1 := hW.cell 1; have c2 := hW.cell 2; have c3 := hW.cell 3; simp at c0 c1 c2 c3; go_simp) (G1.out) ?_
            simp only [Act.put, List.setIfInBounds_toArray, List.set_cons_zero, List.set_cons_succ]
            refine wpAnyHTake 1 (some 49) (.string U) rfl rfl (by kernel_rfl) (by kernel_rfl) (by kernel_rfl) (fun _ _ _ h => h) (by rfl) (fun _ _ => by rfl) (G1.out) ?_
            simp only [Act.put, List.setIfInBounds_toArray, List.set_cons_zero, List.set_cons_succ]
            refine wpAnyHTake 2 (some 50) (.int .i64 ((U.size : Nat) : Int)) rfl rfl (by kernel_rfl) (by kernel_rfl) (by kernel_rfl) (fun _ _ _ h => h) (by rfl) (fun _ _ => by rfl) (G1.out) ?_
            simp only [Act.put, List.setIfInBounds_toArray, List.set_cons_zero, List.set_cons_succ]
            refine wpAnyHTake 3 (some 51) (.string (bs PL)) rfl rfl (by kernel_rfl) (by kernel_rfl) (by kernel_rfl) (fun _ _ _ h => h) (by rfl) (fun _ _ => by go_simp) (G1.out) ?_
            simp only [Act.put, List.setIfInBounds_toArray, List.set_cons_zero, List.set_cons_succ]
            refine wpAnyHCall 4 (some 52) 49 #[.agg #[.int .i64 k, .bool nx, .int .i64 row, .int .i64 pas], .string (bs PL)] (by kernel_rfl) rfl rfl (by rfl) (by go_simp) (RD _) ?_
            rintro e w3 ⟨hb, hr⟩
            rw [hrl] at hr
            obtain ⟨v, rfl⟩ := hr
            have G3 := Lib.hid (G1.out.below hb (by have := G1.out.lt; exact this))
            have HO3 := Lib.hid (owns_below (show (wr.drewN 1).ownsRow (w.heap.size + 1) 68 2 _ L.length (prs L) from HO.out) hb)
            have HBL3 := Lib.hid ((show Below w.heap.size w (wr.drewN 1) from Below.dn HBL.out _).trans (hb.mono HBL.out.size))
            have hbz := hb.size
            clear hb
            refine ⟨_, rfl, G3.out, ?_⟩
            simp only [Act.put, List.setIfInBounds_toArray, List.set_cons_zero, List.set_cons_succ]
            refine wpAnyHTake 5 (some 47) (.tuple #[v, .bool false]) rfl rfl (by kernel_rfl) (by kernel_rfl) (by kernel_rfl) (fun _ _ _ h => h) (by rfl) (fun _ _ => by rfl) (G3.out) ?_
            simp only [Act.put, List.setIfInBounds_toArray, List.set_cons_zero, List.set_cons_succ]
            refine wpAnyHTake 6 (some 53) (v) rfl rfl (by kernel_rfl) (by kernel_rfl) (by kernel_rfl) (fun _ _ _ h => h) (by rfl) (fun _ _ => by go_simp) (G3.out) ?_
            simp only [Act.put, List.setIfInBounds_toArray, List.set_cons_zero, List.set_cons_succ]
            refine wpAnyHTake 7 (some 54) (.bool false) rfl rfl (by kernel_rfl) (by kernel_rfl) (by kernel_rfl) (fun _ _ _ h => h) (by rfl) (fun _ _ => by go_simp) (G3.out) ?_
            simp only [Act.put, List.setIfInBounds_toArray, List.set_cons_zero, List.set_cons_succ]
            refine wpAnyHTake 8 (some 10) (v) rfl rfl (by kernel_rfl) (by kernel_rfl) (by kernel_rfl) (fun _ _ _ h => h) (by rfl) (fun _ _ => by rfl) (G3.out) ?_
            simp only [Act.put, List.setIfInBounds_toArray, List.set_cons_zero, List.set_cons_succ]
            refine wpAnyHTake 9 (some 11) (.bool false) rfl rfl (by kernel_rfl) (by kernel_rfl) (by kernel_rfl) (fun _ _ _ h => h) (by rfl) (fun _ _ => by rfl) (G3.out) ?_
            simp only [Act.put, List.setIfInBounds_toArray, List.set_cons_zero, List.set_cons_succ]
            refine wpAnyH_done (by kernel_rfl) ?_ _
            refine ‹∀ (a : Act) (w : World), Code.wp Tryd.prog _ _ a w → (_ : Act → World → Prop) a w› _ _ ?_
            have hno : parseR ⟨k, nx, row, pas⟩ t = none := by
              unfold parseR
              rw [HPC.out, HPT.out, readAll_app]
              have : readAll ⟨k, nx, row, pas⟩ (PL :: piecesT RL) = none := by simp [readAll, hrl]
              rw [this, HRD.out]
            have HP := Lib.hid hno
            clear hno hrl RD
            go_wp2_with fail
            go_ret2
            exact parseOut_none (by rw [← parse_same]; exact HP.out) HBL3.out
          | some l =>
            obtain ⟨hl0, hl5⟩ := readL_ne HS.out hrl
            have HL0 := Lib.hid hl0
            have hlp := List.length_pos_iff.2 hl0
            clear hl0
            refine wp_region_held (S := fun W => Boxs W w.heap.size 24 #[.int .i64 k, .bool nx, .int .i64 row, .int .i64 pas]) (by kernel_rfl) ?_
            have hdr : (wr).drew = { wr with drawn := (wr).drawn + 1 } := rfl
            rw [← hdr]
            clear hdr
            have G1 := Lib.hid (HBX.out.dn 1)
            change wpAnyH _ _ _ _ _ _ _ _ (wr.drewN 1)
            refine wpAnyHTake 0 (some 48) (.agg #[.int .i64 k, .bool nx, .int .i64 row, .int .i64 pas]) rfl rfl (by kernel_rfl) (by kernel_rfl) (by kernel_rfl) (fun _ _ _ h => h) (by rfl) (fun W hW => by have c0 := hW.cell 0; have c1 := hW.cell 1; have c2 := hW.cell 2; have c3 := hW.cell 3; simp at c0 c1 c2 c3; go_simp) (G1.out) ?_
            simp only [Act.put, List.setIfInBounds_toArray, List.set_cons_zero, List.set_cons_succ]
            refine wpAnyHTake 1 (some 49) (.string U) rfl rfl (by kernel_rfl) (by kernel_rfl) (by kernel_rfl) (fun _ _ _ h => h) (by rfl) (fun _ _ => by rfl) (G1.out) ?_
            simp only [Act.put, List.setIfInBounds_toArray, List.set_cons_zero, List.set_cons_succ]
            refine wpAnyHTake 2 (some 50) (.int .i64 ((U.size : Nat) : Int)) rfl rfl (by kernel_rfl) (by kernel_rfl) (by kernel_rfl) (fun _ _ _ h => h) (by rfl) (fun _ _ => by rfl) (G1.out) ?_
            simp only [Act.put, List.setIfInBounds_toArray, List.set_cons_zero, List.set_cons_succ]
            refine wpAnyHTake 3 (some 51) (.string (bs PL)) rfl rfl (by kernel_rfl) (by kernel_rfl) (by kernel_rfl) (fun _ _ _ h => h) (by rfl) (fun _ _ => by go_simp) (G1.out) ?_
            simp only [Act.put, List.setIfInBounds_toArray, List.set_cons_zero, List.set_cons_succ]
            refine wpAnyHCall 4 (some 52) 49 #[.agg #[.int .i64 k, .bool nx, .int .i64 row, .int .i64 pas], .string (bs PL)] (by kernel_rfl) rfl rfl (by rfl) (by go_simp) (RD _) ?_
            rintro e w3 ⟨hb, hr⟩
            rw [hrl] at hr
            obtain ⟨v, rfl, hv⟩ := hr
            obtain ⟨ad, cc, rfl, hnews⟩ := hv.news HL0.out
            have HNW := Lib.hid hnews
            clear hnews hv
            have G3 := Lib.hid (G1.out.below hb (by have := G1.out.lt; exact this))
            have HO3 := Lib.hid (owns_below (show (wr.drewN 1).ownsRow (w.heap.size + 1) 68 2 _ L.length (prs L) from HO.out) hb)
            have HBL3 := Lib.hid ((show Below w.heap.size w (wr.drewN 1) from Below.dn HBL.out _).trans (hb.mono HBL.out.size))
            have hbz := hb.size
            clear hb
            refine ⟨_, rfl, G3.out, ?_⟩
            simp only [Act.put, List.setIfInBounds_toArray, List.set_cons_zero, List.set_cons_succ]
            refine wpAnyHTake 5 (some 47) (.tuple #[.slice (some ad) l.length cc, .bool true]) rfl rfl (by kernel_rfl) (by kernel_rfl) (by kernel_rfl) (fun _ _ _ h => h) (by rfl) (fun _ _ => by rfl) (G3.out) ?_
            simp only [Act.put, List.setIfInBounds_toArray, List.set_cons_zero, List.set_cons_succ]
            refine wpAnyHTake 6 (some 53) (.slice (some ad) l.length cc) rfl rfl (by kernel_rfl) (by kernel_rfl) (by kernel_rfl) (fun _ _ _ h => h) (by rfl) (fun _ _ => by go_simp) (G3.out) ?_
            simp only [Act.put, List.setIfInBounds_toArray, List.set_cons_zero, List.set_cons_succ]
            refine wpAnyHTake 7 (some 54) (.bool true) rfl rfl (by kernel_rfl) (by kernel_rfl) (by kernel_rfl) (fun _ _ _ h => h) (by rfl) (fun _ _ => by go_simp) (G3.out) ?_
            simp only [Act.put, List.setIfInBounds_toArray, List.set_cons_zero, List.set_cons_succ]
            refine wpAnyHTake 8 (some 10) (.slice (some ad) l.length cc) rfl rfl (by kernel_rfl) (by kernel_rfl) (by kernel_rfl) (fun _ _ _ h => h) (by rfl) (fun _ _ => by rfl) (G3.out) ?_
            simp only [Act.put, List.setIfInBounds_toArray, List.set_cons_zero, List.set_cons_succ]
            refine wpAnyHTake 9 (some 11) (.bool true) rfl rfl (by kernel_rfl) (by kernel_rfl) (by kernel_rfl) (fun _ _ _ h => h) (by rfl) (fun _ _ => by rfl) (G3.out) ?_
            simp only [Act.put, List.setIfInBounds_toArray, List.set_cons_zero, List.set_cons_succ]
            refine wpAnyH_done (by kernel_rfl) ?_ _
            refine ‹∀ (a : Act) (w : World), Code.wp Tryd.prog _ _ a w → (_ : Act → World → Prop) a w› _ _ ?_
            have hnx : readAll ⟨k, nx, row, pas⟩ (D ++ [PL]) = some (L ++ l) := by
              rw [readAll_app, HRD.out]; simp [readAll, hrl]
            have HNX := Lib.hid hnx
            clear hnx hrl RD
            have hDl : D.length ≤ 1000 := by omega
            go_wp2_with (at_builtin; refine wpList_append_lies _ rfl _ _ _ rfl (w.heap.size + 1) 68 i0 _ 2 16 Tryd.underlying28 HI.out HZ0.out HZ1.out HZ2.out rfl (by omega) _ L.length (prs L) rfl HO3.out ad l.length cc (prs l) rfl (prs_len l) HNW.out (prs_one l) hlp (by unfold maxLen; omega) (by omega) (by have := G3.out.lt; omega) w3.heap.size rfl ?_; intro gg cap2 w4 hown1 hgrow hat hltg)
            rw [← prs_app] at hown1
            have hnb : ∀ b, b < w.heap.size + 1 → some b ≠ _ := fun b hb e => own_ne HO3.out hb e.symm
            have HO4 := Lib.hid hown1
            have HX4 := Lib.hid (G3.out.kept hgrow (hnb _ (by omega)))
            have HBL4 := Lib.hid (HBL3.out.grown hgrow (by have := HBL3.out.size; omega) (fun j e => by have := (HO3.out.lt j e).1; omega))
            clear hown1 hgrow hat hnb
            go_wp2_with fail
            go_roundw
            case rel => exact ⟨RL, D ++ [PL], L ++ l, congrArg Value.string HCE.out, by omega, by rw [List.length_append, List.length_singleton]; omega, by rw [HPC.out, HPT.out, List.append_assoc]; rfl, HNX.out, by rw [List.length_append]; exact HO4.out, HX4.out, HBL4.out⟩
            case measure => show ByteArray.size _ < U.size; rw [HCE.out, bs_size, HUS.out]; omega
end Go.Proofs.YtecdkpcapalifaaDoor

namespace Go.Proofs.YtecdkpcapalifaaDoor
open Go.RowKit Go.Maps

set_option maxHeartbeats 2000000 in
theorem rvalid_any (k r p : Int) (b : Bool) (w : World) :
    Calls Tryd.prog 30 #[.agg #[.int .i64 k, .bool b, .int .i64 r, .int .i64 p]] w fun e w' => e = .returned (.int .i64 (validS k r p)) ∧ Below w.heap.size w w' := by
  have hb := (Below.refl w.heap.size w).alloc (Nat.le_refl _) (.cells #[.int .i64 k, .bool b, .int .i64 r, .int .i64 p] 24)
  by_cases h0 : k < 1
  · have HV := Lib.hid (validS_bad (k := k) (r := r) (p := p) (by omega))
    go_enter Tryd.func30, Tryd.ntmps30
    go_wp2_with fail
    go_ret
    exact ⟨ret_int HV.out.symm, hb⟩
  · skip
    by_cases h1 : 3 < k
    · have HV := Lib.hid (validS_bad (k := k) (r := r) (p := p) (by omega))
      go_enter Tryd.func30, Tryd.ntmps30
      go_wp2_with fail
      go_ret
      exact ⟨ret_int HV.out.symm, hb⟩
    · skip
      by_cases h2 : r < 0
      · have HV := Lib.hid (validS_bad (k := k) (r := r) (p := p) (by omega))
        go_enter Tryd.func30, Tryd.ntmps30
        go_wp2_with fail
        go_ret
        exact ⟨ret_int HV.out.symm, hb⟩
      · skip
        by_cases h3 : r = 1
        · have HV := Lib.hid (validS_bad (k := k) (r := r) (p := p) (by omega))
          have e3 : (r == 1) = true := by simp [h3]
          clear h3
          go_enter Tryd.func30, Tryd.ntmps30
          go_wp2_with fail
          go_ret
          exact ⟨ret_int HV.out.symm, hb⟩
        · have e3 : (r == 1) = false := beq_eq_false_iff_ne.2 h3
          by_cases h4 : 999 < r
          · have HV := Lib.hid (validS_bad (k := k) (r := r) (p := p) (by omega))
            go_enter Tryd.func30, Tryd.ntmps30
            go_wp2_with fail
            go_ret
            exact ⟨ret_int HV.out.symm, hb⟩
          · skip
            by_cases h5 : p < 0
            · have HV := Lib.hid (validS_bad (k := k) (r := r) (p := p) (by omega))
              go_enter Tryd.func30, Tryd.ntmps30
              go_wp2_with fail
              go_ret
              exact ⟨ret_int HV.out.symm, hb⟩
            · skip
              by_cases h6 : p = 1
              · have HV := Lib.hid (validS_bad (k := k) (r := r) (p := p) (by omega))
                have e6 : (p == 1) = true := by simp [h6]
                clear h6
                go_enter Tryd.func30, Tryd.ntmps30
                go_wp2_with fail
                go_ret
                exact ⟨ret_int HV.out.symm, hb⟩
              · have e6 : (p == 1) = false := beq_eq_false_iff_ne.2 h6
                by_cases h7 : 500 < p
                · have HV := Lib.hid (validS_bad (k := k) (r := r) (p := p) (by omega))
                  go_enter Tryd.func30, Tryd.ntmps30
                  go_wp2_with fail
                  go_ret
                  exact ⟨ret_int HV.out.symm, hb⟩
                · skip
                  have HV := Lib.hid (validS_ok (k := k) (r := r) (p := p) (by omega))
                  go_enter Tryd.func30, Tryd.ntmps30
                  go_wp2_with fail
                  go_ret
                  exact ⟨ret_int HV.out.symm, hb⟩

set_option maxRecDepth 100000 in
set_option maxHeartbeats 2000000 in
theorem parse_bad (s : Sty) (t : List UInt8) (w : World) (hs : ¬ okSty s) :
    Calls Tryd.prog 23 #[.agg #[.int .i64 s.k, .bool s.nx, .int .i64 s.row, .int .i64 s.pas], .string (bs t)] w fun e w' => e = .returned (.tuple #[.slice none 0 0, .int .i64 1]) ∧ Below w.heap.size w w' := by
  obtain ⟨k, nx, row, pas⟩ := s
  have hV : validS k row pas = 1 := by
    rcases validS_01 k row pas with h | h
    · exact absurd ((okSty_valid ⟨k, nx, row, pas⟩).1 h) hs
    · exact h
  dsimp only
  have VA := valid_any k row pas nx (w.alloc (.cells #[.int .i64 k, .bool nx, .int .i64 row, .int .i64 pas] 36))
  rw [hV] at VA
  have HB0 := Lib.hid ((Below.refl w.heap.size w).alloc (Nat.le_refl _) (.cells #[.int .i64 k, .bool nx, .int .i64 row, .int .i64 pas] 36))
  have hw1 : (w.alloc (.cells #[.int .i64 k, .bool nx, .int .i64 row, .int .i64 pas] 36)).heap.size = w.heap.size + 1 := by simp
  clear hs hV
  go_enter Tryd.func23, Tryd.ntmps23
  go_wp2_with fail
  refine VA.mono ?_
  rintro e w1 ⟨rfl, hb⟩
  have HB1 := Lib.hid hb
  clear hb
  go_wp2_with fail
  go_ret2
  exact ⟨rfl, HB0.out.trans (HB1.out.mono (by omega))⟩

set_option maxRecDepth 100000 in
set_option maxHeartbeats 2000000 in
theorem rparse_bad (s : Sty) (t : List UInt8) (w : World) (hs : ¬ okSty s) :
    Calls Tryd.prog 24 #[.agg #[.int .i64 s.k, .bool s.nx, .int .i64 s.row, .int .i64 s.pas], .string (bs t)] w fun e w' => e = .returned (.tuple #[.slice none 0 0, .int .i64 1]) ∧ Below w.heap.size w w' := by
  obtain ⟨k, nx, row, pas⟩ := s
  have hV : validS k row pas = 1 := by
    rcases validS_01 k row pas with h | h
    · exact absurd ((okSty_valid ⟨k, nx, row, pas⟩).1 h) hs
    · exact h
  dsimp only
  have VA := rvalid_any k row pas nx (w.alloc (.cells #[.int .i64 k, .bool nx, .int .i64 row, .int .i64 pas] 24))
  rw [hV] at VA
  have HB0 := Lib.hid ((Below.refl w.heap.size w).alloc (Nat.le_refl _) (.cells #[.int .i64 k, .bool nx, .int .i64 row, .int .i64 pas] 24))
  have hw1 : (w.alloc (.cells #[.int .i64 k, .bool nx, .int .i64 row, .int .i64 pas] 24)).heap.size = w.heap.size + 1 := by simp
  clear hs hV
  go_enter Tryd.func24, Tryd.ntmps24
  go_wp2_with fail
  refine VA.mono ?_
  rintro e w1 ⟨rfl, hb⟩
  have HB1 := Lib.hid hb
  clear hb
  go_wp2_with fail
  go_ret2
  exact ⟨rfl, HB0.out.trans (HB1.out.mono (by omega))⟩

open Classical in
noncomputable def parseE' (s : Sty) (t : List UInt8) : Int := if okSty s then parseE s t else 1
open Classical in
noncomputable def parseV' (s : Sty) (t : List UInt8) : List Sp := if okSty s then parseV s t else []
def ParseOut' (s : Sty) (t : List UInt8) (w : World) (e : Ending) (w' : World) : Prop :=
  ∃ v, e = .returned (.tuple #[v, .int .i64 (parseE' s t)]) ∧ RdP w' v (parseV' s t) ∧ Below w.heap.size w w'
theorem parseE'_ok {s : Sty} (h : okSty s) (t : List UInt8) : parseE' s t = parseE s t := if_pos h
theorem parseV'_ok {s : Sty} (h : okSty s) (t : List UInt8) : parseV' s t = parseV s t := if_pos h
theorem parseE'_bad {s : Sty} (h : ¬ okSty s) (t : List UInt8) : parseE' s t = 1 := if_neg h
theorem parseV'_bad {s : Sty} (h : ¬ okSty s) (t : List UInt8) : parseV' s t = [] := if_neg h
theorem parse_all (s : Sty) (t : List UInt8) (w : World) (ht : t.length ≤ 1000) (hml : ML w) :
    Calls Tryd.prog 23 #[.agg #[.int .i64 s.k, .bool s.nx, .int .i64 s.row, .int .i64 s.pas], .string (bs t)] w (ParseOut' s t w) := by
  by_cases hs : okSty s
  · refine (parse_any s t w hs ht hml).mono fun e w' h => ?_
    unfold ParseOut'; rw [parseE'_ok hs, parseV'_ok hs]; exact h
  · refine (parse_bad s t w hs).mono fun e w' h => ?_
    unfold ParseOut'; rw [parseE'_bad hs, parseV'_bad hs]; exact ⟨_, h.1, RdP.none _, h.2⟩
theorem rparse_all (s : Sty) (t : List UInt8) (w : World) (ht : t.length ≤ 1000) :
    Calls Tryd.prog 24 #[.agg #[.int .i64 s.k, .bool s.nx, .int .i64 s.row, .int .i64 s.pas], .string (bs t)] w (ParseOut' s t w) := by
  by_cases hs : okSty s
  · refine (rparse_any s t w hs ht).mono fun e w' h => ?_
    unfold ParseOut'; rw [parseE'_ok hs, parseV'_ok hs]; exact h
  · refine (rparse_bad s t w hs).mono fun e w' h => ?_
    unfold ParseOut'; rw [parseE'_bad hs, parseV'_bad hs]; exact ⟨_, h.1, RdP.none _, h.2⟩

def sameL : List Sp → List Sp → Bool
  | a, b => decide (a = b)
/-- Print -/
def printOk (s : Sty) (l : List Sp) : Bool := nrm l && decide (parseS s (formL s l) = some l)
open Classical in
noncomputable def printE (s : Sty) (l : List Sp) : Int := if okSty s ∧ nrm l = true then (if parseS s (formL s l) = some l then 0 else 14) else 1
open Classical in
noncomputable def printT (s : Sty) (l : List Sp) : List UInt8 := if okSty s ∧ nrm l = true ∧ parseS s (formL s l) = some l then formL s l else []
theorem print_bad {s : Sty} {l : List Sp} (h : ¬ (okSty s ∧ nrm l = true)) : printE s l = 1 ∧ printT s l = [] := ⟨if_neg h, if_neg fun h2 => h ⟨h2.1, h2.2.1⟩⟩
theorem print_good {s : Sty} {l : List Sp} (h : okSty s) (hn : nrm l = true) (hp : parseS s (formL s l) = some l) : printE s l = 0 ∧ printT s l = formL s l :=
  ⟨by unfold printE; rw [if_pos ⟨h, hn⟩, if_pos hp], by unfold printT; rw [if_pos ⟨h, hn, hp⟩]⟩
theorem print_clash {s : Sty} {l : List Sp} (h : okSty s) (hn : nrm l = true) (hp : ¬ parseS s (formL s l) = some l) : printE s l = 14 ∧ printT s l = [] :=
  ⟨by unfold printE; rw [if_pos ⟨h, hn⟩, if_neg hp], by unfold printT; rw [if_neg fun h2 => hp h2.2.2]⟩

set_option maxRecDepth 100000 in
set_option maxHeartbeats 4000000 in
theorem print_any (s : Sty) (v : Value) (l : List Sp) (w : World) (h : RdP w v l) (hl : l.length ≤ 100000) (hf : nrm l = true → okSty s → (formL s l).length ≤ 1000) (hml : ML w) :
    Calls Tryd.prog 16 #[.agg #[.int .i64 s.k, .bool s.nx, .int .i64 s.row, .int .i64 s.pas], v] w fun e w' => e = .returned (.tuple #[.string (bs (printT s l)), .int .i64 (printE s l)]) ∧ Below w.heap.size w w' := by
  obtain ⟨k, nx, row, pas⟩ := s
  dsimp only
  have hv1 := h.below (w' := w.alloc (.cells #[.int .i64 k, .bool nx, .int .i64 row, .int .i64 pas] 36)) ((Below.refl _ _).alloc (Nat.le_refl _) _)
  have VA := valid_any k row pas nx (w.alloc (.cells #[.int .i64 k, .bool nx, .int .i64 row, .int .i64 pas] 36))
  have HB0 := Lib.hid ((Below.refl w.heap.size w).alloc (Nat.le_refl _) (.cells #[.int .i64 k, .bool nx, .int .i64 row, .int .i64 pas] 36))
  have HX0 := Lib.hid (Boxs.new w 36 #[.int .i64 k, .bool nx, .int .i64 row, .int .i64 pas])
  have hw1 : (w.alloc (.cells #[.int .i64 k, .bool nx, .int .i64 row, .int .i64 pas] 36)).heap.size = w.heap.size + 1 := by simp
  have HV1 := Lib.hid hv1; have HF := Lib.hid hf
  have HML := Lib.hid hml; have hml1 := hml.lt; clear hml
  clear hv1 hf
  by_cases hs : okSty ⟨k, nx, row, pas⟩
  · have hV := (okSty_valid ⟨k, nx, row, pas⟩).2 hs
    dsimp only at hV
    rw [hV] at VA
    have HS := Lib.hid hs
    clear hs hV h
    go_enter Tryd.func16, Tryd.ntmps16
    go_wp2_with fail
    refine VA.mono ?_
    rintro e w1 ⟨rfl, hb⟩
    have HX1 := Lib.hid (HX0.out.below hb (by omega))
    have HB1 := Lib.hid (HB0.out.trans (hb.mono (by omega)))
    have hv1 := HV1.out.below hb
    have NM := normal_any v l w1 hv1 (by omega)
    have HV2 := Lib.hid hv1
    have hs1 := hb.size
    have HML1 := Lib.hid ((HML.out.below HB0.out hml1).below hb (by omega))
    clear hb hv1
    by_cases hn : nrm l = true
    · rw [hn] at NM
      have HN := Lib.hid hn
      have hfl := HF.out hn HS.out
      clear hn
      go_wp2_with fail
      refine NM.mono ?_
      rintro e w3 ⟨rfl, hb⟩
      have hx3 := HX1.out.below hb (by omega)
      have hv3 := HV2.out.below hb
      have cx0 := hx3.cell 0
      have cx1 := hx3.cell 1
      have cx2 := hx3.cell 2
      have cx3 := hx3.cell 3
      simp at cx0 cx1 cx2 cx3
      have FM := form_any ⟨k, nx, row, pas⟩ _ l w3 hv3 HS.out (by omega) (nrm_bd HN.out)
      dsimp only at FM
      have HB3 := Lib.hid (HB1.out.trans (hb.mono (by omega)))
      have hbz := hb.size
      have HML3 := Lib.hid (HML1.out.below hb (by omega))
      have HV3 := Lib.hid hv3
      have HX3 := Lib.hid hx3
      clear hb hx3 hv3
      go_wp2_with fail
      refine FM.mono ?_
      rintro e w4 ⟨rfl, hb⟩
      have hx4 := HX3.out.below hb (by omega)
      have dx0 := hx4.cell 0
      have dx1 := hx4.cell 1
      have dx2 := hx4.cell 2
      have dx3 := hx4.cell 3
      simp at dx0 dx1 dx2 dx3
      have HV4 := Lib.hid (HV3.out.below hb)
      have HB4 := Lib.hid (HB3.out.trans (hb.mono (by omega)))
      have hbz4 := hb.size
      have PA := parse_any ⟨k, nx, row, pas⟩ (formL ⟨k, nx, row, pas⟩ l) w4 HS.out hfl (HML3.out.below hb (by omega))
      dsimp only at PA
      clear hb hx4 cx0 cx1 cx2 cx3
      obtain ⟨S, hS⟩ : ∃ S, bs (formL ⟨k, nx, row, pas⟩ l) = S := ⟨_, rfl⟩
      rw [hS] at PA ⊢
      have HSS := Lib.hid hS
      clear hS
      cases hp : parseS ⟨k, nx, row, pas⟩ (formL ⟨k, nx, row, pas⟩ l) with
      | none =>
        have HP := Lib.hid (print_clash HS.out HN.out (by rw [hp]; exact fun e => by cases e))
        have hE : parseE ⟨k, nx, row, pas⟩ (formL ⟨k, nx, row, pas⟩ l) = 2 := by unfold parseE; rw [hp]; rfl
        have HE := Lib.hid hE
        clear hp hE
        go_wp2_with fail
        refine PA.mono ?_
        rintro e w5 ⟨v5, rfl, hv5, hb5⟩
        rw [HE.out]
        have HB5 := Lib.hid (HB4.out.trans (hb5.mono (by omega)))
        clear hv5 hb5
        go_wp2_with fail
        go_ret2
        exact ⟨by rw [HP.out.1, HP.out.2]; rfl, HB5.out⟩
      | some x =>
        have hE : parseE ⟨k, nx, row, pas⟩ (formL ⟨k, nx, row, pas⟩ l) = 0 := by unfold parseE; rw [hp]; rfl
        have hW : parseV ⟨k, nx, row, pas⟩ (formL ⟨k, nx, row, pas⟩ l) = x := by unfold parseV; rw [hp]; rfl
        have HE := Lib.hid hE; have HW := Lib.hid hW; have HPP := Lib.hid hp
        clear hE hp hW
        go_wp2_with fail
        refine PA.mono ?_
        rintro e w5 ⟨v5, rfl, hv5, hb5⟩
        rw [HW.out] at hv5
        rw [HE.out]
        have HB5 := Lib.hid (HB4.out.trans (hb5.mono (by omega)))
        have hv6 := HV4.out.below hb5
        have EQ := equal_any v5 v x l w5 hv5 hv6
        have hbz5 := hb5.size
        clear hv5 hb5 hv6
        by_cases hxl : x = l
        · subst hxl
          have HP := Lib.hid (print_good HS.out HN.out HPP.out)
          rw [show decide (x = x) = true from decide_eq_true rfl] at EQ
          go_wp2_with fail
          refine EQ.mono ?_
          rintro e w6 ⟨rfl, hb6⟩
          have HB6 := Lib.hid (HB5.out.trans (hb6.mono (by omega)))
          clear hb6
          go_wp2_with fail
          go_ret2
          exact ⟨by rw [HP.out.1, HP.out.2, HSS.out]; rfl, HB6.out⟩
        · have HP := Lib.hid (print_clash HS.out HN.out (by rw [HPP.out]; exact fun e => hxl (Option.some.inj e)))
          rw [show decide (x = l) = false from decide_eq_false hxl] at EQ
          clear hxl
          go_wp2_with fail
          refine EQ.mono ?_
          rintro e w6 ⟨rfl, hb6⟩
          have HB6 := Lib.hid (HB5.out.trans (hb6.mono (by omega)))
          clear hb6
          go_wp2_with fail
          go_ret2
          exact ⟨by rw [HP.out.1, HP.out.2]; rfl, HB6.out⟩
    · have hn' : nrm l = false := by simpa using hn
      rw [hn'] at NM
      have HP := Lib.hid (print_bad (s := ⟨k, nx, row, pas⟩) (fun h => hn h.2))
      clear hn hn'
      go_wp2_with fail
      refine NM.mono ?_
      rintro e w3 ⟨rfl, hb⟩
      have HB3 := Lib.hid (HB1.out.trans (hb.mono (by omega)))
      clear hb
      go_wp2_with fail
      go_ret2
      exact ⟨by rw [HP.out.1, HP.out.2]; rfl, HB3.out⟩
  · have hV : validS k row pas = 1 := by
      rcases validS_01 k row pas with h | h
      · exact absurd ((okSty_valid ⟨k, nx, row, pas⟩).1 h) hs
      · exact h
    rw [hV] at VA
    have HP := Lib.hid (print_bad (s := ⟨k, nx, row, pas⟩) (l := l) (fun h => hs h.1))
    clear hs hV h
    go_enter Tryd.func16, Tryd.ntmps16
    go_wp2_with fail
    refine VA.mono ?_
    rintro e w1 ⟨rfl, hb⟩
    have HB1 := Lib.hid hb
    clear hb
    go_wp2_with fail
    go_ret2
    exact ⟨by rw [HP.out.1, HP.out.2]; rfl, HB0.out.trans (HB1.out.mono (by omega))⟩

set_option maxRecDepth 100000 in
set_option maxHeartbeats 4000000 in
theorem rprint_any (s : Sty) (v : Value) (l : List Sp) (w : World) (h : RdP w v l) (hl : l.length ≤ 100000) (hf : nrm l = true → okSty s → (formL s l).length ≤ 1000) :
    Calls Tryd.prog 19 #[.agg #[.int .i64 s.k, .bool s.nx, .int .i64 s.row, .int .i64 s.pas], v] w fun e w' => e = .returned (.tuple #[.string (bs (printT s l)), .int .i64 (printE s l)]) ∧ Below w.heap.size w w' := by
  obtain ⟨k, nx, row, pas⟩ := s
  dsimp only
  have hv1 := h.below (w' := w.alloc (.cells #[.int .i64 k, .bool nx, .int .i64 row, .int .i64 pas] 24)) ((Below.refl _ _).alloc (Nat.le_refl _) _)
  have VA := rvalid_any k row pas nx (w.alloc (.cells #[.int .i64 k, .bool nx, .int .i64 row, .int .i64 pas] 24))
  have HB0 := Lib.hid ((Below.refl w.heap.size w).alloc (Nat.le_refl _) (.cells #[.int .i64 k, .bool nx, .int .i64 row, .int .i64 pas] 24))
  have HX0 := Lib.hid (Boxs.new w 24 #[.int .i64 k, .bool nx, .int .i64 row, .int .i64 pas])
  have hw1 : (w.alloc (.cells #[.int .i64 k, .bool nx, .int .i64 row, .int .i64 pas] 24)).heap.size = w.heap.size + 1 := by simp
  have HV1 := Lib.hid hv1; have HF := Lib.hid hf
  skip
  clear hv1 hf
  by_cases hs : okSty ⟨k, nx, row, pas⟩
  · have hV := (okSty_valid ⟨k, nx, row, pas⟩).2 hs
    dsimp only at hV
    rw [hV] at VA
    have HS := Lib.hid hs
    clear hs hV h
    go_enter Tryd.func19, Tryd.ntmps19
    go_wp2_with fail
    refine VA.mono ?_
    rintro e w1 ⟨rfl, hb⟩
    have HX1 := Lib.hid (HX0.out.below hb (by omega))
    have HB1 := Lib.hid (HB0.out.trans (hb.mono (by omega)))
    have hv1 := HV1.out.below hb
    have NM := is_any v l w1 hv1 (by omega)
    have HV2 := Lib.hid hv1
    have hs1 := hb.size
    skip
    clear hb hv1
    by_cases hn : nrm l = true
    · rw [hn] at NM
      have HN := Lib.hid hn
      have hfl := HF.out hn HS.out
      clear hn
      go_wp2_with fail
      refine NM.mono ?_
      rintro e w3 ⟨rfl, hb⟩
      have hx3 := HX1.out.below hb (by omega)
      have hv3 := HV2.out.below hb
      have cx0 := hx3.cell 0
      have cx1 := hx3.cell 1
      have cx2 := hx3.cell 2
      have cx3 := hx3.cell 3
      simp at cx0 cx1 cx2 cx3
      have FM := rform_any ⟨k, nx, row, pas⟩ _ l w3 hv3 HS.out (by omega) (nrm_bd HN.out)
      dsimp only at FM
      have HB3 := Lib.hid (HB1.out.trans (hb.mono (by omega)))
      have hbz := hb.size
      skip
      have HV3 := Lib.hid hv3
      have HX3 := Lib.hid hx3
      clear hb hx3 hv3
      go_wp2_with fail
      refine FM.mono ?_
      rintro e w4 ⟨rfl, hb⟩
      have hx4 := HX3.out.below hb (by omega)
      have dx0 := hx4.cell 0
      have dx1 := hx4.cell 1
      have dx2 := hx4.cell 2
      have dx3 := hx4.cell 3
      simp at dx0 dx1 dx2 dx3
      have HV4 := Lib.hid (HV3.out.below hb)
      have HB4 := Lib.hid (HB3.out.trans (hb.mono (by omega)))
      have hbz4 := hb.size
      have PA := rparse_any ⟨k, nx, row, pas⟩ (formL ⟨k, nx, row, pas⟩ l) w4 HS.out hfl
      dsimp only at PA
      clear hb hx4 cx0 cx1 cx2 cx3
      obtain ⟨S, hS⟩ : ∃ S, bs (formL ⟨k, nx, row, pas⟩ l) = S := ⟨_, rfl⟩
      rw [hS] at PA ⊢
      have HSS := Lib.hid hS
      clear hS
      cases hp : parseS ⟨k, nx, row, pas⟩ (formL ⟨k, nx, row, pas⟩ l) with
      | none =>
        have HP := Lib.hid (print_clash HS.out HN.out (by rw [hp]; exact fun e => by cases e))
        have hE : parseE ⟨k, nx, row, pas⟩ (formL ⟨k, nx, row, pas⟩ l) = 2 := by unfold parseE; rw [hp]; rfl
        have HE := Lib.hid hE
        clear hp hE
        go_wp2_with fail
        refine PA.mono ?_
        rintro e w5 ⟨v5, rfl, hv5, hb5⟩
        rw [HE.out]
        have HB5 := Lib.hid (HB4.out.trans (hb5.mono (by omega)))
        clear hv5 hb5
        go_wp2_with fail
        go_ret2
        exact ⟨by rw [HP.out.1, HP.out.2]; rfl, HB5.out⟩
      | some x =>
        have hE : parseE ⟨k, nx, row, pas⟩ (formL ⟨k, nx, row, pas⟩ l) = 0 := by unfold parseE; rw [hp]; rfl
        have hW : parseV ⟨k, nx, row, pas⟩ (formL ⟨k, nx, row, pas⟩ l) = x := by unfold parseV; rw [hp]; rfl
        have HE := Lib.hid hE; have HW := Lib.hid hW; have HPP := Lib.hid hp
        clear hE hp hW
        go_wp2_with fail
        refine PA.mono ?_
        rintro e w5 ⟨v5, rfl, hv5, hb5⟩
        rw [HW.out] at hv5
        rw [HE.out]
        have HB5 := Lib.hid (HB4.out.trans (hb5.mono (by omega)))
        have hv6 := HV4.out.below hb5
        have EQ := same_any v5 v x l w5 hv5 hv6
        have hbz5 := hb5.size
        clear hv5 hb5 hv6
        by_cases hxl : x = l
        · subst hxl
          have HP := Lib.hid (print_good HS.out HN.out HPP.out)
          rw [show decide (x = x) = true from decide_eq_true rfl] at EQ
          go_wp2_with fail
          refine EQ.mono ?_
          rintro e w6 ⟨rfl, hb6⟩
          have HB6 := Lib.hid (HB5.out.trans (hb6.mono (by omega)))
          clear hb6
          go_wp2_with fail
          go_ret2
          exact ⟨by rw [HP.out.1, HP.out.2, HSS.out]; rfl, HB6.out⟩
        · have HP := Lib.hid (print_clash HS.out HN.out (by rw [HPP.out]; exact fun e => hxl (Option.some.inj e)))
          rw [show decide (x = l) = false from decide_eq_false hxl] at EQ
          clear hxl
          go_wp2_with fail
          refine EQ.mono ?_
          rintro e w6 ⟨rfl, hb6⟩
          have HB6 := Lib.hid (HB5.out.trans (hb6.mono (by omega)))
          clear hb6
          go_wp2_with fail
          go_ret2
          exact ⟨by rw [HP.out.1, HP.out.2]; rfl, HB6.out⟩
    · have hn' : nrm l = false := by simpa using hn
      rw [hn'] at NM
      have HP := Lib.hid (print_bad (s := ⟨k, nx, row, pas⟩) (fun h => hn h.2))
      clear hn hn'
      go_wp2_with fail
      refine NM.mono ?_
      rintro e w3 ⟨rfl, hb⟩
      have HB3 := Lib.hid (HB1.out.trans (hb.mono (by omega)))
      clear hb
      go_wp2_with fail
      go_ret2
      exact ⟨by rw [HP.out.1, HP.out.2]; rfl, HB3.out⟩
  · have hV : validS k row pas = 1 := by
      rcases validS_01 k row pas with h | h
      · exact absurd ((okSty_valid ⟨k, nx, row, pas⟩).1 h) hs
      · exact h
    rw [hV] at VA
    have HP := Lib.hid (print_bad (s := ⟨k, nx, row, pas⟩) (l := l) (fun h => hs h.1))
    clear hs hV h
    go_enter Tryd.func19, Tryd.ntmps19
    go_wp2_with fail
    refine VA.mono ?_
    rintro e w1 ⟨rfl, hb⟩
    have HB1 := Lib.hid hb
    clear hb
    go_wp2_with fail
    go_ret2
    exact ⟨by rw [HP.out.1, HP.out.2]; rfl, HB0.out.trans (HB1.out.mono (by omega))⟩
end Go.Proofs.YtecdkpcapalifaaDoor

namespace Go.Proofs.YtecdkpcapalifaaDoor
open Go.RowKit Go.Maps

def pairsL : List Int → List Sp
  | a :: b :: r => (a, b) :: pairsL r
  | _ => []
theorem pairsL_len : ∀ (f : Nat) (l : List Int), l.length ≤ f → (pairsL l).length = l.length / 2 := by
  intro f
  induction f using Nat.strongRecOn with
  | ind f ih =>
    intro l h
    match l with
    | [] => rfl
    | [a] => simp [pairsL]
    | a :: b :: r =>
      simp only [List.length_cons] at h
      show (pairsL r).length + 1 = (r.length + 1 + 1) / 2
      rw [ih (f - 2) (by omega) r (by omega)]
      omega
theorem pairsL_at : ∀ (k : Nat) (l : List Int) (x y : Int), l[2 * k]? = some x → l[2 * k + 1]? = some y → (pairsL l)[k]? = some (x, y) := by
  intro k
  induction k with
  | zero =>
    intro l x y hx hy
    match l with
    | [] => simp at hx
    | [a] => simp at hy
    | a :: b :: r => simp at hx hy; subst hx; subst hy; rfl
  | succ k ih =>
    intro l x y hx hy
    match l with
    | [] => simp at hx
    | [a] => simp at hy
    | a :: b :: r =>
      show (pairsL r)[k]? = _
      refine ih r x y ?_ ?_
      · have : 2 * (k + 1) = 2 * k + 1 + 1 := by omega
        rw [this] at hx; simpa using hx
      · have : 2 * (k + 1) + 1 = 2 * k + 1 + 1 + 1 := by omega
        rw [this] at hy; simpa using hy
def ofRaw (l : List Int) (most : Nat) : List Sp := (pairsL l).take most

set_option maxRecDepth 100000 in
set_option maxHeartbeats 1600000 in
theorem lawof_any (v1 : Value) (xs : List Int) (most : Nat) (w : World) (h1 : RdI w v1 xs) (hm : most ≤ 1000) :
    Calls Tryd.prog 15 #[v1, .int .i64 most] w fun e w' => ∃ v, e = .returned v ∧ w'.ownsRow w.heap.size 68 2 v (ofRaw xs most).length (prs (ofRaw xs most)) ∧ Below w.heap.size w w' := by
  obtain ⟨a1, c1, rfl, l1, f1⟩ := h1.open
  clear h1
  have F1 := Lib.hid f1; clear f1
  obtain ⟨i0, hi0, hz0, hz1, hz2⟩ := info_parts Tryd.info68
  have HI := Lib.hid hi0; have HZ0 := Lib.hid hz0; have HZ1 := Lib.hid hz1; have HZ2 := Lib.hid hz2
  clear hi0 hz0 hz1 hz2
  have hpl := pairsL_len _ xs (Nat.le_refl _)
  have HPL := Lib.hid hpl
  clear hpl
  go_enter Tryd.func15, Tryd.ntmps15
  go_wp2
  go_loopw [5, 6] (fun v i wr => ∃ k j : Nat, k ≤ most ∧ 2 * k ≤ xs.length ∧ j = 2 * k ∧ i = .int .i64 (j : Int) ∧ wr.ownsRow w.heap.size 68 2 v k (prs ((pairsL xs).take k)) ∧ Below w.heap.size w wr) (fun _ i _ => 2 * most + 1 - (intOf i).toNat)
  case atStart => exact ⟨0, 0, Nat.zero_le _, by omega, rfl, rfl, by simpa [prs] using World.ownsRow_nil w _ _ _, Below.refl _ _⟩
  case round =>
    obtain ⟨k, j, hk, hk2, hj, rfl, hown, hbl⟩ := hrel
    obtain ⟨aa, cc, rfl⟩ := owns_slice hown
    have hj2 : j ≤ 2 * most := by omega
    have hj3 : j ≤ xs.length := by omega
    have HJ := Lib.hid hj
    clear hj hk2
    by_cases hlt : j + 1 < xs.length
    · have hlti : (j : Int) + 1 < (xs.length : Int) := by omega
      have hk0 : (0 : Int) ≤ (j : Int) := Int.natCast_nonneg _
      have hk9 : (j : Int) ≤ 2000 := by omega
      by_cases hlm : k < most
      · obtain ⟨x0, hx0⟩ := elem_at (l := xs) (k := j) (by omega)
        obtain ⟨x1, hx1⟩ := elem_at hlt
        obtain ⟨b1, o1, rfl, hb1, q0⟩ := F1.out _ _ hx0
        obtain ⟨b2, o2, he, _, q1⟩ := F1.out _ _ hx1
        obtain ⟨rfl, rfl⟩ : b1 = b2 ∧ o1 = o2 := by simpa using he
        have g0 := (hbl.cell (p := ⟨b1, o1 + j, none⟩) hb1).trans q0
        have g1 := (hbl.cell (p := ⟨b1, o1 + (j + 1), none⟩) hb1).trans q1
        have hlm' : (k : Int) < (most : Int) := by omega
        have hjl : (j : Int) < (xs.length : Int) := by omega
        have hj1 : (0 : Int) ≤ (j : Int) + 1 := by omega
        have hwr : IntKind.i64.wrap ((j : Int) + 1) = (j : Int) + 1 := by rw [IntKind.wrap_i64]; omega
        have hbsz := hbl.size
        have hbr : b1 < wr.heap.size := by omega
        have ag := own_ne hown hb1
        have HX := Lib.hid (pairsL_at k xs x0 x1 (by rw [← HJ.out]; exact hx0) (by rw [← HJ.out]; exact hx1))
        have HO := Lib.hid hown; have HB := Lib.hid hbl
        clear hx0 hx1 he hown hbl q0 q1
        go_wp2_with fail
        go_region_held3 (fun w' => w'.cell? ⟨b1, o1 + j, none⟩ = some (.int .i64 x0) ∧ w'.cell? ⟨b1, o1 + (j + 1), none⟩ = some (.int .i64 x1))
          (first
            | go_keep
            | (go_split_ands
               refine ⟨?_, ?_⟩ <;> (rw [hgrow.cell_far _ (by simp; omega) (Ne.symm ag)]; assumption)))
          ((refine step_append_lies _ (by rfl) _ _ _ (by rfl) w.heap.size 68 i0 _ 2 16 Tryd.underlying28 HI.out HZ0.out HZ1.out HZ2.out rfl (by omega) _ k (prs ((pairsL xs).take k)) (by rfl) ((HO.out.alloc _).drew)
              ⟨wr.heap.size, 0, none⟩ 1 1 [.int .i64 x0, .int .i64 x1] (by rfl) (by rfl) (World.news_of_block (cs := #[.int .i64 x0, .int .i64 x1]) (t := 68) (fr := (0, 0)) (heap_alloc_new wr _)) (by simp [Value.oneCell'])
              (by omega) (by unfold maxLen; omega) (by omega) (by simp; omega) (wr.heap.size + 1) (by simp) ?_; intro gg cap w1 hown1 hgrow hat hltg))
        have hT : prs ((pairsL xs).take (k + 1)) = prs ((pairsL xs).take k) ++ [.int .i64 x0, .int .i64 x1] := prs_take HX.out
        have HT := Lib.hid hT; clear hT
        go_wp2
        go_roundw
        case rel => exact ⟨k + 1, j + 2, by omega, by have := HJ.out; omega, by have := HJ.out; omega, by go_num, by rw [HT.out]; exact hown1, ((HB.out.alloc hbsz _).drew).grown hgrow (by simp; omega) (fun j e => (HO.out.lt j e).1)⟩
        case measure => simp [intOf]; omega
      · obtain rfl : k = most := by omega
        have hlm' : ¬ (k : Int) < (k : Int) := by omega
        have he : ofRaw xs k = (pairsL xs).take k := rfl
        have HE := Lib.hid he; clear he
        have hl : ((pairsL xs).take k).length = k := by have := HJ.out; rw [List.length_take, HPL.out]; omega
        have HO := Lib.hid hown; have HL := Lib.hid hl; clear hown hl
        go_wp2
        go_ret
        exact ⟨_, rfl, by rw [HE.out, HL.out]; exact HO.out, by assumption⟩
    · have hlti : ¬ (j : Int) + 1 < (xs.length : Int) := by omega
      have hk0 : (0 : Int) ≤ (j : Int) := Int.natCast_nonneg _
      have hk9 : (j : Int) ≤ 2000 := by omega
      have hT : ofRaw xs most = (pairsL xs).take k := by
        unfold ofRaw
        rw [List.take_of_length_le (by have := HJ.out; rw [HPL.out]; omega), List.take_of_length_le (by have := HJ.out; rw [HPL.out]; omega)]
      have hl : ((pairsL xs).take k).length = k := by have := HJ.out; rw [List.length_take, HPL.out]; omega
      have HO := Lib.hid hown; have HL := Lib.hid hl; have HT := Lib.hid hT; clear hown hl hT
      go_wp2
      go_ret
      exact ⟨_, rfl, by rw [HT.out, HL.out]; exact HO.out, by assumption⟩
end Go.Proofs.YtecdkpcapalifaaDoor

namespace Go.Proofs.YtecdkpcapalifaaDoor
open Go.RowKit Go.Maps

theorem tbl_at {W : World} {B : Nat} {t : TypeId} {L : List Int} {cs : Array Value} (h : Boxs W B t cs) (hcs : cs = (ints L).toArray) (lo hi : Int) (hb : ∀ x ∈ L, lo ≤ x ∧ x ≤ hi) (i : Nat) (h1 : i < L.length) :
    ∃ y, W.cell? ⟨B, i, none⟩ = some (.int .i64 y) ∧ lo ≤ y ∧ y ≤ hi := by
  subst hcs
  refine ⟨L[i], ?_, hb _ (List.getElem_mem h1)⟩
  rw [h.cell, List.getElem?_toArray]
  unfold ints
  rw [List.getElem?_map, List.getElem?_eq_getElem h1]; rfl
theorem atF_bd (l : List Int) (i m : Int) (hm : 0 < m) : 0 ≤ atF l i m ∧ atF l i m < m := by
  unfold atF
  split
  · omega
  · split
    · exact around_bd _ _ hm
    · omega

set_option maxRecDepth 100000 in
set_option maxHeartbeats 1600000 in
theorem list_any (v1 : Value) (xs : List Int) (w : World) (h1 : RdI w v1 xs) (hxs : ∀ x, x ∈ xs → -9223372036854775808 ≤ x ∧ x ≤ 9223372036854775807) :
    Calls Tryd.prog 13 #[v1] w fun e w' => ∃ v, e = .returned v ∧ ∃ L, w'.ownsRow w.heap.size 68 2 v L.length (prs L) ∧ nrm L = true ∧ L.length ≤ 12 ∧ Below w.heap.size w w' := by
  have b1 := (Below.refl w.heap.size w).alloc (Nat.le_refl _) (.cells #[.int .i64 0, .int .i64 8, .int .i64 95, .int .i64 0] 3)
  have AT := at_any v1 xs 0 4 (w.alloc (.cells #[.int .i64 0, .int .i64 8, .int .i64 95, .int .i64 0] 3)) (h1.below b1) hxs (by omega) (by omega) (by omega) (by omega)
  have bx := Boxs.new w 3 #[.int .i64 0, .int .i64 8, .int .i64 95, .int .i64 0]
  have hs0 : (w.alloc (.cells #[.int .i64 0, .int .i64 8, .int .i64 95, .int .i64 0] 3)).heap.size = w.heap.size + 1 := by simp
  have HB1 := Lib.hid b1; have HBX := Lib.hid bx
  obtain ⟨m, hm, hm4⟩ : ∃ m : Nat, atF xs 0 4 = m ∧ m < 4 := ⟨(atF xs 0 4).toNat, by have := atF_bd xs 0 4 (by omega); omega, by have := atF_bd xs 0 4 (by omega); omega⟩
  rw [hm] at AT
  clear b1 bx hm
  have hR := h1
  obtain ⟨a1, c1, rfl, l1, f1⟩ := h1.open
  have HR := Lib.hid hR; have F1 := Lib.hid f1
  clear h1 hR f1
  obtain ⟨i0, hi0, hz0, hz1, hz2⟩ := info_parts Tryd.info68
  have HI := Lib.hid hi0; have HZ0 := Lib.hid hz0; have HZ1 := Lib.hid hz1; have HZ2 := Lib.hid hz2
  clear hi0 hz0 hz1 hz2
  go_enter Tryd.func13, Tryd.ntmps13
  go_wp2_with fail
  refine AT.mono ?_
  rintro e w1 ⟨rfl, hb⟩
  obtain ⟨y, hy, hy0, hy1⟩ := tbl_at (HBX.out.below hb (by omega)) (L := [0, 8, 95, 0]) rfl 0 95 (by decide) m hm4
  have hm0 : (m : Int) < 4 := by omega
  have HB2 := Lib.hid (HB1.out.trans (hb.mono (by omega)))
  clear hb
  go_wp2_with fail
  go_loopw [3, 4, 5] (fun v av iv wr => ∃ (k : Nat) (L : List Sp) (at' : Int), 1 ≤ k ∧ k ≤ 13 ∧ k ≤ xs.length + 1 ∧ iv = .int .i64 k ∧ av = .int .i64 at' ∧ 1 ≤ at' ∧ at' ≤ 1100 ∧ nrm L = true ∧ (match lastTo none L with | none => True | some q => q + 2 ≤ at') ∧ L.length < k ∧ wr.ownsRow w.heap.size 68 2 v L.length (prs L) ∧ Below w.heap.size w wr) (fun _ _ iv _ => 14 - (intOf iv).toNat)
  case atStart => exact ⟨1, [], 1 + y, by omega, by omega, by omega, rfl, rfl, by omega, by omega, rfl, trivial, by simp, World.ownsRow_nil _ _ _ _, HB2.out⟩
  case round =>
    obtain ⟨k, L, at', hk1, hk13, hkx, rfl, rfl, ha1, ha2, hn, hlast, hLk, hown, hbl⟩ := hrel
    have HN := Lib.hid hn; have HLA := Lib.hid hlast; have HO := Lib.hid hown; have HBL := Lib.hid hbl
    obtain ⟨aa, cc, rfl⟩ := owns_slice hown
    clear hn hlast hown
    have ha2' : at' ≤ 1100 := ha2
    by_cases hlt : k < xs.length ∧ k < 13
    · obtain ⟨hg1, hg2⟩ := hlt
      obtain ⟨x, hx⟩ := elem_at hg1
      obtain ⟨b1, o1, rfl, hb1, q0⟩ := F1.out _ _ hx
      have g0 := (hbl.cell (p := ⟨b1, o1 + k, none⟩) hb1).trans q0
      have hxb := hxs x (List.mem_of_getElem? hx)
      obtain ⟨n, hn, hn240⟩ : ∃ n : Nat, around x 240 = n ∧ n < 240 := ⟨(around x 240).toNat, by have := around_bd x 240 (by omega); omega, by have := around_bd x 240 (by omega); omega⟩
      have AR := around_any x 240 wr hxb.1 hxb.2 (by omega) (by omega)
      rw [hn] at AR
      have hk1i : (k : Int) < (xs.length : Int) := by omega
      have hk2i : (k : Int) < 13 := by omega
      have hk0 : (0 : Int) ≤ (k : Int) := by omega
      have hbsz := hbl.size
      clear hx q0 hn hbl
      go_wp2_with fail
      refine AR.mono ?_
      rintro e w2 ⟨rfl, rfl⟩
      have bx1 := Boxs.new wr 3 #[.int .i64 0, .int .i64 0, .int .i64 0, .int .i64 1, .int .i64 2, .int .i64 40]
      obtain ⟨y1, hy1, hy10, hy11⟩ := tbl_at bx1 (L := [0, 0, 0, 1, 2, 40]) rfl 0 40 (by decide) (n % 6) (show n % 6 < 6 by omega)
      have bb1 := HBL.out.alloc hbsz (.cells #[.int .i64 0, .int .i64 0, .int .i64 0, .int .i64 1, .int .i64 2, .int .i64 40] 3)
      have hz1 : (wr.alloc (.cells #[.int .i64 0, .int .i64 0, .int .i64 0, .int .i64 1, .int .i64 2, .int .i64 40] 3)).heap.size = wr.heap.size + 1 := by simp
      have hO1 := HO.out.alloc (.cells #[.int .i64 0, .int .i64 0, .int .i64 0, .int .i64 1, .int .i64 2, .int .i64 40] 3)
      have hr6 : (n : Int).tmod 6 = ((n % 6 : Nat) : Int) := by rw [Int.tmod_eq_emod_of_nonneg (by omega)]; omega
      obtain ⟨m6, hm6⟩ : ∃ m6, n % 6 = m6 := ⟨_, rfl⟩
      rw [hm6] at hy1 hr6
      have hm6' : (m6 : Int) < 6 := by omega
      have bx2 := Boxs.new (wr.alloc (.cells #[.int .i64 0, .int .i64 0, .int .i64 0, .int .i64 1, .int .i64 2, .int .i64 40] 3)) 3 #[.int .i64 0, .int .i64 0, .int .i64 0, .int .i64 1, .int .i64 1, .int .i64 2, .int .i64 3, .int .i64 6, .int .i64 0, .int .i64 9]
      obtain ⟨y2, hy2, hy20, hy21⟩ := tbl_at bx2 (L := [0, 0, 0, 1, 1, 2, 3, 6, 0, 9]) rfl 0 9 (by decide) (n / 6 % 10) (show n / 6 % 10 < 10 by omega)
      rw [hz1] at hy2
      have hz2 : ((wr.alloc (.cells #[.int .i64 0, .int .i64 0, .int .i64 0, .int .i64 1, .int .i64 2, .int .i64 40] 3)).alloc (.cells #[.int .i64 0, .int .i64 0, .int .i64 0, .int .i64 1, .int .i64 1, .int .i64 2, .int .i64 3, .int .i64 6, .int .i64 0, .int .i64 9] 3)).heap.size = wr.heap.size + 2 := by simp
      have bb2 := bb1.alloc (by omega) (.cells #[.int .i64 0, .int .i64 0, .int .i64 0, .int .i64 1, .int .i64 1, .int .i64 2, .int .i64 3, .int .i64 6, .int .i64 0, .int .i64 9] 3)
      have hO2 := hO1.alloc (.cells #[.int .i64 0, .int .i64 0, .int .i64 0, .int .i64 1, .int .i64 1, .int .i64 2, .int .i64 3, .int .i64 6, .int .i64 0, .int .i64 9] 3)
      have HBB1 := Lib.hid bb2; have HO1 := Lib.hid hO2
      clear bx1 bx2 bb1 bb2 hO1 hO2 hm6
      by_cases hbig : 999 < at' + y1 + y2
      · clear g0
        go_wp2_with fail
        go_ret
        exact ⟨_, rfl, L, HO1.out, HN.out, by omega, HBB1.out⟩
      · have hbig' : at' + y1 + y2 ≤ 999 := by omega
        clear hbig
        have hn1 : nrm (L ++ [(at' + y1, at' + y1 + y2)]) = true := by
          have h9 := HLA.out
          unfold nrm
          rw [nrmG_snoc, show nrmG none L = true from HN.out, Bool.true_and, Bool.and_eq_true]
          refine ⟨by unfold rightS; simp; omega, ?_⟩
          cases hl : lastTo none L with
          | none => rfl
          | some q => rw [hl] at h9; simp only at h9 ⊢; simp; omega
        have hl1 : lastTo none (L ++ [(at' + y1, at' + y1 + y2)]) = some (at' + y1 + y2) := by unfold lastTo; simp
        have hnw := Lib.hid (show ∀ j u, [Value.int .i64 (at' + y1), .int .i64 (at' + y1 + y2)][j]? = some u → (((wr.alloc (.cells #[.int .i64 0, .int .i64 0, .int .i64 0, .int .i64 1, .int .i64 2, .int .i64 40] 3)).alloc (.cells #[.int .i64 0, .int .i64 0, .int .i64 0, .int .i64 1, .int .i64 1, .int .i64 2, .int .i64 3, .int .i64 6, .int .i64 0, .int .i64 9] 3)).alloc (.cells #[.int .i64 (at' + y1), .int .i64 (at' + y1 + y2)] 68)).cell? ((⟨wr.heap.size + 2, 0, none⟩ : Addr).add j) = some u by rw [← hz2]; exact World.news_of_block (cs := #[.int .i64 (at' + y1), .int .i64 (at' + y1 + y2)]) (t := 68) (fr := (0, 0)) (heap_alloc_new _ _))
        have HN1 := Lib.hid hn1; have HL1 := Lib.hid hl1
        clear hn1 hl1 g0
        go_wp2_with (at_builtin; refine wpList_append_lies _ rfl _ _ _ rfl w.heap.size 68 i0 _ 2 16 Tryd.underlying28 HI.out HZ0.out HZ1.out HZ2.out rfl (by omega) _ L.length (prs L) rfl (HO1.out.alloc _) ⟨wr.heap.size + 2, 0, none⟩ 1 1 [.int .i64 (at' + y1), .int .i64 (at' + y1 + y2)] rfl rfl hnw.out (by simp [Value.oneCell']) (by omega) (by unfold maxLen; omega) (by omega) (by simp; omega) (wr.heap.size + 3) (by simp) ?_; intro gg cap2 w3 hown1 hgrow hat hltg)
        have HO2 := Lib.hid hown1
        have HB5 := Lib.hid ((HBB1.out.alloc (by omega) _).grown hgrow (by simp; omega) (fun j e => (HO1.out.lt j e).1))
        clear hown1 hgrow hat hltg
        go_wp2_with fail
        go_roundw
        case rel => exact ⟨k + 1, L ++ [(at' + y1, at' + y1 + y2)], at' + y1 + y2 + 2, by omega, by omega, by omega, by go_num, rfl, by omega, by omega, HN1.out, by rw [HL1.out]; exact Int.le_refl _, by simp; omega, by rw [prs_snoc, show (L ++ [(at' + y1, at' + y1 + y2)]).length = L.length + 1 by simp]; exact HO2.out, HB5.out⟩
        case measure => simp [intOf]; omega
    · by_cases hg1 : k < xs.length
      · have hk2i : ¬ (k : Int) < 13 := by omega
        have hk1i : (k : Int) < (xs.length : Int) := by omega
        have HBL2 := Lib.hid hbl
        clear hlt hbl
        go_wp2_with fail
        go_ret
        exact ⟨_, rfl, L, HO.out, HN.out, by omega, HBL2.out⟩
      · have hk1i : ¬ (k : Int) < (xs.length : Int) := by omega
        have HBL2 := Lib.hid hbl
        clear hlt hbl
        go_wp2_with fail
        go_ret
        exact ⟨_, rfl, L, HO.out, HN.out, by omega, HBL2.out⟩
end Go.Proofs.YtecdkpcapalifaaDoor

