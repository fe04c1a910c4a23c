/- Check (program): the whole. Check (reference). Check, both, for every style; the lists of Unique are short and small. -/
import Derived.Test.YtecdkpcapalifaaDoorM16
set_option linter.unusedVariables false
namespace Go.Proofs.YtecdkpcapalifaaDoor
open Go.RowKit Go.Maps

def chkB (s : Sty) (most : Int) (a b : List Sp) : Bool := lateS most a || lateS most b || decide (a = b) || !decide (formL s a = formL s b)
def chkE (s : Sty) (most : Int) (a b : List Sp) : Int := if chkB s most a b = true then 17 else 0
structure ChkW (W : World) (A Bm : Nat) (s : Sty) (most : Int) (va : Value) (a : List Sp) (vb : Value) (b : List Sp) : Prop where
  sty : StyB W A s
  lt : Bm < W.heap.size
  most : Boxs W Bm 3 #[.int .i64 most]
  ra : RdP W va a
  rb : RdP W vb b
theorem ChkW.below {W W' : World} {A Bm : Nat} {s : Sty} {most : Int} {va : Value} {a : List Sp} {vb : Value} {b : List Sp} (h : ChkW W A Bm s most va a vb b) (hb : Below W.heap.size W W') : ChkW W' A Bm s most va a vb b :=
  ⟨h.sty.below hb, Nat.lt_of_lt_of_le h.lt hb.size, h.most.below hb h.lt, h.ra.below hb, h.rb.below hb⟩
theorem ChkW.dn {W : World} {A Bm : Nat} {s : Sty} {most : Int} {va : Value} {a : List Sp} {vb : Value} {b : List Sp} (h : ChkW W A Bm s most va a vb b) : ChkW (W.drewN 1) A Bm s most va a vb b := h.below (Below.dn (Below.refl _ _) 1)
theorem chk_17 {s : Sty} {most : Int} {a b : List Sp} (h : chkB s most a b = true) : chkE s most a b = 17 := if_pos h
theorem chk_0 {s : Sty} {most : Int} {a b : List Sp} (h : chkB s most a b = false) : chkE s most a b = 0 := by unfold chkE; rw [h]; rfl

set_option maxRecDepth 100000 in
set_option maxHeartbeats 4000000 in
theorem check_bad (s : Sty) (most : Int) (va vb : Value) (a b : List Sp) (w : World) (ha : RdP w va a) (hb : RdP w vb b) (hla : a.length ≤ 1000) (hlb : b.length ≤ 1000) (hs : ¬ okSty s) :
    Calls Tryd.prog 32 #[styV s, .int .i64 most, va, vb] w fun e w' => e = .returned (.int .i64 1) ∧ Below w.heap.size w w' := by
  obtain ⟨k1, nx1, row1, pas1⟩ := s
  have VA := valid_any k1 row1 pas1 nx1 ((w.alloc (.cells #[.int .i64 k1, .bool nx1, .int .i64 row1, .int .i64 pas1] 36)).alloc (.cells #[.int .i64 most] 3))
  have hV : validS k1 row1 pas1 = 1 := by
    rcases validS_01 k1 row1 pas1 with h | h
    · exact absurd ((okSty_valid ⟨k1, nx1, row1, pas1⟩).1 h) hs
    · exact h
  rw [hV] at VA
  have hb0 := ((Below.refl w.heap.size w).alloc (Nat.le_refl _) (.cells #[.int .i64 k1, .bool nx1, .int .i64 row1, .int .i64 pas1] 36)).alloc (by simp) (.cells #[.int .i64 most] 3)
  have hs0 := styB_new w 36 k1 row1 pas1 nx1
  have hy0 := Boxs.new (w.alloc (.cells #[.int .i64 k1, .bool nx1, .int .i64 row1, .int .i64 pas1] 36)) 3 #[.int .i64 most]
  rw [World.size_alloc] at hy0
  have HB := Lib.hid hb0
  have HW := Lib.hid (show ChkW ((w.alloc (.cells #[.int .i64 k1, .bool nx1, .int .i64 row1, .int .i64 pas1] 36)).alloc (.cells #[.int .i64 most] 3)) w.heap.size (w.heap.size + 1) ⟨k1, nx1, row1, pas1⟩ most va a vb b from
    ⟨hs0.below ((Below.refl _ _).alloc (Nat.le_refl _) _), by simp, hy0, ha.below hb0, hb.below hb0⟩)
  obtain ⟨pa, ca, hva⟩ := ha.form
  obtain ⟨pb, cb, hvb⟩ := hb.form
  subst hva hvb
  clear hb0 hs0 hy0 ha hb
  show Calls Tryd.prog 32 #[.agg #[.int .i64 k1, .bool nx1, .int .i64 row1, .int .i64 pas1], .int .i64 most, _, _] w _
  go_enter Tryd.func32, Tryd.ntmps32
  go_wp2_with fail
  refine VA.mono ?_
  rintro e w1 ⟨rfl, hb1⟩
  have HB1 := Lib.hid (HB.out.trans (hb1.mono (by simp; omega)))
  have HW1 := Lib.hid (HW.out.below hb1)
  clear VA hb1 HB HW
  clear hV hs
  go_wp2_with fail
  go_ret
  exact ⟨rfl, HB1.out⟩

set_option maxRecDepth 100000 in
set_option maxHeartbeats 4000000 in
theorem check_range (s : Sty) (most : Int) (va vb : Value) (a b : List Sp) (w : World) (ha : RdP w va a) (hb : RdP w vb b) (hla : a.length ≤ 1000) (hlb : b.length ≤ 1000) (hs : okSty s) (hm : most < 1 ∨ 999 < most) :
    Calls Tryd.prog 32 #[styV s, .int .i64 most, va, vb] w fun e w' => e = .returned (.int .i64 5) ∧ Below w.heap.size w w' := by
  obtain ⟨k1, nx1, row1, pas1⟩ := s
  have VA := valid_any k1 row1 pas1 nx1 ((w.alloc (.cells #[.int .i64 k1, .bool nx1, .int .i64 row1, .int .i64 pas1] 36)).alloc (.cells #[.int .i64 most] 3))
  have hV : validS k1 row1 pas1 = 0 := (okSty_valid ⟨k1, nx1, row1, pas1⟩).2 hs
  rw [hV] at VA
  have hb0 := ((Below.refl w.heap.size w).alloc (Nat.le_refl _) (.cells #[.int .i64 k1, .bool nx1, .int .i64 row1, .int .i64 pas1] 36)).alloc (by simp) (.cells #[.int .i64 most] 3)
  have hs0 := styB_new w 36 k1 row1 pas1 nx1
  have hy0 := Boxs.new (w.alloc (.cells #[.int .i64 k1, .bool nx1, .int .i64 row1, .int .i64 pas1] 36)) 3 #[.int .i64 most]
  rw [World.size_alloc] at hy0
  have HB := Lib.hid hb0
  have HW := Lib.hid (show ChkW ((w.alloc (.cells #[.int .i64 k1, .bool nx1, .int .i64 row1, .int .i64 pas1] 36)).alloc (.cells #[.int .i64 most] 3)) w.heap.size (w.heap.size + 1) ⟨k1, nx1, row1, pas1⟩ most va a vb b from
    ⟨hs0.below ((Below.refl _ _).alloc (Nat.le_refl _) _), by simp, hy0, ha.below hb0, hb.below hb0⟩)
  obtain ⟨pa, ca, hva⟩ := ha.form
  obtain ⟨pb, cb, hvb⟩ := hb.form
  subst hva hvb
  clear hb0 hs0 hy0 ha hb
  show Calls Tryd.prog 32 #[.agg #[.int .i64 k1, .bool nx1, .int .i64 row1, .int .i64 pas1], .int .i64 most, _, _] w _
  go_enter Tryd.func32, Tryd.ntmps32
  go_wp2_with fail
  refine VA.mono ?_
  rintro e w1 ⟨rfl, hb1⟩
  have HB1 := Lib.hid (HB.out.trans (hb1.mono (by simp; omega)))
  have HW1 := Lib.hid (HW.out.below hb1)
  clear VA hb1 HB HW
  clear hV hs
  have m0 := HW1.out.most.cell 0
  simp at m0
  rcases hm with hm | hm
  · go_wp2_with fail
    go_ret
    exact ⟨rfl, HB1.out⟩
  · have hm1 : ¬ most < 1 := by omega
    go_wp2_with fail
    go_ret
    exact ⟨rfl, HB1.out⟩

set_option maxRecDepth 100000 in
set_option maxHeartbeats 4000000 in
theorem check_ok (s : Sty) (most : Int) (va vb : Value) (a b : List Sp) (w : World) (ha : RdP w va a) (hb : RdP w vb b) (hla : a.length ≤ 1000) (hlb : b.length ≤ 1000) (hs : okSty s) (hm1 : 1 ≤ most) (hm2 : most ≤ 999) :
    Calls Tryd.prog 32 #[styV s, .int .i64 most, va, vb] w fun e w' => e = .returned (.int .i64 (chkE s most a b)) ∧ Below w.heap.size w w' := by
  obtain ⟨k1, nx1, row1, pas1⟩ := s
  have VA := valid_any k1 row1 pas1 nx1 ((w.alloc (.cells #[.int .i64 k1, .bool nx1, .int .i64 row1, .int .i64 pas1] 36)).alloc (.cells #[.int .i64 most] 3))
  have hV : validS k1 row1 pas1 = 0 := (okSty_valid ⟨k1, nx1, row1, pas1⟩).2 hs
  rw [hV] at VA
  have hb0 := ((Below.refl w.heap.size w).alloc (Nat.le_refl _) (.cells #[.int .i64 k1, .bool nx1, .int .i64 row1, .int .i64 pas1] 36)).alloc (by simp) (.cells #[.int .i64 most] 3)
  have hs0 := styB_new w 36 k1 row1 pas1 nx1
  have hy0 := Boxs.new (w.alloc (.cells #[.int .i64 k1, .bool nx1, .int .i64 row1, .int .i64 pas1] 36)) 3 #[.int .i64 most]
  rw [World.size_alloc] at hy0
  have HB := Lib.hid hb0
  have HW := Lib.hid (show ChkW ((w.alloc (.cells #[.int .i64 k1, .bool nx1, .int .i64 row1, .int .i64 pas1] 36)).alloc (.cells #[.int .i64 most] 3)) w.heap.size (w.heap.size + 1) ⟨k1, nx1, row1, pas1⟩ most va a vb b from
    ⟨hs0.below ((Below.refl _ _).alloc (Nat.le_refl _) _), by simp, hy0, ha.below hb0, hb.below hb0⟩)
  obtain ⟨pa, ca, hva⟩ := ha.form
  obtain ⟨pb, cb, hvb⟩ := hb.form
  subst hva hvb
  clear hb0 hs0 hy0 ha hb
  show Calls Tryd.prog 32 #[.agg #[.int .i64 k1, .bool nx1, .int .i64 row1, .int .i64 pas1], .int .i64 most, _, _] w _
  have hVV := hV
  go_enter Tryd.func32, Tryd.ntmps32
  go_wp2_with fail
  refine VA.mono ?_
  rintro e w1 ⟨rfl, hb1⟩
  have HB1 := Lib.hid (HB.out.trans (hb1.mono (by simp; omega)))
  have HW1 := Lib.hid (HW.out.below hb1)
  clear VA hb1 HB HW
  clear hV hVV
  have m0 := HW1.out.most.cell 0
  simp at m0
  have hmi : ¬ most < 1 := by omega
  have SB : ∀ {W W' : World}, ChkW W w.heap.size (w.heap.size + 1) ⟨k1, nx1, row1, pas1⟩ most (.slice pa a.length ca) a (.slice pb b.length cb) b → Below W.heap.size W W' → ChkW W' w.heap.size (w.heap.size + 1) ⟨k1, nx1, row1, pas1⟩ most (.slice pa a.length ca) a (.slice pb b.length cb) b := fun h hb => h.below hb
  have G1 := Lib.hid HW1.out.dn
  have HBD := Lib.hid (Below.dn HB1.out 1)
  have LA := late_any _ a _ most (w1.drewN 1) G1.out.ra hla G1.out.most
  cases hlav : lateS most a
  · rw [hlav] at LA
    have hna : nrm a = true := by
      unfold lateS at hlav
      cases hn : nrm a
      · rw [hn] at hlav; cases hlav
      · rfl
    cases hlbv : lateS most b
    · have hnb : nrm b = true := by
        unfold lateS at hlbv
        cases hn : nrm b
        · rw [hn] at hlbv; cases hlbv
        · rfl
      by_cases hab : a = b
      · have heq : decide (a = b) = true := decide_eq_true hab
        have hE : chkE ⟨k1, nx1, row1, pas1⟩ most a b = 17 := chk_17 (by unfold chkB; rw [hlav, hlbv, heq]; rfl)
        have HE := Lib.hid hE
        clear hE hab
        go_wp2_with fail
        refine wp_region_held (S := fun W => ChkW W w.heap.size (w.heap.size + 1) ⟨k1, nx1, row1, pas1⟩ most (.slice pa a.length ca) a (.slice pb b.length cb) b) (by kernel_rfl) ?_
        have hdr : (w1).drew = { w1 with drawn := (w1).drawn + 1 } := rfl
        rw [← hdr]
        clear hdr
        refine wpAnyHTake 0 (some 23) (.func (.func 55) #[] #[.pointer (some ⟨w.heap.size + 1, 0, none⟩)]) rfl rfl (by kernel_rfl) (by kernel_rfl) (by kernel_rfl) (fun _ _ _ h => h) (by rfl) (fun _ _ => by rfl) (G1.out) ?_
        simp only [Act.put, List.setIfInBounds_toArray, List.set_cons_zero, List.set_cons_succ]
        refine wpAnyHTake 1 (some 24) (.slice pa a.length ca) rfl rfl (by kernel_rfl) (by kernel_rfl) (by kernel_rfl) (fun _ _ _ h => h) (by rfl) (fun _ _ => by rfl) (G1.out) ?_
        simp only [Act.put, List.setIfInBounds_toArray, List.set_cons_zero, List.set_cons_succ]
        refine wpAnyHCall 2 (some 25) 55 #[.slice pa a.length ca, .pointer (some ⟨w.heap.size + 1, 0, none⟩)] (by kernel_rfl) rfl rfl (by rfl) (by go_simp) (LA) ?_
        rintro e xc2 ⟨rfl, hb9⟩
        have G2 := Lib.hid (SB G1.out hb9)
        have HBD := Lib.hid (HBD.out.trans (hb9.mono HBD.out.size))
        have LB := late_any _ b _ most xc2 G2.out.rb hlb G2.out.most
        rw [hlbv] at LB
        clear hb9 LA
        refine ⟨_, rfl, G2.out, ?_⟩
        simp only [Act.put, List.setIfInBounds_toArray, List.set_cons_zero, List.set_cons_succ]
        refine wpAnyHTake 3 (some 26) (.bool false) rfl rfl (by kernel_rfl) (by kernel_rfl) (by kernel_rfl) (fun _ _ _ h => h) (by rfl) (fun _ _ => by rfl) (G2.out) ?_
        simp only [Act.put, List.setIfInBounds_toArray, List.set_cons_zero, List.set_cons_succ]
        refine wpAnyHTake 4 (some 27) (.func (.func 55) #[] #[.pointer (some ⟨w.heap.size + 1, 0, none⟩)]) rfl rfl (by kernel_rfl) (by kernel_rfl) (by kernel_rfl) (fun _ _ _ h => h) (by rfl) (fun _ _ => by rfl) (G2.out) ?_
        simp only [Act.put, List.setIfInBounds_toArray, List.set_cons_zero, List.set_cons_succ]
        refine wpAnyHTake 5 (some 28) (.slice pb b.length cb) rfl rfl (by kernel_rfl) (by kernel_rfl) (by kernel_rfl) (fun _ _ _ h => h) (by rfl) (fun _ _ => by rfl) (G2.out) ?_
        simp only [Act.put, List.setIfInBounds_toArray, List.set_cons_zero, List.set_cons_succ]
        refine wpAnyHCall 6 (some 29) 55 #[.slice pb b.length cb, .pointer (some ⟨w.heap.size + 1, 0, none⟩)] (by kernel_rfl) rfl rfl (by rfl) (by go_simp) (LB) ?_
        rintro e xc3 ⟨rfl, hb9⟩
        have G3 := Lib.hid (SB G2.out hb9)
        have HBD := Lib.hid (HBD.out.trans (hb9.mono HBD.out.size))
        have EQ := equal_any _ _ a b xc3 G3.out.ra G3.out.rb
        rw [heq] at EQ
        clear hb9 LB
        refine ⟨_, rfl, G3.out, ?_⟩
        simp only [Act.put, List.setIfInBounds_toArray, List.set_cons_zero, List.set_cons_succ]
        refine wpAnyHTake 7 (some 30) (.bool false) rfl rfl (by kernel_rfl) (by kernel_rfl) (by kernel_rfl) (fun _ _ _ h => h) (by rfl) (fun _ _ => by go_simp) (G3.out) ?_
        simp only [Act.put, List.setIfInBounds_toArray, List.set_cons_zero, List.set_cons_succ]
        refine wpAnyHTake 8 (some 31) (.bool false) rfl rfl (by kernel_rfl) (by kernel_rfl) (by kernel_rfl) (fun _ _ _ h => h) (by rfl) (fun _ _ => by rfl) (G3.out) ?_
        simp only [Act.put, List.setIfInBounds_toArray, List.set_cons_zero, List.set_cons_succ]
        refine wpAnyHTake 9 (some 32) (.slice pa a.length ca) rfl rfl (by kernel_rfl) (by kernel_rfl) (by kernel_rfl) (fun _ _ _ h => h) (by rfl) (fun _ _ => by rfl) (G3.out) ?_
        simp only [Act.put, List.setIfInBounds_toArray, List.set_cons_zero, List.set_cons_succ]
        refine wpAnyHTake 10 (some 33) (.slice pb b.length cb) rfl rfl (by kernel_rfl) (by kernel_rfl) (by kernel_rfl) (fun _ _ _ h => h) (by rfl) (fun _ _ => by rfl) (G3.out) ?_
        simp only [Act.put, List.setIfInBounds_toArray, List.set_cons_zero, List.set_cons_succ]
        refine wpAnyHCall 11 (some 34) 43 #[.slice pa a.length ca, .slice pb b.length cb] (by kernel_rfl) rfl rfl (by rfl) (by go_simp) (EQ) ?_
        rintro e xc4 ⟨rfl, hb9⟩
        have G4 := Lib.hid (SB G3.out hb9)
        have HBD := Lib.hid (HBD.out.trans (hb9.mono HBD.out.size))
        clear hb9 EQ
        refine ⟨_, rfl, G4.out, ?_⟩
        simp only [Act.put, List.setIfInBounds_toArray, List.set_cons_zero, List.set_cons_succ]
        refine wpAnyHTake 12 (some 35) (.bool true) rfl rfl (by kernel_rfl) (by kernel_rfl) (by kernel_rfl) (fun _ _ _ h => h) (by rfl) (fun _ _ => by go_simp) (G4.out) ?_
        simp only [Act.put, List.setIfInBounds_toArray, List.set_cons_zero, List.set_cons_succ]
        refine wpAnyHTake 13 (some 36) (.bool true) rfl rfl (by kernel_rfl) (by kernel_rfl) (by kernel_rfl) (fun _ _ _ h => h) (by rfl) (fun _ _ => by rfl) (G4.out) ?_
        simp only [Act.put, List.setIfInBounds_toArray, List.set_cons_zero, List.set_cons_succ]
        refine wpAnyHPass 14 (some 37) rfl rfl (by kernel_rfl) (by kernel_rfl) (by kernel_rfl) (fun _ _ _ h => h) (by rfl) (G4.out) ?_
        simp only [Act.put, List.setIfInBounds_toArray, List.set_cons_zero, List.set_cons_succ]
        refine wpAnyHPass 15 (some 38) rfl rfl (by kernel_rfl) (by kernel_rfl) (by kernel_rfl) (fun _ _ _ h => h) (by rfl) (G4.out) ?_
        simp only [Act.put, List.setIfInBounds_toArray, List.set_cons_zero, List.set_cons_succ]
        refine wpAnyHPass 16 (some 39) rfl rfl (by kernel_rfl) (by kernel_rfl) (by kernel_rfl) (fun _ _ _ h => h) (by rfl) (G4.out) ?_
        simp only [Act.put, List.setIfInBounds_toArray, List.set_cons_zero, List.set_cons_succ]
        refine wpAnyHPass 17 (some 40) rfl rfl (by kernel_rfl) (by kernel_rfl) (by kernel_rfl) (fun _ _ _ h => h) (by rfl) (G4.out) ?_
        simp only [Act.put, List.setIfInBounds_toArray, List.set_cons_zero, List.set_cons_succ]
        refine wpAnyHPass 18 (some 41) rfl rfl (by kernel_rfl) (by kernel_rfl) (by kernel_rfl) (fun _ _ _ h => h) (by rfl) (G4.out) ?_
        simp only [Act.put, List.setIfInBounds_toArray, List.set_cons_zero, List.set_cons_succ]
        refine wpAnyHPass 19 (some 42) rfl rfl (by kernel_rfl) (by kernel_rfl) (by kernel_rfl) (fun _ _ _ h => h) (by rfl) (G4.out) ?_
        simp only [Act.put, List.setIfInBounds_toArray, List.set_cons_zero, List.set_cons_succ]
        refine wpAnyHPass 20 (some 43) rfl rfl (by kernel_rfl) (by kernel_rfl) (by kernel_rfl) (fun _ _ _ h => h) (by rfl) (G4.out) ?_
        simp only [Act.put, List.setIfInBounds_toArray, List.set_cons_zero, List.set_cons_succ]
        refine wpAnyHTake 21 (some 44) (.bool true) rfl rfl (by kernel_rfl) (by kernel_rfl) (by kernel_rfl) (fun _ _ _ h => h) (by rfl) (fun _ _ => by go_simp) (G4.out) ?_
        simp only [Act.put, List.setIfInBounds_toArray, List.set_cons_zero, List.set_cons_succ]
        refine wpAnyH_done (by kernel_rfl) ?_ _
        go_wp2_with fail
        go_ret
        exact ⟨by rw [HE.out]; rfl, HBD.out⟩
      · have heq : decide (a = b) = false := decide_eq_false hab
        by_cases hf : formL ⟨k1, nx1, row1, pas1⟩ a = formL ⟨k1, nx1, row1, pas1⟩ b
        · have hfq : (bs (formL ⟨k1, nx1, row1, pas1⟩ a)).toList = (bs (formL ⟨k1, nx1, row1, pas1⟩ b)).toList := by rw [hf]
          have hE : chkE ⟨k1, nx1, row1, pas1⟩ most a b = 0 := chk_0 (by unfold chkB; rw [hlav, hlbv, heq, decide_eq_true hf]; rfl)
          have HE := Lib.hid hE
          clear hE hab hf
          go_wp2_with fail
          refine wp_region_held (S := fun W => ChkW W w.heap.size (w.heap.size + 1) ⟨k1, nx1, row1, pas1⟩ most (.slice pa a.length ca) a (.slice pb b.length cb) b) (by kernel_rfl) ?_
          have hdr : (w1).drew = { w1 with drawn := (w1).drawn + 1 } := rfl
          rw [← hdr]
          clear hdr
          refine wpAnyHTake 0 (some 23) (.func (.func 55) #[] #[.pointer (some ⟨w.heap.size + 1, 0, none⟩)]) rfl rfl (by kernel_rfl) (by kernel_rfl) (by kernel_rfl) (fun _ _ _ h => h) (by rfl) (fun _ _ => by rfl) (G1.out) ?_
          simp only [Act.put, List.setIfInBounds_toArray, List.set_cons_zero, List.set_cons_succ]
          refine wpAnyHTake 1 (some 24) (.slice pa a.length ca) rfl rfl (by kernel_rfl) (by kernel_rfl) (by kernel_rfl) (fun _ _ _ h => h) (by rfl) (fun _ _ => by rfl) (G1.out) ?_
          simp only [Act.put, List.setIfInBounds_toArray, List.set_cons_zero, List.set_cons_succ]
          refine wpAnyHCall 2 (some 25) 55 #[.slice pa a.length ca, .pointer (some ⟨w.heap.size + 1, 0, none⟩)] (by kernel_rfl) rfl rfl (by rfl) (by go_simp) (LA) ?_
          rintro e xc2 ⟨rfl, hb9⟩
          have G2 := Lib.hid (SB G1.out hb9)
          have HBD := Lib.hid (HBD.out.trans (hb9.mono HBD.out.size))
          have LB := late_any _ b _ most xc2 G2.out.rb hlb G2.out.most
          rw [hlbv] at LB
          clear hb9 LA
          refine ⟨_, rfl, G2.out, ?_⟩
          simp only [Act.put, List.setIfInBounds_toArray, List.set_cons_zero, List.set_cons_succ]
          refine wpAnyHTake 3 (some 26) (.bool false) rfl rfl (by kernel_rfl) (by kernel_rfl) (by kernel_rfl) (fun _ _ _ h => h) (by rfl) (fun _ _ => by rfl) (G2.out) ?_
          simp only [Act.put, List.setIfInBounds_toArray, List.set_cons_zero, List.set_cons_succ]
          refine wpAnyHTake 4 (some 27) (.func (.func 55) #[] #[.pointer (some ⟨w.heap.size + 1, 0, none⟩)]) rfl rfl (by kernel_rfl) (by kernel_rfl) (by kernel_rfl) (fun _ _ _ h => h) (by rfl) (fun _ _ => by rfl) (G2.out) ?_
          simp only [Act.put, List.setIfInBounds_toArray, List.set_cons_zero, List.set_cons_succ]
          refine wpAnyHTake 5 (some 28) (.slice pb b.length cb) rfl rfl (by kernel_rfl) (by kernel_rfl) (by kernel_rfl) (fun _ _ _ h => h) (by rfl) (fun _ _ => by rfl) (G2.out) ?_
          simp only [Act.put, List.setIfInBounds_toArray, List.set_cons_zero, List.set_cons_succ]
          refine wpAnyHCall 6 (some 29) 55 #[.slice pb b.length cb, .pointer (some ⟨w.heap.size + 1, 0, none⟩)] (by kernel_rfl) rfl rfl (by rfl) (by go_simp) (LB) ?_
          rintro e xc3 ⟨rfl, hb9⟩
          have G3 := Lib.hid (SB G2.out hb9)
          have HBD := Lib.hid (HBD.out.trans (hb9.mono HBD.out.size))
          have EQ := equal_any _ _ a b xc3 G3.out.ra G3.out.rb
          rw [heq] at EQ
          clear hb9 LB
          refine ⟨_, rfl, G3.out, ?_⟩
          simp only [Act.put, List.setIfInBounds_toArray, List.set_cons_zero, List.set_cons_succ]
          refine wpAnyHTake 7 (some 30) (.bool false) rfl rfl (by kernel_rfl) (by kernel_rfl) (by kernel_rfl) (fun _ _ _ h => h) (by rfl) (fun _ _ => by go_simp) (G3.out) ?_
          simp only [Act.put, List.setIfInBounds_toArray, List.set_cons_zero, List.set_cons_succ]
          refine wpAnyHTake 8 (some 31) (.bool false) rfl rfl (by kernel_rfl) (by kernel_rfl) (by kernel_rfl) (fun _ _ _ h => h) (by rfl) (fun _ _ => by rfl) (G3.out) ?_
          simp only [Act.put, List.setIfInBounds_toArray, List.set_cons_zero, List.set_cons_succ]
          refine wpAnyHTake 9 (some 32) (.slice pa a.length ca) rfl rfl (by kernel_rfl) (by kernel_rfl) (by kernel_rfl) (fun _ _ _ h => h) (by rfl) (fun _ _ => by rfl) (G3.out) ?_
          simp only [Act.put, List.setIfInBounds_toArray, List.set_cons_zero, List.set_cons_succ]
          refine wpAnyHTake 10 (some 33) (.slice pb b.length cb) rfl rfl (by kernel_rfl) (by kernel_rfl) (by kernel_rfl) (fun _ _ _ h => h) (by rfl) (fun _ _ => by rfl) (G3.out) ?_
          simp only [Act.put, List.setIfInBounds_toArray, List.set_cons_zero, List.set_cons_succ]
          refine wpAnyHCall 11 (some 34) 43 #[.slice pa a.length ca, .slice pb b.length cb] (by kernel_rfl) rfl rfl (by rfl) (by go_simp) (EQ) ?_
          rintro e xc4 ⟨rfl, hb9⟩
          have G4 := Lib.hid (SB G3.out hb9)
          have HBD := Lib.hid (HBD.out.trans (hb9.mono HBD.out.size))
          have FA := form_any ⟨k1, nx1, row1, pas1⟩ _ a xc4 G4.out.ra hs (by omega) (nrm_bd hna)
          clear hb9 EQ
          refine ⟨_, rfl, G4.out, ?_⟩
          simp only [Act.put, List.setIfInBounds_toArray, List.set_cons_zero, List.set_cons_succ]
          refine wpAnyHTake 12 (some 35) (.bool false) rfl rfl (by kernel_rfl) (by kernel_rfl) (by kernel_rfl) (fun _ _ _ h => h) (by rfl) (fun _ _ => by go_simp) (G4.out) ?_
          simp only [Act.put, List.setIfInBounds_toArray, List.set_cons_zero, List.set_cons_succ]
          refine wpAnyHTake 13 (some 36) (.bool false) rfl rfl (by kernel_rfl) (by kernel_rfl) (by kernel_rfl) (fun _ _ _ h => h) (by rfl) (fun _ _ => by rfl) (G4.out) ?_
          simp only [Act.put, List.setIfInBounds_toArray, List.set_cons_zero, List.set_cons_succ]
          refine wpAnyHTake 14 (some 37) (.agg #[.int .i64 k1, .bool nx1, .int .i64 row1, .int .i64 pas1]) rfl rfl (by kernel_rfl) (by kernel_rfl) (by kernel_rfl) (fun _ _ _ h => h) (by rfl) (fun W hW => by obtain ⟨c0, c1, c2, c3⟩ := hW.sty.cells; go_simp) (G4.out) ?_
          simp only [Act.put, List.setIfInBounds_toArray, List.set_cons_zero, List.set_cons_succ]
          refine wpAnyHTake 15 (some 38) (.slice pa a.length ca) rfl rfl (by kernel_rfl) (by kernel_rfl) (by kernel_rfl) (fun _ _ _ h => h) (by rfl) (fun _ _ => by rfl) (G4.out) ?_
          simp only [Act.put, List.setIfInBounds_toArray, List.set_cons_zero, List.set_cons_succ]
          refine wpAnyHTake 17 (some 40) (.agg #[.int .i64 k1, .bool nx1, .int .i64 row1, .int .i64 pas1]) rfl rfl (by kernel_rfl) (by kernel_rfl) (by kernel_rfl) (fun _ _ _ h => h) (by rfl) (fun W hW => by obtain ⟨c0, c1, c2, c3⟩ := hW.sty.cells; go_simp) (G4.out) ?_
          simp only [Act.put, List.setIfInBounds_toArray, List.set_cons_zero, List.set_cons_succ]
          refine wpAnyHTake 18 (some 41) (.slice pb b.length cb) rfl rfl (by kernel_rfl) (by kernel_rfl) (by kernel_rfl) (fun _ _ _ h => h) (by rfl) (fun _ _ => by rfl) (G4.out) ?_
          simp only [Act.put, List.setIfInBounds_toArray, List.set_cons_zero, List.set_cons_succ]
          refine wpAnyHCall 16 (some 39) 42 #[.agg #[.int .i64 k1, .bool nx1, .int .i64 row1, .int .i64 pas1], .slice pa a.length ca] (by kernel_rfl) rfl rfl (by rfl) (by go_simp) (FA) ?_
          rintro e xc5 ⟨rfl, hb9⟩
          have G5 := Lib.hid (SB G4.out hb9)
          have HBD := Lib.hid (HBD.out.trans (hb9.mono HBD.out.size))
          have FB := form_any ⟨k1, nx1, row1, pas1⟩ _ b xc5 G5.out.rb hs (by omega) (nrm_bd hnb)
          clear hb9 FA
          refine ⟨_, rfl, G5.out, ?_⟩
          simp only [Act.put, List.setIfInBounds_toArray, List.set_cons_zero, List.set_cons_succ]
          refine wpAnyHCall 19 (some 42) 42 #[.agg #[.int .i64 k1, .bool nx1, .int .i64 row1, .int .i64 pas1], .slice pb b.length cb] (by kernel_rfl) rfl rfl (by rfl) (by go_simp) (FB) ?_
          rintro e xc6 ⟨rfl, hb9⟩
          have G6 := Lib.hid (SB G5.out hb9)
          have HBD := Lib.hid (HBD.out.trans (hb9.mono HBD.out.size))
          clear hb9 FB
          refine ⟨_, rfl, G6.out, ?_⟩
          simp only [Act.put, List.setIfInBounds_toArray, List.set_cons_zero, List.set_cons_succ]
          refine wpAnyHTake 20 (some 43) (.bool false) rfl rfl (by kernel_rfl) (by kernel_rfl) (by kernel_rfl) (fun _ _ _ h => h) (by rfl) (fun _ _ => by go_simp <;> first | exact hfq | simp [hfq]) (G6.out) ?_
          simp only [Act.put, List.setIfInBounds_toArray, List.set_cons_zero, List.set_cons_succ]
          refine wpAnyHTake 21 (some 44) (.bool false) rfl rfl (by kernel_rfl) (by kernel_rfl) (by kernel_rfl) (fun _ _ _ h => h) (by rfl) (fun _ _ => by go_simp) (G6.out) ?_
          simp only [Act.put, List.setIfInBounds_toArray, List.set_cons_zero, List.set_cons_succ]
          refine wpAnyH_done (by kernel_rfl) ?_ _
          go_wp2_with fail
          go_ret
          exact ⟨by rw [HE.out]; rfl, HBD.out⟩
        · have hfq : ¬ (bs (formL ⟨k1, nx1, row1, pas1⟩ a)).toList = (bs (formL ⟨k1, nx1, row1, pas1⟩ b)).toList := by rw [bs_toList, bs_toList]; exact hf
          have hE : chkE ⟨k1, nx1, row1, pas1⟩ most a b = 17 := chk_17 (by unfold chkB; rw [hlav, hlbv, heq, decide_eq_false hf]; rfl)
          have HE := Lib.hid hE
          clear hE hab hf
          go_wp2_with fail
          refine wp_region_held (S := fun W => ChkW W w.heap.size (w.heap.size + 1) ⟨k1, nx1, row1, pas1⟩ most (.slice pa a.length ca) a (.slice pb b.length cb) b) (by kernel_rfl) ?_
          have hdr : (w1).drew = { w1 with drawn := (w1).drawn + 1 } := rfl
          rw [← hdr]
          clear hdr
          refine wpAnyHTake 0 (some 23) (.func (.func 55) #[] #[.pointer (some ⟨w.heap.size + 1, 0, none⟩)]) rfl rfl (by kernel_rfl) (by kernel_rfl) (by kernel_rfl) (fun _ _ _ h => h) (by rfl) (fun _ _ => by rfl) (G1.out) ?_
          simp only [Act.put, List.setIfInBounds_toArray, List.set_cons_zero, List.set_cons_succ]
          refine wpAnyHTake 1 (some 24) (.slice pa a.length ca) rfl rfl (by kernel_rfl) (by kernel_rfl) (by kernel_rfl) (fun _ _ _ h => h) (by rfl) (fun _ _ => by rfl) (G1.out) ?_
          simp only [Act.put, List.setIfInBounds_toArray, List.set_cons_zero, List.set_cons_succ]
          refine wpAnyHCall 2 (some 25) 55 #[.slice pa a.length ca, .pointer (some ⟨w.heap.size + 1, 0, none⟩)] (by kernel_rfl) rfl rfl (by rfl) (by go_simp) (LA) ?_
          rintro e xc2 ⟨rfl, hb9⟩
          have G2 := Lib.hid (SB G1.out hb9)
          have HBD := Lib.hid (HBD.out.trans (hb9.mono HBD.out.size))
          have LB := late_any _ b _ most xc2 G2.out.rb hlb G2.out.most
          rw [hlbv] at LB
          clear hb9 LA
          refine ⟨_, rfl, G2.out, ?_⟩
          simp only [Act.put, List.setIfInBounds_toArray, List.set_cons_zero, List.set_cons_succ]
          refine wpAnyHTake 3 (some 26) (.bool false) rfl rfl (by kernel_rfl) (by kernel_rfl) (by kernel_rfl) (fun _ _ _ h => h) (by rfl) (fun _ _ => by rfl) (G2.out) ?_
          simp only [Act.put, List.setIfInBounds_toArray, List.set_cons_zero, List.set_cons_succ]
          refine wpAnyHTake 4 (some 27) (.func (.func 55) #[] #[.pointer (some ⟨w.heap.size + 1, 0, none⟩)]) rfl rfl (by kernel_rfl) (by kernel_rfl) (by kernel_rfl) (fun _ _ _ h => h) (by rfl) (fun _ _ => by rfl) (G2.out) ?_
          simp only [Act.put, List.setIfInBounds_toArray, List.set_cons_zero, List.set_cons_succ]
          refine wpAnyHTake 5 (some 28) (.slice pb b.length cb) rfl rfl (by kernel_rfl) (by kernel_rfl) (by kernel_rfl) (fun _ _ _ h => h) (by rfl) (fun _ _ => by rfl) (G2.out) ?_
          simp only [Act.put, List.setIfInBounds_toArray, List.set_cons_zero, List.set_cons_succ]
          refine wpAnyHCall 6 (some 29) 55 #[.slice pb b.length cb, .pointer (some ⟨w.heap.size + 1, 0, none⟩)] (by kernel_rfl) rfl rfl (by rfl) (by go_simp) (LB) ?_
          rintro e xc3 ⟨rfl, hb9⟩
          have G3 := Lib.hid (SB G2.out hb9)
          have HBD := Lib.hid (HBD.out.trans (hb9.mono HBD.out.size))
          have EQ := equal_any _ _ a b xc3 G3.out.ra G3.out.rb
          rw [heq] at EQ
          clear hb9 LB
          refine ⟨_, rfl, G3.out, ?_⟩
          simp only [Act.put, List.setIfInBounds_toArray, List.set_cons_zero, List.set_cons_succ]
          refine wpAnyHTake 7 (some 30) (.bool false) rfl rfl (by kernel_rfl) (by kernel_rfl) (by kernel_rfl) (fun _ _ _ h => h) (by rfl) (fun _ _ => by go_simp) (G3.out) ?_
          simp only [Act.put, List.setIfInBounds_toArray, List.set_cons_zero, List.set_cons_succ]
          refine wpAnyHTake 8 (some 31) (.bool false) rfl rfl (by kernel_rfl) (by kernel_rfl) (by kernel_rfl) (fun _ _ _ h => h) (by rfl) (fun _ _ => by rfl) (G3.out) ?_
          simp only [Act.put, List.setIfInBounds_toArray, List.set_cons_zero, List.set_cons_succ]
          refine wpAnyHTake 9 (some 32) (.slice pa a.length ca) rfl rfl (by kernel_rfl) (by kernel_rfl) (by kernel_rfl) (fun _ _ _ h => h) (by rfl) (fun _ _ => by rfl) (G3.out) ?_
          simp only [Act.put, List.setIfInBounds_toArray, List.set_cons_zero, List.set_cons_succ]
          refine wpAnyHTake 10 (some 33) (.slice pb b.length cb) rfl rfl (by kernel_rfl) (by kernel_rfl) (by kernel_rfl) (fun _ _ _ h => h) (by rfl) (fun _ _ => by rfl) (G3.out) ?_
          simp only [Act.put, List.setIfInBounds_toArray, List.set_cons_zero, List.set_cons_succ]
          refine wpAnyHCall 11 (some 34) 43 #[.slice pa a.length ca, .slice pb b.length cb] (by kernel_rfl) rfl rfl (by rfl) (by go_simp) (EQ) ?_
          rintro e xc4 ⟨rfl, hb9⟩
          have G4 := Lib.hid (SB G3.out hb9)
          have HBD := Lib.hid (HBD.out.trans (hb9.mono HBD.out.size))
          have FA := form_any ⟨k1, nx1, row1, pas1⟩ _ a xc4 G4.out.ra hs (by omega) (nrm_bd hna)
          clear hb9 EQ
          refine ⟨_, rfl, G4.out, ?_⟩
          simp only [Act.put, List.setIfInBounds_toArray, List.set_cons_zero, List.set_cons_succ]
          refine wpAnyHTake 12 (some 35) (.bool false) rfl rfl (by kernel_rfl) (by kernel_rfl) (by kernel_rfl) (fun _ _ _ h => h) (by rfl) (fun _ _ => by go_simp) (G4.out) ?_
          simp only [Act.put, List.setIfInBounds_toArray, List.set_cons_zero, List.set_cons_succ]
          refine wpAnyHTake 13 (some 36) (.bool false) rfl rfl (by kernel_rfl) (by kernel_rfl) (by kernel_rfl) (fun _ _ _ h => h) (by rfl) (fun _ _ => by rfl) (G4.out) ?_
          simp only [Act.put, List.setIfInBounds_toArray, List.set_cons_zero, List.set_cons_succ]
          refine wpAnyHTake 14 (some 37) (.agg #[.int .i64 k1, .bool nx1, .int .i64 row1, .int .i64 pas1]) rfl rfl (by kernel_rfl) (by kernel_rfl) (by kernel_rfl) (fun _ _ _ h => h) (by rfl) (fun W hW => by obtain ⟨c0, c1, c2, c3⟩ := hW.sty.cells; go_simp) (G4.out) ?_
          simp only [Act.put, List.setIfInBounds_toArray, List.set_cons_zero, List.set_cons_succ]
          refine wpAnyHTake 15 (some 38) (.slice pa a.length ca) rfl rfl (by kernel_rfl) (by kernel_rfl) (by kernel_rfl) (fun _ _ _ h => h) (by rfl) (fun _ _ => by rfl) (G4.out) ?_
          simp only [Act.put, List.setIfInBounds_toArray, List.set_cons_zero, List.set_cons_succ]
          refine wpAnyHTake 17 (some 40) (.agg #[.int .i64 k1, .bool nx1, .int .i64 row1, .int .i64 pas1]) rfl rfl (by kernel_rfl) (by kernel_rfl) (by kernel_rfl) (fun _ _ _ h => h) (by rfl) (fun W hW => by obtain ⟨c0, c1, c2, c3⟩ := hW.sty.cells; go_simp) (G4.out) ?_
          simp only [Act.put, List.setIfInBounds_toArray, List.set_cons_zero, List.set_cons_succ]
          refine wpAnyHTake 18 (some 41) (.slice pb b.length cb) rfl rfl (by kernel_rfl) (by kernel_rfl) (by kernel_rfl) (fun _ _ _ h => h) (by rfl) (fun _ _ => by rfl) (G4.out) ?_
          simp only [Act.put, List.setIfInBounds_toArray, List.set_cons_zero, List.set_cons_succ]
          refine wpAnyHCall 16 (some 39) 42 #[.agg #[.int .i64 k1, .bool nx1, .int .i64 row1, .int .i64 pas1], .slice pa a.length ca] (by kernel_rfl) rfl rfl (by rfl) (by go_simp) (FA) ?_
          rintro e xc5 ⟨rfl, hb9⟩
          have G5 := Lib.hid (SB G4.out hb9)
          have HBD := Lib.hid (HBD.out.trans (hb9.mono HBD.out.size))
          have FB := form_any ⟨k1, nx1, row1, pas1⟩ _ b xc5 G5.out.rb hs (by omega) (nrm_bd hnb)
          clear hb9 FA
          refine ⟨_, rfl, G5.out, ?_⟩
          simp only [Act.put, List.setIfInBounds_toArray, List.set_cons_zero, List.set_cons_succ]
          refine wpAnyHCall 19 (some 42) 42 #[.agg #[.int .i64 k1, .bool nx1, .int .i64 row1, .int .i64 pas1], .slice pb b.length cb] (by kernel_rfl) rfl rfl (by rfl) (by go_simp) (FB) ?_
          rintro e xc6 ⟨rfl, hb9⟩
          have G6 := Lib.hid (SB G5.out hb9)
          have HBD := Lib.hid (HBD.out.trans (hb9.mono HBD.out.size))
          clear hb9 FB
          refine ⟨_, rfl, G6.out, ?_⟩
          simp only [Act.put, List.setIfInBounds_toArray, List.set_cons_zero, List.set_cons_succ]
          refine wpAnyHTake 20 (some 43) (.bool true) rfl rfl (by kernel_rfl) (by kernel_rfl) (by kernel_rfl) (fun _ _ _ h => h) (by rfl) (fun _ _ => by go_simp <;> first | exact hfq | simp [hfq]) (G6.out) ?_
          simp only [Act.put, List.setIfInBounds_toArray, List.set_cons_zero, List.set_cons_succ]
          refine wpAnyHTake 21 (some 44) (.bool true) rfl rfl (by kernel_rfl) (by kernel_rfl) (by kernel_rfl) (fun _ _ _ h => h) (by rfl) (fun _ _ => by go_simp) (G6.out) ?_
          simp only [Act.put, List.setIfInBounds_toArray, List.set_cons_zero, List.set_cons_succ]
          refine wpAnyH_done (by kernel_rfl) ?_ _
          go_wp2_with fail
          go_ret
          exact ⟨by rw [HE.out]; rfl, HBD.out⟩
    · have hE : chkE ⟨k1, nx1, row1, pas1⟩ most a b = 17 := chk_17 (by unfold chkB; rw [hlav, hlbv]; rfl)
      have HE := Lib.hid hE
      clear hE
      go_wp2_with fail
      refine wp_region_held (S := fun W => ChkW W w.heap.size (w.heap.size + 1) ⟨k1, nx1, row1, pas1⟩ most (.slice pa a.length ca) a (.slice pb b.length cb) b) (by kernel_rfl) ?_
      have hdr : (w1).drew = { w1 with drawn := (w1).drawn + 1 } := rfl
      rw [← hdr]
      clear hdr
      refine wpAnyHTake 0 (some 23) (.func (.func 55) #[] #[.pointer (some ⟨w.heap.size + 1, 0, none⟩)]) rfl rfl (by kernel_rfl) (by kernel_rfl) (by kernel_rfl) (fun _ _ _ h => h) (by rfl) (fun _ _ => by rfl) (G1.out) ?_
      simp only [Act.put, List.setIfInBounds_toArray, List.set_cons_zero, List.set_cons_succ]
      refine wpAnyHTake 1 (some 24) (.slice pa a.length ca) rfl rfl (by kernel_rfl) (by kernel_rfl) (by kernel_rfl) (fun _ _ _ h => h) (by rfl) (fun _ _ => by rfl) (G1.out) ?_
      simp only [Act.put, List.setIfInBounds_toArray, List.set_cons_zero, List.set_cons_succ]
      refine wpAnyHCall 2 (some 25) 55 #[.slice pa a.length ca, .pointer (some ⟨w.heap.size + 1, 0, none⟩)] (by kernel_rfl) rfl rfl (by rfl) (by go_simp) (LA) ?_
      rintro e xc2 ⟨rfl, hb9⟩
      have G2 := Lib.hid (SB G1.out hb9)
      have HBD := Lib.hid (HBD.out.trans (hb9.mono HBD.out.size))
      have LB := late_any _ b _ most xc2 G2.out.rb hlb G2.out.most
      rw [hlbv] at LB
      clear hb9 LA
      refine ⟨_, rfl, G2.out, ?_⟩
      simp only [Act.put, List.setIfInBounds_toArray, List.set_cons_zero, List.set_cons_succ]
      refine wpAnyHTake 3 (some 26) (.bool false) rfl rfl (by kernel_rfl) (by kernel_rfl) (by kernel_rfl) (fun _ _ _ h => h) (by rfl) (fun _ _ => by rfl) (G2.out) ?_
      simp only [Act.put, List.setIfInBounds_toArray, List.set_cons_zero, List.set_cons_succ]
      refine wpAnyHTake 4 (some 27) (.func (.func 55) #[] #[.pointer (some ⟨w.heap.size + 1, 0, none⟩)]) rfl rfl (by kernel_rfl) (by kernel_rfl) (by kernel_rfl) (fun _ _ _ h => h) (by rfl) (fun _ _ => by rfl) (G2.out) ?_
      simp only [Act.put, List.setIfInBounds_toArray, List.set_cons_zero, List.set_cons_succ]
      refine wpAnyHTake 5 (some 28) (.slice pb b.length cb) rfl rfl (by kernel_rfl) (by kernel_rfl) (by kernel_rfl) (fun _ _ _ h => h) (by rfl) (fun _ _ => by rfl) (G2.out) ?_
      simp only [Act.put, List.setIfInBounds_toArray, List.set_cons_zero, List.set_cons_succ]
      refine wpAnyHCall 6 (some 29) 55 #[.slice pb b.length cb, .pointer (some ⟨w.heap.size + 1, 0, none⟩)] (by kernel_rfl) rfl rfl (by rfl) (by go_simp) (LB) ?_
      rintro e xc3 ⟨rfl, hb9⟩
      have G3 := Lib.hid (SB G2.out hb9)
      have HBD := Lib.hid (HBD.out.trans (hb9.mono HBD.out.size))
      clear hb9 LB
      refine ⟨_, rfl, G3.out, ?_⟩
      simp only [Act.put, List.setIfInBounds_toArray, List.set_cons_zero, List.set_cons_succ]
      refine wpAnyHTake 7 (some 30) (.bool true) rfl rfl (by kernel_rfl) (by kernel_rfl) (by kernel_rfl) (fun _ _ _ h => h) (by rfl) (fun _ _ => by go_simp) (G3.out) ?_
      simp only [Act.put, List.setIfInBounds_toArray, List.set_cons_zero, List.set_cons_succ]
      refine wpAnyHTake 8 (some 31) (.bool true) rfl rfl (by kernel_rfl) (by kernel_rfl) (by kernel_rfl) (fun _ _ _ h => h) (by rfl) (fun _ _ => by rfl) (G3.out) ?_
      simp only [Act.put, List.setIfInBounds_toArray, List.set_cons_zero, List.set_cons_succ]
      refine wpAnyHPass 9 (some 32) rfl rfl (by kernel_rfl) (by kernel_rfl) (by kernel_rfl) (fun _ _ _ h => h) (by rfl) (G3.out) ?_
      simp only [Act.put, List.setIfInBounds_toArray, List.set_cons_zero, List.set_cons_succ]
      refine wpAnyHPass 10 (some 33) rfl rfl (by kernel_rfl) (by kernel_rfl) (by kernel_rfl) (fun _ _ _ h => h) (by rfl) (G3.out) ?_
      simp only [Act.put, List.setIfInBounds_toArray, List.set_cons_zero, List.set_cons_succ]
      refine wpAnyHPass 11 (some 34) rfl rfl (by kernel_rfl) (by kernel_rfl) (by kernel_rfl) (fun _ _ _ h => h) (by rfl) (G3.out) ?_
      simp only [Act.put, List.setIfInBounds_toArray, List.set_cons_zero, List.set_cons_succ]
      refine wpAnyHTake 12 (some 35) (.bool true) rfl rfl (by kernel_rfl) (by kernel_rfl) (by kernel_rfl) (fun _ _ _ h => h) (by rfl) (fun _ _ => by go_simp) (G3.out) ?_
      simp only [Act.put, List.setIfInBounds_toArray, List.set_cons_zero, List.set_cons_succ]
      refine wpAnyHTake 13 (some 36) (.bool true) rfl rfl (by kernel_rfl) (by kernel_rfl) (by kernel_rfl) (fun _ _ _ h => h) (by rfl) (fun _ _ => by rfl) (G3.out) ?_
      simp only [Act.put, List.setIfInBounds_toArray, List.set_cons_zero, List.set_cons_succ]
      refine wpAnyHPass 14 (some 37) rfl rfl (by kernel_rfl) (by kernel_rfl) (by kernel_rfl) (fun _ _ _ h => h) (by rfl) (G3.out) ?_
      simp only [Act.put, List.setIfInBounds_toArray, List.set_cons_zero, List.set_cons_succ]
      refine wpAnyHPass 15 (some 38) rfl rfl (by kernel_rfl) (by kernel_rfl) (by kernel_rfl) (fun _ _ _ h => h) (by rfl) (G3.out) ?_
      simp only [Act.put, List.setIfInBounds_toArray, List.set_cons_zero, List.set_cons_succ]
      refine wpAnyHPass 16 (some 39) rfl rfl (by kernel_rfl) (by kernel_rfl) (by kernel_rfl) (fun _ _ _ h => h) (by rfl) (G3.out) ?_
      simp only [Act.put, List.setIfInBounds_toArray, List.set_cons_zero, List.set_cons_succ]
      refine wpAnyHPass 17 (some 40) rfl rfl (by kernel_rfl) (by kernel_rfl) (by kernel_rfl) (fun _ _ _ h => h) (by rfl) (G3.out) ?_
      simp only [Act.put, List.setIfInBounds_toArray, List.set_cons_zero, List.set_cons_succ]
      refine wpAnyHPass 18 (some 41) rfl rfl (by kernel_rfl) (by kernel_rfl) (by kernel_rfl) (fun _ _ _ h => h) (by rfl) (G3.out) ?_
      simp only [Act.put, List.setIfInBounds_toArray, List.set_cons_zero, List.set_cons_succ]
      refine wpAnyHPass 19 (some 42) rfl rfl (by kernel_rfl) (by kernel_rfl) (by kernel_rfl) (fun _ _ _ h => h) (by rfl) (G3.out) ?_
      simp only [Act.put, List.setIfInBounds_toArray, List.set_cons_zero, List.set_cons_succ]
      refine wpAnyHPass 20 (some 43) rfl rfl (by kernel_rfl) (by kernel_rfl) (by kernel_rfl) (fun _ _ _ h => h) (by rfl) (G3.out) ?_
      simp only [Act.put, List.setIfInBounds_toArray, List.set_cons_zero, List.set_cons_succ]
      refine wpAnyHTake 21 (some 44) (.bool true) rfl rfl (by kernel_rfl) (by kernel_rfl) (by kernel_rfl) (fun _ _ _ h => h) (by rfl) (fun _ _ => by go_simp) (G3.out) ?_
      simp only [Act.put, List.setIfInBounds_toArray, List.set_cons_zero, List.set_cons_succ]
      refine wpAnyH_done (by kernel_rfl) ?_ _
      go_wp2_with fail
      go_ret
      exact ⟨by rw [HE.out]; rfl, HBD.out⟩
  · rw [hlav] at LA
    have hE : chkE ⟨k1, nx1, row1, pas1⟩ most a b = 17 := chk_17 (by unfold chkB; rw [hlav]; rfl)
    have HE := Lib.hid hE
    clear hE
    go_wp2_with fail
    refine wp_region_held (S := fun W => ChkW W w.heap.size (w.heap.size + 1) ⟨k1, nx1, row1, pas1⟩ most (.slice pa a.length ca) a (.slice pb b.length cb) b) (by kernel_rfl) ?_
    have hdr : (w1).drew = { w1 with drawn := (w1).drawn + 1 } := rfl
    rw [← hdr]
    clear hdr
    refine wpAnyHTake 0 (some 23) (.func (.func 55) #[] #[.pointer (some ⟨w.heap.size + 1, 0, none⟩)]) rfl rfl (by kernel_rfl) (by kernel_rfl) (by kernel_rfl) (fun _ _ _ h => h) (by rfl) (fun _ _ => by rfl) (G1.out) ?_
    simp only [Act.put, List.setIfInBounds_toArray, List.set_cons_zero, List.set_cons_succ]
    refine wpAnyHTake 1 (some 24) (.slice pa a.length ca) rfl rfl (by kernel_rfl) (by kernel_rfl) (by kernel_rfl) (fun _ _ _ h => h) (by rfl) (fun _ _ => by rfl) (G1.out) ?_
    simp only [Act.put, List.setIfInBounds_toArray, List.set_cons_zero, List.set_cons_succ]
    refine wpAnyHCall 2 (some 25) 55 #[.slice pa a.length ca, .pointer (some ⟨w.heap.size + 1, 0, none⟩)] (by kernel_rfl) rfl rfl (by rfl) (by go_simp) (LA) ?_
    rintro e xc2 ⟨rfl, hb9⟩
    have G2 := Lib.hid (SB G1.out hb9)
    have HBD := Lib.hid (HBD.out.trans (hb9.mono HBD.out.size))
    clear hb9 LA
    refine ⟨_, rfl, G2.out, ?_⟩
    simp only [Act.put, List.setIfInBounds_toArray, List.set_cons_zero, List.set_cons_succ]
    refine wpAnyHTake 3 (some 26) (.bool true) rfl rfl (by kernel_rfl) (by kernel_rfl) (by kernel_rfl) (fun _ _ _ h => h) (by rfl) (fun _ _ => by rfl) (G2.out) ?_
    simp only [Act.put, List.setIfInBounds_toArray, List.set_cons_zero, List.set_cons_succ]
    refine wpAnyHPass 4 (some 27) rfl rfl (by kernel_rfl) (by kernel_rfl) (by kernel_rfl) (fun _ _ _ h => h) (by rfl) (G2.out) ?_
    simp only [Act.put, List.setIfInBounds_toArray, List.set_cons_zero, List.set_cons_succ]
    refine wpAnyHPass 5 (some 28) rfl rfl (by kernel_rfl) (by kernel_rfl) (by kernel_rfl) (fun _ _ _ h => h) (by rfl) (G2.out) ?_
    simp only [Act.put, List.setIfInBounds_toArray, List.set_cons_zero, List.set_cons_succ]
    refine wpAnyHPass 6 (some 29) rfl rfl (by kernel_rfl) (by kernel_rfl) (by kernel_rfl) (fun _ _ _ h => h) (by rfl) (G2.out) ?_
    simp only [Act.put, List.setIfInBounds_toArray, List.set_cons_zero, List.set_cons_succ]
    refine wpAnyHTake 7 (some 30) (.bool true) rfl rfl (by kernel_rfl) (by kernel_rfl) (by kernel_rfl) (fun _ _ _ h => h) (by rfl) (fun _ _ => by go_simp) (G2.out) ?_
    simp only [Act.put, List.setIfInBounds_toArray, List.set_cons_zero, List.set_cons_succ]
    refine wpAnyHTake 8 (some 31) (.bool true) rfl rfl (by kernel_rfl) (by kernel_rfl) (by kernel_rfl) (fun _ _ _ h => h) (by rfl) (fun _ _ => by rfl) (G2.out) ?_
    simp only [Act.put, List.setIfInBounds_toArray, List.set_cons_zero, List.set_cons_succ]
    refine wpAnyHPass 9 (some 32) rfl rfl (by kernel_rfl) (by kernel_rfl) (by kernel_rfl) (fun _ _ _ h => h) (by rfl) (G2.out) ?_
    simp only [Act.put, List.setIfInBounds_toArray, List.set_cons_zero, List.set_cons_succ]
    refine wpAnyHPass 10 (some 33) rfl rfl (by kernel_rfl) (by kernel_rfl) (by kernel_rfl) (fun _ _ _ h => h) (by rfl) (G2.out) ?_
    simp only [Act.put, List.setIfInBounds_toArray, List.set_cons_zero, List.set_cons_succ]
    refine wpAnyHPass 11 (some 34) rfl rfl (by kernel_rfl) (by kernel_rfl) (by kernel_rfl) (fun _ _ _ h => h) (by rfl) (G2.out) ?_
    simp only [Act.put, List.setIfInBounds_toArray, List.set_cons_zero, List.set_cons_succ]
    refine wpAnyHTake 12 (some 35) (.bool true) rfl rfl (by kernel_rfl) (by kernel_rfl) (by kernel_rfl) (fun _ _ _ h => h) (by rfl) (fun _ _ => by go_simp) (G2.out) ?_
    simp only [Act.put, List.setIfInBounds_toArray, List.set_cons_zero, List.set_cons_succ]
    refine wpAnyHTake 13 (some 36) (.bool true) rfl rfl (by kernel_rfl) (by kernel_rfl) (by kernel_rfl) (fun _ _ _ h => h) (by rfl) (fun _ _ => by rfl) (G2.out) ?_
    simp only [Act.put, List.setIfInBounds_toArray, List.set_cons_zero, List.set_cons_succ]
    refine wpAnyHPass 14 (some 37) rfl rfl (by kernel_rfl) (by kernel_rfl) (by kernel_rfl) (fun _ _ _ h => h) (by rfl) (G2.out) ?_
    simp only [Act.put, List.setIfInBounds_toArray, List.set_cons_zero, List.set_cons_succ]
    refine wpAnyHPass 15 (some 38) rfl rfl (by kernel_rfl) (by kernel_rfl) (by kernel_rfl) (fun _ _ _ h => h) (by rfl) (G2.out) ?_
    simp only [Act.put, List.setIfInBounds_toArray, List.set_cons_zero, List.set_cons_succ]
    refine wpAnyHPass 16 (some 39) rfl rfl (by kernel_rfl) (by kernel_rfl) (by kernel_rfl) (fun _ _ _ h => h) (by rfl) (G2.out) ?_
    simp only [Act.put, List.setIfInBounds_toArray, List.set_cons_zero, List.set_cons_succ]
    refine wpAnyHPass 17 (some 40) rfl rfl (by kernel_rfl) (by kernel_rfl) (by kernel_rfl) (fun _ _ _ h => h) (by rfl) (G2.out) ?_
    simp only [Act.put, List.setIfInBounds_toArray, List.set_cons_zero, List.set_cons_succ]
    refine wpAnyHPass 18 (some 41) rfl rfl (by kernel_rfl) (by kernel_rfl) (by kernel_rfl) (fun _ _ _ h => h) (by rfl) (G2.out) ?_
    simp only [Act.put, List.setIfInBounds_toArray, List.set_cons_zero, List.set_cons_succ]
    refine wpAnyHPass 19 (some 42) rfl rfl (by kernel_rfl) (by kernel_rfl) (by kernel_rfl) (fun _ _ _ h => h) (by rfl) (G2.out) ?_
    simp only [Act.put, List.setIfInBounds_toArray, List.set_cons_zero, List.set_cons_succ]
    refine wpAnyHPass 20 (some 43) rfl rfl (by kernel_rfl) (by kernel_rfl) (by kernel_rfl) (fun _ _ _ h => h) (by rfl) (G2.out) ?_
    simp only [Act.put, List.setIfInBounds_toArray, List.set_cons_zero, List.set_cons_succ]
    refine wpAnyHTake 21 (some 44) (.bool true) rfl rfl (by kernel_rfl) (by kernel_rfl) (by kernel_rfl) (fun _ _ _ h => h) (by rfl) (fun _ _ => by go_simp) (G2.out) ?_
    simp only [Act.put, List.setIfInBounds_toArray, List.set_cons_zero, List.set_cons_succ]
    refine wpAnyH_done (by kernel_rfl) ?_ _
    go_wp2_with fail
    go_ret
    exact ⟨by rw [HE.out]; rfl, HBD.out⟩
end Go.Proofs.YtecdkpcapalifaaDoor

namespace Go.Proofs.YtecdkpcapalifaaDoor
open Go.RowKit Go.Maps

structure RChkW (W : World) (A : Nat) (s : Sty) (va : Value) (a : List Sp) (vb : Value) (b : List Sp) : Prop where
  sty : StyB W A s
  ra : RdP W va a
  rb : RdP W vb b
theorem RChkW.below {W W' : World} {A : Nat} {s : Sty} {va : Value} {a : List Sp} {vb : Value} {b : List Sp} (h : RChkW W A s va a vb b) (hb : Below W.heap.size W W') : RChkW W' A s va a vb b :=
  ⟨h.sty.below hb, h.ra.below hb, h.rb.below hb⟩
theorem chk_form (s : Sty) (most : Int) (a b : List Sp) (ha : nrm a = true) (hb : nrm b = true) (hab : a ≠ b) (hf : formL s a = formL s b) : chkB s most a b = (lastOver most a || lastOver most b) := by
  unfold chkB lateS
  rw [ha, hb, decide_eq_false hab, decide_eq_true hf]
  simp

set_option maxRecDepth 100000 in
set_option maxHeartbeats 8000000 in
theorem rcheck_bad (s : Sty) (most : Int) (va vb : Value) (a b : List Sp) (w : World) (ha : RdP w va a) (hb : RdP w vb b) (hla : a.length ≤ 1000) (hlb : b.length ≤ 1000) (hs : ¬ okSty s) :
    Calls Tryd.prog 33 #[styV s, .int .i64 most, va, vb] w fun e w' => e = .returned (.int .i64 1) ∧ Below w.heap.size w w' := by
  obtain ⟨k1, nx1, row1, pas1⟩ := s
  have VA := rvalid_any k1 row1 pas1 nx1 (w.alloc (.cells #[.int .i64 k1, .bool nx1, .int .i64 row1, .int .i64 pas1] 24))
  have hV : validS k1 row1 pas1 = 1 := by
    rcases validS_01 k1 row1 pas1 with h | h
    · exact absurd ((okSty_valid ⟨k1, nx1, row1, pas1⟩).1 h) hs
    · exact h
  rw [hV] at VA
  have hb0 := (Below.refl w.heap.size w).alloc (Nat.le_refl _) (.cells #[.int .i64 k1, .bool nx1, .int .i64 row1, .int .i64 pas1] 24)
  have HB := Lib.hid hb0
  have HW := Lib.hid (show RChkW (w.alloc (.cells #[.int .i64 k1, .bool nx1, .int .i64 row1, .int .i64 pas1] 24)) w.heap.size ⟨k1, nx1, row1, pas1⟩ va a vb b from ⟨styB_new w 24 k1 row1 pas1 nx1, ha.below hb0, hb.below hb0⟩)
  obtain ⟨pa, ca, hva⟩ := ha.form
  obtain ⟨pb, cb, hvb⟩ := hb.form
  subst hva hvb
  clear hb0 ha hb
  show Calls Tryd.prog 33 #[.agg #[.int .i64 k1, .bool nx1, .int .i64 row1, .int .i64 pas1], .int .i64 most, _, _] w _
  go_enter Tryd.func33, Tryd.ntmps33
  go_wp2_with fail
  refine VA.mono ?_
  rintro e w1 ⟨rfl, hb1⟩
  have HB1 := Lib.hid (HB.out.trans (hb1.mono (by simp)))
  have HW1 := Lib.hid (HW.out.below hb1)
  clear VA hb1 HB HW
  clear hV hs
  go_wp2_with fail
  go_ret
  exact ⟨rfl, HB1.out⟩

set_option maxRecDepth 100000 in
set_option maxHeartbeats 8000000 in
theorem rcheck_range (s : Sty) (most : Int) (va vb : Value) (a b : List Sp) (w : World) (ha : RdP w va a) (hb : RdP w vb b) (hla : a.length ≤ 1000) (hlb : b.length ≤ 1000) (hs : okSty s) (hm : most < 1 ∨ 999 < most) :
    Calls Tryd.prog 33 #[styV s, .int .i64 most, va, vb] w fun e w' => e = .returned (.int .i64 5) ∧ Below w.heap.size w w' := by
  obtain ⟨k1, nx1, row1, pas1⟩ := s
  have VA := rvalid_any k1 row1 pas1 nx1 (w.alloc (.cells #[.int .i64 k1, .bool nx1, .int .i64 row1, .int .i64 pas1] 24))
  have hV : validS k1 row1 pas1 = 0 := (okSty_valid ⟨k1, nx1, row1, pas1⟩).2 hs
  rw [hV] at VA
  have hb0 := (Below.refl w.heap.size w).alloc (Nat.le_refl _) (.cells #[.int .i64 k1, .bool nx1, .int .i64 row1, .int .i64 pas1] 24)
  have HB := Lib.hid hb0
  have HW := Lib.hid (show RChkW (w.alloc (.cells #[.int .i64 k1, .bool nx1, .int .i64 row1, .int .i64 pas1] 24)) w.heap.size ⟨k1, nx1, row1, pas1⟩ va a vb b from ⟨styB_new w 24 k1 row1 pas1 nx1, ha.below hb0, hb.below hb0⟩)
  obtain ⟨pa, ca, hva⟩ := ha.form
  obtain ⟨pb, cb, hvb⟩ := hb.form
  subst hva hvb
  clear hb0 ha hb
  show Calls Tryd.prog 33 #[.agg #[.int .i64 k1, .bool nx1, .int .i64 row1, .int .i64 pas1], .int .i64 most, _, _] w _
  go_enter Tryd.func33, Tryd.ntmps33
  go_wp2_with fail
  refine VA.mono ?_
  rintro e w1 ⟨rfl, hb1⟩
  have HB1 := Lib.hid (HB.out.trans (hb1.mono (by simp)))
  have HW1 := Lib.hid (HW.out.below hb1)
  clear VA hb1 HB HW
  clear hV hs
  rcases hm with hm | hm
  · go_wp2_with fail
    go_ret
    exact ⟨rfl, HB1.out⟩
  · have hm1 : ¬ most < 1 := by omega
    go_wp2_with fail
    go_ret
    exact ⟨rfl, HB1.out⟩

set_option maxRecDepth 100000 in
set_option maxHeartbeats 8000000 in
theorem rcheck_ok (s : Sty) (most : Int) (va vb : Value) (a b : List Sp) (w : World) (ha : RdP w va a) (hb : RdP w vb b) (hla : a.length ≤ 1000) (hlb : b.length ≤ 1000) (hs : okSty s) (hm1 : 1 ≤ most) (hm2 : most ≤ 999) :
    Calls Tryd.prog 33 #[styV s, .int .i64 most, va, vb] w fun e w' => e = .returned (.int .i64 (chkE s most a b)) ∧ Below w.heap.size w w' := by
  obtain ⟨k1, nx1, row1, pas1⟩ := s
  have VA := rvalid_any k1 row1 pas1 nx1 (w.alloc (.cells #[.int .i64 k1, .bool nx1, .int .i64 row1, .int .i64 pas1] 24))
  have hV : validS k1 row1 pas1 = 0 := (okSty_valid ⟨k1, nx1, row1, pas1⟩).2 hs
  rw [hV] at VA
  have hb0 := (Below.refl w.heap.size w).alloc (Nat.le_refl _) (.cells #[.int .i64 k1, .bool nx1, .int .i64 row1, .int .i64 pas1] 24)
  have HB := Lib.hid hb0
  have HW := Lib.hid (show RChkW (w.alloc (.cells #[.int .i64 k1, .bool nx1, .int .i64 row1, .int .i64 pas1] 24)) w.heap.size ⟨k1, nx1, row1, pas1⟩ va a vb b from ⟨styB_new w 24 k1 row1 pas1 nx1, ha.below hb0, hb.below hb0⟩)
  obtain ⟨pa, ca, hva⟩ := ha.form
  obtain ⟨pb, cb, hvb⟩ := hb.form
  subst hva hvb
  clear hb0 ha hb
  show Calls Tryd.prog 33 #[.agg #[.int .i64 k1, .bool nx1, .int .i64 row1, .int .i64 pas1], .int .i64 most, _, _] w _
  go_enter Tryd.func33, Tryd.ntmps33
  go_wp2_with fail
  refine VA.mono ?_
  rintro e w1 ⟨rfl, hb1⟩
  have HB1 := Lib.hid (HB.out.trans (hb1.mono (by simp)))
  have HW1 := Lib.hid (HW.out.below hb1)
  clear VA hb1 HB HW
  clear hV
  have hmi : ¬ most < 1 := by omega
  have SB : ∀ {W W' : World}, RChkW W w.heap.size ⟨k1, nx1, row1, pas1⟩ (.slice pa a.length ca) a (.slice pb b.length cb) b → Below W.heap.size W W' → RChkW W' w.heap.size ⟨k1, nx1, row1, pas1⟩ (.slice pa a.length ca) a (.slice pb b.length cb) b := fun h hb => h.below hb
  have G1 := Lib.hid (HW1.out.below (Below.dn (Below.refl _ _) 1))
  have HBD := Lib.hid (Below.dn HB1.out 1)
  have NA := is_any _ a (w1.drewN 1) G1.out.ra (by omega)
  cases hna : nrm a
  · rw [hna] at NA
    have hE : chkE ⟨k1, nx1, row1, pas1⟩ most a b = 17 := chk_17 (by unfold chkB lateS; rw [hna]; rfl)
    have HE := Lib.hid hE
    clear hE
    go_wp2_with fail
    refine wp_region_held (S := fun W => RChkW W w.heap.size ⟨k1, nx1, row1, pas1⟩ (.slice pa a.length ca) a (.slice pb b.length cb) b) (by kernel_rfl) ?_
    have hdr : (w1).drew = { w1 with drawn := (w1).drawn + 1 } := rfl
    rw [← hdr]
    clear hdr
    refine wpAnyHTake 0 (some 21) (.slice pa a.length ca) rfl rfl (by kernel_rfl) (by kernel_rfl) (by kernel_rfl) (fun _ _ _ h => h) (by rfl) (fun _ _ => by rfl) (G1.out) ?_
    simp only [Act.put, List.setIfInBounds_toArray, List.set_cons_zero, List.set_cons_succ]
    refine wpAnyHCall 1 (some 22) 44 #[.slice pa a.length ca] (by kernel_rfl) rfl rfl (by rfl) (by go_simp) (NA) ?_
    rintro e xc2 ⟨rfl, hb9⟩
    have G2 := Lib.hid (SB G1.out hb9)
    have HBD := Lib.hid (HBD.out.trans (hb9.mono HBD.out.size))
    clear hb9 NA
    refine ⟨_, rfl, G2.out, ?_⟩
    simp only [Act.put, List.setIfInBounds_toArray, List.set_cons_zero, List.set_cons_succ]
    refine wpAnyHTake 2 (some 23) (.bool true) rfl rfl (by kernel_rfl) (by kernel_rfl) (by kernel_rfl) (fun _ _ _ h => h) (by rfl) (fun _ _ => by go_simp) (G2.out) ?_
    simp only [Act.put, List.setIfInBounds_toArray, List.set_cons_zero, List.set_cons_succ]
    refine wpAnyHTake 3 (some 24) (.bool true) rfl rfl (by kernel_rfl) (by kernel_rfl) (by kernel_rfl) (fun _ _ _ h => h) (by rfl) (fun _ _ => by rfl) (G2.out) ?_
    simp only [Act.put, List.setIfInBounds_toArray, List.set_cons_zero, List.set_cons_succ]
    refine wpAnyHPass 4 (some 25) rfl rfl (by kernel_rfl) (by kernel_rfl) (by kernel_rfl) (fun _ _ _ h => h) (by rfl) (G2.out) ?_
    simp only [Act.put, List.setIfInBounds_toArray, List.set_cons_zero, List.set_cons_succ]
    refine wpAnyHPass 5 (some 26) rfl rfl (by kernel_rfl) (by kernel_rfl) (by kernel_rfl) (fun _ _ _ h => h) (by rfl) (G2.out) ?_
    simp only [Act.put, List.setIfInBounds_toArray, List.set_cons_zero, List.set_cons_succ]
    refine wpAnyHPass 6 (some 27) rfl rfl (by kernel_rfl) (by kernel_rfl) (by kernel_rfl) (fun _ _ _ h => h) (by rfl) (G2.out) ?_
    simp only [Act.put, List.setIfInBounds_toArray, List.set_cons_zero, List.set_cons_succ]
    refine wpAnyHTake 7 (some 28) (.bool true) rfl rfl (by kernel_rfl) (by kernel_rfl) (by kernel_rfl) (fun _ _ _ h => h) (by rfl) (fun _ _ => by go_simp) (G2.out) ?_
    simp only [Act.put, List.setIfInBounds_toArray, List.set_cons_zero, List.set_cons_succ]
    refine wpAnyHTake 8 (some 29) (.bool true) rfl rfl (by kernel_rfl) (by kernel_rfl) (by kernel_rfl) (fun _ _ _ h => h) (by rfl) (fun _ _ => by rfl) (G2.out) ?_
    simp only [Act.put, List.setIfInBounds_toArray, List.set_cons_zero, List.set_cons_succ]
    refine wpAnyHPass 9 (some 30) rfl rfl (by kernel_rfl) (by kernel_rfl) (by kernel_rfl) (fun _ _ _ h => h) (by rfl) (G2.out) ?_
    simp only [Act.put, List.setIfInBounds_toArray, List.set_cons_zero, List.set_cons_succ]
    refine wpAnyHPass 10 (some 31) rfl rfl (by kernel_rfl) (by kernel_rfl) (by kernel_rfl) (fun _ _ _ h => h) (by rfl) (G2.out) ?_
    simp only [Act.put, List.setIfInBounds_toArray, List.set_cons_zero, List.set_cons_succ]
    refine wpAnyHPass 11 (some 32) rfl rfl (by kernel_rfl) (by kernel_rfl) (by kernel_rfl) (fun _ _ _ h => h) (by rfl) (G2.out) ?_
    simp only [Act.put, List.setIfInBounds_toArray, List.set_cons_zero, List.set_cons_succ]
    refine wpAnyHTake 12 (some 33) (.bool true) rfl rfl (by kernel_rfl) (by kernel_rfl) (by kernel_rfl) (fun _ _ _ h => h) (by rfl) (fun _ _ => by go_simp) (G2.out) ?_
    simp only [Act.put, List.setIfInBounds_toArray, List.set_cons_zero, List.set_cons_succ]
    refine wpAnyHTake 13 (some 34) (.bool true) rfl rfl (by kernel_rfl) (by kernel_rfl) (by kernel_rfl) (fun _ _ _ h => h) (by rfl) (fun _ _ => by rfl) (G2.out) ?_
    simp only [Act.put, List.setIfInBounds_toArray, List.set_cons_zero, List.set_cons_succ]
    refine wpAnyHPass 14 (some 35) rfl rfl (by kernel_rfl) (by kernel_rfl) (by kernel_rfl) (fun _ _ _ h => h) (by rfl) (G2.out) ?_
    simp only [Act.put, List.setIfInBounds_toArray, List.set_cons_zero, List.set_cons_succ]
    refine wpAnyHPass 15 (some 36) rfl rfl (by kernel_rfl) (by kernel_rfl) (by kernel_rfl) (fun _ _ _ h => h) (by rfl) (G2.out) ?_
    simp only [Act.put, List.setIfInBounds_toArray, List.set_cons_zero, List.set_cons_succ]
    refine wpAnyHPass 16 (some 37) rfl rfl (by kernel_rfl) (by kernel_rfl) (by kernel_rfl) (fun _ _ _ h => h) (by rfl) (G2.out) ?_
    simp only [Act.put, List.setIfInBounds_toArray, List.set_cons_zero, List.set_cons_succ]
    refine wpAnyHPass 17 (some 38) rfl rfl (by kernel_rfl) (by kernel_rfl) (by kernel_rfl) (fun _ _ _ h => h) (by rfl) (G2.out) ?_
    simp only [Act.put, List.setIfInBounds_toArray, List.set_cons_zero, List.set_cons_succ]
    refine wpAnyHPass 18 (some 39) rfl rfl (by kernel_rfl) (by kernel_rfl) (by kernel_rfl) (fun _ _ _ h => h) (by rfl) (G2.out) ?_
    simp only [Act.put, List.setIfInBounds_toArray, List.set_cons_zero, List.set_cons_succ]
    refine wpAnyHPass 19 (some 40) rfl rfl (by kernel_rfl) (by kernel_rfl) (by kernel_rfl) (fun _ _ _ h => h) (by rfl) (G2.out) ?_
    simp only [Act.put, List.setIfInBounds_toArray, List.set_cons_zero, List.set_cons_succ]
    refine wpAnyHPass 20 (some 41) rfl rfl (by kernel_rfl) (by kernel_rfl) (by kernel_rfl) (fun _ _ _ h => h) (by rfl) (G2.out) ?_
    simp only [Act.put, List.setIfInBounds_toArray, List.set_cons_zero, List.set_cons_succ]
    refine wpAnyHTake 21 (some 42) (.bool true) rfl rfl (by kernel_rfl) (by kernel_rfl) (by kernel_rfl) (fun _ _ _ h => h) (by rfl) (fun _ _ => by go_simp) (G2.out) ?_
    simp only [Act.put, List.setIfInBounds_toArray, List.set_cons_zero, List.set_cons_succ]
    refine wpAnyH_done (by kernel_rfl) ?_ _
    go_wp2_with fail
    go_ret
    exact ⟨by rw [HE.out]; rfl, HBD.out⟩
  · rw [hna] at NA
    cases hnb : nrm b
    · have hE : chkE ⟨k1, nx1, row1, pas1⟩ most a b = 17 := chk_17 (by unfold chkB lateS; rw [hna, hnb]; simp)
      have HE := Lib.hid hE
      clear hE
      go_wp2_with fail
      refine wp_region_held (S := fun W => RChkW W w.heap.size ⟨k1, nx1, row1, pas1⟩ (.slice pa a.length ca) a (.slice pb b.length cb) b) (by kernel_rfl) ?_
      have hdr : (w1).drew = { w1 with drawn := (w1).drawn + 1 } := rfl
      rw [← hdr]
      clear hdr
      refine wpAnyHTake 0 (some 21) (.slice pa a.length ca) rfl rfl (by kernel_rfl) (by kernel_rfl) (by kernel_rfl) (fun _ _ _ h => h) (by rfl) (fun _ _ => by rfl) (G1.out) ?_
      simp only [Act.put, List.setIfInBounds_toArray, List.set_cons_zero, List.set_cons_succ]
      refine wpAnyHCall 1 (some 22) 44 #[.slice pa a.length ca] (by kernel_rfl) rfl rfl (by rfl) (by go_simp) (NA) ?_
      rintro e xc2 ⟨rfl, hb9⟩
      have G2 := Lib.hid (SB G1.out hb9)
      have HBD := Lib.hid (HBD.out.trans (hb9.mono HBD.out.size))
      have NB := is_any _ b xc2 G2.out.rb (by omega)
      rw [hnb] at NB
      clear hb9 NA
      refine ⟨_, rfl, G2.out, ?_⟩
      simp only [Act.put, List.setIfInBounds_toArray, List.set_cons_zero, List.set_cons_succ]
      refine wpAnyHTake 2 (some 23) (.bool false) rfl rfl (by kernel_rfl) (by kernel_rfl) (by kernel_rfl) (fun _ _ _ h => h) (by rfl) (fun _ _ => by go_simp) (G2.out) ?_
      simp only [Act.put, List.setIfInBounds_toArray, List.set_cons_zero, List.set_cons_succ]
      refine wpAnyHTake 3 (some 24) (.bool false) rfl rfl (by kernel_rfl) (by kernel_rfl) (by kernel_rfl) (fun _ _ _ h => h) (by rfl) (fun _ _ => by rfl) (G2.out) ?_
      simp only [Act.put, List.setIfInBounds_toArray, List.set_cons_zero, List.set_cons_succ]
      refine wpAnyHTake 4 (some 25) (.slice pb b.length cb) rfl rfl (by kernel_rfl) (by kernel_rfl) (by kernel_rfl) (fun _ _ _ h => h) (by rfl) (fun _ _ => by rfl) (G2.out) ?_
      simp only [Act.put, List.setIfInBounds_toArray, List.set_cons_zero, List.set_cons_succ]
      refine wpAnyHCall 5 (some 26) 44 #[.slice pb b.length cb] (by kernel_rfl) rfl rfl (by rfl) (by go_simp) (NB) ?_
      rintro e xc3 ⟨rfl, hb9⟩
      have G3 := Lib.hid (SB G2.out hb9)
      have HBD := Lib.hid (HBD.out.trans (hb9.mono HBD.out.size))
      clear hb9 NB
      refine ⟨_, rfl, G3.out, ?_⟩
      simp only [Act.put, List.setIfInBounds_toArray, List.set_cons_zero, List.set_cons_succ]
      refine wpAnyHTake 6 (some 27) (.bool true) rfl rfl (by kernel_rfl) (by kernel_rfl) (by kernel_rfl) (fun _ _ _ h => h) (by rfl) (fun _ _ => by go_simp) (G3.out) ?_
      simp only [Act.put, List.setIfInBounds_toArray, List.set_cons_zero, List.set_cons_succ]
      refine wpAnyHTake 7 (some 28) (.bool true) rfl rfl (by kernel_rfl) (by kernel_rfl) (by kernel_rfl) (fun _ _ _ h => h) (by rfl) (fun _ _ => by go_simp) (G3.out) ?_
      simp only [Act.put, List.setIfInBounds_toArray, List.set_cons_zero, List.set_cons_succ]
      refine wpAnyHTake 8 (some 29) (.bool true) rfl rfl (by kernel_rfl) (by kernel_rfl) (by kernel_rfl) (fun _ _ _ h => h) (by rfl) (fun _ _ => by rfl) (G3.out) ?_
      simp only [Act.put, List.setIfInBounds_toArray, List.set_cons_zero, List.set_cons_succ]
      refine wpAnyHPass 9 (some 30) rfl rfl (by kernel_rfl) (by kernel_rfl) (by kernel_rfl) (fun _ _ _ h => h) (by rfl) (G3.out) ?_
      simp only [Act.put, List.setIfInBounds_toArray, List.set_cons_zero, List.set_cons_succ]
      refine wpAnyHPass 10 (some 31) rfl rfl (by kernel_rfl) (by kernel_rfl) (by kernel_rfl) (fun _ _ _ h => h) (by rfl) (G3.out) ?_
      simp only [Act.put, List.setIfInBounds_toArray, List.set_cons_zero, List.set_cons_succ]
      refine wpAnyHPass 11 (some 32) rfl rfl (by kernel_rfl) (by kernel_rfl) (by kernel_rfl) (fun _ _ _ h => h) (by rfl) (G3.out) ?_
      simp only [Act.put, List.setIfInBounds_toArray, List.set_cons_zero, List.set_cons_succ]
      refine wpAnyHTake 12 (some 33) (.bool true) rfl rfl (by kernel_rfl) (by kernel_rfl) (by kernel_rfl) (fun _ _ _ h => h) (by rfl) (fun _ _ => by go_simp) (G3.out) ?_
      simp only [Act.put, List.setIfInBounds_toArray, List.set_cons_zero, List.set_cons_succ]
      refine wpAnyHTake 13 (some 34) (.bool true) rfl rfl (by kernel_rfl) (by kernel_rfl) (by kernel_rfl) (fun _ _ _ h => h) (by rfl) (fun _ _ => by rfl) (G3.out) ?_
      simp only [Act.put, List.setIfInBounds_toArray, List.set_cons_zero, List.set_cons_succ]
      refine wpAnyHPass 14 (some 35) rfl rfl (by kernel_rfl) (by kernel_rfl) (by kernel_rfl) (fun _ _ _ h => h) (by rfl) (G3.out) ?_
      simp only [Act.put, List.setIfInBounds_toArray, List.set_cons_zero, List.set_cons_succ]
      refine wpAnyHPass 15 (some 36) rfl rfl (by kernel_rfl) (by kernel_rfl) (by kernel_rfl) (fun _ _ _ h => h) (by rfl) (G3.out) ?_
      simp only [Act.put, List.setIfInBounds_toArray, List.set_cons_zero, List.set_cons_succ]
      refine wpAnyHPass 16 (some 37) rfl rfl (by kernel_rfl) (by kernel_rfl) (by kernel_rfl) (fun _ _ _ h => h) (by rfl) (G3.out) ?_
      simp only [Act.put, List.setIfInBounds_toArray, List.set_cons_zero, List.set_cons_succ]
      refine wpAnyHPass 17 (some 38) rfl rfl (by kernel_rfl) (by kernel_rfl) (by kernel_rfl) (fun _ _ _ h => h) (by rfl) (G3.out) ?_
      simp only [Act.put, List.setIfInBounds_toArray, List.set_cons_zero, List.set_cons_succ]
      refine wpAnyHPass 18 (some 39) rfl rfl (by kernel_rfl) (by kernel_rfl) (by kernel_rfl) (fun _ _ _ h => h) (by rfl) (G3.out) ?_
      simp only [Act.put, List.setIfInBounds_toArray, List.set_cons_zero, List.set_cons_succ]
      refine wpAnyHPass 19 (some 40) rfl rfl (by kernel_rfl) (by kernel_rfl) (by kernel_rfl) (fun _ _ _ h => h) (by rfl) (G3.out) ?_
      simp only [Act.put, List.setIfInBounds_toArray, List.set_cons_zero, List.set_cons_succ]
      refine wpAnyHPass 20 (some 41) rfl rfl (by kernel_rfl) (by kernel_rfl) (by kernel_rfl) (fun _ _ _ h => h) (by rfl) (G3.out) ?_
      simp only [Act.put, List.setIfInBounds_toArray, List.set_cons_zero, List.set_cons_succ]
      refine wpAnyHTake 21 (some 42) (.bool true) rfl rfl (by kernel_rfl) (by kernel_rfl) (by kernel_rfl) (fun _ _ _ h => h) (by rfl) (fun _ _ => by go_simp) (G3.out) ?_
      simp only [Act.put, List.setIfInBounds_toArray, List.set_cons_zero, List.set_cons_succ]
      refine wpAnyH_done (by kernel_rfl) ?_ _
      go_wp2_with fail
      go_ret
      exact ⟨by rw [HE.out]; rfl, HBD.out⟩
    · by_cases hab : a = b
      · have heq : decide (a = b) = true := decide_eq_true hab
        have hE : chkE ⟨k1, nx1, row1, pas1⟩ most a b = 17 := chk_17 (by unfold chkB; rw [heq]; simp)
        have HE := Lib.hid hE
        clear hE hab
        go_wp2_with fail
        refine wp_region_held (S := fun W => RChkW W w.heap.size ⟨k1, nx1, row1, pas1⟩ (.slice pa a.length ca) a (.slice pb b.length cb) b) (by kernel_rfl) ?_
        have hdr : (w1).drew = { w1 with drawn := (w1).drawn + 1 } := rfl
        rw [← hdr]
        clear hdr
        refine wpAnyHTake 0 (some 21) (.slice pa a.length ca) rfl rfl (by kernel_rfl) (by kernel_rfl) (by kernel_rfl) (fun _ _ _ h => h) (by rfl) (fun _ _ => by rfl) (G1.out) ?_
        simp only [Act.put, List.setIfInBounds_toArray, List.set_cons_zero, List.set_cons_succ]
        refine wpAnyHCall 1 (some 22) 44 #[.slice pa a.length ca] (by kernel_rfl) rfl rfl (by rfl) (by go_simp) (NA) ?_
        rintro e xc2 ⟨rfl, hb9⟩
        have G2 := Lib.hid (SB G1.out hb9)
        have HBD := Lib.hid (HBD.out.trans (hb9.mono HBD.out.size))
        have NB := is_any _ b xc2 G2.out.rb (by omega)
        rw [hnb] at NB
        clear hb9 NA
        refine ⟨_, rfl, G2.out, ?_⟩
        simp only [Act.put, List.setIfInBounds_toArray, List.set_cons_zero, List.set_cons_succ]
        refine wpAnyHTake 2 (some 23) (.bool false) rfl rfl (by kernel_rfl) (by kernel_rfl) (by kernel_rfl) (fun _ _ _ h => h) (by rfl) (fun _ _ => by go_simp) (G2.out) ?_
        simp only [Act.put, List.setIfInBounds_toArray, List.set_cons_zero, List.set_cons_succ]
        refine wpAnyHTake 3 (some 24) (.bool false) rfl rfl (by kernel_rfl) (by kernel_rfl) (by kernel_rfl) (fun _ _ _ h => h) (by rfl) (fun _ _ => by rfl) (G2.out) ?_
        simp only [Act.put, List.setIfInBounds_toArray, List.set_cons_zero, List.set_cons_succ]
        refine wpAnyHTake 4 (some 25) (.slice pb b.length cb) rfl rfl (by kernel_rfl) (by kernel_rfl) (by kernel_rfl) (fun _ _ _ h => h) (by rfl) (fun _ _ => by rfl) (G2.out) ?_
        simp only [Act.put, List.setIfInBounds_toArray, List.set_cons_zero, List.set_cons_succ]
        refine wpAnyHCall 5 (some 26) 44 #[.slice pb b.length cb] (by kernel_rfl) rfl rfl (by rfl) (by go_simp) (NB) ?_
        rintro e xc3 ⟨rfl, hb9⟩
        have G3 := Lib.hid (SB G2.out hb9)
        have HBD := Lib.hid (HBD.out.trans (hb9.mono HBD.out.size))
        have EQ := same_any _ _ a b xc3 G3.out.ra G3.out.rb
        rw [heq] at EQ
        clear hb9 NB
        refine ⟨_, rfl, G3.out, ?_⟩
        simp only [Act.put, List.setIfInBounds_toArray, List.set_cons_zero, List.set_cons_succ]
        refine wpAnyHTake 6 (some 27) (.bool false) rfl rfl (by kernel_rfl) (by kernel_rfl) (by kernel_rfl) (fun _ _ _ h => h) (by rfl) (fun _ _ => by go_simp) (G3.out) ?_
        simp only [Act.put, List.setIfInBounds_toArray, List.set_cons_zero, List.set_cons_succ]
        refine wpAnyHTake 7 (some 28) (.bool false) rfl rfl (by kernel_rfl) (by kernel_rfl) (by kernel_rfl) (fun _ _ _ h => h) (by rfl) (fun _ _ => by go_simp) (G3.out) ?_
        simp only [Act.put, List.setIfInBounds_toArray, List.set_cons_zero, List.set_cons_succ]
        refine wpAnyHTake 8 (some 29) (.bool false) rfl rfl (by kernel_rfl) (by kernel_rfl) (by kernel_rfl) (fun _ _ _ h => h) (by rfl) (fun _ _ => by rfl) (G3.out) ?_
        simp only [Act.put, List.setIfInBounds_toArray, List.set_cons_zero, List.set_cons_succ]
        refine wpAnyHTake 9 (some 30) (.slice pa a.length ca) rfl rfl (by kernel_rfl) (by kernel_rfl) (by kernel_rfl) (fun _ _ _ h => h) (by rfl) (fun _ _ => by rfl) (G3.out) ?_
        simp only [Act.put, List.setIfInBounds_toArray, List.set_cons_zero, List.set_cons_succ]
        refine wpAnyHTake 10 (some 31) (.slice pb b.length cb) rfl rfl (by kernel_rfl) (by kernel_rfl) (by kernel_rfl) (fun _ _ _ h => h) (by rfl) (fun _ _ => by rfl) (G3.out) ?_
        simp only [Act.put, List.setIfInBounds_toArray, List.set_cons_zero, List.set_cons_succ]
        refine wpAnyHCall 11 (some 32) 25 #[.slice pa a.length ca, .slice pb b.length cb] (by kernel_rfl) rfl rfl (by rfl) (by go_simp) (EQ) ?_
        rintro e xc4 ⟨rfl, hb9⟩
        have G4 := Lib.hid (SB G3.out hb9)
        have HBD := Lib.hid (HBD.out.trans (hb9.mono HBD.out.size))
        clear hb9 EQ
        refine ⟨_, rfl, G4.out, ?_⟩
        simp only [Act.put, List.setIfInBounds_toArray, List.set_cons_zero, List.set_cons_succ]
        refine wpAnyHTake 12 (some 33) (.bool true) rfl rfl (by kernel_rfl) (by kernel_rfl) (by kernel_rfl) (fun _ _ _ h => h) (by rfl) (fun _ _ => by go_simp) (G4.out) ?_
        simp only [Act.put, List.setIfInBounds_toArray, List.set_cons_zero, List.set_cons_succ]
        refine wpAnyHTake 13 (some 34) (.bool true) rfl rfl (by kernel_rfl) (by kernel_rfl) (by kernel_rfl) (fun _ _ _ h => h) (by rfl) (fun _ _ => by rfl) (G4.out) ?_
        simp only [Act.put, List.setIfInBounds_toArray, List.set_cons_zero, List.set_cons_succ]
        refine wpAnyHPass 14 (some 35) rfl rfl (by kernel_rfl) (by kernel_rfl) (by kernel_rfl) (fun _ _ _ h => h) (by rfl) (G4.out) ?_
        simp only [Act.put, List.setIfInBounds_toArray, List.set_cons_zero, List.set_cons_succ]
        refine wpAnyHPass 15 (some 36) rfl rfl (by kernel_rfl) (by kernel_rfl) (by kernel_rfl) (fun _ _ _ h => h) (by rfl) (G4.out) ?_
        simp only [Act.put, List.setIfInBounds_toArray, List.set_cons_zero, List.set_cons_succ]
        refine wpAnyHPass 16 (some 37) rfl rfl (by kernel_rfl) (by kernel_rfl) (by kernel_rfl) (fun _ _ _ h => h) (by rfl) (G4.out) ?_
        simp only [Act.put, List.setIfInBounds_toArray, List.set_cons_zero, List.set_cons_succ]
        refine wpAnyHPass 17 (some 38) rfl rfl (by kernel_rfl) (by kernel_rfl) (by kernel_rfl) (fun _ _ _ h => h) (by rfl) (G4.out) ?_
        simp only [Act.put, List.setIfInBounds_toArray, List.set_cons_zero, List.set_cons_succ]
        refine wpAnyHPass 18 (some 39) rfl rfl (by kernel_rfl) (by kernel_rfl) (by kernel_rfl) (fun _ _ _ h => h) (by rfl) (G4.out) ?_
        simp only [Act.put, List.setIfInBounds_toArray, List.set_cons_zero, List.set_cons_succ]
        refine wpAnyHPass 19 (some 40) rfl rfl (by kernel_rfl) (by kernel_rfl) (by kernel_rfl) (fun _ _ _ h => h) (by rfl) (G4.out) ?_
        simp only [Act.put, List.setIfInBounds_toArray, List.set_cons_zero, List.set_cons_succ]
        refine wpAnyHPass 20 (some 41) rfl rfl (by kernel_rfl) (by kernel_rfl) (by kernel_rfl) (fun _ _ _ h => h) (by rfl) (G4.out) ?_
        simp only [Act.put, List.setIfInBounds_toArray, List.set_cons_zero, List.set_cons_succ]
        refine wpAnyHTake 21 (some 42) (.bool true) rfl rfl (by kernel_rfl) (by kernel_rfl) (by kernel_rfl) (fun _ _ _ h => h) (by rfl) (fun _ _ => by go_simp) (G4.out) ?_
        simp only [Act.put, List.setIfInBounds_toArray, List.set_cons_zero, List.set_cons_succ]
        refine wpAnyH_done (by kernel_rfl) ?_ _
        go_wp2_with fail
        go_ret
        exact ⟨by rw [HE.out]; rfl, HBD.out⟩
      · have heq : decide (a = b) = false := decide_eq_false hab
        by_cases hf : formL ⟨k1, nx1, row1, pas1⟩ a = formL ⟨k1, nx1, row1, pas1⟩ b
        · have hfq : (bs (formL ⟨k1, nx1, row1, pas1⟩ a)).toList = (bs (formL ⟨k1, nx1, row1, pas1⟩ b)).toList := by rw [hf]
          go_wp2_with fail
          refine wp_region_held (S := fun W => RChkW W w.heap.size ⟨k1, nx1, row1, pas1⟩ (.slice pa a.length ca) a (.slice pb b.length cb) b) (by kernel_rfl) ?_
          have hdr : (w1).drew = { w1 with drawn := (w1).drawn + 1 } := rfl
          rw [← hdr]
          clear hdr
          refine wpAnyHTake 0 (some 21) (.slice pa a.length ca) rfl rfl (by kernel_rfl) (by kernel_rfl) (by kernel_rfl) (fun _ _ _ h => h) (by rfl) (fun _ _ => by rfl) (G1.out) ?_
          simp only [Act.put, List.setIfInBounds_toArray, List.set_cons_zero, List.set_cons_succ]
          refine wpAnyHCall 1 (some 22) 44 #[.slice pa a.length ca] (by kernel_rfl) rfl rfl (by rfl) (by go_simp) (NA) ?_
          rintro e xc2 ⟨rfl, hb9⟩
          have G2 := Lib.hid (SB G1.out hb9)
          have HBD := Lib.hid (HBD.out.trans (hb9.mono HBD.out.size))
          have NB := is_any _ b xc2 G2.out.rb (by omega)
          rw [hnb] at NB
          clear hb9 NA
          refine ⟨_, rfl, G2.out, ?_⟩
          simp only [Act.put, List.setIfInBounds_toArray, List.set_cons_zero, List.set_cons_succ]
          refine wpAnyHTake 2 (some 23) (.bool false) rfl rfl (by kernel_rfl) (by kernel_rfl) (by kernel_rfl) (fun _ _ _ h => h) (by rfl) (fun _ _ => by go_simp) (G2.out) ?_
          simp only [Act.put, List.setIfInBounds_toArray, List.set_cons_zero, List.set_cons_succ]
          refine wpAnyHTake 3 (some 24) (.bool false) rfl rfl (by kernel_rfl) (by kernel_rfl) (by kernel_rfl) (fun _ _ _ h => h) (by rfl) (fun _ _ => by rfl) (G2.out) ?_
          simp only [Act.put, List.setIfInBounds_toArray, List.set_cons_zero, List.set_cons_succ]
          refine wpAnyHTake 4 (some 25) (.slice pb b.length cb) rfl rfl (by kernel_rfl) (by kernel_rfl) (by kernel_rfl) (fun _ _ _ h => h) (by rfl) (fun _ _ => by rfl) (G2.out) ?_
          simp only [Act.put, List.setIfInBounds_toArray, List.set_cons_zero, List.set_cons_succ]
          refine wpAnyHCall 5 (some 26) 44 #[.slice pb b.length cb] (by kernel_rfl) rfl rfl (by rfl) (by go_simp) (NB) ?_
          rintro e xc3 ⟨rfl, hb9⟩
          have G3 := Lib.hid (SB G2.out hb9)
          have HBD := Lib.hid (HBD.out.trans (hb9.mono HBD.out.size))
          have EQ := same_any _ _ a b xc3 G3.out.ra G3.out.rb
          rw [heq] at EQ
          clear hb9 NB
          refine ⟨_, rfl, G3.out, ?_⟩
          simp only [Act.put, List.setIfInBounds_toArray, List.set_cons_zero, List.set_cons_succ]
          refine wpAnyHTake 6 (some 27) (.bool false) rfl rfl (by kernel_rfl) (by kernel_rfl) (by kernel_rfl) (fun _ _ _ h => h) (by rfl) (fun _ _ => by go_simp) (G3.out) ?_
          simp only [Act.put, List.setIfInBounds_toArray, List.set_cons_zero, List.set_cons_succ]
          refine wpAnyHTake 7 (some 28) (.bool false) rfl rfl (by kernel_rfl) (by kernel_rfl) (by kernel_rfl) (fun _ _ _ h => h) (by rfl) (fun _ _ => by go_simp) (G3.out) ?_
          simp only [Act.put, List.setIfInBounds_toArray, List.set_cons_zero, List.set_cons_succ]
          refine wpAnyHTake 8 (some 29) (.bool false) rfl rfl (by kernel_rfl) (by kernel_rfl) (by kernel_rfl) (fun _ _ _ h => h) (by rfl) (fun _ _ => by rfl) (G3.out) ?_
          simp only [Act.put, List.setIfInBounds_toArray, List.set_cons_zero, List.set_cons_succ]
          refine wpAnyHTake 9 (some 30) (.slice pa a.length ca) rfl rfl (by kernel_rfl) (by kernel_rfl) (by kernel_rfl) (fun _ _ _ h => h) (by rfl) (fun _ _ => by rfl) (G3.out) ?_
          simp only [Act.put, List.setIfInBounds_toArray, List.set_cons_zero, List.set_cons_succ]
          refine wpAnyHTake 10 (some 31) (.slice pb b.length cb) rfl rfl (by kernel_rfl) (by kernel_rfl) (by kernel_rfl) (fun _ _ _ h => h) (by rfl) (fun _ _ => by rfl) (G3.out) ?_
          simp only [Act.put, List.setIfInBounds_toArray, List.set_cons_zero, List.set_cons_succ]
          refine wpAnyHCall 11 (some 32) 25 #[.slice pa a.length ca, .slice pb b.length cb] (by kernel_rfl) rfl rfl (by rfl) (by go_simp) (EQ) ?_
          rintro e xc4 ⟨rfl, hb9⟩
          have G4 := Lib.hid (SB G3.out hb9)
          have HBD := Lib.hid (HBD.out.trans (hb9.mono HBD.out.size))
          have FA := rform_any ⟨k1, nx1, row1, pas1⟩ _ a xc4 G4.out.ra hs (by omega) (nrm_bd hna)
          clear hb9 EQ
          refine ⟨_, rfl, G4.out, ?_⟩
          simp only [Act.put, List.setIfInBounds_toArray, List.set_cons_zero, List.set_cons_succ]
          refine wpAnyHTake 12 (some 33) (.bool false) rfl rfl (by kernel_rfl) (by kernel_rfl) (by kernel_rfl) (fun _ _ _ h => h) (by rfl) (fun _ _ => by go_simp) (G4.out) ?_
          simp only [Act.put, List.setIfInBounds_toArray, List.set_cons_zero, List.set_cons_succ]
          refine wpAnyHTake 13 (some 34) (.bool false) rfl rfl (by kernel_rfl) (by kernel_rfl) (by kernel_rfl) (fun _ _ _ h => h) (by rfl) (fun _ _ => by rfl) (G4.out) ?_
          simp only [Act.put, List.setIfInBounds_toArray, List.set_cons_zero, List.set_cons_succ]
          refine wpAnyHTake 14 (some 35) (.agg #[.int .i64 k1, .bool nx1, .int .i64 row1, .int .i64 pas1]) rfl rfl (by kernel_rfl) (by kernel_rfl) (by kernel_rfl) (fun _ _ _ h => h) (by rfl) (fun W hW => by obtain ⟨c0, c1, c2, c3⟩ := hW.sty.cells; go_simp) (G4.out) ?_
          simp only [Act.put, List.setIfInBounds_toArray, List.set_cons_zero, List.set_cons_succ]
          refine wpAnyHTake 15 (some 36) (.slice pa a.length ca) rfl rfl (by kernel_rfl) (by kernel_rfl) (by kernel_rfl) (fun _ _ _ h => h) (by rfl) (fun _ _ => by rfl) (G4.out) ?_
          simp only [Act.put, List.setIfInBounds_toArray, List.set_cons_zero, List.set_cons_succ]
          refine wpAnyHTake 17 (some 38) (.agg #[.int .i64 k1, .bool nx1, .int .i64 row1, .int .i64 pas1]) rfl rfl (by kernel_rfl) (by kernel_rfl) (by kernel_rfl) (fun _ _ _ h => h) (by rfl) (fun W hW => by obtain ⟨c0, c1, c2, c3⟩ := hW.sty.cells; go_simp) (G4.out) ?_
          simp only [Act.put, List.setIfInBounds_toArray, List.set_cons_zero, List.set_cons_succ]
          refine wpAnyHTake 18 (some 39) (.slice pb b.length cb) rfl rfl (by kernel_rfl) (by kernel_rfl) (by kernel_rfl) (fun _ _ _ h => h) (by rfl) (fun _ _ => by rfl) (G4.out) ?_
          simp only [Act.put, List.setIfInBounds_toArray, List.set_cons_zero, List.set_cons_succ]
          refine wpAnyHCall 16 (some 37) 21 #[.agg #[.int .i64 k1, .bool nx1, .int .i64 row1, .int .i64 pas1], .slice pa a.length ca] (by kernel_rfl) rfl rfl (by rfl) (by go_simp) (FA) ?_
          rintro e xc5 ⟨rfl, hb9⟩
          have G5 := Lib.hid (SB G4.out hb9)
          have HBD := Lib.hid (HBD.out.trans (hb9.mono HBD.out.size))
          have FB := rform_any ⟨k1, nx1, row1, pas1⟩ _ b xc5 G5.out.rb hs (by omega) (nrm_bd hnb)
          clear hb9 FA
          refine ⟨_, rfl, G5.out, ?_⟩
          simp only [Act.put, List.setIfInBounds_toArray, List.set_cons_zero, List.set_cons_succ]
          refine wpAnyHCall 19 (some 40) 21 #[.agg #[.int .i64 k1, .bool nx1, .int .i64 row1, .int .i64 pas1], .slice pb b.length cb] (by kernel_rfl) rfl rfl (by rfl) (by go_simp) (FB) ?_
          rintro e xc6 ⟨rfl, hb9⟩
          have G6 := Lib.hid (SB G5.out hb9)
          have HBD := Lib.hid (HBD.out.trans (hb9.mono HBD.out.size))
          clear hb9 FB
          refine ⟨_, rfl, G6.out, ?_⟩
          simp only [Act.put, List.setIfInBounds_toArray, List.set_cons_zero, List.set_cons_succ]
          refine wpAnyHTake 20 (some 41) (.bool false) rfl rfl (by kernel_rfl) (by kernel_rfl) (by kernel_rfl) (fun _ _ _ h => h) (by rfl) (fun _ _ => by go_simp <;> first | exact hfq | simp [hfq]) (G6.out) ?_
          simp only [Act.put, List.setIfInBounds_toArray, List.set_cons_zero, List.set_cons_succ]
          refine wpAnyHTake 21 (some 42) (.bool false) rfl rfl (by kernel_rfl) (by kernel_rfl) (by kernel_rfl) (fun _ _ _ h => h) (by rfl) (fun _ _ => by go_simp) (G6.out) ?_
          simp only [Act.put, List.setIfInBounds_toArray, List.set_cons_zero, List.set_cons_succ]
          refine wpAnyH_done (by kernel_rfl) ?_ _
          have GR := Lib.hid (And.intro (show RdP xc6 _ a from G6.out.ra) (show RdP xc6 _ b from G6.out.rb))
          have hcb := chk_form ⟨k1, nx1, row1, pas1⟩ most a b hna hnb hab hf
          have hab9 := hla; have hbb9 := hlb
          clear hna hnb hf heq hfq hab SB G1 G2 G3 G4 G5 G6
          rcases snoc_cases a with h0 | ⟨M, x, h0⟩
          · subst h0
            rcases snoc_cases b with h1 | ⟨M2, y, h1⟩
            · subst h1
              have HE := Lib.hid (chk_0 (hcb.trans (by rw [lastOver_nil]; rfl)))
              clear hcb
              go_wp2_with fail
              go_ret
              exact ⟨by rw [HE.out]; rfl, HBD.out⟩
            · have hcb2 := hcb
              rw [h1, lastOver_snoc] at hcb2
              subst h1
              obtain ⟨b_m, o_m, c_m, he_m, hl_m, hc_m, hd_m⟩ := RdP_last GR.out.2
              obtain ⟨y0, y1⟩ := y
              dsimp only at hc_m hd_m
              obtain ⟨m, hnn_m⟩ : ∃ m, M2.length = m := ⟨_, rfl⟩
              have hlen_m : (M2 ++ [(y0, y1)]).length = m + 1 := by simp [hnn_m]
              rw [hlen_m] at he_m ⊢
              obtain ⟨rfl, -, rfl⟩ : pb = some ⟨b_m, o_m, none⟩ ∧ m = M2.length ∧ cb = c_m := by simpa using he_m
              rw [hnn_m] at hd_m
              have h9_m : m ≤ 1000 := by simp [hnn_m] at hbb9; omega
              have i0_m : (0 : Int) ≤ (m : Int) := by omega
              have i9_m : (m : Int) ≤ 1000 := by omega
              have iw_m : IntKind.i64.wrap (m : Int) = (m : Int) := by rw [IntKind.wrap_i64]; omega
              have il_m : (m : Int) < (m : Int) + 1 := by omega
              have ip_m : (0 : Int) < (m : Int) + 1 := by omega
              clear he_m hlen_m hnn_m hc_m
              by_cases hyo : most < y1
              · have HE := Lib.hid (chk_17 (hcb.trans (by rw [lastOver_snoc]; rw [lastOver_nil]; simp; exact hyo)))
                clear hcb hcb2
                go_wp2_with fail
                go_ret
                exact ⟨by rw [HE.out]; rfl, HBD.out⟩
              · have HE := Lib.hid (chk_0 (hcb.trans (by rw [lastOver_snoc]; rw [lastOver_nil]; simp; omega)))
                clear hcb hcb2
                go_wp2_with fail
                go_ret
                exact ⟨by rw [HE.out]; rfl, HBD.out⟩
          · subst h0
            obtain ⟨b_n, o_n, c_n, he_n, hl_n, hc_n, hd_n⟩ := RdP_last GR.out.1
            obtain ⟨x0, x1⟩ := x
            dsimp only at hc_n hd_n
            obtain ⟨n, hnn_n⟩ : ∃ n, M.length = n := ⟨_, rfl⟩
            have hlen_n : (M ++ [(x0, x1)]).length = n + 1 := by simp [hnn_n]
            rw [hlen_n] at he_n ⊢
            obtain ⟨rfl, -, rfl⟩ : pa = some ⟨b_n, o_n, none⟩ ∧ n = M.length ∧ ca = c_n := by simpa using he_n
            rw [hnn_n] at hd_n
            have h9_n : n ≤ 1000 := by simp [hnn_n] at hab9; omega
            have i0_n : (0 : Int) ≤ (n : Int) := by omega
            have i9_n : (n : Int) ≤ 1000 := by omega
            have iw_n : IntKind.i64.wrap (n : Int) = (n : Int) := by rw [IntKind.wrap_i64]; omega
            have il_n : (n : Int) < (n : Int) + 1 := by omega
            have ip_n : (0 : Int) < (n : Int) + 1 := by omega
            clear he_n hlen_n hnn_n hc_n
            by_cases hxo : most < x1
            · have HE := Lib.hid (chk_17 (hcb.trans (by rw [lastOver_snoc, decide_eq_true (show most < ((x0, x1) : Sp).2 from hxo)]; rfl)))
              clear hcb
              go_wp2_with fail
              go_ret
              exact ⟨by rw [HE.out]; rfl, HBD.out⟩
            · rcases snoc_cases b with h1 | ⟨M2, y, h1⟩
              · subst h1
                have HE := Lib.hid (chk_0 (hcb.trans (by rw [lastOver_snoc, decide_eq_false (show ¬ most < ((x0, x1) : Sp).2 from hxo)]; rfl)))
                clear hcb
                go_wp2_with fail
                go_ret
                exact ⟨by rw [HE.out]; rfl, HBD.out⟩
              · have hcb2 := hcb
                rw [h1, lastOver_snoc] at hcb2
                subst h1
                obtain ⟨b_m, o_m, c_m, he_m, hl_m, hc_m, hd_m⟩ := RdP_last GR.out.2
                obtain ⟨y0, y1⟩ := y
                dsimp only at hc_m hd_m
                obtain ⟨m, hnn_m⟩ : ∃ m, M2.length = m := ⟨_, rfl⟩
                have hlen_m : (M2 ++ [(y0, y1)]).length = m + 1 := by simp [hnn_m]
                rw [hlen_m] at he_m ⊢
                obtain ⟨rfl, -, rfl⟩ : pb = some ⟨b_m, o_m, none⟩ ∧ m = M2.length ∧ cb = c_m := by simpa using he_m
                rw [hnn_m] at hd_m
                have h9_m : m ≤ 1000 := by simp [hnn_m] at hbb9; omega
                have i0_m : (0 : Int) ≤ (m : Int) := by omega
                have i9_m : (m : Int) ≤ 1000 := by omega
                have iw_m : IntKind.i64.wrap (m : Int) = (m : Int) := by rw [IntKind.wrap_i64]; omega
                have il_m : (m : Int) < (m : Int) + 1 := by omega
                have ip_m : (0 : Int) < (m : Int) + 1 := by omega
                clear he_m hlen_m hnn_m hc_m
                by_cases hyo : most < y1
                · have HE := Lib.hid (chk_17 (hcb.trans (by rw [lastOver_snoc]; rw [lastOver_snoc, decide_eq_false (show ¬ most < ((x0, x1) : Sp).2 from hxo)]; simp; exact hyo)))
                  clear hcb hcb2
                  go_wp2_with fail
                  go_ret
                  exact ⟨by rw [HE.out]; rfl, HBD.out⟩
                · have HE := Lib.hid (chk_0 (hcb.trans (by rw [lastOver_snoc]; rw [lastOver_snoc, decide_eq_false (show ¬ most < ((x0, x1) : Sp).2 from hxo)]; simp; omega)))
                  clear hcb hcb2
                  go_wp2_with fail
                  go_ret
                  exact ⟨by rw [HE.out]; rfl, HBD.out⟩
        · have hfq : ¬ (bs (formL ⟨k1, nx1, row1, pas1⟩ a)).toList = (bs (formL ⟨k1, nx1, row1, pas1⟩ b)).toList := by rw [bs_toList, bs_toList]; exact hf
          have hE : chkE ⟨k1, nx1, row1, pas1⟩ most a b = 17 := chk_17 (by unfold chkB; rw [decide_eq_false hf]; simp)
          have HE := Lib.hid hE
          clear hE hab hf
          go_wp2_with fail
          refine wp_region_held (S := fun W => RChkW W w.heap.size ⟨k1, nx1, row1, pas1⟩ (.slice pa a.length ca) a (.slice pb b.length cb) b) (by kernel_rfl) ?_
          have hdr : (w1).drew = { w1 with drawn := (w1).drawn + 1 } := rfl
          rw [← hdr]
          clear hdr
          refine wpAnyHTake 0 (some 21) (.slice pa a.length ca) rfl rfl (by kernel_rfl) (by kernel_rfl) (by kernel_rfl) (fun _ _ _ h => h) (by rfl) (fun _ _ => by rfl) (G1.out) ?_
          simp only [Act.put, List.setIfInBounds_toArray, List.set_cons_zero, List.set_cons_succ]
          refine wpAnyHCall 1 (some 22) 44 #[.slice pa a.length ca] (by kernel_rfl) rfl rfl (by rfl) (by go_simp) (NA) ?_
          rintro e xc2 ⟨rfl, hb9⟩
          have G2 := Lib.hid (SB G1.out hb9)
          have HBD := Lib.hid (HBD.out.trans (hb9.mono HBD.out.size))
          have NB := is_any _ b xc2 G2.out.rb (by omega)
          rw [hnb] at NB
          clear hb9 NA
          refine ⟨_, rfl, G2.out, ?_⟩
          simp only [Act.put, List.setIfInBounds_toArray, List.set_cons_zero, List.set_cons_succ]
          refine wpAnyHTake 2 (some 23) (.bool false) rfl rfl (by kernel_rfl) (by kernel_rfl) (by kernel_rfl) (fun _ _ _ h => h) (by rfl) (fun _ _ => by go_simp) (G2.out) ?_
          simp only [Act.put, List.setIfInBounds_toArray, List.set_cons_zero, List.set_cons_succ]
          refine wpAnyHTake 3 (some 24) (.bool false) rfl rfl (by kernel_rfl) (by kernel_rfl) (by kernel_rfl) (fun _ _ _ h => h) (by rfl) (fun _ _ => by rfl) (G2.out) ?_
          simp only [Act.put, List.setIfInBounds_toArray, List.set_cons_zero, List.set_cons_succ]
          refine wpAnyHTake 4 (some 25) (.slice pb b.length cb) rfl rfl (by kernel_rfl) (by kernel_rfl) (by kernel_rfl) (fun _ _ _ h => h) (by rfl) (fun _ _ => by rfl) (G2.out) ?_
          simp only [Act.put, List.setIfInBounds_toArray, List.set_cons_zero, List.set_cons_succ]
          refine wpAnyHCall 5 (some 26) 44 #[.slice pb b.length cb] (by kernel_rfl) rfl rfl (by rfl) (by go_simp) (NB) ?_
          rintro e xc3 ⟨rfl, hb9⟩
          have G3 := Lib.hid (SB G2.out hb9)
          have HBD := Lib.hid (HBD.out.trans (hb9.mono HBD.out.size))
          have EQ := same_any _ _ a b xc3 G3.out.ra G3.out.rb
          rw [heq] at EQ
          clear hb9 NB
          refine ⟨_, rfl, G3.out, ?_⟩
          simp only [Act.put, List.setIfInBounds_toArray, List.set_cons_zero, List.set_cons_succ]
          refine wpAnyHTake 6 (some 27) (.bool false) rfl rfl (by kernel_rfl) (by kernel_rfl) (by kernel_rfl) (fun _ _ _ h => h) (by rfl) (fun _ _ => by go_simp) (G3.out) ?_
          simp only [Act.put, List.setIfInBounds_toArray, List.set_cons_zero, List.set_cons_succ]
          refine wpAnyHTake 7 (some 28) (.bool false) rfl rfl (by kernel_rfl) (by kernel_rfl) (by kernel_rfl) (fun _ _ _ h => h) (by rfl) (fun _ _ => by go_simp) (G3.out) ?_
          simp only [Act.put, List.setIfInBounds_toArray, List.set_cons_zero, List.set_cons_succ]
          refine wpAnyHTake 8 (some 29) (.bool false) rfl rfl (by kernel_rfl) (by kernel_rfl) (by kernel_rfl) (fun _ _ _ h => h) (by rfl) (fun _ _ => by rfl) (G3.out) ?_
          simp only [Act.put, List.setIfInBounds_toArray, List.set_cons_zero, List.set_cons_succ]
          refine wpAnyHTake 9 (some 30) (.slice pa a.length ca) rfl rfl (by kernel_rfl) (by kernel_rfl) (by kernel_rfl) (fun _ _ _ h => h) (by rfl) (fun _ _ => by rfl) (G3.out) ?_
          simp only [Act.put, List.setIfInBounds_toArray, List.set_cons_zero, List.set_cons_succ]
          refine wpAnyHTake 10 (some 31) (.slice pb b.length cb) rfl rfl (by kernel_rfl) (by kernel_rfl) (by kernel_rfl) (fun _ _ _ h => h) (by rfl) (fun _ _ => by rfl) (G3.out) ?_
          simp only [Act.put, List.setIfInBounds_toArray, List.set_cons_zero, List.set_cons_succ]
          refine wpAnyHCall 11 (some 32) 25 #[.slice pa a.length ca, .slice pb b.length cb] (by kernel_rfl) rfl rfl (by rfl) (by go_simp) (EQ) ?_
          rintro e xc4 ⟨rfl, hb9⟩
          have G4 := Lib.hid (SB G3.out hb9)
          have HBD := Lib.hid (HBD.out.trans (hb9.mono HBD.out.size))
          have FA := rform_any ⟨k1, nx1, row1, pas1⟩ _ a xc4 G4.out.ra hs (by omega) (nrm_bd hna)
          clear hb9 EQ
          refine ⟨_, rfl, G4.out, ?_⟩
          simp only [Act.put, List.setIfInBounds_toArray, List.set_cons_zero, List.set_cons_succ]
          refine wpAnyHTake 12 (some 33) (.bool false) rfl rfl (by kernel_rfl) (by kernel_rfl) (by kernel_rfl) (fun _ _ _ h => h) (by rfl) (fun _ _ => by go_simp) (G4.out) ?_
          simp only [Act.put, List.setIfInBounds_toArray, List.set_cons_zero, List.set_cons_succ]
          refine wpAnyHTake 13 (some 34) (.bool false) rfl rfl (by kernel_rfl) (by kernel_rfl) (by kernel_rfl) (fun _ _ _ h => h) (by rfl) (fun _ _ => by rfl) (G4.out) ?_
          simp only [Act.put, List.setIfInBounds_toArray, List.set_cons_zero, List.set_cons_succ]
          refine wpAnyHTake 14 (some 35) (.agg #[.int .i64 k1, .bool nx1, .int .i64 row1, .int .i64 pas1]) rfl rfl (by kernel_rfl) (by kernel_rfl) (by kernel_rfl) (fun _ _ _ h => h) (by rfl) (fun W hW => by obtain ⟨c0, c1, c2, c3⟩ := hW.sty.cells; go_simp) (G4.out) ?_
          simp only [Act.put, List.setIfInBounds_toArray, List.set_cons_zero, List.set_cons_succ]
          refine wpAnyHTake 15 (some 36) (.slice pa a.length ca) rfl rfl (by kernel_rfl) (by kernel_rfl) (by kernel_rfl) (fun _ _ _ h => h) (by rfl) (fun _ _ => by rfl) (G4.out) ?_
          simp only [Act.put, List.setIfInBounds_toArray, List.set_cons_zero, List.set_cons_succ]
          refine wpAnyHTake 17 (some 38) (.agg #[.int .i64 k1, .bool nx1, .int .i64 row1, .int .i64 pas1]) rfl rfl (by kernel_rfl) (by kernel_rfl) (by kernel_rfl) (fun _ _ _ h => h) (by rfl) (fun W hW => by obtain ⟨c0, c1, c2, c3⟩ := hW.sty.cells; go_simp) (G4.out) ?_
          simp only [Act.put, List.setIfInBounds_toArray, List.set_cons_zero, List.set_cons_succ]
          refine wpAnyHTake 18 (some 39) (.slice pb b.length cb) rfl rfl (by kernel_rfl) (by kernel_rfl) (by kernel_rfl) (fun _ _ _ h => h) (by rfl) (fun _ _ => by rfl) (G4.out) ?_
          simp only [Act.put, List.setIfInBounds_toArray, List.set_cons_zero, List.set_cons_succ]
          refine wpAnyHCall 16 (some 37) 21 #[.agg #[.int .i64 k1, .bool nx1, .int .i64 row1, .int .i64 pas1], .slice pa a.length ca] (by kernel_rfl) rfl rfl (by rfl) (by go_simp) (FA) ?_
          rintro e xc5 ⟨rfl, hb9⟩
          have G5 := Lib.hid (SB G4.out hb9)
          have HBD := Lib.hid (HBD.out.trans (hb9.mono HBD.out.size))
          have FB := rform_any ⟨k1, nx1, row1, pas1⟩ _ b xc5 G5.out.rb hs (by omega) (nrm_bd hnb)
          clear hb9 FA
          refine ⟨_, rfl, G5.out, ?_⟩
          simp only [Act.put, List.setIfInBounds_toArray, List.set_cons_zero, List.set_cons_succ]
          refine wpAnyHCall 19 (some 40) 21 #[.agg #[.int .i64 k1, .bool nx1, .int .i64 row1, .int .i64 pas1], .slice pb b.length cb] (by kernel_rfl) rfl rfl (by rfl) (by go_simp) (FB) ?_
          rintro e xc6 ⟨rfl, hb9⟩
          have G6 := Lib.hid (SB G5.out hb9)
          have HBD := Lib.hid (HBD.out.trans (hb9.mono HBD.out.size))
          clear hb9 FB
          refine ⟨_, rfl, G6.out, ?_⟩
          simp only [Act.put, List.setIfInBounds_toArray, List.set_cons_zero, List.set_cons_succ]
          refine wpAnyHTake 20 (some 41) (.bool true) rfl rfl (by kernel_rfl) (by kernel_rfl) (by kernel_rfl) (fun _ _ _ h => h) (by rfl) (fun _ _ => by go_simp <;> first | exact hfq | simp [hfq]) (G6.out) ?_
          simp only [Act.put, List.setIfInBounds_toArray, List.set_cons_zero, List.set_cons_succ]
          refine wpAnyHTake 21 (some 42) (.bool true) rfl rfl (by kernel_rfl) (by kernel_rfl) (by kernel_rfl) (fun _ _ _ h => h) (by rfl) (fun _ _ => by go_simp) (G6.out) ?_
          simp only [Act.put, List.setIfInBounds_toArray, List.set_cons_zero, List.set_cons_succ]
          refine wpAnyH_done (by kernel_rfl) ?_ _
          go_wp2_with fail
          go_ret
          exact ⟨by rw [HE.out]; rfl, HBD.out⟩
end Go.Proofs.YtecdkpcapalifaaDoor

namespace Go.Proofs.YtecdkpcapalifaaDoor
open Go.RowKit Go.Maps

open Classical in
noncomputable def checkV (s : Sty) (most : Int) (a b : List Sp) : Int := if okSty s then (if 1 ≤ most ∧ most ≤ 999 then chkE s most a b else 5) else 1
theorem checkV_ok {s : Sty} {most : Int} (hs : okSty s) (h1 : 1 ≤ most) (h9 : most ≤ 999) (a b : List Sp) : checkV s most a b = chkE s most a b := by unfold checkV; rw [if_pos hs, if_pos ⟨h1, h9⟩]
theorem checkV_range {s : Sty} {most : Int} (hs : okSty s) (h : ¬ (1 ≤ most ∧ most ≤ 999)) (a b : List Sp) : checkV s most a b = 5 := by unfold checkV; rw [if_pos hs, if_neg h]
theorem checkV_bad {s : Sty} {most : Int} (hs : ¬ okSty s) (a b : List Sp) : checkV s most a b = 1 := if_neg hs
theorem check_all (s : Sty) (most : Int) (va vb : Value) (a b : List Sp) (w : World) (ha : RdP w va a) (hb : RdP w vb b) (hla : a.length ≤ 1000) (hlb : b.length ≤ 1000) :
    Calls Tryd.prog 32 #[styV s, .int .i64 most, va, vb] w fun e w' => e = .returned (.int .i64 (checkV s most a b)) ∧ Below w.heap.size w w' := by
  by_cases hs : okSty s
  · by_cases hm : 1 ≤ most ∧ most ≤ 999
    · rw [checkV_ok hs hm.1 hm.2]; exact check_ok s most va vb a b w ha hb hla hlb hs hm.1 hm.2
    · rw [checkV_range hs hm]; exact check_range s most va vb a b w ha hb hla hlb hs (by omega)
  · rw [checkV_bad hs]; exact check_bad s most va vb a b w ha hb hla hlb hs
theorem rcheck_all (s : Sty) (most : Int) (va vb : Value) (a b : List Sp) (w : World) (ha : RdP w va a) (hb : RdP w vb b) (hla : a.length ≤ 1000) (hlb : b.length ≤ 1000) :
    Calls Tryd.prog 33 #[styV s, .int .i64 most, va, vb] w fun e w' => e = .returned (.int .i64 (checkV s most a b)) ∧ Below w.heap.size w w' := by
  by_cases hs : okSty s
  · by_cases hm : 1 ≤ most ∧ most ≤ 999
    · rw [checkV_ok hs hm.1 hm.2]; exact rcheck_ok s most va vb a b w ha hb hla hlb hs hm.1 hm.2
    · rw [checkV_range hs hm]; exact rcheck_range s most va vb a b w ha hb hla hlb hs (by omega)
  · rw [checkV_bad hs]; exact rcheck_bad s most va vb a b w ha hb hla hlb hs
theorem pas_small (N : Nat) (h2 : 2 ≤ N) (h : 2 * N ≤ 999) : (BdL 1000 (pasX N) ∧ (pasX N).length ≤ 500) ∧ BdL 1000 (pasY N) ∧ (pasY N).length ≤ 500 := by
  have hr : ∀ x ∈ (List.range (N - 2)).map (fun i : Nat => ((6 + 2 * (i : Int), 6 + 2 * (i : Int)) : Sp)), -1000 ≤ x.1 ∧ x.1 ≤ 1000 ∧ -1000 ≤ x.2 ∧ x.2 ≤ 1000 := by
    intro x hx
    obtain ⟨i, hi, rfl⟩ := List.mem_map.1 hx
    have := List.mem_range.1 hi
    dsimp only
    omega
  unfold pasX pasY
  exact ⟨⟨BdL_cons.2 ⟨by omega, BdL_cons.2 ⟨by omega, hr⟩⟩, by simp; omega⟩, BdL_cons.2 ⟨by omega, BdL_cons.2 ⟨by omega, hr⟩⟩, by simp; omega⟩
theorem uniq_small {s : Sty} {most : Int} (hs : okSty s) (h1 : 1 ≤ most) (h9 : most ≤ 999) : (BdL 1000 (uniqA s most) ∧ (uniqA s most).length ≤ 500) ∧ BdL 1000 (uniqB s most) ∧ (uniqB s most).length ≤ 500 := by
  obtain ⟨_, _, hr0, _, hr9, hp0, hp1, hp9⟩ := hs
  by_cases hp : 0 < s.pas ∧ 2 * s.pas ≤ most ∧ (s.row = 0 ∨ 2 * s.pas ≤ s.row + 1)
  · obtain ⟨e1, e2, _⟩ := uniq_pas hp
    rw [e1, e2]
    exact pas_small _ (by omega) (by omega)
  · by_cases hf : 0 < s.row ∧ s.row + 1 ≤ most
    · obtain ⟨e1, e2, _⟩ := uniq_ff hp hf
      rw [e1, e2]
      exact ⟨⟨BdL_cons.2 ⟨by omega, BdL_nil⟩, by simp⟩, BdL_cons.2 ⟨by omega, BdL_nil⟩, by simp⟩
    · obtain ⟨e1, e2, _⟩ := uniq_no hp hf
      rw [e1, e2]
      exact ⟨⟨BdL_nil, by simp⟩, BdL_nil, by simp⟩
/-- a table of numbers -/
def TabN (W : World) (T n : Nat) : Prop := T < W.heap.size ∧ ∀ k, k < n → ∃ m : Int, W.cell? ⟨T, k, none⟩ = some (.int .i64 m) ∧ -9223372036854775808 ≤ m ∧ m ≤ 9223372036854775807
theorem TabN.below {W W' : World} {T n : Nat} (h : TabN W T n) (hb : Below W.heap.size W W') : TabN W' T n :=
  ⟨Nat.lt_of_lt_of_le h.1 hb.size, fun k hk => by
    obtain ⟨u, h1, h2⟩ := h.2 k hk
    exact ⟨u, (hb.cell (p := ⟨T, k, none⟩) h.1).trans h1, h2⟩⟩
theorem tabN3 (w : World) (t : TypeId) (x y z : Int) (hx : -9223372036854775808 ≤ x ∧ x ≤ 9223372036854775807) (hy : -9223372036854775808 ≤ y ∧ y ≤ 9223372036854775807) (hz : -9223372036854775808 ≤ z ∧ z ≤ 9223372036854775807) :
    TabN (w.alloc (.cells #[.int .i64 x, .int .i64 y, .int .i64 z] t)) w.heap.size 3 := by
  have bx := Boxs.new w t #[.int .i64 x, .int .i64 y, .int .i64 z]
  refine ⟨bx.lt, fun k hk => ?_⟩
  match k, hk with
  | 0, _ => exact ⟨x, bx.cell 0, hx⟩
  | 1, _ => exact ⟨y, bx.cell 1, hy⟩
  | 2, _ => exact ⟨z, bx.cell 2, hz⟩
theorem tab10 {w : World} {t : TypeId} {v0 v1 v2 v3 v4 v5 v6 v7 v8 v9 : Value} {L0 L1 L2 L3 L4 L5 L6 L7 L8 L9 : List Sp} {P : List Sp → Prop}
    (h0 : RdP w v0 L0 ∧ P L0) (h1 : RdP w v1 L1 ∧ P L1) (h2 : RdP w v2 L2 ∧ P L2) (h3 : RdP w v3 L3 ∧ P L3) (h4 : RdP w v4 L4 ∧ P L4) (h5 : RdP w v5 L5 ∧ P L5) (h6 : RdP w v6 L6 ∧ P L6) (h7 : RdP w v7 L7 ∧ P L7) (h8 : RdP w v8 L8 ∧ P L8) (h9 : RdP w v9 L9 ∧ P L9) :
    TabP (w.alloc (.cells #[v0, v1, v2, v3, v4, v5, v6, v7, v8, v9] t)) w.heap.size 10 P := by
  have bx := Boxs.new w t #[v0, v1, v2, v3, v4, v5, v6, v7, v8, v9]
  have bl := (Below.refl w.heap.size w).alloc (Nat.le_refl _) (.cells #[v0, v1, v2, v3, v4, v5, v6, v7, v8, v9] t)
  have one : ∀ {v : Value} {L : List Sp} {k : Nat}, (#[v0, v1, v2, v3, v4, v5, v6, v7, v8, v9] : Array Value)[k]? = some v → RdP w v L ∧ P L → ∃ a c L', (w.alloc (.cells #[v0, v1, v2, v3, v4, v5, v6, v7, v8, v9] t)).cell? ⟨w.heap.size, k, none⟩ = some (.slice a L'.length c) ∧ RdP (w.alloc (.cells #[v0, v1, v2, v3, v4, v5, v6, v7, v8, v9] t)) (.slice a L'.length c) L' ∧ P L' := by
    intro v L k hk h
    obtain ⟨a, c, rfl⟩ := h.1.form
    exact ⟨a, c, L, (bx.cell k).trans hk, h.1.below bl, h.2⟩
  refine ⟨bx.lt, fun k hk => ?_⟩
  match k, hk with
  | 0, _ => exact one rfl h0
  | 1, _ => exact one rfl h1
  | 2, _ => exact one rfl h2
  | 3, _ => exact one rfl h3
  | 4, _ => exact one rfl h4
  | 5, _ => exact one rfl h5
  | 6, _ => exact one rfl h6
  | 7, _ => exact one rfl h7
  | 8, _ => exact one rfl h8
  | 9, _ => exact one rfl h9
end Go.Proofs.YtecdkpcapalifaaDoor

