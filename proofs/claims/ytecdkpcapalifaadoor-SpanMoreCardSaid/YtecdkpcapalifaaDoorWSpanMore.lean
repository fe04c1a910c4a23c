/- The walk of SpanMore. -/
import Derived.Test.YtecdkpcapalifaaDoorM18
set_option linter.unusedVariables false
namespace Go.Proofs.YtecdkpcapalifaaDoor
open Go.RowKit Go.Maps

theorem uniq_more {s : Sty} (hs : okSty s) {m m' : Int} (hm : m ≤ m') (h : uniqIs s m = false) : uniqIs s m' = false ∧ uniqA s m' = uniqA s m ∧ uniqB s m' = uniqB s m := by
  obtain ⟨_, _, hr0, _⟩ := hs
  by_cases hp : 0 < s.pas ∧ 2 * s.pas ≤ m ∧ (s.row = 0 ∨ 2 * s.pas ≤ s.row + 1)
  · have hp' : 0 < s.pas ∧ 2 * s.pas ≤ m' ∧ (s.row = 0 ∨ 2 * s.pas ≤ s.row + 1) := by omega
    obtain ⟨a1, a2, a3⟩ := uniq_pas hp
    obtain ⟨b1, b2, b3⟩ := uniq_pas hp'
    exact ⟨b3, by rw [a1, b1], by rw [a2, b2]⟩
  · by_cases hf : 0 < s.row ∧ s.row + 1 ≤ m
    · have hp' : ¬ (0 < s.pas ∧ 2 * s.pas ≤ m' ∧ (s.row = 0 ∨ 2 * s.pas ≤ s.row + 1)) := by omega
      have hf' : 0 < s.row ∧ s.row + 1 ≤ m' := by omega
      obtain ⟨a1, a2, a3⟩ := uniq_ff hp hf
      obtain ⟨b1, b2, b3⟩ := uniq_ff hp' hf'
      exact ⟨b3, by rw [a1, b1], by rw [a2, b2]⟩
    · rw [(uniq_no hp hf).2.2] at h; cases h
theorem plain_uniq (k : Int) (nx : Bool) (m : Int) : uniqIs ⟨k, nx, 0, 0⟩ m = true := (uniq_no (by simp) (by simp)).2.2
theorem plain_cut (k : Int) (nx : Bool) (hs : okSty ⟨k, nx, 0, 0⟩) {l : List Sp} (hn : nrm l = true) : cutL ⟨k, nx, 0, 0⟩ l = l :=
  cut_same hs 1000 (by simp) (by simp) _ l (Nat.le_refl _) (nrm_bd hn) (fun z hz => by have := nrm_bd hn z hz; omega)
theorem plain_print (k : Int) (nx : Bool) (hs : okSty ⟨k, nx, 0, 0⟩) {l : List Sp} (hn : nrm l = true) : printE ⟨k, nx, 0, 0⟩ l = 0 ∧ printT ⟨k, nx, 0, 0⟩ l = formL ⟨k, nx, 0, 0⟩ l :=
  print_good hs hn (by rw [parse_form hs hn, plain_cut k nx hs hn])
theorem plain_parts (k : Int) (nx : Bool) (l : List Sp) : partsL ⟨k, nx, 0, 0⟩ l = l.map (elementL ⟨k, nx, 0, 0⟩) := by
  have := parts_few ⟨k, nx, 0, 0⟩ l.length l [] (Nat.le_refl _) (by simp) (fun x y _ hy => by cases hy)
  rw [List.append_nil, partsL_nil, List.append_nil] at this
  exact this
theorem joinL_mono (f g : Sp → List UInt8) (h : ∀ x, (f x).length ≤ (g x).length) : ∀ l : List Sp, (joinL (l.map f)).length ≤ (joinL (l.map g)).length
  | [] => Nat.le_refl _
  | [x] => h x
  | x :: y :: r => by
    have ih := joinL_mono f g h (y :: r)
    have hx := h x
    show (f x ++ (44 :: 32 :: joinL ((y :: r).map f))).length ≤ (g x ++ (44 :: 32 :: joinL ((y :: r).map g))).length
    simp only [List.length_append, List.length_cons]
    omega
theorem strip_mono (k : Int) (a b : List UInt8) : stripN k a b ≤ stripN (k - 1) a b := by
  unfold stripN
  split
  · omega
  · omega
theorem element_mono (k : Int) (nx : Bool) (x : Sp) : (elementL ⟨k - 1, nx, 0, 0⟩ x).length ≤ (elementL ⟨k, nx, 0, 0⟩ x).length := by
  have hs := strip_mono k (textL x.1) (textL x.2)
  unfold elementL betweenL
  dsimp only
  split
  · exact Nat.le_refl _
  · split
    · exact Nat.le_refl _
    · split
      · exact Nat.le_refl _
      · simp only [List.length_append, List.length_cons, List.length_drop]
        omega
theorem form_mono (k : Int) (nx : Bool) (l : List Sp) : (formL ⟨k - 1, nx, 0, 0⟩ l).length ≤ (formL ⟨k, nx, 0, 0⟩ l).length := by
  unfold formL
  rw [plain_parts, plain_parts]
  exact joinL_mono _ _ (element_mono k nx) l
theorem around_below (n m : Int) (w : World) (h1 : -9223372036854775808 ≤ n) (h2 : n ≤ 9223372036854775807) (h3 : 0 < m) (h4 : m ≤ 1000000) :
    Calls Tryd.prog 27 #[.int .i64 n, .int .i64 m] w fun e w' => e = .returned (.int .i64 (around n m)) ∧ Below w.heap.size w w' :=
  (around_any n m w h1 h2 (by omega) (by omega)).mono fun e w' h => ⟨h.1, h.2 ▸ Below.refl _ _⟩

set_option maxRecDepth 100000 in
set_option maxHeartbeats 16000000 in
theorem spanMore_any (v0 : Value) (xs : List Int) (m mo more : Int) (w : World) (h0 : RdI w v0 xs) (i0 : inI xs) (hml : ML w) (hm1 : -9223372036854775808 ≤ m) (hm2 : m ≤ 9223372036854775807)
    (g1 : -9223372036854775808 ≤ mo) (g2 : mo ≤ 9223372036854775807) (e1 : -9223372036854775808 ≤ more) (e2 : more ≤ 9223372036854775807) :
    Calls Tryd.prog 7 #[v0, .int .i64 m, .int .i64 mo, .int .i64 more] w fun e w' => e = .returned (.bool true) ∧ Below w.heap.size w w' := by
  have HML := Lib.hid hml
  have hlt := hml.lt
  have H0 := Lib.hid h0
  have MA := made_any m w hm1 hm2
  obtain ⟨a0, c0, hv0, _⟩ := h0.open
  subst hv0
  obtain ⟨ka, hka, hka0, hka9⟩ : ∃ ka : Int, around mo 30 = ka ∧ 0 ≤ ka ∧ ka < 30 := ⟨_, rfl, (around_bd mo 30 (by omega)).1, (around_bd mo 30 (by omega)).2⟩
  obtain ⟨kb, hkb, hkb0, hkb9⟩ : ∃ kb : Int, around more 900 = kb ∧ 0 ≤ kb ∧ kb < 900 := ⟨_, rfl, (around_bd more 900 (by omega)).1, (around_bd more 900 (by omega)).2⟩
  have AR := fun W => around_below mo 30 W g1 g2 (by omega) (by omega)
  have AM := fun W => around_below more 900 W e1 e2 (by omega) (by omega)
  rw [hka] at AR
  rw [hkb] at AM
  have wk : IntKind.i64.wrap (1 + ka) = 1 + ka := by rw [IntKind.wrap_i64]; omega
  have wm : IntKind.i64.wrap (1 + ka + kb) = 1 + ka + kb := by rw [IntKind.wrap_i64]; omega
  clear hml h0 hka hkb
  go_enter Tryd.func7, Tryd.ntmps7
  go_wp2_with fail
  refine MA.mono ?_
  rintro e w1 ⟨s1, hs1m, rfl, hb1⟩
  obtain ⟨k1, nx1, row1, pas1⟩ := s1
  unfold styV
  dsimp only
  have hs := hs1m.1
  have ST := style_any k1 row1 pas1 nx1 w1
  have HB1 := Lib.hid hb1
  clear MA hb1 hs1m
  go_wp2_with fail
  refine ST.mono ?_
  rintro e w2 ⟨rfl, hb2⟩
  have HBD := Lib.hid ((HB1.out.trans (hb2.mono HB1.out.size)).alloc (by have := HB1.out.size; have := hb2.size; omega) (.cells #[.int .i64 k1, .bool nx1, .int .i64 row1, .int .i64 pas1] 36))
  have GA := Lib.hid (styB_new w2 36 k1 row1 pas1 nx1)
  have ARX := AR (w2.alloc (.cells #[.int .i64 k1, .bool nx1, .int .i64 row1, .int .i64 pas1] 36))
  clear ST hb2 HB1 AR
  go_wp2_with fail
  generalize w2.alloc (.cells #[.int .i64 k1, .bool nx1, .int .i64 row1, .int .i64 pas1] 36) = w3 at *
  obtain ⟨A, hA⟩ : ∃ A, w2.heap.size = A := ⟨_, rfl⟩
  rw [hA] at GA ⊢
  clear hA
  refine ARX.mono ?_
  rintro e u1 ⟨rfl, hb9⟩
  have GA := Lib.hid (GA.out.below hb9)
  have HBD := Lib.hid (HBD.out.trans (hb9.mono HBD.out.size))
  have UN := unique_any ⟨k1, nx1, row1, pas1⟩ (1 + ka) u1 hs (by omega) (by omega)
  clear ARX hb9
  obtain ⟨c0, c1, c2, c3⟩ := GA.out.cells
  go_wp2_with fail
  refine UN.mono ?_
  rintro e u2 ⟨va, vb, rfl, ra, rb, hb9⟩
  have GA := Lib.hid (GA.out.below hb9)
  have HBD := Lib.hid (HBD.out.trans (hb9.mono HBD.out.size))
  obtain ⟨pa, qa, rfl⟩ := ra.form
  obtain ⟨pb, qb, rfl⟩ := rb.form
  have HA := Lib.hid ra; have HB := Lib.hid rb
  clear ra rb
  clear UN hb9 c0 c1 c2 c3
  obtain ⟨c0, c1, c2, c3⟩ := GA.out.cells
  have SB : ∀ {W W' : World}, StyB W A ⟨k1, nx1, row1, pas1⟩ → Below W.heap.size W W' → StyB W' A ⟨k1, nx1, row1, pas1⟩ := fun h hb => h.below hb
  go_wp2_with fail
  have G1 := Lib.hid (GA.out.below (Below.dn (Below.refl u2.heap.size u2) 1))
  have HBD := Lib.hid (Below.dn HBD.out 1)
  have HA := Lib.hid (HA.out.below (Below.dn (Below.refl u2.heap.size u2) 1)); have HB := Lib.hid (HB.out.below (Below.dn (Below.refl u2.heap.size u2) 1))
  have AMX := AM (u2.drewN 1)
  clear c0 c1 c2 c3 AM
  refine wp_region_held (S := fun W => StyB W A ⟨k1, nx1, row1, pas1⟩) (by kernel_rfl) ?_
  have hdr : (u2).drew = { u2 with drawn := (u2).drawn + 1 } := rfl
  rw [← hdr]
  clear hdr
  refine wpAnyHTake 0 (some 44) (.agg #[.int .i64 k1, .bool nx1, .int .i64 row1, .int .i64 pas1]) rfl rfl (by kernel_rfl) (by kernel_rfl) (by kernel_rfl) (fun _ _ _ h => h) (by rfl) (fun W hW => by obtain ⟨c0, c1, c2, c3⟩ := hW.cells; go_simp) (G1.out) ?_
  simp only [Act.put, List.setIfInBounds_toArray, List.set_cons_zero, List.set_cons_succ]
  refine wpAnyHTake 1 (some 45) (.int .i64 (1 + ka)) rfl rfl (by kernel_rfl) (by kernel_rfl) (by kernel_rfl) (fun _ _ _ h => h) (by rfl) (fun _ _ => by rfl) (G1.out) ?_
  simp only [Act.put, List.setIfInBounds_toArray, List.set_cons_zero, List.set_cons_succ]
  refine wpAnyHTake 2 (some 46) (.int .i64 more) rfl rfl (by kernel_rfl) (by kernel_rfl) (by kernel_rfl) (fun _ _ _ h => h) (by rfl) (fun _ _ => by rfl) (G1.out) ?_
  simp only [Act.put, List.setIfInBounds_toArray, List.set_cons_zero, List.set_cons_succ]
  refine wpAnyHCall 3 (some 47) 27 #[.int .i64 more, .int .i64 900] (by kernel_rfl) rfl rfl (by rfl) (by go_simp) (AMX) ?_
  rintro e xd2 ⟨rfl, hb9⟩
  have G2 := Lib.hid (SB G1.out hb9)
  have HA := Lib.hid (HA.out.below hb9)
  have HB := Lib.hid (HB.out.below hb9)
  have HBD := Lib.hid (HBD.out.trans (hb9.mono HBD.out.size))
  have UN2 := unique_any ⟨k1, nx1, row1, pas1⟩ (1 + ka + kb) xd2 hs (by omega) (by omega)
  clear hb9 AMX
  refine ⟨_, rfl, G2.out, ?_⟩
  simp only [Act.put, List.setIfInBounds_toArray, List.set_cons_zero, List.set_cons_succ]
  refine wpAnyHTake 4 (some 48) (.int .i64 (1 + ka + kb)) rfl rfl (by kernel_rfl) (by kernel_rfl) (by kernel_rfl) (fun _ _ _ h => h) (by rfl) (fun _ _ => by go_simp) (G2.out) ?_
  simp only [Act.put, List.setIfInBounds_toArray, List.set_cons_zero, List.set_cons_succ]
  refine wpAnyHCall 5 (some 49) 29 #[.agg #[.int .i64 k1, .bool nx1, .int .i64 row1, .int .i64 pas1], .int .i64 (1 + ka + kb)] (by kernel_rfl) rfl rfl (by rfl) (by go_simp) (UN2) ?_
  rintro e xd3 ⟨vc, vd, rfl, rc, rd, hb9⟩
  have G3 := Lib.hid (SB G2.out hb9)
  have HA := Lib.hid (HA.out.below hb9)
  have HB := Lib.hid (HB.out.below hb9)
  have HBD := Lib.hid (HBD.out.trans (hb9.mono HBD.out.size))
  obtain ⟨pc, qc, rfl⟩ := rc.form
  obtain ⟨pd, qd, rfl⟩ := rd.form
  have HC := Lib.hid rc; have HD := Lib.hid rd
  clear rc rd
  clear hb9 UN2
  refine ⟨_, rfl, G3.out, ?_⟩
  simp only [Act.put, List.setIfInBounds_toArray, List.set_cons_zero, List.set_cons_succ]
  refine wpAnyHTake 6 (some 43) (.tuple #[.slice pc (uniqA ⟨k1, nx1, row1, pas1⟩ (1 + ka + kb)).length qc, .slice pd (uniqB ⟨k1, nx1, row1, pas1⟩ (1 + ka + kb)).length qd, .bool (uniqIs ⟨k1, nx1, row1, pas1⟩ (1 + ka + kb)), .int .i64 0]) rfl rfl (by kernel_rfl) (by kernel_rfl) (by kernel_rfl) (fun _ _ _ h => h) (by rfl) (fun _ _ => by rfl) (G3.out) ?_
  simp only [Act.put, List.setIfInBounds_toArray, List.set_cons_zero, List.set_cons_succ]
  refine wpAnyHTake 7 (some 50) (.slice pc (uniqA ⟨k1, nx1, row1, pas1⟩ (1 + ka + kb)).length qc) rfl rfl (by kernel_rfl) (by kernel_rfl) (by kernel_rfl) (fun _ _ _ h => h) (by rfl) (fun _ _ => by rfl) (G3.out) ?_
  simp only [Act.put, List.setIfInBounds_toArray, List.set_cons_zero, List.set_cons_succ]
  refine wpAnyHTake 8 (some 51) (.slice pd (uniqB ⟨k1, nx1, row1, pas1⟩ (1 + ka + kb)).length qd) rfl rfl (by kernel_rfl) (by kernel_rfl) (by kernel_rfl) (fun _ _ _ h => h) (by rfl) (fun _ _ => by rfl) (G3.out) ?_
  simp only [Act.put, List.setIfInBounds_toArray, List.set_cons_zero, List.set_cons_succ]
  refine wpAnyHTake 9 (some 52) (.bool (uniqIs ⟨k1, nx1, row1, pas1⟩ (1 + ka + kb))) rfl rfl (by kernel_rfl) (by kernel_rfl) (by kernel_rfl) (fun _ _ _ h => h) (by rfl) (fun _ _ => by rfl) (G3.out) ?_
  simp only [Act.put, List.setIfInBounds_toArray, List.set_cons_zero, List.set_cons_succ]
  refine wpAnyHTake 10 (some 53) (.int .i64 0) rfl rfl (by kernel_rfl) (by kernel_rfl) (by kernel_rfl) (fun _ _ _ h => h) (by rfl) (fun _ _ => by rfl) (G3.out) ?_
  simp only [Act.put, List.setIfInBounds_toArray, List.set_cons_zero, List.set_cons_succ]
  refine wpAnyHTake 11 (some 15) (.slice pc (uniqA ⟨k1, nx1, row1, pas1⟩ (1 + ka + kb)).length qc) rfl rfl (by kernel_rfl) (by kernel_rfl) (by kernel_rfl) (fun _ _ _ h => h) (by rfl) (fun _ _ => by rfl) (G3.out) ?_
  simp only [Act.put, List.setIfInBounds_toArray, List.set_cons_zero, List.set_cons_succ]
  refine wpAnyHTake 12 (some 16) (.slice pd (uniqB ⟨k1, nx1, row1, pas1⟩ (1 + ka + kb)).length qd) rfl rfl (by kernel_rfl) (by kernel_rfl) (by kernel_rfl) (fun _ _ _ h => h) (by rfl) (fun _ _ => by rfl) (G3.out) ?_
  simp only [Act.put, List.setIfInBounds_toArray, List.set_cons_zero, List.set_cons_succ]
  refine wpAnyHTake 13 (some 17) (.bool (uniqIs ⟨k1, nx1, row1, pas1⟩ (1 + ka + kb))) rfl rfl (by kernel_rfl) (by kernel_rfl) (by kernel_rfl) (fun _ _ _ h => h) (by rfl) (fun _ _ => by rfl) (G3.out) ?_
  simp only [Act.put, List.setIfInBounds_toArray, List.set_cons_zero, List.set_cons_succ]
  refine wpAnyHTake 14 (some 18) (.int .i64 0) rfl rfl (by kernel_rfl) (by kernel_rfl) (by kernel_rfl) (fun _ _ _ h => h) (by rfl) (fun _ _ => by rfl) (G3.out) ?_
  simp only [Act.put, List.setIfInBounds_toArray, List.set_cons_zero, List.set_cons_succ]
  refine wpAnyH_done (by kernel_rfl) ?_ _
  have GA := Lib.hid (show StyB xd3 A ⟨k1, nx1, row1, pas1⟩ from G3.out)
  obtain ⟨c0, c1, c2, c3⟩ := GA.out.cells
  clear G1 G2 G3 SB
  have sm := uniq_small hs (show 1 ≤ 1 + ka by omega) (show 1 + ka ≤ 999 by omega)
  obtain ⟨⟨_, hlA⟩, _, hlB⟩ := sm
  cases hi : uniqIs ⟨k1, nx1, row1, pas1⟩ (1 + ka)
  · obtain ⟨hi2, ha2, hb2⟩ := uniq_more hs (show 1 + ka ≤ 1 + ka + kb by omega) hi
    rw [ha2] at HC
    rw [hb2] at HD
    rw [hi2, ha2, hb2]
    have MD := model_any _ (uniqA ⟨k1, nx1, row1, pas1⟩ (1 + ka)) xd3 HA.out (by omega)
    go_wp2_with fail
    refine MD.mono ?_
    rintro e u3 ⟨m1, rfl, hown, hb9⟩
    have GA := Lib.hid (GA.out.below hb9)
    have HB := Lib.hid (HB.out.below hb9)
    have HC := Lib.hid (HC.out.below hb9)
    have HD := Lib.hid (HD.out.below hb9)
    have HBD := Lib.hid (HBD.out.trans (hb9.mono HBD.out.size))
    have H1 := Lib.hid (RdP_of_owns hown)
    obtain ⟨p1, q1, rfl⟩ := owns_slice hown
    clear hown
    have MD2 := model_any _ (uniqA ⟨k1, nx1, row1, pas1⟩ (1 + ka)) u3 (HC.out) (by omega)
    clear MD hb9 c0 c1 c2 c3
    obtain ⟨c0, c1, c2, c3⟩ := GA.out.cells
    go_wp2_with fail
    refine MD2.mono ?_
    rintro e u4 ⟨m2, rfl, hown, hb9⟩
    have GA := Lib.hid (GA.out.below hb9)
    have HB := Lib.hid (HB.out.below hb9)
    have HC := Lib.hid (HC.out.below hb9)
    have HD := Lib.hid (HD.out.below hb9)
    have HBD := Lib.hid (HBD.out.trans (hb9.mono HBD.out.size))
    have SM := same_any _ _ (uniqA ⟨k1, nx1, row1, pas1⟩ (1 + ka)) (uniqA ⟨k1, nx1, row1, pas1⟩ (1 + ka)) u4 (H1.out.below hb9) (RdP_of_owns hown)
    obtain ⟨p2, q2, rfl⟩ := owns_slice hown
    rw [show decide ((uniqA ⟨k1, nx1, row1, pas1⟩ (1 + ka)) = (uniqA ⟨k1, nx1, row1, pas1⟩ (1 + ka))) = true from decide_eq_true rfl] at SM
    clear hown
    clear MD2 hb9 c0 c1 c2 c3
    obtain ⟨c0, c1, c2, c3⟩ := GA.out.cells
    go_wp2_with fail
    refine SM.mono ?_
    rintro e u5 ⟨rfl, hb9⟩
    have GA := Lib.hid (GA.out.below hb9)
    have HB := Lib.hid (HB.out.below hb9)
    have HD := Lib.hid (HD.out.below hb9)
    have HBD := Lib.hid (HBD.out.trans (hb9.mono HBD.out.size))
    have MD := model_any _ (uniqB ⟨k1, nx1, row1, pas1⟩ (1 + ka)) u5 (HB.out) (by omega)
    clear SM hb9 c0 c1 c2 c3
    obtain ⟨c0, c1, c2, c3⟩ := GA.out.cells
    go_wp2_with fail
    refine MD.mono ?_
    rintro e u6 ⟨m3, rfl, hown, hb9⟩
    have GA := Lib.hid (GA.out.below hb9)
    have HD := Lib.hid (HD.out.below hb9)
    have HBD := Lib.hid (HBD.out.trans (hb9.mono HBD.out.size))
    have H3 := Lib.hid (RdP_of_owns hown)
    obtain ⟨p3, q3, rfl⟩ := owns_slice hown
    clear hown
    have MD2 := model_any _ (uniqB ⟨k1, nx1, row1, pas1⟩ (1 + ka)) u6 (HD.out) (by omega)
    clear MD hb9 c0 c1 c2 c3
    obtain ⟨c0, c1, c2, c3⟩ := GA.out.cells
    go_wp2_with fail
    refine MD2.mono ?_
    rintro e u7 ⟨m4, rfl, hown, hb9⟩
    have GA := Lib.hid (GA.out.below hb9)
    have HBD := Lib.hid (HBD.out.trans (hb9.mono HBD.out.size))
    have SM := same_any _ _ (uniqB ⟨k1, nx1, row1, pas1⟩ (1 + ka)) (uniqB ⟨k1, nx1, row1, pas1⟩ (1 + ka)) u7 (H3.out.below hb9) (RdP_of_owns hown)
    obtain ⟨p4, q4, rfl⟩ := owns_slice hown
    rw [show decide ((uniqB ⟨k1, nx1, row1, pas1⟩ (1 + ka)) = (uniqB ⟨k1, nx1, row1, pas1⟩ (1 + ka))) = true from decide_eq_true rfl] at SM
    clear hown
    clear MD2 hb9 c0 c1 c2 c3
    obtain ⟨c0, c1, c2, c3⟩ := GA.out.cells
    go_wp2_with fail
    refine SM.mono ?_
    rintro e u8 ⟨rfl, hb9⟩
    have GA := Lib.hid (GA.out.below hb9)
    have HBD := Lib.hid (HBD.out.trans (hb9.mono HBD.out.size))
    clear SM hb9 c0 c1 c2 c3
    obtain ⟨c0, c1, c2, c3⟩ := GA.out.cells
    have LA := list_any _ xs u8 (H0.out.below HBD.out) i0
    go_wp2_with fail
    refine LA.mono ?_
    rintro e u9 ⟨vl, rfl, L, hown, hnrm, hll, hb9⟩
    have GA := Lib.hid (GA.out.below hb9)
    have HBD := Lib.hid (HBD.out.trans (hb9.mono HBD.out.size))
    have OW := own_any _ L u9 (RdP_of_owns hown) (by omega)
    obtain ⟨pl, ql, rfl⟩ := owns_slice hown
    clear hown
    clear LA hb9 c0 c1 c2 c3
    obtain ⟨c0, c1, c2, c3⟩ := GA.out.cells
    go_wp2_with fail
    refine OW.mono ?_
    rintro e u10 ⟨vo, rfl, hown, hb9⟩
    have GA := Lib.hid (GA.out.below hb9)
    have HBD := Lib.hid (HBD.out.trans (hb9.mono HBD.out.size))
    have HL := Lib.hid (RdP_of_owns hown)
    obtain ⟨po, qo, rfl⟩ := owns_slice hown
    clear hown
    clear OW hb9 c0 c1 c2 c3
    obtain ⟨c0, c1, c2, c3⟩ := GA.out.cells
    have hsp : okSty ⟨k1, nx1, 0, 0⟩ := by obtain ⟨a1, a2, _⟩ := hs; exact ⟨a1, a2, by simp, by simp, by simp, by simp, by simp, by simp⟩
    have GP := Lib.hid (styB_new u10 36 k1 0 0 nx1)
    have hPw := HBD.out.size
    have HBD := Lib.hid (HBD.out.alloc HBD.out.size (.cells #[.int .i64 k1, .bool nx1, .int .i64 0, .int .i64 0] 36))
    have HBU := Lib.hid ((Below.refl u10.heap.size u10).alloc (Nat.le_refl _) (.cells #[.int .i64 k1, .bool nx1, .int .i64 0, .int .i64 0] 36))
    have bxp := Lib.hid (Boxs.new u10 36 #[.int .i64 k1, .bool nx1, .int .i64 0, .int .i64 0])
    have UN3 := unique_any ⟨k1, nx1, 0, 0⟩ (1 + ka) (u10.alloc (.cells #[.int .i64 k1, .bool nx1, .int .i64 0, .int .i64 0] 36)) hsp (by omega) (by omega)
    rw [plain_uniq] at UN3
    go_wp2_with fail
    obtain ⟨P, hP⟩ : ∃ P, u10.heap.size = P := ⟨_, rfl⟩
    rw [hP] at GP bxp hPw ⊢
    have HP := Lib.hid hP
    generalize u10.alloc (.cells #[.int .i64 k1, .bool nx1, .int .i64 0, .int .i64 0] 36) = wq at *
    clear hP GA c0 c1 c2 c3
    refine UN3.mono ?_
    rintro e u11 ⟨ve, vf, rfl, re, rf, hb9⟩
    obtain ⟨pe, qe, rfl⟩ := re.form
    obtain ⟨pf, qf, rfl⟩ := rf.form
    have GP := Lib.hid (GP.out.below hb9); have HBU := Lib.hid (HBU.out.trans (hb9.mono HBU.out.size)); have bxp := Lib.hid (bxp.out.below hb9 bxp.out.lt)
    have HBD := Lib.hid (HBD.out.trans (hb9.mono HBD.out.size))
    have hfl := formL_len ⟨k1, nx1, 0, 0⟩ L
    have PR := print_any ⟨k1, nx1, 0, 0⟩ _ L u11 (HL.out.below HBU.out) (by omega) (fun _ _ => by omega) (HML.out.below HBD.out hlt)
    rw [(plain_print k1 nx1 hsp hnrm).1, (plain_print k1 nx1 hsp hnrm).2] at PR
    clear UN3 hb9 re rf
    obtain ⟨c0, c1, c2, c3⟩ := GP.out.cells
    go_wp2_with fail
    refine PR.mono ?_
    rintro e u12 ⟨rfl, hb9⟩
    have GP := Lib.hid (GP.out.below hb9); have HBU := Lib.hid (HBU.out.trans (hb9.mono HBU.out.size)); have bxp := Lib.hid (bxp.out.below hb9 bxp.out.lt)
    have HBD := Lib.hid (HBD.out.trans (hb9.mono HBD.out.size))
    clear PR hb9 c0 c1 c2 c3
    obtain ⟨c0, c1, c2, c3⟩ := GP.out.cells
    by_cases hk : 1 < k1
    · have hsp2 : okSty ⟨k1 - 1, nx1, 0, 0⟩ := by obtain ⟨a1, a2, _⟩ := hs; exact ⟨by dsimp only at *; omega, by dsimp only at *; omega, by simp, by simp, by simp, by simp, by simp, by simp⟩
      have wk1 : IntKind.i64.wrap (k1 - 1) = k1 - 1 := by obtain ⟨a1, a2, _⟩ := hs; dsimp only at a1 a2; rw [IntKind.wrap_i64]; omega
      have bp2 := bxp.out.put 0 (.int .i64 (k1 - 1))
      have fz := bxp.out.frozen 0
      have HB2 := Lib.hid (HBD.out.setCell (p := ⟨P, 0, none⟩) hPw (.int .i64 (k1 - 1)))
      have GP2 := Lib.hid (show StyB (u12.setCell ⟨P, 0, none⟩ (.int .i64 (k1 - 1))) P ⟨k1 - 1, nx1, 0, 0⟩ from ⟨bp2.lt, bp2.cell 0, bp2.cell 1, bp2.cell 2, bp2.cell 3⟩)
      have HBU2 := Lib.hid (HBU.out.setCell (p := ⟨P, 0, none⟩) (by show _ ≤ P; rw [← HP.out]; exact Nat.le_refl _) (.int .i64 (k1 - 1)))
      have PR := print_any ⟨k1 - 1, nx1, 0, 0⟩ _ L (u12.setCell ⟨P, 0, none⟩ (.int .i64 (k1 - 1))) (HL.out.below HBU2.out) (by omega) (fun _ _ => by have := formL_len ⟨k1 - 1, nx1, 0, 0⟩ L; omega) (HML.out.below HB2.out hlt)
      rw [(plain_print (k1 - 1) nx1 hsp2 hnrm).1, (plain_print (k1 - 1) nx1 hsp2 hnrm).2] at PR
      have hcmp : ¬ ((bs (formL ⟨k1, nx1, 0, 0⟩ L)).size : Int) < ((bs (formL ⟨k1 - 1, nx1, 0, 0⟩ L)).size : Int) := by
        rw [bs_size, bs_size]
        have := form_mono k1 nx1 L
        omega
      obtain ⟨f0, f1, f2, f3⟩ := GP2.out.cells
      go_wp2_with fail
      refine PR.mono ?_
      rintro e u13 ⟨rfl, hb9⟩
      have HBZ := Lib.hid (HB2.out.trans (hb9.mono HB2.out.size))
      have LV := lives_any u13 (HML.out.below HBZ.out hlt)
      clear PR hb9 c0 c1 c2 c3 f0 f1 f2 f3 bp2 fz
      go_wp2_with fail
      refine LV.mono ?_
      rintro e y1 ⟨rfl, hb9⟩
      have HBM := Lib.hid (HBZ.out.trans (hb9.mono HBZ.out.size))
      clear hb9 LV
      go_wp2_with fail
      go_ret
      exact ⟨rfl, HBM.out⟩
    · have LV := lives_any u12 (HML.out.below HBD.out hlt)
      go_wp2_with fail
      refine LV.mono ?_
      rintro e y1 ⟨rfl, hb9⟩
      have HBM := Lib.hid (HBD.out.trans (hb9.mono HBD.out.size))
      clear hb9 LV
      go_wp2_with fail
      go_ret
      exact ⟨rfl, HBM.out⟩
  · have LA := list_any _ xs xd3 (H0.out.below HBD.out) i0
    go_wp2_with fail
    refine LA.mono ?_
    rintro e u3 ⟨vl, rfl, L, hown, hnrm, hll, hb9⟩
    have GA := Lib.hid (GA.out.below hb9)
    have HBD := Lib.hid (HBD.out.trans (hb9.mono HBD.out.size))
    have OW := own_any _ L u3 (RdP_of_owns hown) (by omega)
    obtain ⟨pl, ql, rfl⟩ := owns_slice hown
    clear hown
    clear LA hb9 c0 c1 c2 c3
    obtain ⟨c0, c1, c2, c3⟩ := GA.out.cells
    go_wp2_with fail
    refine OW.mono ?_
    rintro e u4 ⟨vo, rfl, hown, hb9⟩
    have GA := Lib.hid (GA.out.below hb9)
    have HBD := Lib.hid (HBD.out.trans (hb9.mono HBD.out.size))
    have HL := Lib.hid (RdP_of_owns hown)
    obtain ⟨po, qo, rfl⟩ := owns_slice hown
    clear hown
    clear OW hb9 c0 c1 c2 c3
    obtain ⟨c0, c1, c2, c3⟩ := GA.out.cells
    have hsp : okSty ⟨k1, nx1, 0, 0⟩ := by obtain ⟨a1, a2, _⟩ := hs; exact ⟨a1, a2, by simp, by simp, by simp, by simp, by simp, by simp⟩
    have GP := Lib.hid (styB_new u4 36 k1 0 0 nx1)
    have hPw := HBD.out.size
    have HBD := Lib.hid (HBD.out.alloc HBD.out.size (.cells #[.int .i64 k1, .bool nx1, .int .i64 0, .int .i64 0] 36))
    have HBU := Lib.hid ((Below.refl u4.heap.size u4).alloc (Nat.le_refl _) (.cells #[.int .i64 k1, .bool nx1, .int .i64 0, .int .i64 0] 36))
    have bxp := Lib.hid (Boxs.new u4 36 #[.int .i64 k1, .bool nx1, .int .i64 0, .int .i64 0])
    have UN3 := unique_any ⟨k1, nx1, 0, 0⟩ (1 + ka) (u4.alloc (.cells #[.int .i64 k1, .bool nx1, .int .i64 0, .int .i64 0] 36)) hsp (by omega) (by omega)
    rw [plain_uniq] at UN3
    go_wp2_with fail
    obtain ⟨P, hP⟩ : ∃ P, u4.heap.size = P := ⟨_, rfl⟩
    rw [hP] at GP bxp hPw ⊢
    have HP := Lib.hid hP
    generalize u4.alloc (.cells #[.int .i64 k1, .bool nx1, .int .i64 0, .int .i64 0] 36) = wq at *
    clear hP GA c0 c1 c2 c3
    refine UN3.mono ?_
    rintro e u5 ⟨ve, vf, rfl, re, rf, hb9⟩
    obtain ⟨pe, qe, rfl⟩ := re.form
    obtain ⟨pf, qf, rfl⟩ := rf.form
    have GP := Lib.hid (GP.out.below hb9); have HBU := Lib.hid (HBU.out.trans (hb9.mono HBU.out.size)); have bxp := Lib.hid (bxp.out.below hb9 bxp.out.lt)
    have HBD := Lib.hid (HBD.out.trans (hb9.mono HBD.out.size))
    have hfl := formL_len ⟨k1, nx1, 0, 0⟩ L
    have PR := print_any ⟨k1, nx1, 0, 0⟩ _ L u5 (HL.out.below HBU.out) (by omega) (fun _ _ => by omega) (HML.out.below HBD.out hlt)
    rw [(plain_print k1 nx1 hsp hnrm).1, (plain_print k1 nx1 hsp hnrm).2] at PR
    clear UN3 hb9 re rf
    obtain ⟨c0, c1, c2, c3⟩ := GP.out.cells
    go_wp2_with fail
    refine PR.mono ?_
    rintro e u6 ⟨rfl, hb9⟩
    have GP := Lib.hid (GP.out.below hb9); have HBU := Lib.hid (HBU.out.trans (hb9.mono HBU.out.size)); have bxp := Lib.hid (bxp.out.below hb9 bxp.out.lt)
    have HBD := Lib.hid (HBD.out.trans (hb9.mono HBD.out.size))
    clear PR hb9 c0 c1 c2 c3
    obtain ⟨c0, c1, c2, c3⟩ := GP.out.cells
    by_cases hk : 1 < k1
    · have hsp2 : okSty ⟨k1 - 1, nx1, 0, 0⟩ := by obtain ⟨a1, a2, _⟩ := hs; exact ⟨by dsimp only at *; omega, by dsimp only at *; omega, by simp, by simp, by simp, by simp, by simp, by simp⟩
      have wk1 : IntKind.i64.wrap (k1 - 1) = k1 - 1 := by obtain ⟨a1, a2, _⟩ := hs; dsimp only at a1 a2; rw [IntKind.wrap_i64]; omega
      have bp2 := bxp.out.put 0 (.int .i64 (k1 - 1))
      have fz := bxp.out.frozen 0
      have HB2 := Lib.hid (HBD.out.setCell (p := ⟨P, 0, none⟩) hPw (.int .i64 (k1 - 1)))
      have GP2 := Lib.hid (show StyB (u6.setCell ⟨P, 0, none⟩ (.int .i64 (k1 - 1))) P ⟨k1 - 1, nx1, 0, 0⟩ from ⟨bp2.lt, bp2.cell 0, bp2.cell 1, bp2.cell 2, bp2.cell 3⟩)
      have HBU2 := Lib.hid (HBU.out.setCell (p := ⟨P, 0, none⟩) (by show _ ≤ P; rw [← HP.out]; exact Nat.le_refl _) (.int .i64 (k1 - 1)))
      have PR := print_any ⟨k1 - 1, nx1, 0, 0⟩ _ L (u6.setCell ⟨P, 0, none⟩ (.int .i64 (k1 - 1))) (HL.out.below HBU2.out) (by omega) (fun _ _ => by have := formL_len ⟨k1 - 1, nx1, 0, 0⟩ L; omega) (HML.out.below HB2.out hlt)
      rw [(plain_print (k1 - 1) nx1 hsp2 hnrm).1, (plain_print (k1 - 1) nx1 hsp2 hnrm).2] at PR
      have hcmp : ¬ ((bs (formL ⟨k1, nx1, 0, 0⟩ L)).size : Int) < ((bs (formL ⟨k1 - 1, nx1, 0, 0⟩ L)).size : Int) := by
        rw [bs_size, bs_size]
        have := form_mono k1 nx1 L
        omega
      obtain ⟨f0, f1, f2, f3⟩ := GP2.out.cells
      go_wp2_with fail
      refine PR.mono ?_
      rintro e u7 ⟨rfl, hb9⟩
      have HBZ := Lib.hid (HB2.out.trans (hb9.mono HB2.out.size))
      have LV := lives_any u7 (HML.out.below HBZ.out hlt)
      clear PR hb9 c0 c1 c2 c3 f0 f1 f2 f3 bp2 fz
      go_wp2_with fail
      refine LV.mono ?_
      rintro e y1 ⟨rfl, hb9⟩
      have HBM := Lib.hid (HBZ.out.trans (hb9.mono HBZ.out.size))
      clear hb9 LV
      go_wp2_with fail
      go_ret
      exact ⟨rfl, HBM.out⟩
    · have LV := lives_any u6 (HML.out.below HBD.out hlt)
      go_wp2_with fail
      refine LV.mono ?_
      rintro e y1 ⟨rfl, hb9⟩
      have HBM := Lib.hid (HBD.out.trans (hb9.mono HBD.out.size))
      clear hb9 LV
      go_wp2_with fail
      go_ret
      exact ⟨rfl, HBM.out⟩
end Go.Proofs.YtecdkpcapalifaaDoor

