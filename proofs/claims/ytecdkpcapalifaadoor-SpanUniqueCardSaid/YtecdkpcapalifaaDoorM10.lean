/- Unique (program): with passim. Unique (program): with ff and passim. -/
import Derived.Test.YtecdkpcapalifaaDoorM09
import Derived.Test.YtecdkpcapalifaaDoorM07
set_option linter.unusedVariables false
namespace Go.Proofs.YtecdkpcapalifaaDoor
open Go.RowKit Go.Maps

theorem scat_x (N : Nat) (h : 2 ≤ N) : scat (N - 1) 4 (2 * (N : Int)) = (4, 4) :: (List.range (N - 2)).map (fun i : Nat => (6 + 2 * (i : Int), 6 + 2 * (i : Int))) := by
  obtain ⟨m, rfl⟩ : ∃ m, N = m + 2 := ⟨N - 2, by omega⟩
  unfold scat
  show (List.range m).map _ ++ _ = _ :: (List.range m).map _
  have key : ∀ m : Nat, ((List.range m).map (fun i : Nat => ((4 + 2 * (i : Int), 4 + 2 * (i : Int)) : Sp))) ++ [(4 + 2 * (m : Int), 4 + 2 * (m : Int))] = (4, 4) :: (List.range m).map (fun i : Nat => ((6 + 2 * (i : Int), 6 + 2 * (i : Int)) : Sp)) := by
    intro m
    induction m with
    | zero => rfl
    | succ m ih =>
      rw [List.range_succ, List.map_append, List.map_append, ← List.cons_append, ← ih]
      simp
      omega
  rw [← key m]
  congr 2
  simp
  omega
theorem scat_y (N : Nat) (h : 2 ≤ N) : (scat N 2 (2 * (N : Int))).drop 2 = (List.range (N - 2)).map (fun i : Nat => (6 + 2 * (i : Int), 6 + 2 * (i : Int))) := by
  obtain ⟨m, rfl⟩ : ∃ m, N = m + 2 := ⟨N - 2, by omega⟩
  have e : scat (m + 2) 2 (2 * ((m + 2 : Nat) : Int)) = (2, 2) :: scat (m + 2 - 1) 4 (2 * ((m + 2 : Nat) : Int)) := by
    unfold scat
    rw [show m + 2 - 1 = m + 1 by omega, List.range_succ_eq_map, List.map_cons, List.map_map, show m + 1 - 1 = m by omega]
    simp
    refine ⟨?_, by omega⟩
    intro a _
    omega
  rw [e, scat_x _ h]; rfl
theorem prs_drop2 : ∀ (L : List Sp), prs (L.drop 2) = (prs L).drop 4
  | [] => rfl
  | [_] => rfl
  | _ :: _ :: _ => rfl
theorem RdB.keep {base : Nat} {w w' : World} {v : Value} {xs : List Sp} (h : RdB base w v xs) (hc : ∀ p : Addr, p.block < w.heap.size → w'.cell? p = w.cell? p) (hs : w.heap.size ≤ w'.heap.size) : RdB base w' v xs := by
  obtain ⟨b, off, cap, rfl, h1, h2, h3, h4, h5⟩ := h
  exact ⟨b, off, cap, rfl, h1, h2, h3, by omega, fun j u hu => (hc ⟨b, off + j, .none⟩ h4).trans (h5 j u hu)⟩
theorem pasY_last (N : Nat) (h : 2 ≤ N) (h9 : N ≤ 500) : ∃ Y y, pasY N = Y ++ [y] ∧ y.2 = 2 * (N : Int) ∧ Y.length ≤ 1000 := by
  by_cases h2 : N = 2
  · subst h2; exact ⟨[(1, 1)], (3, 4), rfl, rfl, by simp⟩
  · obtain ⟨m, rfl⟩ : ∃ m, N = m + 3 := ⟨N - 3, by omega⟩
    refine ⟨(1, 1) :: (3, 4) :: (List.range m).map (fun i : Nat => (6 + 2 * (i : Int), 6 + 2 * (i : Int))), (6 + 2 * (m : Int), 6 + 2 * (m : Int)), ?_, by simp; omega, by simp; omega⟩
    unfold pasY
    rw [show m + 3 - 2 = m + 1 by omega, List.range_succ, List.map_append]
    rfl
theorem pasX_eq (N : Nat) (h : 2 ≤ N) : prs (pasX N) = [.int .i64 1, .int .i64 2] ++ prs (scat (N - 1) 4 (2 * (N : Int))) := by rw [scat_x N h]; rfl
theorem pasY_eq (N : Nat) (h : 2 ≤ N) : prs (pasY N) = [.int .i64 1, .int .i64 1, .int .i64 3, .int .i64 4] ++ prs ((scat N 2 (2 * (N : Int))).drop 2) := by rw [scat_y N h]; rfl

set_option maxRecDepth 100000 in
set_option maxHeartbeats 4000000 in
theorem unique_pas (k row most : Int) (N : Nat) (nx : Bool) (w : World) (hs : okSty ⟨k, nx, row, (N : Int)⟩) (h1 : 1 ≤ most) (h9 : most ≤ 999) (hr : row ≤ 0) (hp : 2 * (N : Int) ≤ most) (hp0 : 0 < (N : Int)) :
    Calls Tryd.prog 29 #[.agg #[.int .i64 k, .bool nx, .int .i64 row, .int .i64 (N : Int)], .int .i64 most] w (UniqueOut (pasX N) (pasY N) false w) := by
  have hV := (okSty_valid ⟨k, nx, row, (N : Int)⟩).2 hs
  dsimp only at hV
  have VA := valid_any k row N nx ((w.alloc (.cells #[.int .i64 k, .bool nx, .int .i64 row, .int .i64 (N : Int)] 36)).alloc (.cells #[.int .i64 most] 3))
  rw [hV] at VA
  obtain ⟨_, _, hr0, _, hr9, hp0, hp1, hp9⟩ := hs
  dsimp only at hr0 hr9 hp0 hp1 hp9
  have HP1 := Lib.hid hp1
  have hb0 := ((Below.refl w.heap.size w).alloc (Nat.le_refl _) (.cells #[.int .i64 k, .bool nx, .int .i64 row, .int .i64 (N : Int)] 36)).alloc (by simp) (.cells #[.int .i64 most] 3)
  have hx0 := (Boxs.new w 36 #[.int .i64 k, .bool nx, .int .i64 row, .int .i64 (N : Int)]).alloc (.cells #[.int .i64 most] 3)
  have hy0 := Boxs.new (w.alloc (.cells #[.int .i64 k, .bool nx, .int .i64 row, .int .i64 (N : Int)] 36)) 3 #[.int .i64 most]
  rw [World.size_alloc] at hy0
  have hz0 : ((w.alloc (.cells #[.int .i64 k, .bool nx, .int .i64 row, .int .i64 (N : Int)] 36)).alloc (.cells #[.int .i64 most] 3)).heap.size = w.heap.size + 2 := by simp
  have HX := Lib.hid hx0; have HY := Lib.hid hy0; have HB := Lib.hid hb0
  clear hx0 hy0 hb0 hV hp1
  obtain ⟨i0, hi0, hz90, hz91, hz92⟩ := info_parts Tryd.info81
  have HI := Lib.hid hi0; have HZ0 := Lib.hid hz90; have HZ1 := Lib.hid hz91; have HZ2 := Lib.hid hz92
  clear hi0 hz90 hz91 hz92
  have hN2 : 2 ≤ N := by have := HP1.out; omega
  have hN9 : N ≤ 500 := by omega
  go_enter Tryd.func29, Tryd.ntmps29
  go_wp2_with fail
  refine VA.mono ?_
  rintro e w1 ⟨rfl, hb⟩
  have hx1 := HX.out.below hb (by omega)
  have hy1 := HY.out.below hb (by omega)
  have hb1 := HB.out.trans (hb.mono (by omega))
  have hs1 := hb.size
  rw [hz0] at hs1
  have hz1 : ((w1.alloc (.cells #[.slice none 0 0] 38)).alloc (.cells #[.slice none 0 0] 38)).heap.size = w1.heap.size + 2 := by simp
  have ua := (Boxs.new w1 38 #[.slice none 0 0]).alloc (.cells #[.slice none 0 0] 38)
  have ub := Boxs.new (w1.alloc (.cells #[.slice none 0 0] 38)) 38 #[.slice none 0 0]
  rw [World.size_alloc] at ub
  have U : Uni w.heap.size w1.heap.size w ((w1.alloc (.cells #[.slice none 0 0] 38)).alloc (.cells #[.slice none 0 0] 38)) #[.int .i64 k, .bool nx, .int .i64 row, .int .i64 (N : Int)] most (.slice none 0 0) (.slice none 0 0) :=
    ⟨hs1, (hx1.alloc _).alloc _, (hy1.alloc _).alloc _, ua, ub, (hb1.alloc (by omega) _).alloc (by simp; omega) _⟩
  have HU := Lib.hid U
  have m0 := hy1.cell 0
  simp at m0
  have en : ∀ W, (binOp .eql 38 (.slice none 0 0) (.slice none 0 0)).run Tryd.prog W = .ok (.bool true) W := fun W => Lib.run_eql_slice_nil W 38 81 none 0 0 0 0 Tryd.underlying38
  clear hx1 hy1 hb1 ua ub hb
  have e1 := U.sty.cell 2
  have e2 := U.sty.cell 3
  simp at e1 e2
  have ca := U.a.cell 0
  have cb := U.b.cell 0
  simp at ca cb
  have bx1 := Boxs.new ((w1.alloc (.cells #[.slice none 0 0] 38)).alloc (.cells #[.slice none 0 0] 38)) 81 #[.int .i64 1, .int .i64 2]
  rw [hz1] at bx1
  have SC := scattered_any (N - 1) 4 (2 * (N : Int)) (((w1.alloc (.cells #[.slice none 0 0] 38)).alloc (.cells #[.slice none 0 0] 38)).alloc (.cells #[.int .i64 1, .int .i64 2] 81)) (by omega) (by omega) (by omega) (by omega)
  rw [show ((N - 1 : Nat) : Int) = (N : Int) - 1 by omega] at SC
  have V1 := U.alloc (.cells #[.int .i64 1, .int .i64 2] 81)
  have hzx : (((w1.alloc (.cells #[.slice none 0 0] 38)).alloc (.cells #[.slice none 0 0] 38)).alloc (.cells #[.int .i64 1, .int .i64 2] 81)).heap.size = w1.heap.size + 2 + 1 := by simp
  have HV1 := Lib.hid V1; have HBX1 := Lib.hid bx1
  clear V1 bx1
  go_wp2_with fail
  refine SC.mono ?_
  rintro e w4 ⟨v4, rfl, hown4, hb4⟩
  have hl4 : (scat (N - 1) 4 (2 * (N : Int))).length = N - 1 := scat_len _ _ _ (by omega)
  obtain ⟨ad, c4, rfl, hnews⟩ := (RdP_of_owns hown4).news (by intro e; rw [e] at hl4; simp at hl4; omega)
  rw [hl4]
  have hb4s := hb4.size
  have V4 := HV1.out.below hb4
  have OB : w4.ownsRow (w1.heap.size + 2) 81 2 (.slice (some ⟨w1.heap.size + 2, 0, none⟩) 1 1) 1 [.int .i64 1, .int .i64 2] := owns_block (HBX1.out.below hb4 (by omega)) (by omega) rfl rfl (by omega)
  have HOB := Lib.hid OB; have HNW := Lib.hid hnews; have HV4 := Lib.hid V4
  have hpl4 := prs_len (scat (N - 1) 4 (2 * (N : Int)))
  rw [hl4] at hpl4
  have HL4 := Lib.hid hpl4
  clear e1 e2 ca cb SC hown4 hb4 hl4 hnews V4 OB hpl4 HV1 HBX1
  go_wp2_with (at_builtin; refine wpList_append_at rfl _ _ _ rfl (w1.heap.size + 2) 81 i0 _ 2 16 Tryd.underlying38 HI.out HZ0.out HZ1.out HZ2.out rfl (by omega) _ 1 [.int .i64 1, .int .i64 2] rfl HOB.out ad (N - 1) c4 (prs (scat (N - 1) 4 (2 * (N : Int)))) rfl HL4.out HNW.out (prs_one _) (by unfold maxLen; omega) (by omega) (by omega) ?_; intro vx w5 hownx hgx)
  rw [← pasX_eq N hN2] at hownx
  have hX5 := RdB_of_owns hownx (by omega)
  have U5 := HV4.out.grown hgx (fun b hb e => own_ne HOB.out hb e.symm)
  have bx2 := Boxs.new w5 81 #[.int .i64 1, .int .i64 1, .int .i64 3, .int .i64 4]
  have SC2 := scattered_any N 2 (2 * (N : Int)) (w5.alloc (.cells #[.int .i64 1, .int .i64 1, .int .i64 3, .int .i64 4] 81)) (by omega) (by omega) (by omega) (by omega)
  have hz5 : (w5.alloc (.cells #[.int .i64 1, .int .i64 1, .int .i64 3, .int .i64 4] 81)).heap.size = w5.heap.size + 1 := by simp
  have h5s : w1.heap.size + 2 ≤ w5.heap.size := by have := U5.b.lt; omega
  have HXR := Lib.hid hX5
  have HX5 := Lib.hid (hX5.below ((Below.refl w5.heap.size w5).alloc (Nat.le_refl _) (.cells #[.int .i64 1, .int .i64 1, .int .i64 3, .int .i64 4] 81)))
  have HU5 := Lib.hid (U5.alloc (.cells #[.int .i64 1, .int .i64 1, .int .i64 3, .int .i64 4] 81)); have HBX2 := Lib.hid bx2
  clear hownx hX5 U5 bx2 hgx HNW HL4 HOB HV4
  refine SC2.mono ?_
  rintro e w6 ⟨v6, rfl, hown6, hb6⟩
  have hpl6 : (scat N 2 (2 * (N : Int))).length = N := scat_len _ _ _ (by omega)
  obtain ⟨a6, c6, hv6, hc6, hc6', hd6⟩ := RdP_of_owns hown6
  rw [hpl6] at hv6 hc6 hd6
  obtain ⟨g6, o6, rfl, hg6, hn6⟩ : ∃ b off, a6 = some ⟨b, off, none⟩ ∧ b < w6.heap.size ∧ ∀ (j : Nat) (u : Value), (prs (scat N 2 (2 * (N : Int))))[j]? = some u → w6.cell? ⟨b, off + j, none⟩ = some u := by
    rcases hd6 with h | h
    · omega
    · exact h
  subst hv6
  have HN6 := Lib.hid hn6
  have HB56 := Lib.hid (((Below.refl w5.heap.size w5).alloc (Nat.le_refl _) (.cells #[.int .i64 1, .int .i64 1, .int .i64 3, .int .i64 4] 81)).trans (hb6.mono (by omega)))
  have hU6 := HU5.out.below hb6
  have HX6 := Lib.hid (HX5.out.below hb6)
  have hB6 := HBX2.out.below hb6 (by omega)
  have OB6 : w6.ownsRow (w1.heap.size + 2) 81 2 (.slice (some ⟨w5.heap.size, 0, none⟩) 2 2) 2 [.int .i64 1, .int .i64 1, .int .i64 3, .int .i64 4] := owns_block hB6 (by omega) rfl rfl (by omega)
  have HOB6 := Lib.hid OB6; have HU6 := Lib.hid hU6
  have hb6s := hb6.size
  have hN2i : (2 : Int) ≤ (N : Int) := by omega
  have hc6i : (N : Int) ≤ (c6 : Int) := by omega
  have hnw6 : ∀ (j : Nat) (u : Value), (prs ((scat N 2 (2 * (N : Int))).drop 2))[j]? = some u → w6.cell? ((⟨g6, o6 + 4, none⟩ : Addr).add j) = some u := fun j u hj => by
    rw [prs_drop2, List.getElem?_drop] at hj
    have := hn6 (4 + j) u hj
    unfold Addr.add
    split
    · next h0 => subst h0; exact this
    · rw [Nat.add_assoc]; exact this
  have hln6 : (prs ((scat N 2 (2 * (N : Int))).drop 2)).length = (N - 2) * 2 := by rw [prs_len, List.length_drop, hpl6]
  have HNW6 := Lib.hid hnw6; have HLN6 := Lib.hid hln6
  clear SC2 hown6 hd6 hn6 hU6 hB6 OB6 hb6 HX5 HU5 HBX2 hnw6 hln6 HN6
  obtain ⟨ad6, had6, hnw7⟩ : ∃ ad6 : Addr, (ad6 = if c6 = 2 then ⟨g6, o6, none⟩ else ⟨g6, o6 + 4, none⟩) ∧ ∀ (j : Nat) (u : Value), (prs ((scat N 2 (2 * (N : Int))).drop 2))[j]? = some u → w6.cell? (ad6.add j) = some u := by
    by_cases h2 : c6 = 2
    · refine ⟨⟨g6, o6, none⟩, (if_pos h2).symm, fun j u hj => ?_⟩
      have h3 := (List.getElem?_eq_some_iff.1 hj).1
      rw [HLN6.out] at h3
      omega
    · exact ⟨⟨g6, o6 + 4, none⟩, (if_neg h2).symm, HNW6.out⟩
  have HNW7 := Lib.hid hnw7
  clear hnw7
  have HAD := Lib.hid had6
  clear had6
  by_cases h2 : c6 = 2
  all_goals
    have hzz : (N - 2) * 2 = (N - 2) * 2 := rfl
    obtain ⟨ad7, had7, hnw7⟩ : ∃ ad7 : Addr, ad7 = ad6 ∧ ∀ (j : Nat) (u : Value), (prs ((scat N 2 (2 * (N : Int))).drop 2))[j]? = some u → w6.cell? (ad7.add j) = some u := ⟨ad6, rfl, HNW7.out⟩
    rw [HAD.out] at had7
    first | rw [if_pos h2] at had7 | rw [if_neg h2] at had7
    subst had7
    have HNW8 := Lib.hid hnw7
    clear hnw7 hzz
    go_wp2_with (at_builtin; refine wpList_append_at rfl _ _ _ rfl (w1.heap.size + 2) 81 i0 _ 2 16 Tryd.underlying38 HI.out HZ0.out HZ1.out HZ2.out rfl (by omega) _ 2 [.int .i64 1, .int .i64 1, .int .i64 3, .int .i64 4] rfl HOB6.out _ (N - 2) _ (prs ((scat N 2 (2 * (N : Int))).drop 2)) rfl HLN6.out HNW8.out (prs_one _) (by unfold maxLen; omega) (by omega) (by omega) ?_; intro vy w7 howny hgy)
    rw [← pasY_eq N hN2] at howny
    have hY7 := RdB_of_owns howny (by omega)
    have U7 := HU6.out.grown hgy (fun b hb e => own_ne HOB6.out hb e.symm)
    have hX7 := HXR.out.keep (w' := w7) (fun p hp => (hgy.cell_far p (by have := HB56.out.size; omega) (by show some p.block ≠ some w5.heap.size; simp; omega)).trans (HB56.out.cell hp)) (by have := HB56.out.size; have := hgy.size; omega)
    obtain ⟨Y, y, hYy, hy2, hYl⟩ := pasY_last N hN2 hN9
    rw [hYy] at hY7
    obtain ⟨yb, yo, yc, hyv, _⟩ := id hY7
    obtain ⟨ny, hny⟩ : ∃ ny, (Y ++ [y]).length = ny := ⟨_, rfl⟩
    rw [hny] at hyv
    subst hyv
    have TR := try_first vx _ Y y (w.heap.size + 1) (w1.heap.size + 1) w1.heap.size most _ _ hY7.rd U7.most U7.b U7.a (by omega) (pasX N) hX7.rd hYl (by rw [hy2]; exact hp)
    rw [← hYy] at hY7
    have HR1 := Lib.hid hX7; have HR2 := Lib.hid hY7; have HU2 := Lib.hid U7
    clear U7 hX7 hY7 hYy hy2 hYl hny howny hgy
    refine TR.mono ?_
    rintro e w8 ⟨rfl, W2, hbw, rfl⟩
    have U3 := (HU2.out.below hbw).put vx (.slice (some ⟨yb, yo, none⟩) ny yc)
    have HS1 := Lib.hid ((HR1.out.below hbw).put w1.heap.size vx (.slice (some ⟨yb, yo, none⟩) ny yc) (Nat.le_refl _))
    have HS2 := Lib.hid ((HR2.out.below hbw).put w1.heap.size vx (.slice (some ⟨yb, yo, none⟩) ny yc) (Nat.le_refl _))
    have HU3 := Lib.hid U3
    clear TR hbw HR1 HU2
    generalize (W2.setCell ⟨w1.heap.size, 0, none⟩ vx).setCell ⟨w1.heap.size + 1, 0, none⟩ (.slice (some ⟨yb, yo, none⟩) ny yc) = W3 at *
    have e1 := U3.sty.cell 2
    have e2 := U3.sty.cell 3
    simp at e1 e2
    have ca := U3.a.cell 0
    have cb := U3.b.cell 0
    simp at ca cb
    have en2 : ∀ W, (binOp .eql 38 (.slice (some ⟨yb, yo, none⟩) ny yc) (.slice none 0 0)).run Tryd.prog W = .ok (.bool false) W := fun W => Lib.run_eql_slice_nil W 38 81 (some ⟨yb, yo, none⟩) ny yc 0 0 Tryd.underlying38
    clear U3
    go_wp2_with fail
    go_quiet (fail)
    go_wp2_with fail
    (try simp only [Exit.inBlock, Exit.then]); refine bodyPost_ret (results_tmp4 rfl _ _ _) rfl ?_
    exact ⟨_, _, rfl, HS1.out.rd, HS2.out.rd, Below.dn HU3.out.bel _⟩

set_option maxRecDepth 100000 in
set_option maxHeartbeats 4000000 in
theorem unique_paslate (k row most : Int) (N : Nat) (nx : Bool) (w : World) (hs : okSty ⟨k, nx, row, (N : Int)⟩) (h1 : 1 ≤ most) (h9 : most ≤ 999) (hr : row ≤ 0) (hp : most < 2 * (N : Int)) (hp0 : 0 < (N : Int)) :
    Calls Tryd.prog 29 #[.agg #[.int .i64 k, .bool nx, .int .i64 row, .int .i64 (N : Int)], .int .i64 most] w (UniqueOut [] [] true w) := by
  have hV := (okSty_valid ⟨k, nx, row, (N : Int)⟩).2 hs
  dsimp only at hV
  have VA := valid_any k row N nx ((w.alloc (.cells #[.int .i64 k, .bool nx, .int .i64 row, .int .i64 (N : Int)] 36)).alloc (.cells #[.int .i64 most] 3))
  rw [hV] at VA
  obtain ⟨_, _, hr0, _, hr9, hp0, hp1, hp9⟩ := hs
  dsimp only at hr0 hr9 hp0 hp1 hp9
  have HP1 := Lib.hid hp1
  have hb0 := ((Below.refl w.heap.size w).alloc (Nat.le_refl _) (.cells #[.int .i64 k, .bool nx, .int .i64 row, .int .i64 (N : Int)] 36)).alloc (by simp) (.cells #[.int .i64 most] 3)
  have hx0 := (Boxs.new w 36 #[.int .i64 k, .bool nx, .int .i64 row, .int .i64 (N : Int)]).alloc (.cells #[.int .i64 most] 3)
  have hy0 := Boxs.new (w.alloc (.cells #[.int .i64 k, .bool nx, .int .i64 row, .int .i64 (N : Int)] 36)) 3 #[.int .i64 most]
  rw [World.size_alloc] at hy0
  have hz0 : ((w.alloc (.cells #[.int .i64 k, .bool nx, .int .i64 row, .int .i64 (N : Int)] 36)).alloc (.cells #[.int .i64 most] 3)).heap.size = w.heap.size + 2 := by simp
  have HX := Lib.hid hx0; have HY := Lib.hid hy0; have HB := Lib.hid hb0
  clear hx0 hy0 hb0 hV hp1
  obtain ⟨i0, hi0, hz90, hz91, hz92⟩ := info_parts Tryd.info81
  have HI := Lib.hid hi0; have HZ0 := Lib.hid hz90; have HZ1 := Lib.hid hz91; have HZ2 := Lib.hid hz92
  clear hi0 hz90 hz91 hz92
  have hN2 : 2 ≤ N := by have := HP1.out; omega
  have hN9 : N ≤ 500 := by omega
  go_enter Tryd.func29, Tryd.ntmps29
  go_wp2_with fail
  refine VA.mono ?_
  rintro e w1 ⟨rfl, hb⟩
  have hx1 := HX.out.below hb (by omega)
  have hy1 := HY.out.below hb (by omega)
  have hb1 := HB.out.trans (hb.mono (by omega))
  have hs1 := hb.size
  rw [hz0] at hs1
  have hz1 : ((w1.alloc (.cells #[.slice none 0 0] 38)).alloc (.cells #[.slice none 0 0] 38)).heap.size = w1.heap.size + 2 := by simp
  have ua := (Boxs.new w1 38 #[.slice none 0 0]).alloc (.cells #[.slice none 0 0] 38)
  have ub := Boxs.new (w1.alloc (.cells #[.slice none 0 0] 38)) 38 #[.slice none 0 0]
  rw [World.size_alloc] at ub
  have U : Uni w.heap.size w1.heap.size w ((w1.alloc (.cells #[.slice none 0 0] 38)).alloc (.cells #[.slice none 0 0] 38)) #[.int .i64 k, .bool nx, .int .i64 row, .int .i64 (N : Int)] most (.slice none 0 0) (.slice none 0 0) :=
    ⟨hs1, (hx1.alloc _).alloc _, (hy1.alloc _).alloc _, ua, ub, (hb1.alloc (by omega) _).alloc (by simp; omega) _⟩
  have HU := Lib.hid U
  have m0 := hy1.cell 0
  simp at m0
  have en : ∀ W, (binOp .eql 38 (.slice none 0 0) (.slice none 0 0)).run Tryd.prog W = .ok (.bool true) W := fun W => Lib.run_eql_slice_nil W 38 81 none 0 0 0 0 Tryd.underlying38
  clear hx1 hy1 hb1 ua ub hb
  have e1 := U.sty.cell 2
  have e2 := U.sty.cell 3
  simp at e1 e2
  have ca := U.a.cell 0
  have cb := U.b.cell 0
  simp at ca cb
  have bx1 := Boxs.new ((w1.alloc (.cells #[.slice none 0 0] 38)).alloc (.cells #[.slice none 0 0] 38)) 81 #[.int .i64 1, .int .i64 2]
  rw [hz1] at bx1
  have SC := scattered_any (N - 1) 4 (2 * (N : Int)) (((w1.alloc (.cells #[.slice none 0 0] 38)).alloc (.cells #[.slice none 0 0] 38)).alloc (.cells #[.int .i64 1, .int .i64 2] 81)) (by omega) (by omega) (by omega) (by omega)
  rw [show ((N - 1 : Nat) : Int) = (N : Int) - 1 by omega] at SC
  have V1 := U.alloc (.cells #[.int .i64 1, .int .i64 2] 81)
  have hzx : (((w1.alloc (.cells #[.slice none 0 0] 38)).alloc (.cells #[.slice none 0 0] 38)).alloc (.cells #[.int .i64 1, .int .i64 2] 81)).heap.size = w1.heap.size + 2 + 1 := by simp
  have HV1 := Lib.hid V1; have HBX1 := Lib.hid bx1
  clear V1 bx1
  go_wp2_with fail
  refine SC.mono ?_
  rintro e w4 ⟨v4, rfl, hown4, hb4⟩
  have hl4 : (scat (N - 1) 4 (2 * (N : Int))).length = N - 1 := scat_len _ _ _ (by omega)
  obtain ⟨ad, c4, rfl, hnews⟩ := (RdP_of_owns hown4).news (by intro e; rw [e] at hl4; simp at hl4; omega)
  rw [hl4]
  have hb4s := hb4.size
  have V4 := HV1.out.below hb4
  have OB : w4.ownsRow (w1.heap.size + 2) 81 2 (.slice (some ⟨w1.heap.size + 2, 0, none⟩) 1 1) 1 [.int .i64 1, .int .i64 2] := owns_block (HBX1.out.below hb4 (by omega)) (by omega) rfl rfl (by omega)
  have HOB := Lib.hid OB; have HNW := Lib.hid hnews; have HV4 := Lib.hid V4
  have hpl4 := prs_len (scat (N - 1) 4 (2 * (N : Int)))
  rw [hl4] at hpl4
  have HL4 := Lib.hid hpl4
  clear e1 e2 ca cb SC hown4 hb4 hl4 hnews V4 OB hpl4 HV1 HBX1
  go_wp2_with (at_builtin; refine wpList_append_at rfl _ _ _ rfl (w1.heap.size + 2) 81 i0 _ 2 16 Tryd.underlying38 HI.out HZ0.out HZ1.out HZ2.out rfl (by omega) _ 1 [.int .i64 1, .int .i64 2] rfl HOB.out ad (N - 1) c4 (prs (scat (N - 1) 4 (2 * (N : Int)))) rfl HL4.out HNW.out (prs_one _) (by unfold maxLen; omega) (by omega) (by omega) ?_; intro vx w5 hownx hgx)
  rw [← pasX_eq N hN2] at hownx
  have hX5 := RdB_of_owns hownx (by omega)
  have U5 := HV4.out.grown hgx (fun b hb e => own_ne HOB.out hb e.symm)
  have bx2 := Boxs.new w5 81 #[.int .i64 1, .int .i64 1, .int .i64 3, .int .i64 4]
  have SC2 := scattered_any N 2 (2 * (N : Int)) (w5.alloc (.cells #[.int .i64 1, .int .i64 1, .int .i64 3, .int .i64 4] 81)) (by omega) (by omega) (by omega) (by omega)
  have hz5 : (w5.alloc (.cells #[.int .i64 1, .int .i64 1, .int .i64 3, .int .i64 4] 81)).heap.size = w5.heap.size + 1 := by simp
  have h5s : w1.heap.size + 2 ≤ w5.heap.size := by have := U5.b.lt; omega
  have HXR := Lib.hid hX5
  have HX5 := Lib.hid (hX5.below ((Below.refl w5.heap.size w5).alloc (Nat.le_refl _) (.cells #[.int .i64 1, .int .i64 1, .int .i64 3, .int .i64 4] 81)))
  have HU5 := Lib.hid (U5.alloc (.cells #[.int .i64 1, .int .i64 1, .int .i64 3, .int .i64 4] 81)); have HBX2 := Lib.hid bx2
  clear hownx hX5 U5 bx2 hgx HNW HL4 HOB HV4
  refine SC2.mono ?_
  rintro e w6 ⟨v6, rfl, hown6, hb6⟩
  have hpl6 : (scat N 2 (2 * (N : Int))).length = N := scat_len _ _ _ (by omega)
  obtain ⟨a6, c6, hv6, hc6, hc6', hd6⟩ := RdP_of_owns hown6
  rw [hpl6] at hv6 hc6 hd6
  obtain ⟨g6, o6, rfl, hg6, hn6⟩ : ∃ b off, a6 = some ⟨b, off, none⟩ ∧ b < w6.heap.size ∧ ∀ (j : Nat) (u : Value), (prs (scat N 2 (2 * (N : Int))))[j]? = some u → w6.cell? ⟨b, off + j, none⟩ = some u := by
    rcases hd6 with h | h
    · omega
    · exact h
  subst hv6
  have HN6 := Lib.hid hn6
  have HB56 := Lib.hid (((Below.refl w5.heap.size w5).alloc (Nat.le_refl _) (.cells #[.int .i64 1, .int .i64 1, .int .i64 3, .int .i64 4] 81)).trans (hb6.mono (by omega)))
  have hU6 := HU5.out.below hb6
  have HX6 := Lib.hid (HX5.out.below hb6)
  have hB6 := HBX2.out.below hb6 (by omega)
  have OB6 : w6.ownsRow (w1.heap.size + 2) 81 2 (.slice (some ⟨w5.heap.size, 0, none⟩) 2 2) 2 [.int .i64 1, .int .i64 1, .int .i64 3, .int .i64 4] := owns_block hB6 (by omega) rfl rfl (by omega)
  have HOB6 := Lib.hid OB6; have HU6 := Lib.hid hU6
  have hb6s := hb6.size
  have hN2i : (2 : Int) ≤ (N : Int) := by omega
  have hc6i : (N : Int) ≤ (c6 : Int) := by omega
  have hnw6 : ∀ (j : Nat) (u : Value), (prs ((scat N 2 (2 * (N : Int))).drop 2))[j]? = some u → w6.cell? ((⟨g6, o6 + 4, none⟩ : Addr).add j) = some u := fun j u hj => by
    rw [prs_drop2, List.getElem?_drop] at hj
    have := hn6 (4 + j) u hj
    unfold Addr.add
    split
    · next h0 => subst h0; exact this
    · rw [Nat.add_assoc]; exact this
  have hln6 : (prs ((scat N 2 (2 * (N : Int))).drop 2)).length = (N - 2) * 2 := by rw [prs_len, List.length_drop, hpl6]
  have HNW6 := Lib.hid hnw6; have HLN6 := Lib.hid hln6
  clear SC2 hown6 hd6 hn6 hU6 hB6 OB6 hb6 HX5 HU5 HBX2 hnw6 hln6 HN6
  obtain ⟨ad6, had6, hnw7⟩ : ∃ ad6 : Addr, (ad6 = if c6 = 2 then ⟨g6, o6, none⟩ else ⟨g6, o6 + 4, none⟩) ∧ ∀ (j : Nat) (u : Value), (prs ((scat N 2 (2 * (N : Int))).drop 2))[j]? = some u → w6.cell? (ad6.add j) = some u := by
    by_cases h2 : c6 = 2
    · refine ⟨⟨g6, o6, none⟩, (if_pos h2).symm, fun j u hj => ?_⟩
      have h3 := (List.getElem?_eq_some_iff.1 hj).1
      rw [HLN6.out] at h3
      omega
    · exact ⟨⟨g6, o6 + 4, none⟩, (if_neg h2).symm, HNW6.out⟩
  have HNW7 := Lib.hid hnw7
  clear hnw7
  have HAD := Lib.hid had6
  clear had6
  by_cases h2 : c6 = 2
  all_goals
    have hzz : (N - 2) * 2 = (N - 2) * 2 := rfl
    obtain ⟨ad7, had7, hnw7⟩ : ∃ ad7 : Addr, ad7 = ad6 ∧ ∀ (j : Nat) (u : Value), (prs ((scat N 2 (2 * (N : Int))).drop 2))[j]? = some u → w6.cell? (ad7.add j) = some u := ⟨ad6, rfl, HNW7.out⟩
    rw [HAD.out] at had7
    first | rw [if_pos h2] at had7 | rw [if_neg h2] at had7
    subst had7
    have HNW8 := Lib.hid hnw7
    clear hnw7 hzz
    go_wp2_with (at_builtin; refine wpList_append_at rfl _ _ _ rfl (w1.heap.size + 2) 81 i0 _ 2 16 Tryd.underlying38 HI.out HZ0.out HZ1.out HZ2.out rfl (by omega) _ 2 [.int .i64 1, .int .i64 1, .int .i64 3, .int .i64 4] rfl HOB6.out _ (N - 2) _ (prs ((scat N 2 (2 * (N : Int))).drop 2)) rfl HLN6.out HNW8.out (prs_one _) (by unfold maxLen; omega) (by omega) (by omega) ?_; intro vy w7 howny hgy)
    rw [← pasY_eq N hN2] at howny
    have hY7 := RdB_of_owns howny (by omega)
    have U7 := HU6.out.grown hgy (fun b hb e => own_ne HOB6.out hb e.symm)
    have hX7 := HXR.out.keep (w' := w7) (fun p hp => (hgy.cell_far p (by have := HB56.out.size; omega) (by show some p.block ≠ some w5.heap.size; simp; omega)).trans (HB56.out.cell hp)) (by have := HB56.out.size; have := hgy.size; omega)
    obtain ⟨Y, y, hYy, hy2, hYl⟩ := pasY_last N hN2 hN9
    rw [hYy] at hY7
    have TR := try_late vx vy Y y (w.heap.size + 1) (w1.heap.size + 1) w1.heap.size most _ hY7.rd U7.most hYl (by rw [hy2]; exact hp)
    have HU2 := Lib.hid U7
    clear U7 hX7 hY7 hYy hy2 hYl howny hgy
    refine TR.mono ?_
    rintro e W3 ⟨rfl, hbw⟩
    have U3 := HU2.out.below hbw
    have HU3 := Lib.hid U3
    clear TR hbw HU2
    have e1 := U3.sty.cell 2
    have e2 := U3.sty.cell 3
    simp at e1 e2
    have ca := U3.a.cell 0
    have cb := U3.b.cell 0
    simp at ca cb
    clear U3
    go_wp2_with fail
    go_quiet (fail)
    go_wp2_with fail
    (try simp only [Exit.inBlock, Exit.then]); refine bodyPost_ret (results_tmp4 rfl _ _ _) rfl ?_
    exact ⟨_, _, rfl, RdP.none _, RdP.none _, Below.dn HU3.out.bel _⟩
end Go.Proofs.YtecdkpcapalifaaDoor

namespace Go.Proofs.YtecdkpcapalifaaDoor
open Go.RowKit Go.Maps

set_option maxRecDepth 100000 in
set_option maxHeartbeats 4000000 in
theorem unique_ffl_pasl (k row most : Int) (N : Nat) (nx : Bool) (w : World) (hs : okSty ⟨k, nx, row, (N : Int)⟩) (h1 : 1 ≤ most) (h9 : most ≤ 999) (hr : 0 < row) (hm : most < row + 1) (hpn : most < 2 * (N : Int)) (hp0 : 0 < (N : Int)) :
    Calls Tryd.prog 29 #[.agg #[.int .i64 k, .bool nx, .int .i64 row, .int .i64 (N : Int)], .int .i64 most] w (UniqueOut [] [] true w) := by
  have hV := (okSty_valid ⟨k, nx, row, (N : Int)⟩).2 hs
  dsimp only at hV
  have VA := valid_any k row N nx ((w.alloc (.cells #[.int .i64 k, .bool nx, .int .i64 row, .int .i64 (N : Int)] 36)).alloc (.cells #[.int .i64 most] 3))
  rw [hV] at VA
  obtain ⟨_, _, hr0, _, hr9, hp0, hp1, hp9⟩ := hs
  dsimp only at hr0 hr9 hp0 hp1 hp9
  have HP1 := Lib.hid hp1
  have hb0 := ((Below.refl w.heap.size w).alloc (Nat.le_refl _) (.cells #[.int .i64 k, .bool nx, .int .i64 row, .int .i64 (N : Int)] 36)).alloc (by simp) (.cells #[.int .i64 most] 3)
  have hx0 := (Boxs.new w 36 #[.int .i64 k, .bool nx, .int .i64 row, .int .i64 (N : Int)]).alloc (.cells #[.int .i64 most] 3)
  have hy0 := Boxs.new (w.alloc (.cells #[.int .i64 k, .bool nx, .int .i64 row, .int .i64 (N : Int)] 36)) 3 #[.int .i64 most]
  rw [World.size_alloc] at hy0
  have hz0 : ((w.alloc (.cells #[.int .i64 k, .bool nx, .int .i64 row, .int .i64 (N : Int)] 36)).alloc (.cells #[.int .i64 most] 3)).heap.size = w.heap.size + 2 := by simp
  have HX := Lib.hid hx0; have HY := Lib.hid hy0; have HB := Lib.hid hb0
  clear hx0 hy0 hb0 hV hp1
  obtain ⟨i0, hi0, hz90, hz91, hz92⟩ := info_parts Tryd.info81
  have HI := Lib.hid hi0; have HZ0 := Lib.hid hz90; have HZ1 := Lib.hid hz91; have HZ2 := Lib.hid hz92
  clear hi0 hz90 hz91 hz92
  have hN2 : 2 ≤ N := by have := HP1.out; omega
  have hN9 : N ≤ 500 := by omega
  go_enter Tryd.func29, Tryd.ntmps29
  go_wp2_with fail
  refine VA.mono ?_
  rintro e w1 ⟨rfl, hb⟩
  have hx1 := HX.out.below hb (by omega)
  have hy1 := HY.out.below hb (by omega)
  have hb1 := HB.out.trans (hb.mono (by omega))
  have hs1 := hb.size
  rw [hz0] at hs1
  have hz1 : ((w1.alloc (.cells #[.slice none 0 0] 38)).alloc (.cells #[.slice none 0 0] 38)).heap.size = w1.heap.size + 2 := by simp
  have ua := (Boxs.new w1 38 #[.slice none 0 0]).alloc (.cells #[.slice none 0 0] 38)
  have ub := Boxs.new (w1.alloc (.cells #[.slice none 0 0] 38)) 38 #[.slice none 0 0]
  rw [World.size_alloc] at ub
  have U : Uni w.heap.size w1.heap.size w ((w1.alloc (.cells #[.slice none 0 0] 38)).alloc (.cells #[.slice none 0 0] 38)) #[.int .i64 k, .bool nx, .int .i64 row, .int .i64 (N : Int)] most (.slice none 0 0) (.slice none 0 0) :=
    ⟨hs1, (hx1.alloc _).alloc _, (hy1.alloc _).alloc _, ua, ub, (hb1.alloc (by omega) _).alloc (by simp; omega) _⟩
  have HU := Lib.hid U
  have m0 := hy1.cell 0
  simp at m0
  have en : ∀ W, (binOp .eql 38 (.slice none 0 0) (.slice none 0 0)).run Tryd.prog W = .ok (.bool true) W := fun W => Lib.run_eql_slice_nil W 38 81 none 0 0 0 0 Tryd.underlying38
  clear hx1 hy1 hb1 ua ub hb
  have e1 := U.sty.cell 2
  have e2 := U.sty.cell 3
  simp at e1 e2
  have ca := U.a.cell 0
  have cb := U.b.cell 0
  simp at ca cb
  have bx1 := (Boxs.new ((w1.alloc (.cells #[.slice none 0 0] 38)).alloc (.cells #[.slice none 0 0] 38)) 81 #[.int .i64 1, .int .i64 row]).alloc (.cells #[.int .i64 1, .int .i64 (row + 1)] 81)
  have bx2 := Boxs.new (((w1.alloc (.cells #[.slice none 0 0] 38)).alloc (.cells #[.slice none 0 0] 38)).alloc (.cells #[.int .i64 1, .int .i64 row] 81)) 81 #[.int .i64 1, .int .i64 (row + 1)]
  rw [World.size_alloc] at bx2
  rw [hz1] at bx1 bx2
  have r1 : RdB (w1.heap.size + 2) ((((w1.alloc (.cells #[.slice none 0 0] 38)).alloc (.cells #[.slice none 0 0] 38)).alloc (.cells #[.int .i64 1, .int .i64 row] 81)).alloc (.cells #[.int .i64 1, .int .i64 (row + 1)] 81)) (.slice (some ⟨w1.heap.size + 2, 0, none⟩) 1 1) [(1, row)] := RdB_block bx1 rfl rfl (by omega) (Nat.le_refl _)
  have r2 : RdB (w1.heap.size + 2) ((((w1.alloc (.cells #[.slice none 0 0] 38)).alloc (.cells #[.slice none 0 0] 38)).alloc (.cells #[.int .i64 1, .int .i64 row] 81)).alloc (.cells #[.int .i64 1, .int .i64 (row + 1)] 81)) (.slice (some ⟨w1.heap.size + 2 + 1, 0, none⟩) 1 1) [(1, row + 1)] := RdB_block bx2 rfl rfl (by omega) (by omega)
  have U2 := (U.alloc (.cells #[.int .i64 1, .int .i64 row] 81)).alloc (.cells #[.int .i64 1, .int .i64 (row + 1)] 81)
  have e1b := (U.alloc (.cells #[.int .i64 1, .int .i64 row] 81)).sty.cell 2
  have e1c := U2.sty.cell 2
  simp at e1b e1c
  have hd1 : ¬ w1.heap.size + 2 = w.heap.size := by omega
  have hd2 : ¬ w.heap.size = w1.heap.size + 2 := by omega
  have TR := try_late (.slice (some ⟨w1.heap.size + 2, 0, none⟩) 1 1) _ [] (1, row + 1) (w.heap.size + 1) (w1.heap.size + 1) w1.heap.size most _ r2.rd U2.most (by simp) (by show most < row + 1; exact hm)
  have HU2 := Lib.hid U2
  clear U U2 r1 r2 bx1 bx2
  go_wp2_with fail
  refine TR.mono ?_
  rintro e W3 ⟨rfl, hbw⟩
  have U3 := HU2.out.below hbw
  have HU3 := Lib.hid U3
  clear e1 e2 e1b e1c ca cb TR hbw HU2
  have e1 := U3.sty.cell 2
  have e2 := U3.sty.cell 3
  simp at e1 e2
  have ca := U3.a.cell 0
  have cb := U3.b.cell 0
  simp at ca cb
  have h3s : w1.heap.size + 2 ≤ W3.heap.size := by have := U3.b.lt; omega
  have bx1 := Boxs.new W3 81 #[.int .i64 1, .int .i64 2]
  skip
  have SC := scattered_any (N - 1) 4 (2 * (N : Int)) (W3.alloc (.cells #[.int .i64 1, .int .i64 2] 81)) (by omega) (by omega) (by omega) (by omega)
  rw [show ((N - 1 : Nat) : Int) = (N : Int) - 1 by omega] at SC
  have V1 := U3.alloc (.cells #[.int .i64 1, .int .i64 2] 81)
  have hzx : (W3.alloc (.cells #[.int .i64 1, .int .i64 2] 81)).heap.size = W3.heap.size + 1 := by simp
  have HV1 := Lib.hid V1; have HBX1 := Lib.hid bx1
  clear V1 bx1
  go_wp2_with fail
  refine SC.mono ?_
  rintro e w4 ⟨v4, rfl, hown4, hb4⟩
  have hl4 : (scat (N - 1) 4 (2 * (N : Int))).length = N - 1 := scat_len _ _ _ (by omega)
  obtain ⟨ad, c4, rfl, hnews⟩ := (RdP_of_owns hown4).news (by intro e; rw [e] at hl4; simp at hl4; omega)
  rw [hl4]
  have hb4s := hb4.size
  have HB34 := Lib.hid (((Below.refl W3.heap.size W3).alloc (Nat.le_refl _) (.cells #[.int .i64 1, .int .i64 2] 81)).trans (hb4.mono (by omega)))
  have V4 := HV1.out.below hb4
  have OB : w4.ownsRow (w1.heap.size + 2) 81 2 (.slice (some ⟨W3.heap.size, 0, none⟩) 1 1) 1 [.int .i64 1, .int .i64 2] := owns_block (HBX1.out.below hb4 (by omega)) (by omega) rfl rfl (by omega)
  have HOB := Lib.hid OB; have HNW := Lib.hid hnews; have HV4 := Lib.hid V4
  have hpl4 := prs_len (scat (N - 1) 4 (2 * (N : Int)))
  rw [hl4] at hpl4
  have HL4 := Lib.hid hpl4
  clear e1 e2 ca cb SC hown4 hb4 hl4 hnews V4 OB hpl4 HV1 HBX1
  go_wp2_with (at_builtin; refine wpList_append_at rfl _ _ _ rfl (w1.heap.size + 2) 81 i0 _ 2 16 Tryd.underlying38 HI.out HZ0.out HZ1.out HZ2.out rfl (by omega) _ 1 [.int .i64 1, .int .i64 2] rfl HOB.out ad (N - 1) c4 (prs (scat (N - 1) 4 (2 * (N : Int)))) rfl HL4.out HNW.out (prs_one _) (by unfold maxLen; omega) (by omega) (by omega) ?_; intro vx w5 hownx hgx)
  rw [← pasX_eq N hN2] at hownx
  have hX5 := RdB_of_owns hownx (by omega)
  have U5 := HV4.out.grown hgx (fun b hb e => own_ne HOB.out hb e.symm)
  have bx2 := Boxs.new w5 81 #[.int .i64 1, .int .i64 1, .int .i64 3, .int .i64 4]
  have SC2 := scattered_any N 2 (2 * (N : Int)) (w5.alloc (.cells #[.int .i64 1, .int .i64 1, .int .i64 3, .int .i64 4] 81)) (by omega) (by omega) (by omega) (by omega)
  have hz5 : (w5.alloc (.cells #[.int .i64 1, .int .i64 1, .int .i64 3, .int .i64 4] 81)).heap.size = w5.heap.size + 1 := by simp
  have h5s : w1.heap.size + 2 ≤ w5.heap.size := by have := U5.b.lt; omega
  have HXR := Lib.hid hX5
  have HX5 := Lib.hid (hX5.below ((Below.refl w5.heap.size w5).alloc (Nat.le_refl _) (.cells #[.int .i64 1, .int .i64 1, .int .i64 3, .int .i64 4] 81)))
  have HU5 := Lib.hid (U5.alloc (.cells #[.int .i64 1, .int .i64 1, .int .i64 3, .int .i64 4] 81)); have HBX2 := Lib.hid bx2
  have HK5 := Lib.hid (show ∀ p : Addr, p.block < W3.heap.size → w5.cell? p = W3.cell? p from fun p hp => (hgx.cell_far p (by have := HB34.out.size; omega) (by show some p.block ≠ some W3.heap.size; simp; omega)).trans (HB34.out.cell hp))
  have hs5 : W3.heap.size ≤ w5.heap.size := by have := HB34.out.size; have := hgx.size; omega
  clear hownx hX5 U5 bx2 hgx HNW HL4 HOB HV4
  refine SC2.mono ?_
  rintro e w6 ⟨v6, rfl, hown6, hb6⟩
  have hpl6 : (scat N 2 (2 * (N : Int))).length = N := scat_len _ _ _ (by omega)
  obtain ⟨a6, c6, hv6, hc6, hc6', hd6⟩ := RdP_of_owns hown6
  rw [hpl6] at hv6 hc6 hd6
  obtain ⟨g6, o6, rfl, hg6, hn6⟩ : ∃ b off, a6 = some ⟨b, off, none⟩ ∧ b < w6.heap.size ∧ ∀ (j : Nat) (u : Value), (prs (scat N 2 (2 * (N : Int))))[j]? = some u → w6.cell? ⟨b, off + j, none⟩ = some u := by
    rcases hd6 with h | h
    · omega
    · exact h
  subst hv6
  have HN6 := Lib.hid hn6
  have HB56 := Lib.hid (((Below.refl w5.heap.size w5).alloc (Nat.le_refl _) (.cells #[.int .i64 1, .int .i64 1, .int .i64 3, .int .i64 4] 81)).trans (hb6.mono (by omega)))
  have hU6 := HU5.out.below hb6
  have HX6 := Lib.hid (HX5.out.below hb6)
  have hB6 := HBX2.out.below hb6 (by omega)
  have OB6 : w6.ownsRow (w1.heap.size + 2) 81 2 (.slice (some ⟨w5.heap.size, 0, none⟩) 2 2) 2 [.int .i64 1, .int .i64 1, .int .i64 3, .int .i64 4] := owns_block hB6 (by omega) rfl rfl (by omega)
  have HOB6 := Lib.hid OB6; have HU6 := Lib.hid hU6
  have hb6s := hb6.size
  have hN2i : (2 : Int) ≤ (N : Int) := by omega
  have hc6i : (N : Int) ≤ (c6 : Int) := by omega
  have hnw6 : ∀ (j : Nat) (u : Value), (prs ((scat N 2 (2 * (N : Int))).drop 2))[j]? = some u → w6.cell? ((⟨g6, o6 + 4, none⟩ : Addr).add j) = some u := fun j u hj => by
    rw [prs_drop2, List.getElem?_drop] at hj
    have := hn6 (4 + j) u hj
    unfold Addr.add
    split
    · next h0 => subst h0; exact this
    · rw [Nat.add_assoc]; exact this
  have hln6 : (prs ((scat N 2 (2 * (N : Int))).drop 2)).length = (N - 2) * 2 := by rw [prs_len, List.length_drop, hpl6]
  have HNW6 := Lib.hid hnw6; have HLN6 := Lib.hid hln6
  clear SC2 hown6 hd6 hn6 hU6 hB6 OB6 hb6 HX5 HU5 HBX2 hnw6 hln6 HN6
  obtain ⟨ad6, had6, hnw7⟩ : ∃ ad6 : Addr, (ad6 = if c6 = 2 then ⟨g6, o6, none⟩ else ⟨g6, o6 + 4, none⟩) ∧ ∀ (j : Nat) (u : Value), (prs ((scat N 2 (2 * (N : Int))).drop 2))[j]? = some u → w6.cell? (ad6.add j) = some u := by
    by_cases h2 : c6 = 2
    · refine ⟨⟨g6, o6, none⟩, (if_pos h2).symm, fun j u hj => ?_⟩
      have h3 := (List.getElem?_eq_some_iff.1 hj).1
      rw [HLN6.out] at h3
      omega
    · exact ⟨⟨g6, o6 + 4, none⟩, (if_neg h2).symm, HNW6.out⟩
  have HNW7 := Lib.hid hnw7
  clear hnw7
  have HAD := Lib.hid had6
  clear had6
  by_cases h2 : c6 = 2
  all_goals
    have hzz : (N - 2) * 2 = (N - 2) * 2 := rfl
    obtain ⟨ad7, had7, hnw7⟩ : ∃ ad7 : Addr, ad7 = ad6 ∧ ∀ (j : Nat) (u : Value), (prs ((scat N 2 (2 * (N : Int))).drop 2))[j]? = some u → w6.cell? (ad7.add j) = some u := ⟨ad6, rfl, HNW7.out⟩
    rw [HAD.out] at had7
    first | rw [if_pos h2] at had7 | rw [if_neg h2] at had7
    subst had7
    have HNW8 := Lib.hid hnw7
    clear hnw7 hzz
    go_wp2_with (at_builtin; refine wpList_append_at rfl _ _ _ rfl (w1.heap.size + 2) 81 i0 _ 2 16 Tryd.underlying38 HI.out HZ0.out HZ1.out HZ2.out rfl (by omega) _ 2 [.int .i64 1, .int .i64 1, .int .i64 3, .int .i64 4] rfl HOB6.out _ (N - 2) _ (prs ((scat N 2 (2 * (N : Int))).drop 2)) rfl HLN6.out HNW8.out (prs_one _) (by unfold maxLen; omega) (by omega) (by omega) ?_; intro vy w7 howny hgy)
    rw [← pasY_eq N hN2] at howny
    have hY7 := RdB_of_owns howny (by omega)
    have U7 := HU6.out.grown hgy (fun b hb e => own_ne HOB6.out hb e.symm)
    have hX7 := HXR.out.keep (w' := w7) (fun p hp => (hgy.cell_far p (by have := HB56.out.size; omega) (by show some p.block ≠ some w5.heap.size; simp; omega)).trans (HB56.out.cell hp)) (by have := HB56.out.size; have := hgy.size; omega)
    obtain ⟨Y, y, hYy, hy2, hYl⟩ := pasY_last N hN2 hN9
    rw [hYy] at hY7
    have TR := try_late vx vy Y y (w.heap.size + 1) (w1.heap.size + 1) w1.heap.size most _ hY7.rd U7.most hYl (by rw [hy2]; exact hpn)
    have HU2 := Lib.hid U7
    clear U7 hX7 hY7 hYy hy2 hYl howny hgy
    refine TR.mono ?_
    rintro e W9 ⟨rfl, hbw⟩
    have U9 := HU2.out.below hbw
    have HU9 := Lib.hid U9
    clear TR hbw HU2
    have e1 := U9.sty.cell 2
    have e2 := U9.sty.cell 3
    simp at e1 e2
    have ca := U9.a.cell 0
    have cb := U9.b.cell 0
    simp at ca cb
    clear U9
    go_wp2_with fail
    go_quiet (fail)
    go_wp2_with fail
    (try simp only [Exit.inBlock, Exit.then]); refine bodyPost_ret (results_tmp4 rfl _ _ _) rfl ?_
    exact ⟨_, _, rfl, RdP.none _, RdP.none _, Below.dn HU9.out.bel _⟩

set_option maxRecDepth 100000 in
set_option maxHeartbeats 4000000 in
theorem unique_ffl_pas (k row most : Int) (N : Nat) (nx : Bool) (w : World) (hs : okSty ⟨k, nx, row, (N : Int)⟩) (h1 : 1 ≤ most) (h9 : most ≤ 999) (hr : 0 < row) (hm : most < row + 1) (hpn : 2 * (N : Int) ≤ most) (hp0 : 0 < (N : Int)) :
    Calls Tryd.prog 29 #[.agg #[.int .i64 k, .bool nx, .int .i64 row, .int .i64 (N : Int)], .int .i64 most] w (UniqueOut (pasX N) (pasY N) false w) := by
  have hV := (okSty_valid ⟨k, nx, row, (N : Int)⟩).2 hs
  dsimp only at hV
  have VA := valid_any k row N nx ((w.alloc (.cells #[.int .i64 k, .bool nx, .int .i64 row, .int .i64 (N : Int)] 36)).alloc (.cells #[.int .i64 most] 3))
  rw [hV] at VA
  obtain ⟨_, _, hr0, _, hr9, hp0, hp1, hp9⟩ := hs
  dsimp only at hr0 hr9 hp0 hp1 hp9
  have HP1 := Lib.hid hp1
  have hb0 := ((Below.refl w.heap.size w).alloc (Nat.le_refl _) (.cells #[.int .i64 k, .bool nx, .int .i64 row, .int .i64 (N : Int)] 36)).alloc (by simp) (.cells #[.int .i64 most] 3)
  have hx0 := (Boxs.new w 36 #[.int .i64 k, .bool nx, .int .i64 row, .int .i64 (N : Int)]).alloc (.cells #[.int .i64 most] 3)
  have hy0 := Boxs.new (w.alloc (.cells #[.int .i64 k, .bool nx, .int .i64 row, .int .i64 (N : Int)] 36)) 3 #[.int .i64 most]
  rw [World.size_alloc] at hy0
  have hz0 : ((w.alloc (.cells #[.int .i64 k, .bool nx, .int .i64 row, .int .i64 (N : Int)] 36)).alloc (.cells #[.int .i64 most] 3)).heap.size = w.heap.size + 2 := by simp
  have HX := Lib.hid hx0; have HY := Lib.hid hy0; have HB := Lib.hid hb0
  clear hx0 hy0 hb0 hV hp1
  obtain ⟨i0, hi0, hz90, hz91, hz92⟩ := info_parts Tryd.info81
  have HI := Lib.hid hi0; have HZ0 := Lib.hid hz90; have HZ1 := Lib.hid hz91; have HZ2 := Lib.hid hz92
  clear hi0 hz90 hz91 hz92
  have hN2 : 2 ≤ N := by have := HP1.out; omega
  have hN9 : N ≤ 500 := by omega
  go_enter Tryd.func29, Tryd.ntmps29
  go_wp2_with fail
  refine VA.mono ?_
  rintro e w1 ⟨rfl, hb⟩
  have hx1 := HX.out.below hb (by omega)
  have hy1 := HY.out.below hb (by omega)
  have hb1 := HB.out.trans (hb.mono (by omega))
  have hs1 := hb.size
  rw [hz0] at hs1
  have hz1 : ((w1.alloc (.cells #[.slice none 0 0] 38)).alloc (.cells #[.slice none 0 0] 38)).heap.size = w1.heap.size + 2 := by simp
  have ua := (Boxs.new w1 38 #[.slice none 0 0]).alloc (.cells #[.slice none 0 0] 38)
  have ub := Boxs.new (w1.alloc (.cells #[.slice none 0 0] 38)) 38 #[.slice none 0 0]
  rw [World.size_alloc] at ub
  have U : Uni w.heap.size w1.heap.size w ((w1.alloc (.cells #[.slice none 0 0] 38)).alloc (.cells #[.slice none 0 0] 38)) #[.int .i64 k, .bool nx, .int .i64 row, .int .i64 (N : Int)] most (.slice none 0 0) (.slice none 0 0) :=
    ⟨hs1, (hx1.alloc _).alloc _, (hy1.alloc _).alloc _, ua, ub, (hb1.alloc (by omega) _).alloc (by simp; omega) _⟩
  have HU := Lib.hid U
  have m0 := hy1.cell 0
  simp at m0
  have en : ∀ W, (binOp .eql 38 (.slice none 0 0) (.slice none 0 0)).run Tryd.prog W = .ok (.bool true) W := fun W => Lib.run_eql_slice_nil W 38 81 none 0 0 0 0 Tryd.underlying38
  clear hx1 hy1 hb1 ua ub hb
  have e1 := U.sty.cell 2
  have e2 := U.sty.cell 3
  simp at e1 e2
  have ca := U.a.cell 0
  have cb := U.b.cell 0
  simp at ca cb
  have bx1 := (Boxs.new ((w1.alloc (.cells #[.slice none 0 0] 38)).alloc (.cells #[.slice none 0 0] 38)) 81 #[.int .i64 1, .int .i64 row]).alloc (.cells #[.int .i64 1, .int .i64 (row + 1)] 81)
  have bx2 := Boxs.new (((w1.alloc (.cells #[.slice none 0 0] 38)).alloc (.cells #[.slice none 0 0] 38)).alloc (.cells #[.int .i64 1, .int .i64 row] 81)) 81 #[.int .i64 1, .int .i64 (row + 1)]
  rw [World.size_alloc] at bx2
  rw [hz1] at bx1 bx2
  have r1 : RdB (w1.heap.size + 2) ((((w1.alloc (.cells #[.slice none 0 0] 38)).alloc (.cells #[.slice none 0 0] 38)).alloc (.cells #[.int .i64 1, .int .i64 row] 81)).alloc (.cells #[.int .i64 1, .int .i64 (row + 1)] 81)) (.slice (some ⟨w1.heap.size + 2, 0, none⟩) 1 1) [(1, row)] := RdB_block bx1 rfl rfl (by omega) (Nat.le_refl _)
  have r2 : RdB (w1.heap.size + 2) ((((w1.alloc (.cells #[.slice none 0 0] 38)).alloc (.cells #[.slice none 0 0] 38)).alloc (.cells #[.int .i64 1, .int .i64 row] 81)).alloc (.cells #[.int .i64 1, .int .i64 (row + 1)] 81)) (.slice (some ⟨w1.heap.size + 2 + 1, 0, none⟩) 1 1) [(1, row + 1)] := RdB_block bx2 rfl rfl (by omega) (by omega)
  have U2 := (U.alloc (.cells #[.int .i64 1, .int .i64 row] 81)).alloc (.cells #[.int .i64 1, .int .i64 (row + 1)] 81)
  have e1b := (U.alloc (.cells #[.int .i64 1, .int .i64 row] 81)).sty.cell 2
  have e1c := U2.sty.cell 2
  simp at e1b e1c
  have hd1 : ¬ w1.heap.size + 2 = w.heap.size := by omega
  have hd2 : ¬ w.heap.size = w1.heap.size + 2 := by omega
  have TR := try_late (.slice (some ⟨w1.heap.size + 2, 0, none⟩) 1 1) _ [] (1, row + 1) (w.heap.size + 1) (w1.heap.size + 1) w1.heap.size most _ r2.rd U2.most (by simp) (by show most < row + 1; exact hm)
  have HU2 := Lib.hid U2
  clear U U2 r1 r2 bx1 bx2
  go_wp2_with fail
  refine TR.mono ?_
  rintro e W3 ⟨rfl, hbw⟩
  have U3 := HU2.out.below hbw
  have HU3 := Lib.hid U3
  clear e1 e2 e1b e1c ca cb TR hbw HU2
  have e1 := U3.sty.cell 2
  have e2 := U3.sty.cell 3
  simp at e1 e2
  have ca := U3.a.cell 0
  have cb := U3.b.cell 0
  simp at ca cb
  have h3s : w1.heap.size + 2 ≤ W3.heap.size := by have := U3.b.lt; omega
  have bx1 := Boxs.new W3 81 #[.int .i64 1, .int .i64 2]
  skip
  have SC := scattered_any (N - 1) 4 (2 * (N : Int)) (W3.alloc (.cells #[.int .i64 1, .int .i64 2] 81)) (by omega) (by omega) (by omega) (by omega)
  rw [show ((N - 1 : Nat) : Int) = (N : Int) - 1 by omega] at SC
  have V1 := U3.alloc (.cells #[.int .i64 1, .int .i64 2] 81)
  have hzx : (W3.alloc (.cells #[.int .i64 1, .int .i64 2] 81)).heap.size = W3.heap.size + 1 := by simp
  have HV1 := Lib.hid V1; have HBX1 := Lib.hid bx1
  clear V1 bx1
  go_wp2_with fail
  refine SC.mono ?_
  rintro e w4 ⟨v4, rfl, hown4, hb4⟩
  have hl4 : (scat (N - 1) 4 (2 * (N : Int))).length = N - 1 := scat_len _ _ _ (by omega)
  obtain ⟨ad, c4, rfl, hnews⟩ := (RdP_of_owns hown4).news (by intro e; rw [e] at hl4; simp at hl4; omega)
  rw [hl4]
  have hb4s := hb4.size
  have HB34 := Lib.hid (((Below.refl W3.heap.size W3).alloc (Nat.le_refl _) (.cells #[.int .i64 1, .int .i64 2] 81)).trans (hb4.mono (by omega)))
  have V4 := HV1.out.below hb4
  have OB : w4.ownsRow (w1.heap.size + 2) 81 2 (.slice (some ⟨W3.heap.size, 0, none⟩) 1 1) 1 [.int .i64 1, .int .i64 2] := owns_block (HBX1.out.below hb4 (by omega)) (by omega) rfl rfl (by omega)
  have HOB := Lib.hid OB; have HNW := Lib.hid hnews; have HV4 := Lib.hid V4
  have hpl4 := prs_len (scat (N - 1) 4 (2 * (N : Int)))
  rw [hl4] at hpl4
  have HL4 := Lib.hid hpl4
  clear e1 e2 ca cb SC hown4 hb4 hl4 hnews V4 OB hpl4 HV1 HBX1
  go_wp2_with (at_builtin; refine wpList_append_at rfl _ _ _ rfl (w1.heap.size + 2) 81 i0 _ 2 16 Tryd.underlying38 HI.out HZ0.out HZ1.out HZ2.out rfl (by omega) _ 1 [.int .i64 1, .int .i64 2] rfl HOB.out ad (N - 1) c4 (prs (scat (N - 1) 4 (2 * (N : Int)))) rfl HL4.out HNW.out (prs_one _) (by unfold maxLen; omega) (by omega) (by omega) ?_; intro vx w5 hownx hgx)
  rw [← pasX_eq N hN2] at hownx
  have hX5 := RdB_of_owns hownx (by omega)
  have U5 := HV4.out.grown hgx (fun b hb e => own_ne HOB.out hb e.symm)
  have bx2 := Boxs.new w5 81 #[.int .i64 1, .int .i64 1, .int .i64 3, .int .i64 4]
  have SC2 := scattered_any N 2 (2 * (N : Int)) (w5.alloc (.cells #[.int .i64 1, .int .i64 1, .int .i64 3, .int .i64 4] 81)) (by omega) (by omega) (by omega) (by omega)
  have hz5 : (w5.alloc (.cells #[.int .i64 1, .int .i64 1, .int .i64 3, .int .i64 4] 81)).heap.size = w5.heap.size + 1 := by simp
  have h5s : w1.heap.size + 2 ≤ w5.heap.size := by have := U5.b.lt; omega
  have HXR := Lib.hid hX5
  have HX5 := Lib.hid (hX5.below ((Below.refl w5.heap.size w5).alloc (Nat.le_refl _) (.cells #[.int .i64 1, .int .i64 1, .int .i64 3, .int .i64 4] 81)))
  have HU5 := Lib.hid (U5.alloc (.cells #[.int .i64 1, .int .i64 1, .int .i64 3, .int .i64 4] 81)); have HBX2 := Lib.hid bx2
  have HK5 := Lib.hid (show ∀ p : Addr, p.block < W3.heap.size → w5.cell? p = W3.cell? p from fun p hp => (hgx.cell_far p (by have := HB34.out.size; omega) (by show some p.block ≠ some W3.heap.size; simp; omega)).trans (HB34.out.cell hp))
  have hs5 : W3.heap.size ≤ w5.heap.size := by have := HB34.out.size; have := hgx.size; omega
  clear hownx hX5 U5 bx2 hgx HNW HL4 HOB HV4
  refine SC2.mono ?_
  rintro e w6 ⟨v6, rfl, hown6, hb6⟩
  have hpl6 : (scat N 2 (2 * (N : Int))).length = N := scat_len _ _ _ (by omega)
  obtain ⟨a6, c6, hv6, hc6, hc6', hd6⟩ := RdP_of_owns hown6
  rw [hpl6] at hv6 hc6 hd6
  obtain ⟨g6, o6, rfl, hg6, hn6⟩ : ∃ b off, a6 = some ⟨b, off, none⟩ ∧ b < w6.heap.size ∧ ∀ (j : Nat) (u : Value), (prs (scat N 2 (2 * (N : Int))))[j]? = some u → w6.cell? ⟨b, off + j, none⟩ = some u := by
    rcases hd6 with h | h
    · omega
    · exact h
  subst hv6
  have HN6 := Lib.hid hn6
  have HB56 := Lib.hid (((Below.refl w5.heap.size w5).alloc (Nat.le_refl _) (.cells #[.int .i64 1, .int .i64 1, .int .i64 3, .int .i64 4] 81)).trans (hb6.mono (by omega)))
  have hU6 := HU5.out.below hb6
  have HX6 := Lib.hid (HX5.out.below hb6)
  have hB6 := HBX2.out.below hb6 (by omega)
  have OB6 : w6.ownsRow (w1.heap.size + 2) 81 2 (.slice (some ⟨w5.heap.size, 0, none⟩) 2 2) 2 [.int .i64 1, .int .i64 1, .int .i64 3, .int .i64 4] := owns_block hB6 (by omega) rfl rfl (by omega)
  have HOB6 := Lib.hid OB6; have HU6 := Lib.hid hU6
  have hb6s := hb6.size
  have hN2i : (2 : Int) ≤ (N : Int) := by omega
  have hc6i : (N : Int) ≤ (c6 : Int) := by omega
  have hnw6 : ∀ (j : Nat) (u : Value), (prs ((scat N 2 (2 * (N : Int))).drop 2))[j]? = some u → w6.cell? ((⟨g6, o6 + 4, none⟩ : Addr).add j) = some u := fun j u hj => by
    rw [prs_drop2, List.getElem?_drop] at hj
    have := hn6 (4 + j) u hj
    unfold Addr.add
    split
    · next h0 => subst h0; exact this
    · rw [Nat.add_assoc]; exact this
  have hln6 : (prs ((scat N 2 (2 * (N : Int))).drop 2)).length = (N - 2) * 2 := by rw [prs_len, List.length_drop, hpl6]
  have HNW6 := Lib.hid hnw6; have HLN6 := Lib.hid hln6
  clear SC2 hown6 hd6 hn6 hU6 hB6 OB6 hb6 HX5 HU5 HBX2 hnw6 hln6 HN6
  obtain ⟨ad6, had6, hnw7⟩ : ∃ ad6 : Addr, (ad6 = if c6 = 2 then ⟨g6, o6, none⟩ else ⟨g6, o6 + 4, none⟩) ∧ ∀ (j : Nat) (u : Value), (prs ((scat N 2 (2 * (N : Int))).drop 2))[j]? = some u → w6.cell? (ad6.add j) = some u := by
    by_cases h2 : c6 = 2
    · refine ⟨⟨g6, o6, none⟩, (if_pos h2).symm, fun j u hj => ?_⟩
      have h3 := (List.getElem?_eq_some_iff.1 hj).1
      rw [HLN6.out] at h3
      omega
    · exact ⟨⟨g6, o6 + 4, none⟩, (if_neg h2).symm, HNW6.out⟩
  have HNW7 := Lib.hid hnw7
  clear hnw7
  have HAD := Lib.hid had6
  clear had6
  by_cases h2 : c6 = 2
  all_goals
    have hzz : (N - 2) * 2 = (N - 2) * 2 := rfl
    obtain ⟨ad7, had7, hnw7⟩ : ∃ ad7 : Addr, ad7 = ad6 ∧ ∀ (j : Nat) (u : Value), (prs ((scat N 2 (2 * (N : Int))).drop 2))[j]? = some u → w6.cell? (ad7.add j) = some u := ⟨ad6, rfl, HNW7.out⟩
    rw [HAD.out] at had7
    first | rw [if_pos h2] at had7 | rw [if_neg h2] at had7
    subst had7
    have HNW8 := Lib.hid hnw7
    clear hnw7 hzz
    go_wp2_with (at_builtin; refine wpList_append_at rfl _ _ _ rfl (w1.heap.size + 2) 81 i0 _ 2 16 Tryd.underlying38 HI.out HZ0.out HZ1.out HZ2.out rfl (by omega) _ 2 [.int .i64 1, .int .i64 1, .int .i64 3, .int .i64 4] rfl HOB6.out _ (N - 2) _ (prs ((scat N 2 (2 * (N : Int))).drop 2)) rfl HLN6.out HNW8.out (prs_one _) (by unfold maxLen; omega) (by omega) (by omega) ?_; intro vy w7 howny hgy)
    rw [← pasY_eq N hN2] at howny
    have hY7 := RdB_of_owns howny (by omega)
    have U7 := HU6.out.grown hgy (fun b hb e => own_ne HOB6.out hb e.symm)
    have hX7 := HXR.out.keep (w' := w7) (fun p hp => (hgy.cell_far p (by have := HB56.out.size; omega) (by show some p.block ≠ some w5.heap.size; simp; omega)).trans (HB56.out.cell hp)) (by have := HB56.out.size; have := hgy.size; omega)
    obtain ⟨Y, y, hYy, hy2, hYl⟩ := pasY_last N hN2 hN9
    rw [hYy] at hY7
    obtain ⟨yb, yo, yc, hyv, _⟩ := id hY7
    obtain ⟨ny, hny⟩ : ∃ ny, (Y ++ [y]).length = ny := ⟨_, rfl⟩
    rw [hny] at hyv
    subst hyv
    have TR := try_first vx _ Y y (w.heap.size + 1) (w1.heap.size + 1) w1.heap.size most _ _ hY7.rd U7.most U7.b U7.a (by omega) (pasX N) hX7.rd hYl (by rw [hy2]; exact hpn)
    rw [← hYy] at hY7
    have HR1 := Lib.hid hX7; have HR2 := Lib.hid hY7; have HU2 := Lib.hid U7
    clear U7 hX7 hY7 hYy hy2 hYl hny howny hgy
    refine TR.mono ?_
    rintro e w8 ⟨rfl, W2, hbw, rfl⟩
    have U9 := (HU2.out.below hbw).put vx (.slice (some ⟨yb, yo, none⟩) ny yc)
    have HT1 := Lib.hid ((HR1.out.below hbw).put w1.heap.size vx (.slice (some ⟨yb, yo, none⟩) ny yc) (Nat.le_refl _))
    have HT2 := Lib.hid ((HR2.out.below hbw).put w1.heap.size vx (.slice (some ⟨yb, yo, none⟩) ny yc) (Nat.le_refl _))
    have HU9 := Lib.hid U9
    clear TR hbw HR1 HU2
    generalize (W2.setCell ⟨w1.heap.size, 0, none⟩ vx).setCell ⟨w1.heap.size + 1, 0, none⟩ (.slice (some ⟨yb, yo, none⟩) ny yc) = W9 at *
    have e1 := U9.sty.cell 2
    have e2 := U9.sty.cell 3
    simp at e1 e2
    have ca := U9.a.cell 0
    have cb := U9.b.cell 0
    simp at ca cb
    have en2 : ∀ W, (binOp .eql 38 (.slice (some ⟨yb, yo, none⟩) ny yc) (.slice none 0 0)).run Tryd.prog W = .ok (.bool false) W := fun W => Lib.run_eql_slice_nil W 38 81 (some ⟨yb, yo, none⟩) ny yc 0 0 Tryd.underlying38
    clear U9
    go_wp2_with fail
    go_quiet (fail)
    go_wp2_with fail
    (try simp only [Exit.inBlock, Exit.then]); refine bodyPost_ret (results_tmp4 rfl _ _ _) rfl ?_
    exact ⟨_, _, rfl, HT1.out.rd, HT2.out.rd, Below.dn HU9.out.bel _⟩
end Go.Proofs.YtecdkpcapalifaaDoor

