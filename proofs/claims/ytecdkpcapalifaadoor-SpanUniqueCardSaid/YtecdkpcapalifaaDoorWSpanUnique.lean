/- Five pairs of lists are laid in one block. The walk of SpanUnique. -/
import Derived.Test.YtecdkpcapalifaaDoorM17
import Derived.Deep.CutRange
set_option linter.unusedVariables false
namespace Go.Proofs.YtecdkpcapalifaaDoor
open Go.RowKit Go.Maps

/-- the operation under a name of its own -/
def build63 (parts : Array (Nat × Value)) : Sem Value := Instr.buildSlice 63 5 parts
theorem build63_run (p0 q0 p1 q1 p2 q2 p3 q3 p4 q4 : Value) (w : World) :
    (build63 #[(0, .agg #[p0, q0]), (1, .agg #[p1, q1]), (2, .agg #[p2, q2]), (3, .agg #[p3, q3]), (4, .agg #[p4, q4])]).run Tryd.prog w = .ok (.slice (some ⟨w.heap.size, 0, none⟩) 5 5) (w.alloc (.cells #[p0, q0, p1, q1, p2, q2, p3, q3, p4, q4] 62)) := by
  unfold build63
  go_simp
attribute [go_sem high] build63_run
@[go_sem ↓ high] theorem build63_eq (parts : Array (Nat × Value)) : Instr.buildSlice 63 5 parts = build63 parts := rfl
end Go.Proofs.YtecdkpcapalifaaDoor

namespace Go.Proofs.YtecdkpcapalifaaDoor
open Go.RowKit Go.Maps

/-- the style, the style in its table, the number in its table -/
structure UW (W : World) (C SA o TI k : Nat) (s : Sty) (m : Int) : Prop where
  own : StyB W C s
  salt : SA < W.heap.size
  sty : StyC W SA o s
  tilt : TI < W.heap.size
  num : W.cell? ⟨TI, k, none⟩ = some (.int .i64 m)
theorem UW.below {W W' : World} {C SA o TI k : Nat} {s : Sty} {m : Int} (h : UW W C SA o TI k s m) (hb : Below W.heap.size W W') : UW W' C SA o TI k s m :=
  ⟨h.own.below hb, Nat.lt_of_lt_of_le h.salt hb.size, h.sty.below hb h.salt, Nat.lt_of_lt_of_le h.tilt hb.size, (hb.cell (p := ⟨TI, k, none⟩) h.tilt).trans h.num⟩
theorem UW.dn {W : World} {C SA o TI k : Nat} {s : Sty} {m : Int} (h : UW W C SA o TI k s m) : UW (W.drewN 1) C SA o TI k s m := h.below (Below.dn (Below.refl _ _) 1)
theorem StyC.cells {W : World} {A o : Nat} {k row pas : Int} {nx : Bool} (h : StyC W A o ⟨k, nx, row, pas⟩) : W.cell? ⟨A, o, none⟩ = some (.int .i64 k) ∧ W.cell? ⟨A, o + 1, none⟩ = some (.bool nx) ∧ W.cell? ⟨A, o + 2, none⟩ = some (.int .i64 row) ∧ W.cell? ⟨A, o + 3, none⟩ = some (.int .i64 pas) := h
/-- and a pair of lists -/
structure UP (W : World) (C SA o TI k PB p : Nat) (s : Sty) (m : Int) (v1 v2 : Value) (L1 L2 : List Sp) : Prop where
  u : UW W C SA o TI k s m
  pblt : PB < W.heap.size
  c1 : W.cell? ⟨PB, p, none⟩ = some v1
  c2 : W.cell? ⟨PB, p + 1, none⟩ = some v2
  r1 : RdP W v1 L1
  r2 : RdP W v2 L2
theorem UP.below {W W' : World} {C SA o TI k PB p : Nat} {s : Sty} {m : Int} {v1 v2 : Value} {L1 L2 : List Sp} (h : UP W C SA o TI k PB p s m v1 v2 L1 L2) (hb : Below W.heap.size W W') : UP W' C SA o TI k PB p s m v1 v2 L1 L2 :=
  ⟨h.u.below hb, Nat.lt_of_lt_of_le h.pblt hb.size, (hb.cell (p := ⟨PB, p, none⟩) h.pblt).trans h.c1, (hb.cell (p := ⟨PB, p + 1, none⟩) h.pblt).trans h.c2, h.r1.below hb, h.r2.below hb⟩
open Classical in
noncomputable def uqE (s : Sty) (m : Int) : Int := if okSty s then (if 1 ≤ m ∧ m ≤ 999 then 0 else 5) else 1
noncomputable def uqA (s : Sty) (m : Int) : List Sp := if uqE s m = 0 then uniqA s m else []
noncomputable def uqB (s : Sty) (m : Int) : List Sp := if uqE s m = 0 then uniqB s m else []
noncomputable def uqIs (s : Sty) (m : Int) : Bool := if uqE s m = 0 then uniqIs s m else false
theorem uq_cases (s : Sty) (m : Int) : (validS s.k s.row s.pas = 0 ∧ 1 ≤ m ∧ m ≤ 999 ∧ uqE s m = 0 ∧ okSty s) ∨ (validS s.k s.row s.pas = 0 ∧ m < 1 ∧ uqE s m = 5 ∧ okSty s) ∨ (validS s.k s.row s.pas = 0 ∧ ¬ m < 1 ∧ 999 < m ∧ uqE s m = 5 ∧ okSty s) ∨ (validS s.k s.row s.pas = 1 ∧ uqE s m = 1 ∧ ¬ okSty s) := by
  unfold uqE
  by_cases h : okSty s
  · have hv := (okSty_valid s).2 h
    rw [if_pos h, hv]
    by_cases h1 : 1 ≤ m ∧ m ≤ 999
    · rw [if_pos h1]; exact .inl ⟨rfl, h1.1, h1.2, rfl, h⟩
    · rw [if_neg h1]
      by_cases h2 : m < 1
      · exact .inr (.inl ⟨rfl, h2, rfl, h⟩)
      · exact .inr (.inr (.inl ⟨rfl, h2, by omega, rfl, h⟩))
  · rw [if_neg h]
    exact .inr (.inr (.inr ⟨(validS_01 s.k s.row s.pas).resolve_left (fun hv => h ((okSty_valid s).1 hv)), rfl, h⟩))
theorem uq_ok {s : Sty} {m : Int} (h : uqE s m = 0) : okSty s ∧ 1 ≤ m ∧ m ≤ 999 ∧ uqA s m = uniqA s m ∧ uqB s m = uniqB s m ∧ uqIs s m = uniqIs s m := by
  rcases uq_cases s m with ⟨_, h1, h2, _, h3⟩ | ⟨_, _, h1, _⟩ | ⟨_, _, _, h1, _⟩ | ⟨_, h1, _⟩
  · exact ⟨h3, h1, h2, if_pos h, if_pos h, if_pos h⟩
  · omega
  · omega
  · omega
theorem uq_err {s : Sty} {m : Int} (h : ¬ uqE s m = 0) : uqA s m = [] ∧ uqB s m = [] ∧ uqIs s m = false := ⟨if_neg h, if_neg h, if_neg h⟩
theorem uq_small (s : Sty) (m : Int) : (uqA s m).length ≤ 500 ∧ BdL 1000 (uqB s m) ∧ (uqB s m).length ≤ 500 := by
  by_cases h : uqE s m = 0
  · obtain ⟨h1, h2, h3, e1, e2, _⟩ := uq_ok h
    have := uniq_small h1 h2 h3
    rw [e1, e2]; exact ⟨this.1.2, this.2⟩
  · obtain ⟨e1, e2, _⟩ := uq_err h
    rw [e1, e2]; exact ⟨by simp, BdL_nil, by simp⟩
theorem unique_all (s : Sty) (m : Int) (w : World) : Calls Tryd.prog 29 #[styV s, .int .i64 m] w fun e w' => ∃ vA vB, e = .returned (.tuple #[vA, vB, .bool (uqIs s m), .int .i64 (uqE s m)]) ∧ RdP w' vA (uqA s m) ∧ RdP w' vB (uqB s m) ∧ Below w.heap.size w w' := by
  rcases uq_cases s m with ⟨_, h1, h2, he, hs⟩ | ⟨_, h1, he, hs⟩ | ⟨_, _, h1, he, hs⟩ | ⟨_, he, hs⟩
  · obtain ⟨_, _, _, e1, e2, e3⟩ := uq_ok he
    rw [e1, e2, e3, he]
    exact (unique_any s m w hs h1 h2).mono fun e w' h => h
  · obtain ⟨e1, e2, e3⟩ := uq_err (s := s) (m := m) (by omega)
    rw [e1, e2, e3, he]
    exact (unique_range s m w hs (.inl h1)).mono fun e w' h => ⟨_, _, h.1, RdP.none _, RdP.none _, h.2⟩
  · obtain ⟨e1, e2, e3⟩ := uq_err (s := s) (m := m) (by omega)
    rw [e1, e2, e3, he]
    exact (unique_range s m w hs (.inr h1)).mono fun e w' h => ⟨_, _, h.1, RdP.none _, RdP.none _, h.2⟩
  · obtain ⟨e1, e2, e3⟩ := uq_err (s := s) (m := m) (by omega)
    rw [e1, e2, e3, he]
    exact (unique_bad s m w hs).mono fun e w' h => ⟨_, _, h.1, RdP.none _, RdP.none _, h.2⟩
theorem uq_pack (s : Sty) (m : Int) : ∃ (uA uB : List Sp) (uI : Bool) (uE : Int),
    (∀ w, Calls Tryd.prog 29 #[styV s, .int .i64 m] w fun e w' => ∃ vA vB, e = .returned (.tuple #[vA, vB, .bool uI, .int .i64 uE]) ∧ RdP w' vA uA ∧ RdP w' vB uB ∧ Below w.heap.size w w') ∧
    ((validS s.k s.row s.pas = 0 ∧ 1 ≤ m ∧ m ≤ 999 ∧ uE = 0) ∨ (validS s.k s.row s.pas = 0 ∧ m < 1 ∧ uE = 5) ∨ (validS s.k s.row s.pas = 0 ∧ ¬ m < 1 ∧ 999 < m ∧ uE = 5) ∨ (validS s.k s.row s.pas = 1 ∧ uE = 1)) ∧
    (uE = 0 → ∀ w, Calls Tryd.prog 31 #[styV s, .int .i64 m] w fun e w' => ∃ va vb, e = .returned (.tuple #[va, vb, .bool uI]) ∧ RdP w' va uA ∧ RdP w' vb uB ∧ Below w.heap.size w w') ∧
    (uE ≠ 0 → uA = [] ∧ uB = [] ∧ uI = false) ∧ uA.length ≤ 500 ∧ BdL 1000 uB ∧ uB.length ≤ 500 := by
  obtain ⟨h1, h2, h3⟩ := uq_small s m
  refine ⟨uqA s m, uqB s m, uqIs s m, uqE s m, unique_all s m, ?_, fun he w => ?_, fun he => uq_err he, h1, h2, h3⟩
  · rcases uq_cases s m with ⟨a, b, c, d, _⟩ | ⟨a, b, c, _⟩ | ⟨a, b, c, d, _⟩ | ⟨a, b, _⟩
    · exact .inl ⟨a, b, c, d⟩
    · exact .inr (.inl ⟨a, b, c⟩)
    · exact .inr (.inr (.inl ⟨a, b, c, d⟩))
    · exact .inr (.inr (.inr ⟨a, b⟩))
  · obtain ⟨hs, h1, h9, e1, e2, e3⟩ := uq_ok he
    rw [e1, e2, e3]
    exact runique_any s m w hs h1 h9

set_option maxRecDepth 100000 in
set_option maxHeartbeats 32000000 in
theorem spanUnique_any (v4 v5 : Value) (xs ys : List Int) (m mo how n : Int) (w : World) (h0 : RdI w v4 xs) (i0 : inI xs) (h4 : RdI w v5 ys) (j0 : inI ys) (hml : ML w)
    (hm1 : -9223372036854775808 ≤ m) (hm2 : m ≤ 9223372036854775807) (g1 : -9223372036854775808 ≤ mo) (g2 : mo ≤ 9223372036854775807) (h1 : -9223372036854775808 ≤ how) (h2 : how ≤ 9223372036854775807) (h5 : -9223372036854775808 ≤ n) (h6 : n ≤ 9223372036854775807) :
    Calls Tryd.prog 8 #[.int .i64 m, .int .i64 mo, .int .i64 how, .int .i64 n, v4, v5] w fun e w' => e = .returned (.bool true) ∧ Below w.heap.size w w' := by
  have HML := Lib.hid hml
  have hlt := hml.lt
  have H4 := Lib.hid h4
  have H0 := Lib.hid h0
  have MA := made_any m w hm1 hm2
  obtain ⟨a0, c0, hv0, _⟩ := h0.open
  obtain ⟨a4, c4, hv4, _⟩ := h4.open
  subst hv0 hv4
  clear hml h0 h4
  go_enter Tryd.func8, Tryd.ntmps8
  go_wp2_with fail
  refine MA.mono ?_
  rintro e w1 ⟨s1, hs1m, rfl, hb1⟩
  have hbd1 := hs1m.bd
  obtain ⟨k1, nx1, row1, pas1⟩ := s1
  have OD := fun W => odd_any ⟨k1, nx1, row1, pas1⟩ how n W hbd1 h1 h2 h5 h6
  unfold styV
  dsimp only
  go_wp2_with fail
  have bx := Boxs.new w1 24 #[.int .i64 k1, .bool nx1, .int .i64 row1, .int .i64 pas1]
  have HBD := Lib.hid (hb1.alloc hb1.size (.cells #[.int .i64 k1, .bool nx1, .int .i64 row1, .int .i64 pas1] 24))
  have G0 : StyC (w1.alloc (.cells #[.int .i64 k1, .bool nx1, .int .i64 row1, .int .i64 pas1] 24)) w1.heap.size 0 ⟨k1, nx1, row1, pas1⟩ := ⟨bx.cell 0, bx.cell 1, bx.cell 2, bx.cell 3⟩
  have hltA := bx.lt
  clear MA hb1 bx hbd1 hs1m
  generalize w1.alloc (.cells #[.int .i64 k1, .bool nx1, .int .i64 row1, .int .i64 pas1] 24) = w2 at *
  obtain ⟨A, hA⟩ : ∃ A, w1.heap.size = A := ⟨_, rfl⟩
  rw [hA] at G0 hltA ⊢
  clear hA
  have SB : ∀ {W W' : World}, (A < W.heap.size ∧ StyC W A 0 ⟨k1, nx1, row1, pas1⟩) → Below W.heap.size W W' → (A < W'.heap.size ∧ StyC W' A 0 ⟨k1, nx1, row1, pas1⟩) := fun h hb => ⟨Nat.lt_of_lt_of_le h.1 hb.size, h.2.below hb h.1⟩
  have G1 := Lib.hid (show A < (w2.drewN 1).heap.size ∧ StyC (w2.drewN 1) A 0 ⟨k1, nx1, row1, pas1⟩ from ⟨hltA, G0⟩)
  have OD1 := OD (w2.drewN 1)
  have HBD := Lib.hid (Below.dn HBD.out 1)
  clear OD G0 hltA
  refine wp_region_held (S := fun W => A < W.heap.size ∧ StyC W A 0 ⟨k1, nx1, row1, pas1⟩) (by kernel_rfl) ?_
  have hdr : (w2).drew = { w2 with drawn := (w2).drawn + 1 } := rfl
  rw [← hdr]
  clear hdr
  refine wpAnyHTake 0 (some 33) (.agg #[.int .i64 k1, .bool nx1, .int .i64 row1, .int .i64 pas1]) rfl rfl (by kernel_rfl) (by kernel_rfl) (by kernel_rfl) (fun _ _ _ h => h) (by rfl) (fun W hW => by obtain ⟨_, c0, c1, c2, c3⟩ := hW; dsimp only at c0 c1 c2 c3; go_simp) (G1.out) ?_
  simp only [Act.put, List.setIfInBounds_toArray, List.set_cons_zero, List.set_cons_succ]
  refine wpAnyHTake 1 (some 34) (.agg #[.int .i64 k1, .bool nx1, .int .i64 row1, .int .i64 pas1]) rfl rfl (by kernel_rfl) (by kernel_rfl) (by kernel_rfl) (fun _ _ _ h => h) (by rfl) (fun W hW => by obtain ⟨_, c0, c1, c2, c3⟩ := hW; dsimp only at c0 c1 c2 c3; go_simp) (G1.out) ?_
  simp only [Act.put, List.setIfInBounds_toArray, List.set_cons_zero, List.set_cons_succ]
  refine wpAnyHTake 2 (some 35) (.int .i64 how) rfl rfl (by kernel_rfl) (by kernel_rfl) (by kernel_rfl) (fun _ _ _ h => h) (by rfl) (fun _ _ => by rfl) (G1.out) ?_
  simp only [Act.put, List.setIfInBounds_toArray, List.set_cons_zero, List.set_cons_succ]
  refine wpAnyHTake 3 (some 36) (.int .i64 n) rfl rfl (by kernel_rfl) (by kernel_rfl) (by kernel_rfl) (fun _ _ _ h => h) (by rfl) (fun _ _ => by rfl) (G1.out) ?_
  simp only [Act.put, List.setIfInBounds_toArray, List.set_cons_zero, List.set_cons_succ]
  refine wpAnyHCall 4 (some 37) 12 #[.agg #[.int .i64 k1, .bool nx1, .int .i64 row1, .int .i64 pas1], .int .i64 how, .int .i64 n] (by kernel_rfl) rfl rfl (by rfl) (by go_simp) (OD1) ?_
  rintro e xa2 ⟨s2, _, rfl, hb9⟩
  have G2 := Lib.hid (SB G1.out hb9)
  have HBD := Lib.hid (HBD.out.trans (hb9.mono HBD.out.size))
  obtain ⟨k2, nx2, row2, pas2⟩ := s2
  unfold styV
  dsimp only
  have T2 := tabS2 (w := xa2) (t := 24) (s1 := ⟨k1, nx1, row1, pas1⟩) (s2 := ⟨k2, nx2, row2, pas2⟩) (P := fun _ => True) trivial trivial
  dsimp only at T2
  have HT2 := Lib.hid T2
  have HBE := Lib.hid (HBD.out.alloc HBD.out.size (.cells #[.int .i64 k1, .bool nx1, .int .i64 row1, .int .i64 pas1, .int .i64 k2, .bool nx2, .int .i64 row2, .int .i64 pas2] 24))
  clear T2
  clear hb9 OD1
  refine ⟨_, rfl, G2.out, ?_⟩
  simp only [Act.put, List.setIfInBounds_toArray, List.set_cons_zero, List.set_cons_succ]
  refine wpAnyHOne 5 (some 38) (w' := xa2.alloc (.cells #[.int .i64 k1, .bool nx1, .int .i64 row1, .int .i64 pas1, .int .i64 k2, .bool nx2, .int .i64 row2, .int .i64 pas2] 24)) (v := .slice (some ⟨xa2.heap.size, 0, none⟩) 2 2) (by kernel_rfl) rfl rfl (by rfl) (by go_simp <;> rfl) (SB G2.out ((Below.refl _ _).alloc (Nat.le_refl _) _)) ?_
  simp only [Act.put, List.setIfInBounds_toArray, List.set_cons_zero, List.set_cons_succ]
  refine wpAnyHTake 6 (some 14) (.slice (some ⟨xa2.heap.size, 0, none⟩) 2 2) rfl rfl (by kernel_rfl) (by kernel_rfl) (by kernel_rfl) (fun _ _ _ h => h) (by rfl) (fun _ _ => by rfl) ((SB G2.out ((Below.refl _ _).alloc (Nat.le_refl _) _))) ?_
  simp only [Act.put, List.setIfInBounds_toArray, List.set_cons_zero, List.set_cons_succ]
  refine wpAnyH_done (by kernel_rfl) ?_ _
  obtain ⟨SA, hSA⟩ : ∃ SA, xa2.heap.size = SA := ⟨_, rfl⟩
  rw [hSA] at HT2 ⊢
  clear hSA
  generalize xa2.alloc (.cells #[.int .i64 k1, .bool nx1, .int .i64 row1, .int .i64 pas1, .int .i64 k2, .bool nx2, .int .i64 row2, .int .i64 pas2] 24) = w4 at *
  have AR := fun W => around_any mo 24 W g1 g2 (by omega) (by omega)
  have hbd := around_bd mo 24 (by omega)
  have HTN := Lib.hid (tabN3 w4 3 mo (around mo 24) 999 ⟨g1, g2⟩ (by omega) (by omega))
  have HBF := Lib.hid (HBE.out.alloc HBE.out.size (.cells #[.int .i64 mo, .int .i64 (around mo 24), .int .i64 999] 3))
  have HT2 := Lib.hid (HT2.out.below ((Below.refl _ _).alloc (Nat.le_refl _) (.cells #[.int .i64 mo, .int .i64 (around mo 24), .int .i64 999] 3)))
  clear HBD HBE G1 G2 SB hbd
  go_wp2_with fail
  refine (AR _).mono ?_
  rintro e w5 ⟨rfl, rfl⟩
  go_wp2_with fail
  clear AR
  obtain ⟨TI, hTI⟩ : ∃ TI, w4.heap.size = TI := ⟨_, rfl⟩
  rw [hTI] at HTN ⊢
  clear hTI
  generalize w4.alloc (.cells #[.int .i64 mo, .int .i64 (around mo 24), .int .i64 999] 3) = w6 at *
  go_loopg [16] 2 (fun gn i wr => ∃ j : Nat, j ≤ 2 ∧ gn = 2 - j ∧ i = .int .i64 j ∧ TabN wr TI 3 ∧ TabS wr SA (fun _ => True) ∧ Below w.heap.size w wr)
  case atStart => exact ⟨0, by omega, rfl, rfl, HTN.out, HT2.out, HBF.out⟩
  case round =>
    obtain ⟨j, hj, rfl, rfl, htn, htas, hbl⟩ := hrel
    have hj9 : (j : Int) ≤ 2 := by omega
    have hj0 : (0 : Int) ≤ (j : Int) := by omega
    by_cases hj2 : j < 2
    · have hj2i : (j : Int) < 2 := by omega
      have HTT := Lib.hid htn; have HTS := Lib.hid htas; have HBL := Lib.hid hbl
      clear htn htas hbl
      go_wp2_with fail
      go_loopg [17] 3 (fun gn i wr => ∃ k : Nat, k ≤ 3 ∧ gn = 3 - k ∧ i = .int .i64 k ∧ TabN wr TI 3 ∧ TabS wr SA (fun _ => True) ∧ Below w.heap.size w wr)
      case atStart => exact ⟨0, by omega, rfl, rfl, HTT.out, HTS.out, HBL.out⟩
      case round =>
        obtain ⟨k, hk, rfl, rfl, htn, htas, hbl⟩ := hrel
        have hk9 : (k : Int) ≤ 3 := by omega
        have hk0 : (0 : Int) ≤ (k : Int) := by omega
        by_cases hk3 : k < 3
        · have hk3i : (k : Int) < 3 := by omega
          have HTT := Lib.hid htn; have HTS := Lib.hid htas; have HBL := Lib.hid hbl
          clear htn htas hbl
          obtain ⟨mm, hmc, hmm1, hmm2⟩ := HTT.out.2 k hk3
          obtain ⟨st, hst, _⟩ := HTS.out.2 j hj2
          obtain ⟨ks, nxs, rows, pass⟩ := st
          obtain ⟨c0, c1, c2, c3⟩ := hst.cells
          have ST := style_any ks rows pass nxs wr
          have HMC := Lib.hid hmc; have HST := Lib.hid hst
          clear hmc hst
          go_wp2_with fail
          refine ST.mono ?_
          rintro e x1 ⟨rfl, hb9⟩
          have HBD := Lib.hid (hb9.alloc hb9.size (.cells #[.int .i64 ks, .bool nxs, .int .i64 rows, .int .i64 pass] 36))
          have U0 : UW (x1.alloc (.cells #[.int .i64 ks, .bool nxs, .int .i64 rows, .int .i64 pass] 36)) x1.heap.size SA (j * 4) TI k ⟨ks, nxs, rows, pass⟩ mm :=
            ⟨styB_new x1 36 ks rows pass nxs, Nat.lt_of_lt_of_le HTS.out.1 HBD.out.size, HST.out.below HBD.out HTS.out.1, Nat.lt_of_lt_of_le HTT.out.1 HBD.out.size, (HBD.out.cell (p := ⟨TI, k, none⟩) HTT.out.1).trans HMC.out⟩
          have HU := Lib.hid U0
          clear ST hb9 U0 c0 c1 c2 c3 HMC HST
          go_wp2_with fail
          obtain ⟨C, hC⟩ : ∃ C, x1.heap.size = C := ⟨_, rfl⟩
          rw [hC] at HU ⊢
          clear hC
          generalize x1.alloc (.cells #[.int .i64 ks, .bool nxs, .int .i64 rows, .int .i64 pass] 36) = x2 at *
          have SB : ∀ {W W' : World}, UW W C SA (j * 4) TI k ⟨ks, nxs, rows, pass⟩ mm → Below W.heap.size W W' → UW W' C SA (j * 4) TI k ⟨ks, nxs, rows, pass⟩ mm := fun h hb => h.below hb
          have G1 := Lib.hid HU.out.dn
          have HBD := Lib.hid (Below.dn HBD.out 1)
          have RV := fun W => rvalid_any ks rows pass nxs W
          obtain ⟨uA, uB, uI, uE, UNI, CAS, OKR, ERR, sA, sB, sB2⟩ := uq_pack ⟨ks, nxs, rows, pass⟩ mm
          dsimp only at CAS
          have UN := UNI (x2.drewN 1)
          have HCAS := Lib.hid CAS; have HOKR := Lib.hid OKR; have HERR := Lib.hid ERR; have HSA := Lib.hid sA; have HSB := Lib.hid sB; have HSB2 := Lib.hid sB2
          clear UNI CAS OKR ERR sA sB sB2
          refine wp_region_held (S := fun W => UW W C SA (j * 4) TI k ⟨ks, nxs, rows, pass⟩ mm) (by kernel_rfl) ?_
          have hdr : (x2).drew = { x2 with drawn := (x2).drawn + 1 } := rfl
          rw [← hdr]
          clear hdr
          refine wpAnyHTake 0 (some 61) (.agg #[.int .i64 ks, .bool nxs, .int .i64 rows, .int .i64 pass]) rfl rfl (by kernel_rfl) (by kernel_rfl) (by kernel_rfl) (fun _ _ _ h => h) (by rfl) (fun W hW => by obtain ⟨⟨_, c0, c1, c2, c3⟩, _, ⟨d0, d1, d2, d3⟩, _, c4⟩ := hW; dsimp only at c0 c1 c2 c3 d0 d1 d2 d3; go_simp) (G1.out) ?_
          simp only [Act.put, List.setIfInBounds_toArray, List.set_cons_zero, List.set_cons_succ]
          refine wpAnyHTake 1 (some 62) (.slice (some ⟨TI, 0, none⟩) 3 3) rfl rfl (by kernel_rfl) (by kernel_rfl) (by kernel_rfl) (fun _ _ _ h => h) (by rfl) (fun _ _ => by rfl) (G1.out) ?_
          simp only [Act.put, List.setIfInBounds_toArray, List.set_cons_zero, List.set_cons_succ]
          refine wpAnyHTake 2 (some 63) (.int .i64 (k : Int)) rfl rfl (by kernel_rfl) (by kernel_rfl) (by kernel_rfl) (fun _ _ _ h => h) (by rfl) (fun _ _ => by rfl) (G1.out) ?_
          simp only [Act.put, List.setIfInBounds_toArray, List.set_cons_zero, List.set_cons_succ]
          refine wpAnyHTake 3 (some 64) (.pointer (some ⟨TI, k, none⟩)) rfl rfl (by kernel_rfl) (by kernel_rfl) (by kernel_rfl) (fun _ _ _ h => h) (by rfl) (fun _ _ => by go_simp) (G1.out) ?_
          simp only [Act.put, List.setIfInBounds_toArray, List.set_cons_zero, List.set_cons_succ]
          refine wpAnyHTake 4 (some 65) (.int .i64 mm) rfl rfl (by kernel_rfl) (by kernel_rfl) (by kernel_rfl) (fun _ _ _ h => h) (by rfl) (fun W hW => by obtain ⟨⟨_, c0, c1, c2, c3⟩, _, ⟨d0, d1, d2, d3⟩, _, c4⟩ := hW; dsimp only at c0 c1 c2 c3 d0 d1 d2 d3; go_simp) (G1.out) ?_
          simp only [Act.put, List.setIfInBounds_toArray, List.set_cons_zero, List.set_cons_succ]
          refine wpAnyHCall 5 (some 66) 29 #[.agg #[.int .i64 ks, .bool nxs, .int .i64 rows, .int .i64 pass], .int .i64 mm] (by kernel_rfl) rfl rfl (by rfl) (by go_simp) (UN) ?_
          rintro e xc2 ⟨vA, vB, rfl, rA, rB, hb9⟩
          have G2 := Lib.hid (SB G1.out hb9)
          have HBD := Lib.hid (HBD.out.trans (hb9.mono HBD.out.size))
          obtain ⟨pA, cA, rfl⟩ := rA.form
          obtain ⟨pB, cB, rfl⟩ := rB.form
          have HA := Lib.hid rA; have HB := Lib.hid rB
          clear rA rB
          clear hb9 UN
          refine ⟨_, rfl, G2.out, ?_⟩
          simp only [Act.put, List.setIfInBounds_toArray, List.set_cons_zero, List.set_cons_succ]
          refine wpAnyHTake 6 (some 60) (.tuple #[.slice pA uA.length cA, .slice pB uB.length cB, .bool uI, .int .i64 uE]) rfl rfl (by kernel_rfl) (by kernel_rfl) (by kernel_rfl) (fun _ _ _ h => h) (by rfl) (fun _ _ => by rfl) (G2.out) ?_
          simp only [Act.put, List.setIfInBounds_toArray, List.set_cons_zero, List.set_cons_succ]
          refine wpAnyHTake 7 (some 67) (.slice pA uA.length cA) rfl rfl (by kernel_rfl) (by kernel_rfl) (by kernel_rfl) (fun _ _ _ h => h) (by rfl) (fun _ _ => by rfl) (G2.out) ?_
          simp only [Act.put, List.setIfInBounds_toArray, List.set_cons_zero, List.set_cons_succ]
          refine wpAnyHTake 8 (some 68) (.slice pB uB.length cB) rfl rfl (by kernel_rfl) (by kernel_rfl) (by kernel_rfl) (fun _ _ _ h => h) (by rfl) (fun _ _ => by rfl) (G2.out) ?_
          simp only [Act.put, List.setIfInBounds_toArray, List.set_cons_zero, List.set_cons_succ]
          refine wpAnyHTake 9 (some 69) (.bool uI) rfl rfl (by kernel_rfl) (by kernel_rfl) (by kernel_rfl) (fun _ _ _ h => h) (by rfl) (fun _ _ => by rfl) (G2.out) ?_
          simp only [Act.put, List.setIfInBounds_toArray, List.set_cons_zero, List.set_cons_succ]
          refine wpAnyHTake 10 (some 70) (.int .i64 uE) rfl rfl (by kernel_rfl) (by kernel_rfl) (by kernel_rfl) (fun _ _ _ h => h) (by rfl) (fun _ _ => by rfl) (G2.out) ?_
          simp only [Act.put, List.setIfInBounds_toArray, List.set_cons_zero, List.set_cons_succ]
          refine wpAnyHTake 11 (some 19) (.slice pA uA.length cA) rfl rfl (by kernel_rfl) (by kernel_rfl) (by kernel_rfl) (fun _ _ _ h => h) (by rfl) (fun _ _ => by rfl) (G2.out) ?_
          simp only [Act.put, List.setIfInBounds_toArray, List.set_cons_zero, List.set_cons_succ]
          refine wpAnyHTake 12 (some 20) (.slice pB uB.length cB) rfl rfl (by kernel_rfl) (by kernel_rfl) (by kernel_rfl) (fun _ _ _ h => h) (by rfl) (fun _ _ => by rfl) (G2.out) ?_
          simp only [Act.put, List.setIfInBounds_toArray, List.set_cons_zero, List.set_cons_succ]
          refine wpAnyHTake 13 (some 21) (.bool uI) rfl rfl (by kernel_rfl) (by kernel_rfl) (by kernel_rfl) (fun _ _ _ h => h) (by rfl) (fun _ _ => by rfl) (G2.out) ?_
          simp only [Act.put, List.setIfInBounds_toArray, List.set_cons_zero, List.set_cons_succ]
          refine wpAnyHTake 14 (some 22) (.int .i64 uE) rfl rfl (by kernel_rfl) (by kernel_rfl) (by kernel_rfl) (fun _ _ _ h => h) (by rfl) (fun _ _ => by rfl) (G2.out) ?_
          simp only [Act.put, List.setIfInBounds_toArray, List.set_cons_zero, List.set_cons_succ]
          refine wpAnyH_done (by kernel_rfl) ?_ _
          obtain ⟨d0, d1, d2, d3⟩ := G2.out.sty.cells
          go_wp2_with fail
          refine (RV _).mono ?_
          rintro e y1 ⟨rfl, hb9⟩
          have GU := Lib.hid (SB G2.out hb9)
          have HA := Lib.hid (HA.out.below hb9); have HB := Lib.hid (HB.out.below hb9)
          have HBD := Lib.hid (HBD.out.trans (hb9.mono HBD.out.size))
          have mc := GU.out.num
          clear hb9 d0 d1 d2 d3 G1 G2 RV HU
          have HLA := Lib.hid HSA.out; have HBB := Lib.hid HSB.out; have HLB := Lib.hid HSB2.out
          go_upto_region 13 with fail
          go_cut [22, 23, 91] from 49 to 215 (fun s22 s23 s91 wx => s22 = .int .i64 uE ∧ s23 = .int .i64 (validS ks rows pass) ∧ s91 = .bool (decide (uE = 5)) ∧ wx = y1)
          case first =>
            as_aux_lemma =>
              clear HA HB GU HBD SB HTT HTS HBL HML H0 H4 HLA HBB HLB
              rcases HCAS.out with ⟨hv, h1, h2, he⟩ | ⟨hv, h1, he⟩ | ⟨hv, h0, h1, he⟩ | ⟨hv, he⟩
              · clear HCAS
                rw [he, hv]
                have hmA : ¬ mm < 1 := by omega
                have hmB : ¬ 999 < mm := by omega
                go_wp2_with fail
                go_meet
                exact ⟨by rw [he], by rw [hv], by simp [he], rfl⟩
              · clear HCAS
                rw [he, hv]
                go_wp2_with fail
                go_meet
                exact ⟨by rw [he], by rw [hv], by simp [he], rfl⟩
              · clear HCAS
                rw [he, hv]
                go_wp2_with fail
                go_meet
                exact ⟨by rw [he], by rw [hv], by simp [he], rfl⟩
              · clear HCAS
                rw [he, hv]
                go_wp2_with fail
                go_meet
                exact ⟨by rw [he], by rw [hv], by simp [he], rfl⟩
          case rest =>
            obtain ⟨rfl, rfl, rfl, rfl⟩ := hcut
            go_upto_if 91 with fail
            go_cut [22, 23, 91] from 49 to 215 (fun s22 s23 s91 wx => s22 = .int .i64 uE ∧ s23 = .int .i64 uE ∧ s91 = .bool (decide (uE = 5)) ∧ wx = wc)
            case first =>
              as_aux_lemma =>
                clear HA HB GU HBD SB HTT HTS HBL HML H0 H4 HLA HBB HLB
                rcases HCAS.out with ⟨hv, h1, h2, he⟩ | ⟨hv, h1, he⟩ | ⟨hv, h0, h1, he⟩ | ⟨hv, he⟩
                · clear HCAS
                  rw [he, hv]
                  have hmA : ¬ mm < 1 := by omega
                  have hmB : ¬ 999 < mm := by omega
                  go_wp2_with fail
                  go_meet
                  exact ⟨by rw [he], by rw [he], by simp [he], rfl⟩
                · clear HCAS
                  rw [he, hv]
                  go_wp2_with fail
                  go_meet
                  exact ⟨by rw [he], by rw [he], by simp [he], rfl⟩
                · clear HCAS
                  rw [he, hv]
                  go_wp2_with fail
                  go_meet
                  exact ⟨by rw [he], by rw [he], by simp [he], rfl⟩
                · clear HCAS
                  rw [he, hv]
                  go_wp2_with fail
                  go_meet
                  exact ⟨by rw [he], by rw [he], by simp [he], rfl⟩
            case rest =>
              obtain ⟨rfl, rfl, rfl, rfl⟩ := hcut
              go_upto_region 15 with fail
              go_cut [19, 20, 21, 22, 23, 109] from 49 to 215 (fun s19 s20 s21 s22 s23 s109 wx => s19 = .slice pA uA.length cA ∧ s20 = .slice pB uB.length cB ∧ s21 = .bool uI ∧ s22 = .int .i64 uE ∧ s23 = .int .i64 uE ∧ s109 = .bool false ∧ wx = wc)
              case first =>
                as_aux_lemma =>
                  clear HA HB GU HBD SB HTT HTS HBL HML H0 H4 HLA HBB HLB mc
                  have hee : (uE != uE) = false := by simp
                  by_cases he : uE = 0
                  · rw [he]
                    go_wp2_with fail
                    go_meet
                    exact ⟨rfl, rfl, rfl, by rw [he], by rw [he], rfl, rfl⟩
                  · obtain ⟨hA, hB, hI⟩ := HERR.out he
                    have he2 : (uE != 0) = true := by simpa using he
                    rw [hA, hB, hI]
                    generalize uE = ee at *
                    go_wp2_with fail
                    go_meet
                    exact ⟨by rw [hA], by rw [hB], by rw [hI], rfl, rfl, rfl, rfl⟩
              case rest =>
                obtain ⟨rfl, rfl, rfl, rfl, rfl, rfl, rfl⟩ := hcut
                go_upto_if 111 with fail
                have HBW := Lib.hid (Below.refl wc.heap.size wc)
                go_cut [22, 23] from 49 to 215 (fun s22 s23 wx => UW wx C SA (j * 4) TI k ⟨ks, nxs, rows, pass⟩ mm ∧ RdP wx (.slice pA uA.length cA) uA ∧ RdP wx (.slice pB uB.length cB) uB ∧ Below wc.heap.size wc wx)
                case first =>
                  as_aux_lemma =>
                    by_cases he : uE = 0
                    · have RU := HOKR.out he (wc.drewN 1)
                      rw [he]
                      clear he
                      clear HTT HTS HBL HML H0 H4 HCAS HLB HBB HBD HBW mc
                      go_wp2_with fail
                      refine wp_region_held (S := fun W => UW W C SA (j * 4) TI k ⟨ks, nxs, rows, pass⟩ mm) (by kernel_rfl) ?_
                      have hdr : (wc).drew = { wc with drawn := (wc).drawn + 1 } := rfl
                      rw [← hdr]
                      clear hdr
                      have G1 := Lib.hid GU.out.dn
                      have HBD := Lib.hid (Below.dn (Below.refl wc.heap.size wc) 1)
                      have HA := Lib.hid (HA.out.below (Below.dn (Below.refl wc.heap.size wc) 1)); have HB := Lib.hid (HB.out.below (Below.dn (Below.refl wc.heap.size wc) 1))
                      refine wpAnyHTake 0 (some 113) (.slice (some ⟨SA, 0, none⟩) 2 2) rfl rfl (by kernel_rfl) (by kernel_rfl) (by kernel_rfl) (fun _ _ _ h => h) (by rfl) (fun _ _ => by rfl) (G1.out) ?_
                      simp only [Act.put, List.setIfInBounds_toArray, List.set_cons_zero, List.set_cons_succ]
                      refine wpAnyHTake 1 (some 114) (.int .i64 (j : Int)) rfl rfl (by kernel_rfl) (by kernel_rfl) (by kernel_rfl) (fun _ _ _ h => h) (by rfl) (fun _ _ => by rfl) (G1.out) ?_
                      simp only [Act.put, List.setIfInBounds_toArray, List.set_cons_zero, List.set_cons_succ]
                      refine wpAnyHTake 2 (some 115) (.pointer (some ⟨SA, j * 4, none⟩)) rfl rfl (by kernel_rfl) (by kernel_rfl) (by kernel_rfl) (fun _ _ _ h => h) (by rfl) (fun _ _ => by go_simp) (G1.out) ?_
                      simp only [Act.put, List.setIfInBounds_toArray, List.set_cons_zero, List.set_cons_succ]
                      refine wpAnyHTake 3 (some 116) (.agg #[.int .i64 ks, .bool nxs, .int .i64 rows, .int .i64 pass]) rfl rfl (by kernel_rfl) (by kernel_rfl) (by kernel_rfl) (fun _ _ _ h => h) (by rfl) (fun W hW => by obtain ⟨⟨_, c0, c1, c2, c3⟩, _, ⟨d0, d1, d2, d3⟩, _, c4⟩ := hW; dsimp only at c0 c1 c2 c3 d0 d1 d2 d3; go_simp) (G1.out) ?_
                      simp only [Act.put, List.setIfInBounds_toArray, List.set_cons_zero, List.set_cons_succ]
                      refine wpAnyHTake 4 (some 117) (.slice (some ⟨TI, 0, none⟩) 3 3) rfl rfl (by kernel_rfl) (by kernel_rfl) (by kernel_rfl) (fun _ _ _ h => h) (by rfl) (fun _ _ => by rfl) (G1.out) ?_
                      simp only [Act.put, List.setIfInBounds_toArray, List.set_cons_zero, List.set_cons_succ]
                      refine wpAnyHTake 5 (some 118) (.int .i64 (k : Int)) rfl rfl (by kernel_rfl) (by kernel_rfl) (by kernel_rfl) (fun _ _ _ h => h) (by rfl) (fun _ _ => by rfl) (G1.out) ?_
                      simp only [Act.put, List.setIfInBounds_toArray, List.set_cons_zero, List.set_cons_succ]
                      refine wpAnyHTake 6 (some 119) (.pointer (some ⟨TI, k, none⟩)) rfl rfl (by kernel_rfl) (by kernel_rfl) (by kernel_rfl) (fun _ _ _ h => h) (by rfl) (fun _ _ => by go_simp) (G1.out) ?_
                      simp only [Act.put, List.setIfInBounds_toArray, List.set_cons_zero, List.set_cons_succ]
                      refine wpAnyHTake 7 (some 120) (.int .i64 mm) rfl rfl (by kernel_rfl) (by kernel_rfl) (by kernel_rfl) (fun _ _ _ h => h) (by rfl) (fun W hW => by obtain ⟨⟨_, c0, c1, c2, c3⟩, _, ⟨d0, d1, d2, d3⟩, _, c4⟩ := hW; dsimp only at c0 c1 c2 c3 d0 d1 d2 d3; go_simp) (G1.out) ?_
                      simp only [Act.put, List.setIfInBounds_toArray, List.set_cons_zero, List.set_cons_succ]
                      refine wpAnyHCall 8 (some 121) 31 #[.agg #[.int .i64 ks, .bool nxs, .int .i64 rows, .int .i64 pass], .int .i64 mm] (by kernel_rfl) rfl rfl (by rfl) (by go_simp) (RU) ?_
                      rintro e xd2 ⟨vX, vY, rfl, rX, rY, hb9⟩
                      have G2 := Lib.hid (SB G1.out hb9)
                      have HA := Lib.hid (HA.out.below hb9)
                      have HB := Lib.hid (HB.out.below hb9)
                      have HBD := Lib.hid (HBD.out.trans (hb9.mono HBD.out.size))
                      obtain ⟨pX, cX, rfl⟩ := rX.form
                      obtain ⟨pY, cY, rfl⟩ := rY.form
                      have HX := Lib.hid rX; have HY := Lib.hid rY
                      clear rX rY
                      clear hb9 RU
                      refine ⟨_, rfl, G2.out, ?_⟩
                      simp only [Act.put, List.setIfInBounds_toArray, List.set_cons_zero, List.set_cons_succ]
                      refine wpAnyHTake 9 (some 112) (.tuple #[.slice pX uA.length cX, .slice pY uB.length cY, .bool uI]) rfl rfl (by kernel_rfl) (by kernel_rfl) (by kernel_rfl) (fun _ _ _ h => h) (by rfl) (fun _ _ => by rfl) (G2.out) ?_
                      simp only [Act.put, List.setIfInBounds_toArray, List.set_cons_zero, List.set_cons_succ]
                      refine wpAnyHTake 10 (some 122) (.slice pX uA.length cX) rfl rfl (by kernel_rfl) (by kernel_rfl) (by kernel_rfl) (fun _ _ _ h => h) (by rfl) (fun _ _ => by rfl) (G2.out) ?_
                      simp only [Act.put, List.setIfInBounds_toArray, List.set_cons_zero, List.set_cons_succ]
                      refine wpAnyHTake 11 (some 123) (.slice pY uB.length cY) rfl rfl (by kernel_rfl) (by kernel_rfl) (by kernel_rfl) (fun _ _ _ h => h) (by rfl) (fun _ _ => by rfl) (G2.out) ?_
                      simp only [Act.put, List.setIfInBounds_toArray, List.set_cons_zero, List.set_cons_succ]
                      refine wpAnyHTake 12 (some 124) (.bool uI) rfl rfl (by kernel_rfl) (by kernel_rfl) (by kernel_rfl) (fun _ _ _ h => h) (by rfl) (fun _ _ => by rfl) (G2.out) ?_
                      simp only [Act.put, List.setIfInBounds_toArray, List.set_cons_zero, List.set_cons_succ]
                      refine wpAnyHTake 13 (some 24) (.slice pX uA.length cX) rfl rfl (by kernel_rfl) (by kernel_rfl) (by kernel_rfl) (fun _ _ _ h => h) (by rfl) (fun _ _ => by rfl) (G2.out) ?_
                      simp only [Act.put, List.setIfInBounds_toArray, List.set_cons_zero, List.set_cons_succ]
                      refine wpAnyHTake 14 (some 25) (.slice pY uB.length cY) rfl rfl (by kernel_rfl) (by kernel_rfl) (by kernel_rfl) (fun _ _ _ h => h) (by rfl) (fun _ _ => by rfl) (G2.out) ?_
                      simp only [Act.put, List.setIfInBounds_toArray, List.set_cons_zero, List.set_cons_succ]
                      refine wpAnyHTake 15 (some 26) (.bool uI) rfl rfl (by kernel_rfl) (by kernel_rfl) (by kernel_rfl) (fun _ _ _ h => h) (by rfl) (fun _ _ => by rfl) (G2.out) ?_
                      simp only [Act.put, List.setIfInBounds_toArray, List.set_cons_zero, List.set_cons_succ]
                      refine wpAnyH_done (by kernel_rfl) ?_ _
                      have GU := Lib.hid (show UW xd2 C SA (j * 4) TI k ⟨ks, nxs, rows, pass⟩ mm from G2.out)
                      clear G1 G2
                      have hlA := HSA.out; have hbB := HSB.out; have hlB := HSB2.out
                      have MD := model_any _ uA xd2 HA.out (by omega)
                      go_wp2_with fail
                      refine MD.mono ?_
                      rintro e z1 ⟨vm, rfl, hown, hb9⟩
                      have SM := same_any vm _ uA uA z1 (RdP_of_owns hown) (HX.out.below hb9)
                      rw [show decide (uA = uA) = true from decide_eq_true rfl] at SM
                      obtain ⟨am, cm, rfl⟩ := owns_slice hown
                      have GU := Lib.hid (GU.out.below hb9)
                      have HA := Lib.hid (HA.out.below hb9)
                      have HB := Lib.hid (HB.out.below hb9)
                      have HY := Lib.hid (HY.out.below hb9)
                      have HBD := Lib.hid (HBD.out.trans (hb9.mono HBD.out.size))
                      clear MD hown hb9
                      go_wp2_with fail
                      refine SM.mono ?_
                      rintro e z1b ⟨rfl, hb9⟩
                      have GU := Lib.hid (GU.out.below hb9)
                      have HA := Lib.hid (HA.out.below hb9)
                      have HB := Lib.hid (HB.out.below hb9)
                      have HY := Lib.hid (HY.out.below hb9)
                      have HBD := Lib.hid (HBD.out.trans (hb9.mono HBD.out.size))
                      clear SM hb9
                      have MD := model_any _ uB z1b HB.out (by omega)
                      go_wp2_with fail
                      refine MD.mono ?_
                      rintro e z2 ⟨vm, rfl, hown, hb9⟩
                      have SM := same_any vm _ uB uB z2 (RdP_of_owns hown) (HY.out.below hb9)
                      rw [show decide (uB = uB) = true from decide_eq_true rfl] at SM
                      obtain ⟨am, cm, rfl⟩ := owns_slice hown
                      have GU := Lib.hid (GU.out.below hb9)
                      have HA := Lib.hid (HA.out.below hb9)
                      have HB := Lib.hid (HB.out.below hb9)
                      have HBD := Lib.hid (HBD.out.trans (hb9.mono HBD.out.size))
                      clear MD hown hb9
                      go_wp2_with fail
                      refine SM.mono ?_
                      rintro e z2b ⟨rfl, hb9⟩
                      have GU := Lib.hid (GU.out.below hb9)
                      have HA := Lib.hid (HA.out.below hb9)
                      have HB := Lib.hid (HB.out.below hb9)
                      have HBD := Lib.hid (HBD.out.trans (hb9.mono HBD.out.size))
                      clear SM hb9
                      go_wp2_with fail
                      go_meet
                      exact ⟨GU.out, HA.out, HB.out, HBD.out⟩
                    · have he2 : (uE == 0) = false := by simpa using he
                      clear HTT HTS HBL HML H0 H4 HCAS HLB HBB HBD mc
                      generalize uE = ee at *
                      go_wp2_with fail
                      go_meet
                      exact ⟨GU.out, HA.out, HB.out, HBW.out⟩
                case rest =>
                  obtain ⟨hgu, hha, hhb, hbw⟩ := hcut
                  have GU := Lib.hid hgu; have HA := Lib.hid hha; have HB := Lib.hid hhb
                  have HBD := Lib.hid (HBD.out.trans (hbw.mono HBD.out.size))
                  have hlA := HLA.out; have hlB := HLB.out
                  clear hgu hha hhb hbw HBW mc
                  rename World => wd
                  as_aux_lemma =>
                    have LP := list_any _ xs wd (H0.out.below (HBL.out.trans (HBD.out.mono HBL.out.size))) i0
                    go_wp2_with fail
                    refine LP.mono ?_
                    rintro e u1 ⟨vp, rfl, LPP, hown, hnP, hlP, hb9⟩
                    have GU := Lib.hid (GU.out.below hb9)
                    have HA := Lib.hid (HA.out.below hb9)
                    have HB := Lib.hid (HB.out.below hb9)
                    have HBD := Lib.hid (HBD.out.trans (hb9.mono HBD.out.size))
                    have HP := Lib.hid (RdP_of_owns hown)
                    obtain ⟨pp, cp, rfl⟩ := owns_slice hown
                    clear hown
                    have LQ := list_any _ ys u1 (H4.out.below (HBL.out.trans (HBD.out.mono HBL.out.size))) j0
                    clear LP hb9
                    go_wp2_with fail
                    refine LQ.mono ?_
                    rintro e u2 ⟨vq, rfl, LQQ, hown, hnQ, hlQ, hb9⟩
                    have GU := Lib.hid (GU.out.below hb9)
                    have HA := Lib.hid (HA.out.below hb9)
                    have HB := Lib.hid (HB.out.below hb9)
                    have HP := Lib.hid (HP.out.below hb9)
                    have HBD := Lib.hid (HBD.out.trans (hb9.mono HBD.out.size))
                    have HQ := Lib.hid (RdP_of_owns hown)
                    obtain ⟨pq, cq, rfl⟩ := owns_slice hown
                    clear hown
                    have MA := model_any _ uA u2 HA.out (by first | omega | simp)
                    clear LQ hb9
                    go_wp2_with fail
                    refine MA.mono ?_
                    rintro e u3 ⟨vma, rfl, hown, hb9⟩
                    have GU := Lib.hid (GU.out.below hb9)
                    have HA := Lib.hid (HA.out.below hb9)
                    have HB := Lib.hid (HB.out.below hb9)
                    have HP := Lib.hid (HP.out.below hb9)
                    have HQ := Lib.hid (HQ.out.below hb9)
                    have HBD := Lib.hid (HBD.out.trans (hb9.mono HBD.out.size))
                    have HMA := Lib.hid (RdP_of_owns hown)
                    obtain ⟨pma, cma, rfl⟩ := owns_slice hown
                    clear hown
                    have MB := model_any _ uB u3 HB.out (by first | omega | simp)
                    clear MA hb9
                    go_wp2_with fail
                    refine MB.mono ?_
                    rintro e u4 ⟨vmb, rfl, hown, hb9⟩
                    have GU := Lib.hid (GU.out.below hb9)
                    have HA := Lib.hid (HA.out.below hb9)
                    have HB := Lib.hid (HB.out.below hb9)
                    have HP := Lib.hid (HP.out.below hb9)
                    have HQ := Lib.hid (HQ.out.below hb9)
                    have HMA := Lib.hid (HMA.out.below hb9)
                    have HBD := Lib.hid (HBD.out.trans (hb9.mono HBD.out.size))
                    have HMB := Lib.hid (RdP_of_owns hown)
                    obtain ⟨pmb, cmb, rfl⟩ := owns_slice hown
                    clear hown
                    have BP := bent_any _ LPP how n 1000 u4 HP.out (by omega) (by omega) (by omega) (nrm_BdL hnP) h1 h2 h5 h6
                    clear MB hb9
                    go_wp2_with fail
                    refine BP.mono ?_
                    rintro e u5 ⟨vbp, rfl, LBP, hown, hbdP, hlBP, hb9⟩
                    have GU := Lib.hid (GU.out.below hb9)
                    have HA := Lib.hid (HA.out.below hb9)
                    have HB := Lib.hid (HB.out.below hb9)
                    have HP := Lib.hid (HP.out.below hb9)
                    have HQ := Lib.hid (HQ.out.below hb9)
                    have HMA := Lib.hid (HMA.out.below hb9)
                    have HMB := Lib.hid (HMB.out.below hb9)
                    have HBD := Lib.hid (HBD.out.trans (hb9.mono HBD.out.size))
                    have HBP := Lib.hid (RdP_of_owns hown)
                    obtain ⟨pbp, cbp, rfl⟩ := owns_slice hown
                    clear hown hbdP
                    have MA := model_any _ uA u5 HA.out (by first | omega | simp)
                    clear BP hb9
                    go_wp2_with fail
                    refine MA.mono ?_
                    rintro e u6 ⟨vna, rfl, hown, hb9⟩
                    have GU := Lib.hid (GU.out.below hb9)
                    have HB := Lib.hid (HB.out.below hb9)
                    have HP := Lib.hid (HP.out.below hb9)
                    have HQ := Lib.hid (HQ.out.below hb9)
                    have HMA := Lib.hid (HMA.out.below hb9)
                    have HMB := Lib.hid (HMB.out.below hb9)
                    have HBP := Lib.hid (HBP.out.below hb9)
                    have HBD := Lib.hid (HBD.out.trans (hb9.mono HBD.out.size))
                    have HNA := Lib.hid (RdP_of_owns hown)
                    obtain ⟨pna, cna, rfl⟩ := owns_slice hown
                    clear hown
                    have MB := model_any _ uB u6 HB.out (by first | omega | simp)
                    clear MA hb9
                    go_wp2_with fail
                    refine MB.mono ?_
                    rintro e u7 ⟨vnb, rfl, hown, hb9⟩
                    have GU := Lib.hid (GU.out.below hb9)
                    have HP := Lib.hid (HP.out.below hb9)
                    have HQ := Lib.hid (HQ.out.below hb9)
                    have HMA := Lib.hid (HMA.out.below hb9)
                    have HMB := Lib.hid (HMB.out.below hb9)
                    have HBP := Lib.hid (HBP.out.below hb9)
                    have HNA := Lib.hid (HNA.out.below hb9)
                    have HBD := Lib.hid (HBD.out.trans (hb9.mono HBD.out.size))
                    have HNB := Lib.hid (RdP_of_owns hown)
                    obtain ⟨pnb, cnb, rfl⟩ := owns_slice hown
                    clear hown
                    have BB := bent_any _ uB n how 1000 u7 HNB.out (by first | omega | simp) (by omega) (by omega) HBB.out h5 h6 h1 h2
                    clear MB hb9
                    go_wp2_with fail
                    refine BB.mono ?_
                    rintro e u8 ⟨vbb, rfl, LBB, hown, hbdB, hlBB, hb9⟩
                    have GU := Lib.hid (GU.out.below hb9)
                    have HP := Lib.hid (HP.out.below hb9)
                    have HQ := Lib.hid (HQ.out.below hb9)
                    have HMA := Lib.hid (HMA.out.below hb9)
                    have HMB := Lib.hid (HMB.out.below hb9)
                    have HBP := Lib.hid (HBP.out.below hb9)
                    have HNA := Lib.hid (HNA.out.below hb9)
                    have HBD := Lib.hid (HBD.out.trans (hb9.mono HBD.out.size))
                    have HBB := Lib.hid (RdP_of_owns hown)
                    obtain ⟨pbb, cbb, rfl⟩ := owns_slice hown
                    clear hown hbdB
                    clear BB hb9
                    have TT := tab10 (t := 62) (P := fun L => L.length ≤ 1000) ⟨HMA.out, (by first | omega | (simp; done) | (simp at *; omega))⟩ ⟨HMB.out, (by first | omega | (simp; done) | (simp at *; omega))⟩ ⟨HP.out, (by first | omega | (simp; done) | (simp at *; omega))⟩ ⟨HQ.out, (by first | omega | (simp; done) | (simp at *; omega))⟩ ⟨HP.out, (by first | omega | (simp; done) | (simp at *; omega))⟩ ⟨HP.out, (by first | omega | (simp; done) | (simp at *; omega))⟩ ⟨HP.out, (by first | omega | (simp; done) | (simp at *; omega))⟩ ⟨HBP.out, (by first | omega | (simp; done) | (simp at *; omega))⟩ ⟨HNA.out, (by first | omega | (simp; done) | (simp at *; omega))⟩ ⟨HBB.out, (by first | omega | (simp; done) | (simp at *; omega))⟩
                    have HTP := Lib.hid TT
                    have GU := Lib.hid (GU.out.below ((Below.refl _ _).alloc (Nat.le_refl _) (.cells #[.slice pma uA.length cma, .slice pmb uB.length cmb, .slice pp LPP.length cp, .slice pq LQQ.length cq, .slice pp LPP.length cp, .slice pp LPP.length cp, .slice pp LPP.length cp, .slice pbp LBP.length cbp, .slice pna uA.length cna, .slice pbb LBB.length cbb] 62)))
                    have HBD := Lib.hid (HBD.out.alloc HBD.out.size (.cells #[.slice pma uA.length cma, .slice pmb uB.length cmb, .slice pp LPP.length cp, .slice pq LQQ.length cq, .slice pp LPP.length cp, .slice pp LPP.length cp, .slice pp LPP.length cp, .slice pbp LBP.length cbp, .slice pna uA.length cna, .slice pbb LBB.length cbb] 62))
                    clear TT HMA HMB HP HQ HBP HNA HBB
                    go_wp2_with fail
                    obtain ⟨PB, hPB⟩ : ∃ PB, u8.heap.size = PB := ⟨_, rfl⟩
                    rw [hPB] at HTP ⊢
                    clear hPB
                    generalize u8.alloc (.cells #[.slice pma uA.length cma, .slice pmb uB.length cmb, .slice pp LPP.length cp, .slice pq LQQ.length cq, .slice pp LPP.length cp, .slice pp LPP.length cp, .slice pp LPP.length cp, .slice pbp LBP.length cbp, .slice pna uA.length cna, .slice pbb LBB.length cbb] 62) = wz at *
                    have HTT := Lib.hid (HTT.out.below HBD.out); have HTS := Lib.hid (HTS.out.below HBD.out); have HBL := Lib.hid (HBL.out.trans (HBD.out.mono HBL.out.size))
                    clear HBD SB
                    as_aux_lemma =>
                      go_loopg [30] 5 (fun gn i wr => ∃ q : Nat, q ≤ 5 ∧ gn = 5 - q ∧ i = .int .i64 q ∧ TabP wr PB 10 (fun L => L.length ≤ 1000) ∧ UW wr C SA (j * 4) TI k ⟨ks, nxs, rows, pass⟩ mm ∧ TabN wr TI 3 ∧ TabS wr SA (fun _ => True) ∧ Below w.heap.size w wr)
                      case atStart => exact ⟨0, by omega, rfl, rfl, HTP.out, GU.out, HTT.out, HTS.out, HBL.out⟩
                      case round =>
                        obtain ⟨q, hq, rfl, rfl, htp, hgu, htn, htas, hbl⟩ := hrel
                        have hq9 : (q : Int) ≤ 5 := by omega
                        have hq0 : (0 : Int) ≤ (q : Int) := by omega
                        by_cases hq5 : q < 5
                        · have hq5i : (q : Int) < 5 := by omega
                          have HTP := Lib.hid htp; have GU := Lib.hid hgu; have HTT := Lib.hid htn; have HTS := Lib.hid htas; have HBL := Lib.hid hbl
                          clear htp hgu htn htas hbl
                          obtain ⟨a1, f1, L1, e1, rd1, hl1⟩ := HTP.out.2 (q * 2) (by omega)
                          obtain ⟨a2, f2, L2, e2, rd2, hl2⟩ := HTP.out.2 (q * 2 + 1) (by omega)
                          have SB : ∀ {W W' : World}, UP W C SA (j * 4) TI k PB (q * 2) ⟨ks, nxs, rows, pass⟩ mm (.slice a1 L1.length f1) (.slice a2 L2.length f2) L1 L2 → Below W.heap.size W W' → UP W' C SA (j * 4) TI k PB (q * 2) ⟨ks, nxs, rows, pass⟩ mm (.slice a1 L1.length f1) (.slice a2 L2.length f2) L1 L2 := fun h hb => h.below hb
                          have G1 := Lib.hid ((show UP wr C SA (j * 4) TI k PB (q * 2) ⟨ks, nxs, rows, pass⟩ mm (.slice a1 L1.length f1) (.slice a2 L2.length f2) L1 L2 from ⟨GU.out, HTP.out.1, e1, e2, rd1, rd2⟩).below (Below.dn (Below.refl _ _) 1))
                          have HBD := Lib.hid (Below.dn (Below.refl wr.heap.size wr) 1)
                          have O1 := own_any _ L1 (wr.drewN 1) G1.out.r1 (by omega)
                          clear e1 e2 rd1 rd2
                          go_wp2_with fail
                          refine wp_region_held (S := fun W => UP W C SA (j * 4) TI k PB (q * 2) ⟨ks, nxs, rows, pass⟩ mm (.slice a1 L1.length f1) (.slice a2 L2.length f2) L1 L2) (by kernel_rfl) ?_
                          have hdr : (wr).drew = { wr with drawn := (wr).drawn + 1 } := rfl
                          rw [← hdr]
                          clear hdr
                          refine wpAnyHTake 0 (some 178) (.agg #[.int .i64 ks, .bool nxs, .int .i64 rows, .int .i64 pass]) rfl rfl (by kernel_rfl) (by kernel_rfl) (by kernel_rfl) (fun _ _ _ h => h) (by rfl) (fun W hW => by obtain ⟨⟨⟨_, c0, c1, c2, c3⟩, _, ⟨d0, d1, d2, d3⟩, _, c4⟩, _, e1, e2, _, _⟩ := hW; dsimp only at c0 c1 c2 c3 d0 d1 d2 d3; go_simp) (G1.out) ?_
                          simp only [Act.put, List.setIfInBounds_toArray, List.set_cons_zero, List.set_cons_succ]
                          refine wpAnyHTake 1 (some 179) (.slice (some ⟨TI, 0, none⟩) 3 3) rfl rfl (by kernel_rfl) (by kernel_rfl) (by kernel_rfl) (fun _ _ _ h => h) (by rfl) (fun _ _ => by rfl) (G1.out) ?_
                          simp only [Act.put, List.setIfInBounds_toArray, List.set_cons_zero, List.set_cons_succ]
                          refine wpAnyHTake 2 (some 180) (.int .i64 (k : Int)) rfl rfl (by kernel_rfl) (by kernel_rfl) (by kernel_rfl) (fun _ _ _ h => h) (by rfl) (fun _ _ => by rfl) (G1.out) ?_
                          simp only [Act.put, List.setIfInBounds_toArray, List.set_cons_zero, List.set_cons_succ]
                          refine wpAnyHTake 3 (some 181) (.pointer (some ⟨TI, k, none⟩)) rfl rfl (by kernel_rfl) (by kernel_rfl) (by kernel_rfl) (fun _ _ _ h => h) (by rfl) (fun _ _ => by go_simp) (G1.out) ?_
                          simp only [Act.put, List.setIfInBounds_toArray, List.set_cons_zero, List.set_cons_succ]
                          refine wpAnyHTake 4 (some 182) (.int .i64 mm) rfl rfl (by kernel_rfl) (by kernel_rfl) (by kernel_rfl) (fun _ _ _ h => h) (by rfl) (fun W hW => by obtain ⟨⟨⟨_, c0, c1, c2, c3⟩, _, ⟨d0, d1, d2, d3⟩, _, c4⟩, _, e1, e2, _, _⟩ := hW; dsimp only at c0 c1 c2 c3 d0 d1 d2 d3; go_simp) (G1.out) ?_
                          simp only [Act.put, List.setIfInBounds_toArray, List.set_cons_zero, List.set_cons_succ]
                          refine wpAnyHTake 5 (some 183) (.slice (some ⟨PB, 0, none⟩) 5 5) rfl rfl (by kernel_rfl) (by kernel_rfl) (by kernel_rfl) (fun _ _ _ h => h) (by rfl) (fun _ _ => by rfl) (G1.out) ?_
                          simp only [Act.put, List.setIfInBounds_toArray, List.set_cons_zero, List.set_cons_succ]
                          refine wpAnyHTake 6 (some 184) (.int .i64 (q : Int)) rfl rfl (by kernel_rfl) (by kernel_rfl) (by kernel_rfl) (fun _ _ _ h => h) (by rfl) (fun _ _ => by rfl) (G1.out) ?_
                          simp only [Act.put, List.setIfInBounds_toArray, List.set_cons_zero, List.set_cons_succ]
                          refine wpAnyHTake 7 (some 185) (.pointer (some ⟨PB, q * 2, none⟩)) rfl rfl (by kernel_rfl) (by kernel_rfl) (by kernel_rfl) (fun _ _ _ h => h) (by rfl) (fun _ _ => by go_simp) (G1.out) ?_
                          simp only [Act.put, List.setIfInBounds_toArray, List.set_cons_zero, List.set_cons_succ]
                          refine wpAnyHTake 8 (some 186) (.pointer (some ⟨PB, q * 2, none⟩)) rfl rfl (by kernel_rfl) (by kernel_rfl) (by kernel_rfl) (fun _ _ _ h => h) (by rfl) (fun _ _ => by go_simp) (G1.out) ?_
                          simp only [Act.put, List.setIfInBounds_toArray, List.set_cons_zero, List.set_cons_succ]
                          refine wpAnyHTake 9 (some 187) (.slice a1 L1.length f1) rfl rfl (by kernel_rfl) (by kernel_rfl) (by kernel_rfl) (fun _ _ _ h => h) (by rfl) (fun W hW => by obtain ⟨⟨⟨_, c0, c1, c2, c3⟩, _, ⟨d0, d1, d2, d3⟩, _, c4⟩, _, e1, e2, _, _⟩ := hW; dsimp only at c0 c1 c2 c3 d0 d1 d2 d3; go_simp) (G1.out) ?_
                          simp only [Act.put, List.setIfInBounds_toArray, List.set_cons_zero, List.set_cons_succ]
                          refine wpAnyHTake 11 (some 189) (.slice (some ⟨PB, 0, none⟩) 5 5) rfl rfl (by kernel_rfl) (by kernel_rfl) (by kernel_rfl) (fun _ _ _ h => h) (by rfl) (fun _ _ => by rfl) (G1.out) ?_
                          simp only [Act.put, List.setIfInBounds_toArray, List.set_cons_zero, List.set_cons_succ]
                          refine wpAnyHTake 12 (some 190) (.int .i64 (q : Int)) rfl rfl (by kernel_rfl) (by kernel_rfl) (by kernel_rfl) (fun _ _ _ h => h) (by rfl) (fun _ _ => by rfl) (G1.out) ?_
                          simp only [Act.put, List.setIfInBounds_toArray, List.set_cons_zero, List.set_cons_succ]
                          refine wpAnyHTake 13 (some 191) (.pointer (some ⟨PB, q * 2, none⟩)) rfl rfl (by kernel_rfl) (by kernel_rfl) (by kernel_rfl) (fun _ _ _ h => h) (by rfl) (fun _ _ => by go_simp) (G1.out) ?_
                          simp only [Act.put, List.setIfInBounds_toArray, List.set_cons_zero, List.set_cons_succ]
                          refine wpAnyHTake 14 (some 192) (.pointer (some ⟨PB, q * 2 + 1, none⟩)) rfl rfl (by kernel_rfl) (by kernel_rfl) (by kernel_rfl) (fun _ _ _ h => h) (by rfl) (fun _ _ => by go_simp) (G1.out) ?_
                          simp only [Act.put, List.setIfInBounds_toArray, List.set_cons_zero, List.set_cons_succ]
                          refine wpAnyHTake 15 (some 193) (.slice a2 L2.length f2) rfl rfl (by kernel_rfl) (by kernel_rfl) (by kernel_rfl) (fun _ _ _ h => h) (by rfl) (fun W hW => by obtain ⟨⟨⟨_, c0, c1, c2, c3⟩, _, ⟨d0, d1, d2, d3⟩, _, c4⟩, _, e1, e2, _, _⟩ := hW; dsimp only at c0 c1 c2 c3 d0 d1 d2 d3; go_simp) (G1.out) ?_
                          simp only [Act.put, List.setIfInBounds_toArray, List.set_cons_zero, List.set_cons_succ]
                          refine wpAnyHTake 18 (some 196) (.slice (some ⟨SA, 0, none⟩) 2 2) rfl rfl (by kernel_rfl) (by kernel_rfl) (by kernel_rfl) (fun _ _ _ h => h) (by rfl) (fun _ _ => by rfl) (G1.out) ?_
                          simp only [Act.put, List.setIfInBounds_toArray, List.set_cons_zero, List.set_cons_succ]
                          refine wpAnyHTake 19 (some 197) (.int .i64 (j : Int)) rfl rfl (by kernel_rfl) (by kernel_rfl) (by kernel_rfl) (fun _ _ _ h => h) (by rfl) (fun _ _ => by rfl) (G1.out) ?_
                          simp only [Act.put, List.setIfInBounds_toArray, List.set_cons_zero, List.set_cons_succ]
                          refine wpAnyHTake 20 (some 198) (.pointer (some ⟨SA, j * 4, none⟩)) rfl rfl (by kernel_rfl) (by kernel_rfl) (by kernel_rfl) (fun _ _ _ h => h) (by rfl) (fun _ _ => by go_simp) (G1.out) ?_
                          simp only [Act.put, List.setIfInBounds_toArray, List.set_cons_zero, List.set_cons_succ]
                          refine wpAnyHTake 21 (some 199) (.agg #[.int .i64 ks, .bool nxs, .int .i64 rows, .int .i64 pass]) rfl rfl (by kernel_rfl) (by kernel_rfl) (by kernel_rfl) (fun _ _ _ h => h) (by rfl) (fun W hW => by obtain ⟨⟨⟨_, c0, c1, c2, c3⟩, _, ⟨d0, d1, d2, d3⟩, _, c4⟩, _, e1, e2, _, _⟩ := hW; dsimp only at c0 c1 c2 c3 d0 d1 d2 d3; go_simp) (G1.out) ?_
                          simp only [Act.put, List.setIfInBounds_toArray, List.set_cons_zero, List.set_cons_succ]
                          refine wpAnyHTake 22 (some 200) (.slice (some ⟨TI, 0, none⟩) 3 3) rfl rfl (by kernel_rfl) (by kernel_rfl) (by kernel_rfl) (fun _ _ _ h => h) (by rfl) (fun _ _ => by rfl) (G1.out) ?_
                          simp only [Act.put, List.setIfInBounds_toArray, List.set_cons_zero, List.set_cons_succ]
                          refine wpAnyHTake 23 (some 201) (.int .i64 (k : Int)) rfl rfl (by kernel_rfl) (by kernel_rfl) (by kernel_rfl) (fun _ _ _ h => h) (by rfl) (fun _ _ => by rfl) (G1.out) ?_
                          simp only [Act.put, List.setIfInBounds_toArray, List.set_cons_zero, List.set_cons_succ]
                          refine wpAnyHTake 24 (some 202) (.pointer (some ⟨TI, k, none⟩)) rfl rfl (by kernel_rfl) (by kernel_rfl) (by kernel_rfl) (fun _ _ _ h => h) (by rfl) (fun _ _ => by go_simp) (G1.out) ?_
                          simp only [Act.put, List.setIfInBounds_toArray, List.set_cons_zero, List.set_cons_succ]
                          refine wpAnyHTake 25 (some 203) (.int .i64 mm) rfl rfl (by kernel_rfl) (by kernel_rfl) (by kernel_rfl) (fun _ _ _ h => h) (by rfl) (fun W hW => by obtain ⟨⟨⟨_, c0, c1, c2, c3⟩, _, ⟨d0, d1, d2, d3⟩, _, c4⟩, _, e1, e2, _, _⟩ := hW; dsimp only at c0 c1 c2 c3 d0 d1 d2 d3; go_simp) (G1.out) ?_
                          simp only [Act.put, List.setIfInBounds_toArray, List.set_cons_zero, List.set_cons_succ]
                          refine wpAnyHTake 26 (some 204) (.slice (some ⟨PB, 0, none⟩) 5 5) rfl rfl (by kernel_rfl) (by kernel_rfl) (by kernel_rfl) (fun _ _ _ h => h) (by rfl) (fun _ _ => by rfl) (G1.out) ?_
                          simp only [Act.put, List.setIfInBounds_toArray, List.set_cons_zero, List.set_cons_succ]
                          refine wpAnyHTake 27 (some 205) (.int .i64 (q : Int)) rfl rfl (by kernel_rfl) (by kernel_rfl) (by kernel_rfl) (fun _ _ _ h => h) (by rfl) (fun _ _ => by rfl) (G1.out) ?_
                          simp only [Act.put, List.setIfInBounds_toArray, List.set_cons_zero, List.set_cons_succ]
                          refine wpAnyHTake 28 (some 206) (.pointer (some ⟨PB, q * 2, none⟩)) rfl rfl (by kernel_rfl) (by kernel_rfl) (by kernel_rfl) (fun _ _ _ h => h) (by rfl) (fun _ _ => by go_simp) (G1.out) ?_
                          simp only [Act.put, List.setIfInBounds_toArray, List.set_cons_zero, List.set_cons_succ]
                          refine wpAnyHTake 29 (some 207) (.pointer (some ⟨PB, q * 2, none⟩)) rfl rfl (by kernel_rfl) (by kernel_rfl) (by kernel_rfl) (fun _ _ _ h => h) (by rfl) (fun _ _ => by go_simp) (G1.out) ?_
                          simp only [Act.put, List.setIfInBounds_toArray, List.set_cons_zero, List.set_cons_succ]
                          refine wpAnyHTake 30 (some 208) (.slice a1 L1.length f1) rfl rfl (by kernel_rfl) (by kernel_rfl) (by kernel_rfl) (fun _ _ _ h => h) (by rfl) (fun W hW => by obtain ⟨⟨⟨_, c0, c1, c2, c3⟩, _, ⟨d0, d1, d2, d3⟩, _, c4⟩, _, e1, e2, _, _⟩ := hW; dsimp only at c0 c1 c2 c3 d0 d1 d2 d3; go_simp) (G1.out) ?_
                          simp only [Act.put, List.setIfInBounds_toArray, List.set_cons_zero, List.set_cons_succ]
                          refine wpAnyHTake 31 (some 209) (.slice (some ⟨PB, 0, none⟩) 5 5) rfl rfl (by kernel_rfl) (by kernel_rfl) (by kernel_rfl) (fun _ _ _ h => h) (by rfl) (fun _ _ => by rfl) (G1.out) ?_
                          simp only [Act.put, List.setIfInBounds_toArray, List.set_cons_zero, List.set_cons_succ]
                          refine wpAnyHTake 32 (some 210) (.int .i64 (q : Int)) rfl rfl (by kernel_rfl) (by kernel_rfl) (by kernel_rfl) (fun _ _ _ h => h) (by rfl) (fun _ _ => by rfl) (G1.out) ?_
                          simp only [Act.put, List.setIfInBounds_toArray, List.set_cons_zero, List.set_cons_succ]
                          refine wpAnyHTake 33 (some 211) (.pointer (some ⟨PB, q * 2, none⟩)) rfl rfl (by kernel_rfl) (by kernel_rfl) (by kernel_rfl) (fun _ _ _ h => h) (by rfl) (fun _ _ => by go_simp) (G1.out) ?_
                          simp only [Act.put, List.setIfInBounds_toArray, List.set_cons_zero, List.set_cons_succ]
                          refine wpAnyHTake 34 (some 212) (.pointer (some ⟨PB, q * 2 + 1, none⟩)) rfl rfl (by kernel_rfl) (by kernel_rfl) (by kernel_rfl) (fun _ _ _ h => h) (by rfl) (fun _ _ => by go_simp) (G1.out) ?_
                          simp only [Act.put, List.setIfInBounds_toArray, List.set_cons_zero, List.set_cons_succ]
                          refine wpAnyHTake 35 (some 213) (.slice a2 L2.length f2) rfl rfl (by kernel_rfl) (by kernel_rfl) (by kernel_rfl) (fun _ _ _ h => h) (by rfl) (fun W hW => by obtain ⟨⟨⟨_, c0, c1, c2, c3⟩, _, ⟨d0, d1, d2, d3⟩, _, c4⟩, _, e1, e2, _, _⟩ := hW; dsimp only at c0 c1 c2 c3 d0 d1 d2 d3; go_simp) (G1.out) ?_
                          simp only [Act.put, List.setIfInBounds_toArray, List.set_cons_zero, List.set_cons_succ]
                          refine wpAnyHCall 10 (some 188) 18 #[.slice a1 L1.length f1] (by kernel_rfl) rfl rfl (by rfl) (by go_simp) (O1) ?_
                          rintro e xi2 ⟨vo1, rfl, hown, hb9⟩
                          have G2 := Lib.hid (SB G1.out hb9)
                          have HBD := Lib.hid (HBD.out.trans (hb9.mono HBD.out.size))
                          have HO1 := Lib.hid (RdP_of_owns hown)
                          obtain ⟨po1, co1, rfl⟩ := owns_slice hown
                          clear hown
                          have O2 := own_any _ L2 xi2 G2.out.r2 (by omega)
                          clear hb9 O1
                          refine ⟨_, rfl, G2.out, ?_⟩
                          simp only [Act.put, List.setIfInBounds_toArray, List.set_cons_zero, List.set_cons_succ]
                          refine wpAnyHCall 16 (some 194) 18 #[.slice a2 L2.length f2] (by kernel_rfl) rfl rfl (by rfl) (by go_simp) (O2) ?_
                          rintro e xi3 ⟨vo2, rfl, hown, hb9⟩
                          have G3 := Lib.hid (SB G2.out hb9)
                          have HBD := Lib.hid (HBD.out.trans (hb9.mono HBD.out.size))
                          have HO2 := Lib.hid (RdP_of_owns hown)
                          obtain ⟨po2, co2, rfl⟩ := owns_slice hown
                          clear hown
                          have CK := check_all ⟨ks, nxs, rows, pass⟩ mm _ _ L1 L2 xi3 (HO1.out.below hb9) HO2.out hl1 hl2
                          clear hb9 O2
                          refine ⟨_, rfl, G3.out, ?_⟩
                          simp only [Act.put, List.setIfInBounds_toArray, List.set_cons_zero, List.set_cons_succ]
                          refine wpAnyHCall 17 (some 195) 32 #[.agg #[.int .i64 ks, .bool nxs, .int .i64 rows, .int .i64 pass], .int .i64 mm, .slice po1 L1.length co1, .slice po2 L2.length co2] (by kernel_rfl) rfl rfl (by rfl) (by go_simp) (CK) ?_
                          rintro e xi4 ⟨rfl, hb9⟩
                          have G4 := Lib.hid (SB G3.out hb9)
                          have HBD := Lib.hid (HBD.out.trans (hb9.mono HBD.out.size))
                          have RK := rcheck_all ⟨ks, nxs, rows, pass⟩ mm _ _ L1 L2 xi4 G4.out.r1 G4.out.r2 hl1 hl2
                          clear HO1 HO2
                          clear hb9 CK
                          refine ⟨_, rfl, G4.out, ?_⟩
                          simp only [Act.put, List.setIfInBounds_toArray, List.set_cons_zero, List.set_cons_succ]
                          refine wpAnyHCall 36 (some 214) 33 #[.agg #[.int .i64 ks, .bool nxs, .int .i64 rows, .int .i64 pass], .int .i64 mm, .slice a1 L1.length f1, .slice a2 L2.length f2] (by kernel_rfl) rfl rfl (by rfl) (by go_simp) (RK) ?_
                          rintro e xi5 ⟨rfl, hb9⟩
                          have G5 := Lib.hid (SB G4.out hb9)
                          have HBD := Lib.hid (HBD.out.trans (hb9.mono HBD.out.size))
                          clear hb9 RK
                          refine ⟨_, rfl, G5.out, ?_⟩
                          simp only [Act.put, List.setIfInBounds_toArray, List.set_cons_zero, List.set_cons_succ]
                          refine wpAnyHTake 37 (some 215) (.bool false) rfl rfl (by kernel_rfl) (by kernel_rfl) (by kernel_rfl) (fun _ _ _ h => h) (by rfl) (fun _ _ => by go_simp) (G5.out) ?_
                          simp only [Act.put, List.setIfInBounds_toArray, List.set_cons_zero, List.set_cons_succ]
                          refine wpAnyH_done (by kernel_rfl) ?_ _
                          go_wp2_with fail
                          go_roundg (5 - (q + 1))
                          case measure => omega
                          case rel => exact ⟨q + 1, by omega, rfl, by go_num, HTP.out.below HBD.out, GU.out.below HBD.out, HTT.out.below HBD.out, HTS.out.below HBD.out, HBL.out.trans (HBD.out.mono HBL.out.size)⟩
                        · have hq5i : ¬ (q : Int) < 5 := by omega
                          go_wp2_with fail
                          go_roundg (3 - (k + 1))
                          case measure => omega
                          case rel => exact ⟨k + 1, by omega, rfl, by go_num, htn, htas, hbl⟩
        · have hk3i : ¬ (k : Int) < 3 := by omega
          go_wp2_with fail
          go_roundg (2 - (j + 1))
          case measure => omega
          case rel => exact ⟨j + 1, by omega, rfl, by go_num, htn, htas, hbl⟩
    · have hj2i : ¬ (j : Int) < 2 := by omega
      have LV := lives_any wr (HML.out.below hbl hlt)
      have HBL := Lib.hid hbl
      clear htn htas hbl
      go_wp2_with fail
      refine LV.mono ?_
      rintro e w9 ⟨rfl, hb9⟩
      have HBM := Lib.hid (HBL.out.trans (hb9.mono HBL.out.size))
      clear hb9 LV
      go_wp2_with fail
      go_ret
      exact ⟨rfl, HBM.out⟩
end Go.Proofs.YtecdkpcapalifaaDoor
