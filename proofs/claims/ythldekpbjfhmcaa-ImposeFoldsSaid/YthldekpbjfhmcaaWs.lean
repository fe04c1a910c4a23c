import Derived.Test.YthldekpbjfhmcaaWq
import Derived.Test.YthldekpbjfhmcaaWr
namespace Go.Proofs.Ythldekpbjfhmcaa
open Go.RowKit Go.Shelf Go.Maps
attribute [local go_sem] Oper.semAt_some

/-- the sheets that have some leaves, and the error -/
def sheetsL (p k : Int) (cs : List Int) : List Int × Int := if errOf p k = 0 then (if cs.all (hasB p k) then (selL p k cs, 0) else ([], 5)) else ([], errOf p k)

theorem mem_take_succ (cs : List Int) (j : Nat) (c : Int) (hc : cs[j]? = some c) : (fun y => y == c || decide (y ∈ cs.take j)) = (fun y => decide (y ∈ cs.take (j + 1))) := by
  funext y
  rw [List.take_add_one, hc, Bool.eq_iff_iff]
  simp only [Option.toList_some, List.mem_append, List.mem_singleton, decide_eq_true_eq, Bool.or_eq_true, beq_iff_eq]
  exact or_comm

theorem hasB_true' {p k l : Int} (h : hasB p k l = true) : 1 ≤ l ∧ l ≤ cnt p k * k := by
  unfold hasB at h; simpa using h

/-- a leaf is at most this -/
def Lf := { x : (Int × Int) × Sh // 1 ≤ x.1.1 ∧ x.1.1 ≤ 600 ∧ 1 ≤ x.1.2 ∧ x.1.2 ≤ 600 }

theorem Lf_mk (p k : Int) (hp1 : 0 ≤ p) (hp2 : p ≤ 999) (hk1 : 2 ≤ k) (hk2 : k ≤ 16) (q i : Nat) (hq : (q : Int) < cnt p k) (hi : (i : Int) < k / 2) : ∃ x : Lf, x.val = it p k q i := by
  have h0 := cntk_bd p k hp1 hp2 hk1 hk2
  have e := conj_it k q i hk1 hi
  have h1 : ((q : Int) + 1) * k ≤ cnt p k * k := Int.mul_le_mul_of_nonneg_right (by omega) (by omega)
  have h2 : ((q : Int) + 1) * k = (q : Int) * k + k := by rw [Int.add_mul, Int.one_mul]
  have h3 : 0 ≤ (q : Int) * k := Int.mul_nonneg (by omega) (by omega)
  refine ⟨⟨it p k q i, ?_⟩, rfl⟩
  show 1 ≤ itA k q i ∧ itA k q i ≤ 600 ∧ 1 ≤ conj k (itA k q i) ∧ conj k (itA k q i) ≤ 600
  rw [e]; unfold itA; omega

def selP (cs : List Int) (pre : List Lf) : (Int → Bool) × List Int × Nat := selW (fun y => decide (y ∈ cs)) (pre.map (·.1))
theorem selP_snoc (cs : List Int) (pre : List Lf) (x : Lf) : selP cs (pre ++ [x]) = selStep ((selP cs pre).1, (selP cs pre).2.1, (selP cs pre).2.2) x.1 := by
  unfold selP; rw [List.map_append]; exact selW_snoc _ _ _
theorem selW_cnt (S : Int → Bool) : ∀ (L : List ((Int × Int) × Sh)) (s : (Int → Bool) × List Int × Nat), (L.foldl selStep s).2.2 = s.2.2 + L.length ∧ (L.foldl selStep s).2.1.length ≤ s.2.1.length + L.length
  | [], s => ⟨by simp, by simp⟩
  | x :: r, s => by
    obtain ⟨h1, h2⟩ := selW_cnt S r (selStep s x)
    have e1 : (selStep s x).2.2 = s.2.2 + 1 := by unfold selStep; split <;> rfl
    have e2 : (selStep s x).2.1.length ≤ s.2.1.length + 1 := by unfold selStep; split <;> simp
    simp only [List.foldl_cons, List.length_cons]
    omega
theorem selP_cnt (cs : List Int) (pre : List Lf) : (selP cs pre).2.2 = pre.length := by
  have := (selW_cnt (fun _ => true) (pre.map (·.1)) (fun y => decide (y ∈ cs), [], 0)).1
  unfold selP selW; rw [this]; simp
theorem selP_len (cs : List Int) (pre : List Lf) : (selP cs pre).2.1.length ≤ pre.length := by
  have := (selW_cnt (fun _ => true) (pre.map (·.1)) (fun y => decide (y ∈ cs), [], 0)).2
  unfold selP selW; simpa using this

theorem base_mono {w : World} {base base' : Nat} {e : TypeId} {sz : Nat} {v : Value} {n : Nat} {xs : List Value} (h : w.ownsRow base e sz v n xs) (hb : base' ≤ base) : w.ownsRow base' e sz v n xs := by
  refine ⟨h.1, ?_⟩
  rcases h.2 with h2 | ⟨g, cap, cur, h1, h2, h3⟩
  · exact .inl h2
  · exact .inr ⟨g, cap, cur, h1, by omega, h3⟩

/-- behind 'out = append(out, ..)' into a box every block below the rows is as it was -/
theorem other_blocks {W w1 : World} {base Bo : Nat} {e : TypeId} {sz : Nat} {v v' : Value} {k : Nat} {xs : List Value} {tmp : Obj} (hrow : W.ownsRow base e sz v k xs) (hgrow : (W.alloc tmp).grownBy w1 v.ownBlock) :
    ∀ b, b < base → b ≠ Bo → b < W.heap.size → (w1.setCell ⟨Bo, 0, none⟩ v').heap[b]? = W.heap[b]? := fun b hb hne hlt =>
  (Below.heap_setCell _ _ _ _ hne).trans ((hgrow.block b (by simp; omega) (Ne.symm (own_ne hrow hb))).trans (Below.heap_alloc W _ b hlt))
theorem boxed_same {W W' : World} {b : Nat} {t : TypeId} {v : Value} (h : W'.heap[b]? = W.heap[b]?) (hb : Boxed W b t v) : Boxed W' b t v := h.trans hb
theorem OwnM.same {W W' : World} {b n : Nat} {S : Int → Bool} (hb : OwnM W b n S) (h : W'.heap[b]? = W.heap[b]?) : OwnM W' b n S := by
  obtain ⟨D, ⟨es, clock, h1, h2⟩, h3⟩ := hb
  exact ⟨D, ⟨es, clock, h.trans h1, h2⟩, h3⟩

set_option maxRecDepth 100000 in
set_option maxHeartbeats 4000000 in
theorem sheets_ok (p k : Int) (v : Value) (cs : List Int) (w : World) (h0 : errOf p k = 0) (h1 : RdI w v cs) :
    Calls Try.prog 25 #[.int .i64 p, .int .i64 k, v] w fun e w' => ∃ v', e = .returned (.tuple #[v', .int .i64 (sheetsL p k cs).2]) ∧ w'.ownsRow w.heap.size 3 1 v' (sheetsL p k cs).1.length (ints (sheetsL p k cs).1) ∧ Below w.heap.size w w' := by
  obtain ⟨hp1, hp2, hk1, hk2, hk3⟩ := errOf_zero h0
  obtain ⟨a1, c1, rfl, l1, f1⟩ := h1.open
  have F1 := Lib.hid f1; have H0 := Lib.hid h0
  obtain ⟨i0, hi0, hz0, hz1, hz2⟩ := info_parts Try.info3
  have HI := Lib.hid hi0; have HZ0 := Lib.hid hz0; have HZ1 := Lib.hid hz1; have HZ2 := Lib.hid hz2
  have ckb := cntk_bd p k hp1 hp2 hk1 hk2
  clear hi0 hz0 hz1 hz2 h1 f1 h0 hk3
  have hmm := @run_makeMap Try.prog
  refine (callsIn_wide (n := 9)).1 ?_
  refine callsIn_of_wp_marks Try.func25 rfl trivial ?_ rfl
  refine wpIn_wide.2 ?_
  simp only [Try.ntmps25, List.size_toArray, List.length_cons, List.length_nil, Nat.reduceAdd, Nat.reduceSub, Array.replicate_succ, Array.replicate_zero, List.push_toArray, List.append_toArray, List.nil_append, List.cons_append]
  go_wp2_with (first | (go_at_call 37; refine (valid_any p k _ (by omega) (by omega) (by omega) (by omega)).mono ?_; rintro e w1 ⟨rfl, hb1⟩; have q0 : w1.cell? ⟨w.heap.size, 0, none⟩ = some (.int .i64 p) := cell_bl hb1 (by simp); have q1 : w1.cell? ⟨w.heap.size, 1, none⟩ = some (.int .i64 k) := cell_bl hb1 (by simp); rw [H0.out]))
  have bV : Boxs ((w1.alloc (.map #[] 0)).alloc (.cells #[.map (some w1.heap.size)] 80)) w.heap.size 66 #[.int .i64 p, .int .i64 k] := ((((Boxs.new w 66 #[.int .i64 p, .int .i64 k]).below hb1 (by simp))).alloc _).alloc _
  have bB := Boxed.new (w1.alloc (.map #[] 0)) 80 (.map (some w1.heap.size))
  rw [World.size_alloc] at bB
  have bM := (OwnM.made w1).kept (World.grownBy_alloc _ (.cells #[.map (some w1.heap.size)] 80) none) (by simp)
  have hB0 : Below w.heap.size w ((w1.alloc (.map #[] 0)).alloc (.cells #[.map (some w1.heap.size)] 80)) := ((((Below.refl _ w).alloc (Nat.le_refl _) _).trans (hb1.mono (by simp))).alloc (by have := hb1.size; simp at this; omega) _).alloc (by have := hb1.size; simp at this; simp; omega) _
  have hwb : w.heap.size < w1.heap.size := by have := hb1.size; simp at this; omega
  have BV := Lib.hid bV; have BB := Lib.hid bB; have BM := Lib.hid bM; have HB0 := Lib.hid hB0
  generalize hbm : w1.heap.size = bm at *
  clear bV bB bM hB0 hb1 q0 q1 hbm
  go_loopw [27] (fun i wr => ∃ j : Nat, j ≤ cs.length ∧ i = .int .i64 j ∧ (∀ c, c ∈ cs.take j → hasB p k c = true) ∧ Boxs wr w.heap.size 66 #[.int .i64 p, .int .i64 k] ∧ Boxed wr (bm + 1) 80 (.map (some bm)) ∧ OwnM wr bm j (fun y => decide (y ∈ cs.take j)) ∧ Below w.heap.size w wr) (fun i _ => cs.length - (intOf i).toNat)
  case atStart => exact ⟨0, by omega, rfl, by simp, BV.out, BB.out, by simpa using BM.out, HB0.out⟩
  case round =>
    obtain ⟨j, hj, rfl, hall, bV, bB, bM, hB⟩ := hrel
    have HALL := Lib.hid hall; have BV := Lib.hid bV; have BB := Lib.hid bB; have BM := Lib.hid bM; have HB := Lib.hid hB
    have hbs := hB.size
    have v0 : wr.cell? ⟨w.heap.size, 0, none⟩ = some (.int .i64 p) := bV.cell 0
    have v1 : wr.cell? ⟨w.heap.size, 1, none⟩ = some (.int .i64 k) := bV.cell 1
    have m0 := bB.cell
    by_cases hlt : j < cs.length
    · obtain ⟨c, hc⟩ := elem_at hlt
      obtain ⟨b1, o1, rfl, hb1, y0⟩ := F1.out j c hc
      have g0 := (hB.cell (p := ⟨b1, o1 + j, none⟩) hb1).trans y0
      have HC := Lib.hid hc
      clear hc y0 hall bV bB bM hB
      by_cases hh : hasB p k c = true
      · obtain ⟨cb1, cb2⟩ := hasB_true' hh
        have HH := Lib.hid hh
        clear hh
        go_wp2_with (first | (go_at_call 40; refine (vhas_any p k c _ hp1 hp2 hk1 hk2).mono ?_; rintro e w2 ⟨rfl, hb2⟩; have m2 := cell_bl hb2 m0; rw [HH.out]) | (at_mapUpdate; refine wpM_store _ rfl _ _ _ rfl bm j _ rfl (BM.out.kept (grown_of_below hb2) (by simp)) (by unfold maxLen; omega) c rfl rfl (by omega) ?_; intro w3 hown3 hgrow3))
        have hT := mem_take_succ cs j c HC.out
        rw [hT] at hown3
        have HALL2 : ∀ c', c' ∈ cs.take (j + 1) → hasB p k c' = true := by
          intro c' hc'
          rw [List.take_add_one, HC.out] at hc'
          simp only [Option.toList_some, List.mem_append, List.mem_singleton] at hc'
          rcases hc' with h | rfl
          · exact HALL.out c' h
          · exact HH.out
        have HA2 := Lib.hid HALL2; have HOWN := Lib.hid hown3; have HB2 := Lib.hid hb2; have HG := Lib.hid hgrow3
        clear hT hown3 HALL2 hb2 hgrow3 m2
        go_roundw
        case rel => exact ⟨j + 1, by omega, by go_num, HA2.out, (BV.out.kept (grown_of_below HB2.out) (by simp)).kept HG.out (by simp; omega), (BB.out.kept (grown_of_below HB2.out) (by simp)).kept HG.out (by simp), HOWN.out, (HB.out.trans (HB2.out.mono hbs)).grown HG.out (by have := HB2.out.size; omega) (fun k e => by cases e; omega)⟩
        case measure => simp [intOf]; omega
      · have hh' : hasB p k c = false := by simpa using hh
        have hs : sheetsL p k cs = ([], 5) := by
          unfold sheetsL
          rw [if_pos H0.out, if_neg (fun h => hh (List.all_eq_true.1 h c (List.mem_of_getElem? HC.out)))]
        have HS := Lib.hid hs; have HH := Lib.hid hh'
        clear hs hh hh'
        go_wp2_with (first | (go_at_call 40; refine (vhas_any p k c _ hp1 hp2 hk1 hk2).mono ?_; rintro e w2 ⟨rfl, hb2⟩; rw [HH.out]))
        exact ⟨_, results_tmp2 (t := 6) (u := 7) rfl _ _ _, _, by rw [HS.out]; rfl, by rw [HS.out]; exact World.ownsRow_nil _ _ _ _, HB.out.trans (hb2.mono hbs)⟩
    · have hjl : j = cs.length := by omega
      have hs : sheetsL p k cs = (selL p k cs, 0) := by
        unfold sheetsL
        rw [if_pos H0.out, if_pos (List.all_eq_true.2 (fun c hc => hall c (by rw [hjl, List.take_length]; exact hc)))]
      have hbM' : OwnM wr bm cs.length (fun y => decide (y ∈ cs)) := by rw [hjl, List.take_length] at bM; exact bM
      have HS := Lib.hid hs; have BM2 := Lib.hid hbM'; have HJL := Lib.hid hjl
      clear hs hall bV bB bM hB hbM' hjl BM
      obtain ⟨wl, rfl⟩ : ∃ wl : World, wl = wr := ⟨_, rfl⟩
      have r0 := fun o => cell_al o v0
      have r1 := fun o => cell_al o v1
      have r2 := fun o o' => cell_al o' (cell_al o v0)
      have r3 := fun o o' => cell_al o' (cell_al o v1)
      go_wp2_with (first | (go_at_call 38; refine (sheets_any p k _).mono ?_; rintro e w2 ⟨rfl, rfl⟩))
      have hB0 : Below w.heap.size w (((wl.alloc (.cells #[.slice none 0 0] 28)).alloc (.cells #[.int .i64 0] 3)).alloc (.cells #[.int .i64 p, .int .i64 k] 66)) := ((HB.out.alloc hbs _).alloc (by simp; omega) _).alloc (by simp; omega) _
      have bO := ((Boxed.new wl 28 (.slice none 0 0)).alloc (.cells #[.int .i64 0] 3)).alloc (.cells #[.int .i64 p, .int .i64 k] 66)
      have bK := (Boxed.new (wl.alloc (.cells #[.slice none 0 0] 28)) 3 (.int .i64 0)).alloc (.cells #[.int .i64 p, .int .i64 k] 66)
      have bN := Boxs.new ((wl.alloc (.cells #[.slice none 0 0] 28)).alloc (.cells #[.int .i64 0] 3)) 66 #[.int .i64 p, .int .i64 k]
      simp only [World.size_alloc] at bK bN
      have bB := ((BB.out.alloc (.cells #[.slice none 0 0] 28)).alloc (.cells #[.int .i64 0] 3)).alloc (.cells #[.int .i64 p, .int .i64 k] 66)
      have bM := ((BM2.out.kept (World.grownBy_alloc _ (.cells #[.slice none 0 0] 28) none) (by simp)).kept (World.grownBy_alloc _ (.cells #[.int .i64 0] 3) none) (by simp)).kept (World.grownBy_alloc _ (.cells #[.int .i64 p, .int .i64 k] 66) none) (by simp)
      have hsz : (((wl.alloc (.cells #[.slice none 0 0] 28)).alloc (.cells #[.int .i64 0] 3)).alloc (.cells #[.int .i64 p, .int .i64 k] 66)).heap.size = wl.heap.size + 3 := by simp
      have hbl := BB.out.lt
      obtain ⟨W0, hW0⟩ : ∃ W0, ((wl.alloc (.cells #[.slice none 0 0] 28)).alloc (.cells #[.int .i64 0] 3)).alloc (.cells #[.int .i64 p, .int .i64 k] 66) = W0 := ⟨_, rfl⟩
      rw [hW0] at bO bK bN bB bM hB0 hsz ⊢
      clear hW0 r0 r1 r2 r3 v0 v1 m0
      have hNl := items_len p k hp1 hp2 hk1 hk2
      have hseq := sheets1_gen (α := Lf) (fun x => x.1) 8 (by omega) (wl.heap.size + 2) p k (Lf_mk p k hp1 hp2 hk1 hk2) hp1 hp2 hk1 hk2 W0 (by omega) (bN.cell 0) (bN.cell 1)
      refine (wpIn_wide (n := 9)).1 ?_
      refine wpIn_rangeFunc_ownH rfl (by omega) (gf := 46) (lb := #[.pointer (some ⟨wl.heap.size + 2, 0, none⟩)]) rfl trivial (enters_of Try.func46 (by kernel_rfl) rfl)
        hseq (fun h1 h2 => h1.trans h2) (keepB_b (w := W0) (by omega)) (Below.refl _ _) (fun _ => rfl)
        (fun (pre : List Lf) W => (∃ v, Boxed W wl.heap.size 28 v ∧ W.ownsRow (wl.heap.size + 3) 3 1 v (selP cs pre).2.1.length (ints (selP cs pre).2.1) ∧ True) ∧ (Boxed W (wl.heap.size + 1) 3 (.int .i64 ((selP cs pre).2.2 : Int)) ∧ (OwnM W bm cs.length (selP cs pre).1 ∧ (Boxed W (bm + 1) 80 (.map (some bm)) ∧ (Boxs W (wl.heap.size + 2) 66 #[.int .i64 p, .int .i64 k] ∧ Below w.heap.size w W)))))
        (fun _ _ _ => False)
        (OwnFrom.and (Own.from (holdsRow_own (wl.heap.size + 3) wl.heap.size 28 3 1 (fun pre : List Lf => (selP cs pre).2.1.length) (fun pre => ints (selP cs pre).2.1) (fun _ _ => True)) _) (OwnFrom.and (Own.from (boxed_own _ _ _) _) (OwnFrom.and (fun _ X Y row hs hg hr => hs.kept hg (fun e => by have := (hr _ e.symm).1; omega)) (OwnFrom.and (Own.from (boxed_own _ _ _) _) (OwnFrom.and (Own.from (boxs_own _ _ _) _) (ownFrom_below (Nat.le_refl _) (by omega)))))))
        (fun _ _ _ _ _ hs _ _ => hs)
        ⟨⟨_, bO, World.ownsRow_nil _ _ _ _, trivial⟩, bK, bM, bB, bN, hB0⟩
        (fun x a' W => ∃ Bx, wl.heap.size + 3 ≤ Bx ∧ Boxs W Bx 72 #[.int .i64 x.1.1.1, .int .i64 x.1.1.2] ∧ a' = { tmps := #[.int .i64 p, .int .i64 k, .slice a1 cs.length c1, undef, undef, undef, u6, u7, .pointer (some ⟨w.heap.size, 0, none⟩), .int .i64 0, .pointer (some ⟨bm + 1, 0, none⟩), undef, u12, .pointer (some ⟨wl.heap.size, 0, none⟩), .pointer (some ⟨wl.heap.size + 1, 0, none⟩), .pointer (some ⟨Bx, 0, none⟩), .int .i64 p, .int .i64 k, .agg #[.int .i64 p, .int .i64 k], .agg #[.int .i64 p, .int .i64 k], .int .i64 0, .int .i64 0, .bool false, undef, .map (some bm), .slice a1 cs.length c1, .int .i64 cs.length, .int .i64 j, .bool false, u29, u30, u31, u32, u33, u34, u35, u36, u37, .agg #[.int .i64 p, .int .i64 k], .func (.func 46) #[] #[.pointer (some ⟨wl.heap.size + 2, 0, none⟩)], .agg #[.int .i64 x.1.1.1, .int .i64 x.1.1.2], .agg #[.int .i64 x.1.2.q, .int .i64 x.1.2.f0, .int .i64 x.1.2.f1, .int .i64 x.1.2.b0, .int .i64 x.1.2.b1], undef, undef, undef, undef, undef, undef, undef, undef, undef, undef, undef, undef, undef, undef, undef, undef, undef, undef, undef, undef, undef, undef, undef], defers := [] }) ?hAx ?assign ?body ?done ?stop
      case hAx =>
        rintro x a' _ X Y row ⟨Bx, g1, g2, g3⟩ hg hr
        exact ⟨Bx, g1, boxs_own Bx 72 (fun _ : Unit => #[.int .i64 x.1.1.1, .int .i64 x.1.1.2]) () X Y row g2 hg (fun r e => (hr r e).2), g3⟩
      case assign =>
        rintro l pre x W K ⟨⟨v, hv, hrow, _⟩, hK0, hM, hB1, hN, hB⟩ hK
        simp only [itEnc]
        gi_wp2
        exact hK _ _ ((KeepsOthers.alloc _ _).from _) (keepB_boxs hN (hN.alloc _) (by simp)) ⟨⟨v, hv.alloc _, hrow.alloc _, trivial⟩, hK0.alloc _, hM.kept (World.grownBy_alloc _ _ none) (by simp), hB1.alloc _, hN.alloc _, hB.alloc hB.size _⟩ ⟨W.heap.size, by have := hN.lt; omega, Boxs.new W 72 _, rfl⟩
      case body =>
        rintro l pre x a' W hl ⟨r, hr⟩ ⟨⟨v, hv, hrow, _⟩, bK, bM, bB, hN, hB⟩ ⟨Bx, hBx, bX, rfl⟩ hlt
        have hbmW0 : bm + 1 < wl.heap.size := hbl
        have hle : w.heap.size ≤ wl.heap.size := by have := HB.out.size; omega
        have hNW := hN.lt
        have hcnt := selP_cnt cs pre
        have hlen := selP_len cs pre
        have hst := selP_snoc cs pre x
        have HST := Lib.hid hst
        obtain ⟨rx1, rx2, rx3, rx4⟩ := x.2
        have hBs := hB.size
        clear hst hseq bN bO hB0
        generalize hS : (selP cs pre).1 = S at *
        generalize hL : (selP cs pre).2.1 = L at *
        generalize hNN : (selP cs pre).2.2 = N at *
        have HS1 := Lib.hid hS; have HL1 := Lib.hid hL; have HN1 := Lib.hid hNN
        have hNle : N ≤ 600 := by omega
        have hLle : L.length ≤ 600 := by omega
        clear hS hL hNN hcnt hlen
        have hc := hv.cell
        have kc := bK.cell
        have kf := bK.frozen
        have mc := bB.cell
        have x0 : W.cell? ⟨Bx, 0, none⟩ = some (.int .i64 x.1.1.1) := bX.cell 0
        have x1 : W.cell? ⟨Bx, 1, none⟩ = some (.int .i64 x.1.1.2) := bX.cell 1
        by_cases hA : S x.1.1.1 = true
        · have hl1 : (Instr.lookup 80 (.map (some bm)) (.int .i64 x.1.1.1) false).run Try.prog W = .ok (.bool true) W := by rw [← hA]; exact bM.look (by omega)
          have hstep : selStep (S, L, N) x.1 = (fun y => !(y == x.1.1.2) && (!(y == x.1.1.1) && S y), L ++ [(N : Int)], N + 1) := by unfold selStep; rw [if_pos (by simp [hA])]
          have HSTEP := Lib.hid hstep
          clear hA hstep
          gi_wp2_with (first | (gi_at_delete; refine wpMIn_del _ rfl _ _ rfl bm cs.length _ rfl bM3 x.1.1.2 rfl (by omega) ?_; intro w4 bM4 hg4; have bB4 := bB3.kept hg4 (by simp); have bK4 := bK3.kept hg4 (by simp; omega); have c40 := bK4.cell; have c41 := bK4.frozen) | (gi_at_delete; refine wpMIn_del _ rfl _ _ rfl bm cs.length _ rfl bM2 x.1.1.1 rfl (by omega) ?_; intro w3 bM3 hg3; have bX3 := bX2.kept hg3 (by simp; omega); have bB3 := bB2.kept hg3 (by simp); have bK3 := bK2.kept hg3 (by simp; omega); have c30 : w3.cell? ⟨Bx, 1, none⟩ = some (.int .i64 x.1.1.2) := bX3.cell 1; have c31 := bB3.cell) | (gi_at_builtin; refine wpListIn_append_own _ rfl _ _ 28 rfl (wl.heap.size + 3) 3 i0 _ 1 8 Try.underlying28 HI.out HZ0.out HZ1.out HZ2.out rfl (by decide) _ _ _ rfl (hrow.alloc _) ⟨W.heap.size, 0, none⟩ 1 1 [.int .i64 (N : Int)] rfl rfl (cell_one_new _ _ _) (by simp [Value.oneCell']) (by unfold maxLen; omega) (by omega) (by simp; omega) ?_; intro v' w1' hown' hgrow _; obtain ⟨g', cap', rfl⟩ := ownsRow_succ hown'; obtain ⟨hv1, hv2, _, hk2, hb2⟩ := hv.appended (by decide) (base_mono hrow (by omega)) hBs hle (base_mono hown' (by omega)) hgrow; have hc1 := hv1.cell; have hf1 := hv1.frozen; have hoth := other_blocks (Bo := wl.heap.size) (v' := .slice (some ⟨g', 0, none⟩) (L.length + 1) cap') hrow hgrow; have bX2 := bX.appended (v' := .slice (some ⟨g', 0, none⟩) (L.length + 1) cap') (by decide) (show Bx ≠ wl.heap.size by omega) hrow hgrow; have bB2 := boxed_same (hoth (bm + 1) (by omega) (by omega) (by omega)) bB; have bK2 := boxed_same (hoth (wl.heap.size + 1) (by omega) (by omega) (by omega)) bK; have bM2 := bM.same (hoth bm (by omega) (by omega) (by omega)); have c20 := bX2.cell 0; have c21 := bX2.cell 1; have c22 := bB2.cell))
          have hN2 := fun v' => hN.appended (v' := v') (by decide) (show wl.heap.size + 2 ≠ wl.heap.size by omega) hrow hgrow
          have hr2 := hown'.kept (grownBy_setCell' w1' wl.heap.size (.slice (some ⟨g', 0, none⟩) (L.length + 1) cap')) (.inr (own_ne hown' (show wl.heap.size < wl.heap.size + 3 by omega)))
          have hr3 := hr2.kept hg3 (.inr (own_ne hr2 (show bm < wl.heap.size + 3 by omega)))
          have hr4 := hr3.kept hg4 (.inr (own_ne hr3 (show bm < wl.heap.size + 3 by omega)))
          have hr5 := hr4.kept (grownBy_setCell' w4 (wl.heap.size + 1) (.int .i64 ((N : Int) + 1))) (.inr (own_ne hr4 (show wl.heap.size + 1 < wl.heap.size + 3 by omega)))
          have hN5 := (((hN2 _).kept hg3 (by simp; omega)).kept hg4 (by simp; omega)).setOther (show wl.heap.size + 2 ≠ wl.heap.size + 1 by omega) (.int .i64 ((N : Int) + 1))
          have hv5 := ((hv2.kept hg3 (by simp; omega)).kept hg4 (by simp; omega)).other (show wl.heap.size ≠ wl.heap.size + 1 by omega) (.int .i64 ((N : Int) + 1))
          have hB5 := bB4.other (show bm + 1 ≠ wl.heap.size + 1 by omega) (.int .i64 ((N : Int) + 1))
          have hK5 := bK4.set (.int .i64 ((N : Int) + 1))
          have hM5 := bM4.kept (grownBy_setCell' w4 (wl.heap.size + 1) (.int .i64 ((N : Int) + 1))) (by simp; omega)
          have hb5 := ((hb2.grown hg3 (by have := hb2.size; omega) (fun k e => by cases e; omega)).grown hg4 (by have := hb2.size; have := hg3.size; omega) (fun k e => by cases e; omega)).setCell (p := ⟨wl.heap.size + 1, 0, none⟩) (by show _ ≤ wl.heap.size + 1; omega) (.int .i64 ((N : Int) + 1))
          refine ⟨(((hk2.from _).trans (KeepsFrom.of_grownBy hg3 (fun j e => by cases e; omega))).trans (KeepsFrom.of_grownBy hg4 (fun j e => by cases e; omega))).trans ((KeepsOthers.setCell _ _ _).from _), keepB_boxs hN hN5 hb5.size, ?_⟩
          dsimp only
          rw [HST.out, HSTEP.out]
          exact ⟨⟨_, hv5, by simpa [ints] using hr5, trivial⟩, hK5, hM5, hB5, hN5, hB.trans hb5⟩
        · have hA' : S x.1.1.1 = false := by simpa using hA
          have hl1 : (Instr.lookup 80 (.map (some bm)) (.int .i64 x.1.1.1) false).run Try.prog W = .ok (.bool false) W := by have h := bM.look (a := x.1.1.1) (by omega); rw [hA'] at h; exact h
          by_cases hB2 : S x.1.1.2 = true
          · have hl2 : (Instr.lookup 80 (.map (some bm)) (.int .i64 x.1.1.2) false).run Try.prog W = .ok (.bool true) W := by rw [← hB2]; exact bM.look (by omega)
            have hstep : selStep (S, L, N) x.1 = (fun y => !(y == x.1.1.2) && (!(y == x.1.1.1) && S y), L ++ [(N : Int)], N + 1) := by unfold selStep; rw [if_pos (by simp [hB2])]
            have HSTEP := Lib.hid hstep
            clear hA hA' hB2 hstep
            gi_wp2_with (first | (gi_at_delete; refine wpMIn_del _ rfl _ _ rfl bm cs.length _ rfl bM3 x.1.1.2 rfl (by omega) ?_; intro w4 bM4 hg4; have bB4 := bB3.kept hg4 (by simp); have bK4 := bK3.kept hg4 (by simp; omega); have c40 := bK4.cell; have c41 := bK4.frozen) | (gi_at_delete; refine wpMIn_del _ rfl _ _ rfl bm cs.length _ rfl bM2 x.1.1.1 rfl (by omega) ?_; intro w3 bM3 hg3; have bX3 := bX2.kept hg3 (by simp; omega); have bB3 := bB2.kept hg3 (by simp); have bK3 := bK2.kept hg3 (by simp; omega); have c30 : w3.cell? ⟨Bx, 1, none⟩ = some (.int .i64 x.1.1.2) := bX3.cell 1; have c31 := bB3.cell) | (gi_at_builtin; refine wpListIn_append_own _ rfl _ _ 28 rfl (wl.heap.size + 3) 3 i0 _ 1 8 Try.underlying28 HI.out HZ0.out HZ1.out HZ2.out rfl (by decide) _ _ _ rfl (hrow.alloc _) ⟨W.heap.size, 0, none⟩ 1 1 [.int .i64 (N : Int)] rfl rfl (cell_one_new _ _ _) (by simp [Value.oneCell']) (by unfold maxLen; omega) (by omega) (by simp; omega) ?_; intro v' w1' hown' hgrow _; obtain ⟨g', cap', rfl⟩ := ownsRow_succ hown'; obtain ⟨hv1, hv2, _, hk2, hb2⟩ := hv.appended (by decide) (base_mono hrow (by omega)) hBs hle (base_mono hown' (by omega)) hgrow; have hc1 := hv1.cell; have hf1 := hv1.frozen; have hoth := other_blocks (Bo := wl.heap.size) (v' := .slice (some ⟨g', 0, none⟩) (L.length + 1) cap') hrow hgrow; have bX2 := bX.appended (v' := .slice (some ⟨g', 0, none⟩) (L.length + 1) cap') (by decide) (show Bx ≠ wl.heap.size by omega) hrow hgrow; have bB2 := boxed_same (hoth (bm + 1) (by omega) (by omega) (by omega)) bB; have bK2 := boxed_same (hoth (wl.heap.size + 1) (by omega) (by omega) (by omega)) bK; have bM2 := bM.same (hoth bm (by omega) (by omega) (by omega)); have c20 := bX2.cell 0; have c21 := bX2.cell 1; have c22 := bB2.cell))
            have hN2 := fun v' => hN.appended (v' := v') (by decide) (show wl.heap.size + 2 ≠ wl.heap.size by omega) hrow hgrow
            have hr2 := hown'.kept (grownBy_setCell' w1' wl.heap.size (.slice (some ⟨g', 0, none⟩) (L.length + 1) cap')) (.inr (own_ne hown' (show wl.heap.size < wl.heap.size + 3 by omega)))
            have hr3 := hr2.kept hg3 (.inr (own_ne hr2 (show bm < wl.heap.size + 3 by omega)))
            have hr4 := hr3.kept hg4 (.inr (own_ne hr3 (show bm < wl.heap.size + 3 by omega)))
            have hr5 := hr4.kept (grownBy_setCell' w4 (wl.heap.size + 1) (.int .i64 ((N : Int) + 1))) (.inr (own_ne hr4 (show wl.heap.size + 1 < wl.heap.size + 3 by omega)))
            have hN5 := (((hN2 _).kept hg3 (by simp; omega)).kept hg4 (by simp; omega)).setOther (show wl.heap.size + 2 ≠ wl.heap.size + 1 by omega) (.int .i64 ((N : Int) + 1))
            have hv5 := ((hv2.kept hg3 (by simp; omega)).kept hg4 (by simp; omega)).other (show wl.heap.size ≠ wl.heap.size + 1 by omega) (.int .i64 ((N : Int) + 1))
            have hB5 := bB4.other (show bm + 1 ≠ wl.heap.size + 1 by omega) (.int .i64 ((N : Int) + 1))
            have hK5 := bK4.set (.int .i64 ((N : Int) + 1))
            have hM5 := bM4.kept (grownBy_setCell' w4 (wl.heap.size + 1) (.int .i64 ((N : Int) + 1))) (by simp; omega)
            have hb5 := ((hb2.grown hg3 (by have := hb2.size; omega) (fun k e => by cases e; omega)).grown hg4 (by have := hb2.size; have := hg3.size; omega) (fun k e => by cases e; omega)).setCell (p := ⟨wl.heap.size + 1, 0, none⟩) (by show _ ≤ wl.heap.size + 1; omega) (.int .i64 ((N : Int) + 1))
            refine ⟨(((hk2.from _).trans (KeepsFrom.of_grownBy hg3 (fun j e => by cases e; omega))).trans (KeepsFrom.of_grownBy hg4 (fun j e => by cases e; omega))).trans ((KeepsOthers.setCell _ _ _).from _), keepB_boxs hN hN5 hb5.size, ?_⟩
            dsimp only
            rw [HST.out, HSTEP.out]
            exact ⟨⟨_, hv5, by simpa [ints] using hr5, trivial⟩, hK5, hM5, hB5, hN5, hB.trans hb5⟩
          · have hB2' : S x.1.1.2 = false := by simpa using hB2
            have hl2 : (Instr.lookup 80 (.map (some bm)) (.int .i64 x.1.1.2) false).run Try.prog W = .ok (.bool false) W := by have h := bM.look (a := x.1.1.2) (by omega); rw [hB2'] at h; exact h
            have hstep : selStep (S, L, N) x.1 = (S, L, N + 1) := by unfold selStep; rw [if_neg (by simp [hA', hB2'])]
            have HSTEP := Lib.hid hstep
            clear hA hA' hB2 hB2' hstep
            gi_wp2
            have hN5 := hN.setOther (show wl.heap.size + 2 ≠ wl.heap.size + 1 by omega) (.int .i64 ((N : Int) + 1))
            have hb5 := (Below.refl w.heap.size W).setCell (p := ⟨wl.heap.size + 1, 0, none⟩) (by show _ ≤ wl.heap.size + 1; omega) (.int .i64 ((N : Int) + 1))
            refine ⟨(KeepsOthers.setCell _ _ _).from _, keepB_boxs hN hN5 hb5.size, ?_⟩
            dsimp only
            rw [HST.out, HSTEP.out]
            exact ⟨⟨_, hv.other (show wl.heap.size ≠ wl.heap.size + 1 by omega) _, hrow.kept (grownBy_setCell' W (wl.heap.size + 1) _) (.inr (own_ne hrow (show wl.heap.size + 1 < wl.heap.size + 3 by omega))), trivial⟩, bK.set _, bM.kept (grownBy_setCell' W (wl.heap.size + 1) _) (by simp; omega), bB.other (show bm + 1 ≠ wl.heap.size + 1 by omega) _, hN5, hB.trans hb5⟩
      case done =>
        rintro D ys W hD hys ⟨⟨v, hv, hrow, _⟩, hK0, hM, hB1, hN, hB⟩ hK
        have hc := hv.cell
        have hfin : (selP cs ys).2.1 = selL p k cs := by unfold selP; rw [hys]; exact sel_items p k cs hk1
        rw [hfin] at hrow
        have HROW := Lib.hid hrow
        clear hrow hfin hys hM hseq
        go_wp2
        refine ⟨by simp, .inl ⟨_, _, rfl, run_takeDeferred hK, ?_⟩⟩
        refine ⟨_, results_tmp2 (t := 6) (u := 7) rfl _ _ _, v, by rw [HS.out]; rfl, ?_, hB.trans (belowK_b (w := w) (Nat.le_refl _) W D _ _ (by have := hB0.size; omega) hK rfl rfl)⟩
        rw [HS.out]
        exact ownsRow_putObj (base_mono HROW.out (by have := HB.out.size; omega)) _ hK rfl
      case stop =>
        rintro D c pre W _ _ h _
        exact h.elim
end Go.Proofs.Ythldekpbjfhmcaa
