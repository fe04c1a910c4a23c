/- The trees of the law (28): six trees, none of them great. -/
import Derived.Test.YtmkkegigajmhkaaN33
import Derived.Test.YtmkkegigajmhkaaN06
set_option linter.unusedVariables false
namespace Go.Proofs.Ytmkkegigajmhkaa
open Go.RowKit Go.Maps

/-- the worlds that give each of some answers are not more than all -/
theorem sum_split (f : Nat → Int) (G : List Int) (hG : G.Nodup) : ∀ ws : List Nat, (G.map fun a => (ws.filter fun i => decide (f i = a)).length).sum ≤ ws.length
  | [] => by
    have : ∀ G : List Int, (G.map fun _ => 0).sum = 0 := fun G => by induction G with | nil => rfl | cons a r ih => simpa using ih
    simp [this]
  | i :: r => by
    have ih := sum_split f G hG r
    have key : ∀ G : List Int, G.Nodup → (G.map fun a => ((i :: r).filter fun i => decide (f i = a)).length).sum ≤ (G.map fun a => (r.filter fun i => decide (f i = a)).length).sum + (if f i ∈ G then 1 else 0) := by
      intro G hG
      induction G with
      | nil => simp
      | cons a s ihs =>
        rw [List.nodup_cons] at hG
        have h1 := ihs hG.2
        rw [List.map_cons, List.map_cons, List.sum_cons, List.sum_cons, List.filter_cons]
        by_cases e : f i = a
        · rw [if_neg (by rw [e]; exact hG.1)] at h1
          rw [if_pos (by simpa using e), if_pos (by rw [e]; simp), List.length_cons]; omega
        · rw [if_neg (by simpa using e)]
          by_cases hm : f i ∈ s
          · rw [if_pos hm] at h1; rw [if_pos (by simp [hm])]; omega
          · rw [if_neg hm] at h1; rw [if_neg (by simp [hm, e])]; omega
    have := key G hG
    rw [List.length_cons]
    split at this <;> omega
theorem given_nodup (T : Tb) (ws : List Nat) (k : Nat) : (given T ws k).Nodup := (given_sorted T ws k).imp fun h => by omega
theorem szTs_map {f : Int → Tr} {g : Int → Nat} : ∀ G : List Int, (∀ a, a ∈ G → szT (f a) + 8 ≤ 12 * g a) → szTs (G.map f) + 8 * G.length ≤ 12 * (G.map g).sum
  | [], _ => by simp [szTs]
  | a :: r, h => by
    rw [List.map_cons, szTs, List.length_cons, List.map_cons, List.sum_cons]
    have := h a (by simp); have := szTs_map (f := f) (g := g) r fun x hx => h x (by simp [hx]); omega
theorem wdTs_map {α : Type} (f : α → Tr) (n : Nat) : ∀ l : List α, (∀ x, x ∈ l → wdT (f x) ≤ n) → wdTs (l.map f) ≤ n
  | [], _ => by simp [wdTs]
  | a :: r, h => by
    rw [List.map_cons, wdTs]
    have := h a (by simp); have := wdTs_map f n r fun x hx => h x (by simp [hx]); omega
theorem treeF_wd (choose : List Nat → Int) (T : Tb) : ∀ (n : Nat) (ws : List Nat), wdT (treeF choose T n ws) ≤ ws.length
  | 0, ws => by simp [treeF, wdT]
  | n + 1, ws => by
    unfold treeF
    split
    · simp [wdT, wdTs]
    · have hg := given_len T ws (choose ws).toNat
      have := wdTs_map (fun a => treeF choose T n (withW T ws (choose ws).toNat a)) ws.length (given T ws (choose ws).toNat) fun a _ => Nat.le_trans (treeF_wd choose T n _) (withW_le T ws _ a)
      rw [wdT, List.length_map]; omega
theorem treeF_sz {choose : List Nat → Int} {T : Tb} (hc : ChooseOk choose T) : ∀ (n : Nat) (ws : List Nat), WsOk T ws → ws ≠ [] → ws.length ≤ n → szT (treeF choose T n ws) + 8 ≤ 12 * ws.length
  | 0, ws, _, hne, hl => absurd (List.length_eq_zero_iff.1 (by omega)) hne
  | n + 1, ws, hok, hne, hl => by
    have h1 : 1 ≤ ws.length := List.length_pos_iff.2 hne
    unfold treeF
    split
    · simp only [szT, szTs, List.length_nil]; omega
    · rename_i hs
      obtain ⟨k, hk, _, h2⟩ := hc ws hok (by simpa using hs)
      rw [hk, Int.toNat_natCast]
      have h3 := szTs_map (f := fun a => treeF choose T n (withW T ws k a)) (g := fun a => (withW T ws k a).length) (given T ws k) fun a ha => treeF_sz hc n _ (withW_ok hok k a) (withW_ne ha) (by have := withW_lt (a := a) h2; omega)
      have h4 : ((given T ws k).map fun a => (withW T ws k a).length).sum ≤ ws.length := sum_split (fun i => ansAt T i k) (given T ws k) (given_nodup T ws k) ws
      rw [szT, List.length_map]; omega
/-- none of them is great -/
structure TrOk (d s w : Nat) (t : Tr) : Prop where
  d : depT t ≤ d
  s : szT t ≤ s
  w : wdT t ≤ w
theorem TrOk.nil : TrOk 7 76 7 .nil := ⟨by simp [depT], by simp [szT], by simp [wdT]⟩
theorem TrOk.bent {d s w : Nat} {t t' : Tr} (h : TrOk d s w t) (hb : BentOk t t') : TrOk (d + 1) (3 * s + 20) (w + 3) t' := ⟨by have := h.d; have := hb.d; omega, by have := h.s; have := hb.s; omega, by have := h.w; have := hb.w; omega⟩
theorem TrOk.le {d s w d' s' w' : Nat} {t : Tr} (h : TrOk d s w t) (h1 : d ≤ d') (h2 : s ≤ s') (h3 : w ≤ w') : TrOk d' s' w' t := ⟨Nat.le_trans h.d h1, Nat.le_trans h.s h2, Nat.le_trans h.w h3⟩
theorem treeF_ok {choose : List Nat → Int} {T : Tb} (hc : ChooseOk choose T) (h1 : 1 ≤ T.rows.length) (h7 : T.rows.length ≤ 7) : TrOk 7 76 7 (treeF choose T T.rows.length (allW T)) := by
  have hl := allW_len T
  refine ⟨Nat.le_trans (treeF_dep _ _ _ _) h7, ?_, Nat.le_trans (treeF_wd _ _ _ _) (by omega)⟩
  have := treeF_sz hc T.rows.length (allW T) (allW_ok T) (fun e => by rw [e] at hl; simp at hl; omega) (by omega)
  omega
theorem bestTr_ok {T : Tb} (h7 : T.rows.length ≤ 7) : TrOk 7 76 7 (bestTr T) := by
  unfold bestTr
  split
  · rename_i h
    unfold bestErr at h
    split at h
    · rename_i h2; exact absurd h h2
    · rename_i h2
      obtain ⟨ho, hn⟩ := exE_ok (show exE T = 0 by omega)
      exact treeF_ok (best_choose ho hn) ho.r1 h7
  · exact .nil
theorem greTr_ok {T : Tb} (h7 : T.rows.length ≤ 7) : TrOk 7 76 7 (greTr T) := by
  unfold greTr
  split
  · rename_i h
    obtain ⟨ho, hn⟩ := exE_ok h
    exact treeF_ok (greedy_choose ho hn) ho.r1 h7
  · exact .nil
theorem madeT_rows (l : List Int) : (madeT l).rows.length ≤ 7 := by
  have := nW_bd l
  unfold madeT
  rw [lsF_len]; omega
theorem wtTs_map {f : Int → Tr} {g : Int → Nat} : ∀ G : List Int, (∀ a, a ∈ G → wtT (f a) + 4 ≤ 6 * g a ∧ innT (f a) + 1 ≤ g a ∧ brT (f a)) → wtTs (G.map f) + 4 * G.length ≤ 6 * (G.map g).sum ∧ innTs (G.map f) + G.length ≤ (G.map g).sum ∧ brTs (G.map f)
  | [], _ => by simp [wtTs, innTs, brTs]
  | a :: r, h => by
    rw [List.map_cons, wtTs, innTs, brTs, List.length_cons, List.map_cons, List.sum_cons]
    obtain ⟨h1, h2, h3⟩ := h a (by simp)
    obtain ⟨h4, h5, h6⟩ := wtTs_map (f := f) (g := g) r fun x hx => h x (by simp [hx])
    exact ⟨by omega, by omega, h3, h6⟩
theorem treeF_gd {choose : List Nat → Int} {T : Tb} (hc : ChooseOk choose T) : ∀ (n : Nat) (ws : List Nat), WsOk T ws → ws ≠ [] → ws.length ≤ n → wtT (treeF choose T n ws) + 4 ≤ 6 * ws.length ∧ innT (treeF choose T n ws) + 1 ≤ ws.length ∧ brT (treeF choose T n ws)
  | 0, ws, _, hne, hl => absurd (List.length_eq_zero_iff.1 (by omega)) hne
  | n + 1, ws, hok, hne, hl => by
    have h1 : 1 ≤ ws.length := List.length_pos_iff.2 hne
    unfold treeF
    split
    · simp only [wtT, wtTs, innT, innTs, brT, brTs, List.length_nil]
      refine ⟨by omega, ?_, .inl (by omega), trivial⟩
      simp; omega
    · rename_i hs
      obtain ⟨k, hk, _, h2⟩ := hc ws hok (by simpa using hs)
      rw [hk, Int.toNat_natCast]
      obtain ⟨h3, h5, h6⟩ := wtTs_map (f := fun a => treeF choose T n (withW T ws k a)) (g := fun a => (withW T ws k a).length) (given T ws k) fun a ha => treeF_gd hc n _ (withW_ok hok k a) (withW_ne ha) (by have := withW_lt (a := a) h2; omega)
      have h4 : ((given T ws k).map fun a => (withW T ws k a).length).sum ≤ ws.length := sum_split (fun i => ansAt T i k) (given T ws k) (given_nodup T ws k) ws
      rw [wtT, innT, brT, if_neg (by omega), List.length_map]
      exact ⟨by omega, by omega, .inr (by omega), h6⟩
theorem treeF_good {choose : List Nat → Int} {T : Tb} (hc : ChooseOk choose T) (h1 : 1 ≤ T.rows.length) (h7 : T.rows.length ≤ 7) : Good (treeF choose T T.rows.length (allW T)) := by
  have hl := allW_len T
  obtain ⟨h2, h3, h4⟩ := treeF_gd hc T.rows.length (allW T) (allW_ok T) (fun e => by rw [e] at hl; simp at hl; omega) (by omega)
  exact ⟨by omega, by omega, h4⟩
theorem Good.nil : Good .nil := ⟨by simp [wtT], by simp [innT], by simp [brT]⟩
theorem bestTr_good {T : Tb} (h7 : T.rows.length ≤ 7) : Good (bestTr T) := by
  unfold bestTr
  split
  · rename_i h
    unfold bestErr at h
    split at h
    · rename_i h2; exact absurd h h2
    · rename_i h2
      obtain ⟨ho, hn⟩ := exE_ok (show exE T = 0 by omega)
      exact treeF_good (best_choose ho hn) ho.r1 h7
  · exact .nil
theorem greTr_good {T : Tb} (h7 : T.rows.length ≤ 7) : Good (greTr T) := by
  unfold greTr
  split
  · rename_i h
    obtain ⟨ho, hn⟩ := exE_ok h
    exact treeF_good (greedy_choose ho hn) ho.r1 h7
  · exact .nil
/-- one number of its code changed: no deep tree -/
def DpOk (t : Tr) : Prop := (codeT t).length ≤ 400 ∧ ∀ (p : Nat) (v : Int) (t' : Tr), isT t = true → isT t' = true → codeT t' = (codeT t).set p v → depT t' ≤ 80
theorem DpOk.wt {t : Tr} (h : wtT t ≤ 239) : DpOk t := ⟨by have := code_wt t; omega, fun p v t' ht ht' hc => by
  have h1 := dep_len ht'
  rw [hc, List.length_set] at h1
  have := code_wt t; omega⟩
theorem BentR.wt {t t' : Tr} (h : BentR t t') : wtT t' ≤ 3 * wtT t + 5 := by
  rcases h.two with h1 | ⟨w, b, h1⟩
  · omega
  · have := h1.wt; omega
theorem Good.dp {t : Tr} (h : Good t) : DpOk t := .wt (by have := h.wt; omega)
theorem Good.dp1 {t t1 : Tr} (h : Good t) (h1 : BentR t t1) : DpOk t1 := .wt (by have := h.wt; have := h1.wt; omega)
theorem Good.dp2 {t t1 t2 : Tr} (h : Good t) (h1 : BentR t t1) (h2 : BentR t1 t2) : DpOk t2 := ⟨by have := h.wt; have := h1.wt; have := h2.wt; have := code_wt t2; omega, fun _ _ _ ht ht' hc => bent_depth h h1 h2 ht ht' hc⟩
/-- what trees returns -/
def TreesOut (base : Nat) (e : Ending) (w' : World) : Prop := ∃ (B : Nat) (us : List Value) (ts : List Tr), e = .returned (.slice (some ⟨B, 0, none⟩) 6 6) ∧ Rd w' (.slice (some ⟨B, 0, none⟩) 6 6) us ∧ us.length = 6 ∧ Trees 105 (base ≤ ·) w' us ts ∧ ∀ t, t ∈ ts → TrOk 9 764 13 t ∧ DpOk t
set_option maxRecDepth 100000 in
set_option maxHeartbeats 8000000 in
theorem trees_any (va vc vk vm : Value) (T : Tb) (ms : List Int) (how by_ : Int) (w : World) (h : TbR w va vc vk T) (h7 : T.rows.length ≤ 7) (hm : RdI w vm ms) (im : inI ms)
    (hh1 : -9223372036854775808 ≤ how) (hh2 : how ≤ 9223372036854775807) (hb1 : -9223372036854775808 ≤ by_) (hb2 : by_ ≤ 9223372036854775807) :
    Calls Try.prog 28 #[.agg #[va, vc, vk], vm, .int .i64 how, .int .i64 by_] w fun e w' => TreesOut w.heap.size e w' ∧ Below w.heap.size w w' := by
  obtain ⟨aa, ca, rfl⟩ := h.rows.form
  obtain ⟨ac, cc, rfl⟩ := h.costs.form
  obtain ⟨ak, ck, rfl⟩ := h.cls.form
  obtain ⟨am, cm, rfl⟩ := hm.form
  obtain ⟨N, hN⟩ : ∃ N, w.heap.size = N := ⟨_, rfl⟩
  have hba := alloc_below w (.cells #[.slice aa T.rows.length ca, .slice ac T.costs.length cc, .slice ak T.cls.length ck] 25)
  have BX := Boxs.new w 25 #[.slice aa T.rows.length ca, .slice ac T.costs.length cc, .slice ak T.cls.length ck]
  have RB := rbestP_any _ _ _ T (w.alloc (.cells #[.slice aa T.rows.length ca, .slice ac T.costs.length cc, .slice ak T.cls.length ck] 25)) (h.below hba)
  have c0 := BX.cell 0; have c1 := BX.cell 1; have c2 := BX.cell 2
  simp only [List.getElem?_toArray, List.getElem?_cons_zero, List.getElem?_cons_succ] at c0 c1 c2
  have HB := Lib.hid hba
  have HM := Lib.hid (hm.below hba)
  have hok1 := bestTr_ok h7
  have hg1 := bestTr_good h7
  obtain ⟨t1, ht1⟩ : ∃ t, bestTr T = t := ⟨_, rfl⟩
  rw [ht1] at RB hok1 hg1
  have HO1 := Lib.hid hok1; have HG1 := Lib.hid hg1
  have hsz : N ≤ (w.alloc (.cells #[.slice aa T.rows.length ca, .slice ac T.costs.length cc, .slice ak T.cls.length ck] 25)).heap.size := by rw [World.size_alloc]; omega
  have HN := Lib.hid hN
  clear h hm hba BX ht1 hok1 hg1 h7 hN
  go_enter Try.func28, Try.ntmps28
  go_wp2_with fail
  clear c0 c1 c2
  generalize w.alloc (.cells #[.slice aa T.rows.length ca, .slice ac T.costs.length cc, .slice ak T.cls.length ck] 25) = w1 at *
  refine RB.mono ?_
  rintro e w2 ⟨⟨p1, rfl, hx⟩, hb⟩
  obtain ⟨q1, rfl⟩ := hx.form
  have H1 := Lib.hid (hx.le hsz)
  have HM := Lib.hid (HM.out.below hb)
  have HB := Lib.hid (HB.out.trans (hb.mono HB.out.size))
  have hsz := Nat.le_trans hsz hb.size
  have MK := made_any _ ms w2 HM.out im
  clear RB hx hb
  go_wp2_with fail
  refine MK.mono ?_
  rintro e w3 ⟨⟨va, vc, vk, us, rfl, hown⟩, hb⟩
  have PL := plain_any va vc vk (madeT ms) w3 hown.tb (made_ok ms)
  have H1 := Lib.hid (H1.out.under hb)
  have HB := Lib.hid (HB.out.trans (hb.mono HB.out.size))
  have hsz := Nat.le_trans hsz hb.size
  obtain ⟨aa1, ca1, rfl⟩ := hown.tb.rows.form
  obtain ⟨ac1, cc1, rfl⟩ := hown.tb.costs.form
  obtain ⟨ak1, ck1, rfl⟩ := hown.tb.cls.form
  clear MK hown hb HM
  go_wp2_with fail
  refine PL.mono ?_
  rintro e w4 ⟨⟨va, vc, vk, us, rfl, hown⟩, hb⟩
  have GR := rgreedyP_any va vc vk (plainT (madeT ms)) w4 hown.tb
  have H1 := Lib.hid (H1.out.under hb)
  have HB := Lib.hid (HB.out.trans (hb.mono HB.out.size))
  have hsz := Nat.le_trans hsz hb.size
  obtain ⟨aa2, ca2, rfl⟩ := hown.tb.rows.form
  obtain ⟨ac2, cc2, rfl⟩ := hown.tb.costs.form
  obtain ⟨ak2, ck2, rfl⟩ := hown.tb.cls.form
  have hok2 := greTr_ok (T := plainT (madeT ms)) (show (plainT (madeT ms)).rows.length ≤ 7 from madeT_rows ms)
  have hg2 := greTr_good (T := plainT (madeT ms)) (show (plainT (madeT ms)).rows.length ≤ 7 from madeT_rows ms)
  obtain ⟨t2, ht2⟩ : ∃ t, greTr (plainT (madeT ms)) = t := ⟨_, rfl⟩
  rw [ht2] at GR hok2 hg2
  have HO2 := Lib.hid hok2; have HG2 := Lib.hid hg2
  clear PL hown hb ht2 hok2 hg2
  go_wp2_with fail
  refine GR.mono ?_
  rintro e w5 ⟨⟨c, x, ⟨p2, rfl, hx⟩, _⟩, hb⟩
  obtain ⟨q2, rfl⟩ := hx.form
  have H2 := Lib.hid (hx.le hsz)
  have H1 := Lib.hid (H1.out.under hb)
  have HB := Lib.hid (HB.out.trans (hb.mono HB.out.size))
  have hsz := Nat.le_trans hsz hb.size
  have BE := bent_any H1.out (smK_wd _ (by have := HO1.out.w; omega)) how by_ w5 (Below.refl _ _) hh1 hh2 hb1 hb2
  clear GR hx hb
  go_wp2_with fail
  refine BE.mono ?_
  rintro e w6 ⟨⟨p3, t3, rfl, hx, hbo⟩, hb⟩
  obtain ⟨q3, rfl⟩ := hx.form
  have H3 := Lib.hid (hx.mono (G := (N ≤ ·)) fun i _ hF => by rcases hF with h | h <;> omega)
  have HO3 := Lib.hid (HO1.out.bent hbo); have HR3 := Lib.hid hbo.r
  have H1 := Lib.hid (H1.out.under hb)
  have H2 := Lib.hid (H2.out.under hb)
  have HB := Lib.hid (HB.out.trans (hb.mono HB.out.size))
  have hsz := Nat.le_trans hsz hb.size
  have BE := bent_any H3.out (smK_wd _ (by have := HO3.out.w; omega)) by_ how w6 (Below.refl _ _) hb1 hb2 hh1 hh2
  clear hx hb hbo
  go_wp2_with fail
  refine BE.mono ?_
  rintro e w7 ⟨⟨p4, t4, rfl, hx, hbo⟩, hb⟩
  obtain ⟨q4, rfl⟩ := hx.form
  have H4 := Lib.hid (hx.mono (G := (N ≤ ·)) fun i _ hF => by rcases hF with h | h <;> omega)
  have HO4 := Lib.hid (HO3.out.bent hbo); have HR4 := Lib.hid hbo.r
  have H1 := Lib.hid (H1.out.under hb)
  have H2 := Lib.hid (H2.out.under hb)
  have H3 := Lib.hid (H3.out.under hb)
  have HB := Lib.hid (HB.out.trans (hb.mono HB.out.size))
  have hsz := Nat.le_trans hsz hb.size
  have BE := bent_any H2.out (smK_wd _ (by have := HO2.out.w; omega)) how by_ w7 (Below.refl _ _) hh1 hh2 hb1 hb2
  clear hx hb hbo
  go_wp2_with fail
  refine BE.mono ?_
  rintro e w8 ⟨⟨p5, t5, rfl, hx, hbo⟩, hb⟩
  obtain ⟨q5, rfl⟩ := hx.form
  have H5 := Lib.hid (hx.mono (G := (N ≤ ·)) fun i _ hF => by rcases hF with h | h <;> omega)
  have HO5 := Lib.hid (HO2.out.bent hbo); have HR5 := Lib.hid hbo.r
  have H1 := Lib.hid (H1.out.under hb)
  have H2 := Lib.hid (H2.out.under hb)
  have H3 := Lib.hid (H3.out.under hb)
  have H4 := Lib.hid (H4.out.under hb)
  have HB := Lib.hid (HB.out.trans (hb.mono HB.out.size))
  have hsz := Nat.le_trans hsz hb.size
  clear hx hb hbo BE
  go_wp2_with fail
  go_ret
  have hal := alloc_below w8 (.cells #[.pointer q1, .pointer q2, .pointer q3, .pointer q4, .pointer q5, .pointer none] 48)
  have HT := ((((((Trees.nil 105 (N ≤ ·) w8).snoc H1.out).snoc H2.out).snoc H3.out).snoc H4.out).snoc H5.out).snoc (TreeIn.nil (τ := 105) (F := (N ≤ ·)) (W := w8))
  rw [HN.out]
  refine ⟨⟨w8.heap.size, _, _, rfl, Rd_fresh w8 48 #[.pointer q1, .pointer q2, .pointer q3, .pointer q4, .pointer q5, .pointer none] 6 rfl (by omega), rfl, HT.block (fun i hi _ => hal.block i hi), ?_⟩, ?_⟩
  · intro t ht
    simp only [List.nil_append, List.cons_append, List.mem_cons, List.not_mem_nil, or_false] at ht
    rcases ht with rfl | rfl | rfl | rfl | rfl | rfl
    · exact ⟨HO1.out.le (by omega) (by omega) (by omega), HG1.out.dp⟩
    · exact ⟨HO2.out.le (by omega) (by omega) (by omega), HG2.out.dp⟩
    · exact ⟨HO3.out.le (by omega) (by omega) (by omega), HG1.out.dp1 HR3.out⟩
    · exact ⟨HO4.out.le (by omega) (by omega) (by omega), HG1.out.dp2 HR3.out HR4.out⟩
    · exact ⟨HO5.out.le (by omega) (by omega) (by omega), HG2.out.dp1 HR5.out⟩
    · exact ⟨TrOk.nil.le (by omega) (by omega) (by omega), Good.nil.dp⟩
  · have := HN.out
    have h9 := HB.out.alloc HB.out.size (.cells #[.pointer q1, .pointer q2, .pointer q3, .pointer q4, .pointer q5, .pointer none] 48)
    rwa [HN.out] at h9
end Go.Proofs.Ytmkkegigajmhkaa

