/- The tree of a table (reference). Best, Greedy (reference). Best (reference). -/
import Derived.Test.YtmkkegigajmhkaaN20
set_option linter.unusedVariables false
namespace Go.Proofs.Ytmkkegigajmhkaa
open Go.RowKit Go.Maps

theorem Try.underlying53 : Try.prog.underlying 53 = some (.slice 48) := by kernel_rfl
theorem Try.info48 : (Try.prog.info? 48).map (fun i => (i.zero, i.size, i.bytes)) = some (some (.pointer none), 1, 8) := by kernel_rfl
theorem info_parts48 : ∃ i0 : TypeInfo, Try.prog.info? 48 = some i0 ∧ i0.zero = some (.pointer none) ∧ i0.size = 1 ∧ i0.bytes = 8 := info_parts Try.info48
theorem exec_appU {w : World} {o : Oper} {a : Act} {base : Nat} (s x : Operand) (ho : o.op = .call { callee := .builtin .append, args := #[s, x], argTypes := #[53, 53] })
    (v : Value) (n : Nat) (us : List Value) (hs : a.eval s = v) (hown : w.ownsRow base 48 1 v n us) (vx : Value) (ys : List Value) (hx : a.eval x = vx) (hrd : Rd w vx ys) (h1 : ∀ u ∈ ys, u.oneCell' = true) (hlen : n + ys.length ≤ 1000000) (hbase : base ≤ w.heap.size) :
    ∃ v' w', (execOp a.eval o).run Try.prog w = .ok (.value v') w' ∧ AppOut base 48 w v (n + ys.length) (us ++ ys) v' w' := by
  obtain ⟨i0, hi0, hz0, hz1, hz2⟩ := info_parts48
  exact exec_append_rd (w := w) (o := o) (a := a) (base := base) s x 53 48 i0 _ 8 ho Try.underlying53 hi0 hz0 hz1 hz2 rfl (by omega) v n us hs hown vx ys hx hrd h1 hlen hbase
section
variable {ops : Array Oper} {Q : Exit → Act → World → Prop} {K : Act → World → Prop} {a : Act} {w : World} {o : Oper} {base : Nat}
theorem wpOpAppU (i : Nat) (d : Option Nat) (hoi : ops[i]? = some o) (hd : o.dst = d) (hw : Region.wanted o (yielded ops a.tmps) = true) (s x : Operand) (ho : o.op = .call { callee := .builtin .append, args := #[s, x], argTypes := #[53, 53] })
    (v : Value) (n : Nat) (us : List Value) (hs : a.eval s = v) (hown : w.ownsRow base 48 1 v n us) (vx : Value) (ys : List Value) (hx : a.eval x = vx) (hrd : Rd w vx ys) (h1 : ∀ u ∈ ys, u.oneCell' = true) (hlen : n + ys.length ≤ 1000000) (hbase : base ≤ w.heap.size)
    (hk : ∀ v' w', AppOut base 48 w v (n + ys.length) (us ++ ys) v' w' → K (a.put d v') w') : wpOp Try.prog ops Q i K a w := by
  obtain ⟨v', w', h, h2⟩ := exec_appU (base := base) s x ho v n us hs hown vx ys hx hrd h1 hlen hbase
  exact wpOpRun' d hoi hd hw h (hk v' w' h2)
end
theorem cell_in {W : World} {b o : Nat} {v : Value} (h : W.cell? ⟨b, o, none⟩ = some v) : b < W.heap.size := by
  by_cases hb : b < W.heap.size
  · exact hb
  · simp [World.cell?, show W.heap[b]? = none from Array.getElem?_eq_none (by omega)] at h
/-- what tree returns -/
def RTree (base : Nat) (t : Tr) (e : Ending) (w' : World) : Prop := ∃ p, e = .returned p ∧ TreeIn 105 (base ≤ ·) w' p t
set_option maxRecDepth 100000 in
set_option maxHeartbeats 16000000 in
theorem rtreeG_any (bx : Nat) (T : Tb) (ho : OkT T) (hch : ChooseOk (greedyA T) T) (va vc vk : Value) :
    ∀ (n : Nat) (ws : List Nat) (v : Value) (w : World), ws.length ≤ n → ws ≠ [] → ws.length ≤ 64 → ws.Pairwise (· < ·) → WsOk T ws → TbR w va vc vk T → Boxs w bx 96 #[.slice none 0 0, .slice none 0 0] → RdI w v (nI ws) →
      Calls Try.prog 62 #[.pointer (some ⟨bx, 0, none⟩), .agg #[va, vc, vk], v] w fun e w' => RTree w.heap.size (treeF (greedyA T) T n ws) e w' ∧ Below w.heap.size w w' := by
  have HO := Lib.hid ho; have HCH := Lib.hid hch
  have hk64 := ho.c64
  clear ho hch
  intro n
  induction n with
  | zero =>
    intro ws v w hn hne
    exact absurd (List.length_eq_zero_iff.1 (Nat.le_zero.1 hn)) hne
  | succ n ih =>
  intro ws v w hn hne h64 hsrt hok hT hinv hr
  have IH := Lib.hid ih
  obtain ⟨aa, ca, rfl⟩ := hT.rows.form
  obtain ⟨ac, cc, rfl⟩ := hT.costs.form
  obtain ⟨ak, ck, rfl⟩ := hT.cls.form
  obtain ⟨aw, cw, rfl⟩ := RdI.form (show RdI w v (nI ws) from hr)
  obtain ⟨B, hB⟩ : ∃ b, w.heap.size = b := ⟨_, rfl⟩
  have hal := alloc_below w (.cells #[.slice aa T.rows.length ca, .slice ac T.costs.length cc, .slice ak T.cls.length ck] 25)
  have HB := Lib.hid hal
  have HT := Lib.hid (hT.below hal)
  have BX := Lib.hid (Boxs.new w 25 #[.slice aa T.rows.length ca, .slice ac T.costs.length cc, .slice ak T.cls.length ck])
  have HINV := Lib.hid (Boxs.below hinv hal)
  have HR := Lib.hid (RdI.below hr hal)
  have HTw := Lib.hid hT; have HRw := Lib.hid hr; have HIw := Lib.hid hinv
  have HS := Lib.hid hsrt; have HOK := Lib.hid hok
  
  clear hr hinv ih hal hsrt hT
  have SG := rsingle_any _ _ _ _ T ws _ HT.out HR.out (fun j hj => by rw [HO.out.kl]; exact hok j hj) (by omega)
  rw [hB] at BX
  
  
  have c0 := BX.out.cell 0; have c1 := BX.out.cell 1; have c2 := BX.out.cell 2
  simp only [List.getElem?_toArray, List.getElem?_cons_zero, List.getElem?_cons_succ] at c0 c1 c2
  clear hok
  go_enter Try.func62, Try.ntmps62
  go_wp2_with fail
  generalize w.alloc (.cells #[.slice aa T.rows.length ca, .slice ac T.costs.length cc, .slice ak T.cls.length ck] 25) = wb at *
  refine SG.mono ?_
  rintro e w2 ⟨rfl, hb2⟩
  have hs1 := HB.out.size
  have HB2 := Lib.hid (HB.out.trans (hb2.mono hs1))
  have HT2 := Lib.hid (HT.out.below hb2)
  have BX2 := Lib.hid (Boxs.below BX.out hb2)
  
  have HINV2 := Lib.hid (Boxs.below HINV.out hb2)
  have HR2 := Lib.hid (RdI.below HR.out hb2)
  have hlB2 := BX2.out.lt
  have hBs := HB2.out.size
  clear hb2 SG c0 c1 c2 HINV BX HR HB HT hs1
  obtain ⟨sg, hsg⟩ : ∃ b, single T ws = b := ⟨_, rfl⟩
  have HSG := Lib.hid hsg
  rw [hsg]
  clear hsg
  cases sg
  case true =>
    obtain ⟨i0, hi0⟩ := elem_at (show 0 < ws.length from List.length_pos_iff.2 hne)
    have hih := HOK.out i0 (List.mem_of_getElem? hi0)
    obtain ⟨x, hx⟩ := elem_at (show i0 < T.cls.length by rw [HO.out.kl]; exact hih)
    have htf : treeF (greedyA T) T (n + 1) ws = .node (-1) x [] [] := by rw [treeF, if_pos HSG.out, clsAt_head hi0 hx]
    have HTF := Lib.hid htf
    obtain ⟨bw, ow, rfl, _, qw⟩ := nI_elem HR2.out hi0
    obtain ⟨bk, ok, rfl, _, qk⟩ := ints_at HT2.out.cls hx
    have c2 := BX2.out.cell 2
    simp only [List.getElem?_toArray, List.getElem?_cons_zero, List.getElem?_cons_succ] at c2
    have hi00 : (0 : Int) ≤ (i0 : Int) := Int.natCast_nonneg _
    have hi01 : (i0 : Int) < (T.cls.length : Int) := by have := HO.out.kl; omega
    have hl0 : 0 < (nI ws).length := by rw [nI_len]; exact List.length_pos_iff.2 hne
    rw [Nat.add_zero] at qw
    have hS : (w2.drewN 1).cell? ⟨B, 2, none⟩ = some (.slice (some ⟨bk, ok, none⟩) T.cls.length ck) ∧ (w2.drewN 1).cell? ⟨bw, ow, none⟩ = some (.int .i64 (i0 : Int)) ∧ (w2.drewN 1).cell? ⟨bk, ok + i0, none⟩ = some (.int .i64 x) := ⟨c2, qw, qk⟩
    clear htf hi0 hx hne
    go_wp2_with fail
    refine wp_region_E (fun W => W.cell? ⟨B, 2, none⟩ = some (.slice (some ⟨bk, ok, none⟩) T.cls.length ck) ∧ W.cell? ⟨bw, ow, none⟩ = some (.int .i64 (i0 : Int)) ∧ W.cell? ⟨bk, ok + i0, none⟩ = some (.int .i64 x)) (by kernel_rfl) ?_
    have hdr : (w2).drew = { w2 with drawn := (w2).drawn + 1 } := rfl
    rw [← hdr]
    clear hdr
    change wpAnyE _ _ _ _ _ _ _ _ ((w2).drewN 1)
    refine tg 0 15 rfl rfl (.pointer (some ⟨B, 2, none⟩)) hS ?_
    try simp only [pa, pl]
    refine tk 1 16 rfl rfl (.slice (some ⟨bk, ok, none⟩) T.cls.length ck) (fun W hW => by obtain ⟨c2, qw, qk⟩ := hW; go_simp) hS ?_
    try simp only [pa, pl]
    refine tm 2 17 rfl rfl (.slice (some ⟨bw, ow, none⟩) (nI ws).length cw) hS ?_
    try simp only [pa, pl]
    refine tk 3 18 rfl rfl (.pointer (some ⟨bw, ow, none⟩)) (fun _ _ => by go_simp <;> first | omega | (intro h0; rw [h0] at hl0; exact absurd hl0 (by simp))) hS ?_
    try simp only [pa, pl]
    refine tk 4 19 rfl rfl (.int .i64 (i0 : Int)) (fun W hW => by obtain ⟨c2, qw, qk⟩ := hW; go_simp) hS ?_
    try simp only [pa, pl]
    refine tg 5 20 rfl rfl (.pointer (some ⟨bk, ok + i0, none⟩)) hS ?_
    try simp only [pa, pl]
    refine tk 6 21 rfl rfl (.int .i64 x) (fun W hW => by obtain ⟨c2, qw, qk⟩ := hW; go_simp) hS ?_
    try simp only [pa, pl]
    refine tg 7 22 rfl rfl (.agg #[.int .i64 (-1), .int .i64 x, .slice none 0 0, .slice none 0 0]) hS ?_
    try simp only [pa, pl]
    refine wpAnyEOne 8 (by kernel_rfl) ?_
    refine wpOpRun' (v := .pointer (some ⟨w2.heap.size, 0, none⟩)) (w' := ((w2.drewN 1).alloc (.cells #[.int .i64 (-1), .int .i64 x, .slice none 0 0, .slice none 0 0] 105))) (some 23) rfl rfl rfl (by go_simp <;> rfl) ?_
    have hb3 := (Below.dn (Below.refl w2.heap.size w2) 1).trans ((alloc_below (w2.drewN 1) (.cells #[.int .i64 (-1), .int .i64 x, .slice none 0 0, .slice none 0 0] 105)).mono (Nat.le_refl _))
    have hS3 : ((w2.drewN 1).alloc (.cells #[.int .i64 (-1), .int .i64 x, .slice none 0 0, .slice none 0 0] 105)).cell? ⟨B, 2, none⟩ = some (.slice (some ⟨bk, ok, none⟩) T.cls.length ck) ∧ ((w2.drewN 1).alloc (.cells #[.int .i64 (-1), .int .i64 x, .slice none 0 0, .slice none 0 0] 105)).cell? ⟨bw, ow, none⟩ = some (.int .i64 (i0 : Int)) ∧ ((w2.drewN 1).alloc (.cells #[.int .i64 (-1), .int .i64 x, .slice none 0 0, .slice none 0 0] 105)).cell? ⟨bk, ok + i0, none⟩ = some (.int .i64 x) := ⟨(hb3.cell (p := ⟨B, 2, none⟩) (cell_in c2)).trans c2, (hb3.cell (p := ⟨bw, ow, none⟩) (cell_in qw)).trans qw, (hb3.cell (p := ⟨bk, ok + i0, none⟩) (cell_in qk)).trans qk⟩
    refine ⟨.inl (hS3), ?_⟩
    try simp only [pa, pl]
    refine wpAnyEOne 9 (by kernel_rfl) ?_
    refine wpOpRun' (v := .pointer (some ⟨w2.heap.size, 0, none⟩)) (w' := ((w2.drewN 1).alloc (.cells #[.int .i64 (-1), .int .i64 x, .slice none 0 0, .slice none 0 0] 105))) (some 6) rfl rfl rfl (by rfl) ?_
    refine ⟨.inr (allUp_of (by kernel_rfl)), ?_⟩
    try simp only [pa, pl]
    refine wpAnyE_done (by kernel_rfl) ?_ _
    have HX := Lib.hid (show TreeIn 105 (w.heap.size ≤ ·) ((w2.drewN 1).alloc (.cells #[.int .i64 (-1), .int .i64 x, .slice none 0 0, .slice none 0 0] 105)) (.pointer (some ⟨w2.heap.size, 0, none⟩)) (.node (-1) x [] []) from .of hBs (Boxs.new (w2.drewN 1) 105 _) (RdIn.nil _ _) (RdIn.nil _ _) (Trees.nil _ _ _))
    have HBF := Lib.hid (HB2.out.trans (hb3.mono hBs))
    clear hb3 hS hS3 c2 qw qk
    go_wp2_with fail
    go_ret
    exact ⟨⟨_, rfl, by rw [HTF.out]; exact HX.out⟩, HBF.out⟩
  case false =>
    obtain ⟨k, hk1, hk2, hk3⟩ := HCH.out ws HOK.out HSG.out
    have htf : treeF (greedyA T) T (n + 1) ws = .node (k : Int) 0 (given T ws k) ((given T ws k).map fun a => treeF (greedyA T) T n (withW T ws k a)) := by
      rw [treeF, if_neg (by rw [HSG.out]; simp)]
      
      
      simp only [hk1, Int.toNat_natCast]
    have HTF := Lib.hid htf; have HK1 := Lib.hid hk1
    have hk0 : (0 : Int) ≤ (k : Int) := Int.natCast_nonneg _
    have HLT := Lib.hid fun a => withW_lt (T := T) (ws := ws) (k := k) (a := a) hk3
    have c0 := BX2.out.cell 0; have c1 := BX2.out.cell 1; have c2 := BX2.out.cell 2
    simp only [List.getElem?_toArray, List.getElem?_cons_zero, List.getElem?_cons_succ] at c0 c1 c2
    clear htf hk1
    have b0 := HINV2.out.cell 0
    have hbxl := HINV2.out.lt
    simp only [List.getElem?_toArray, List.getElem?_cons_zero] at b0
    have GR := greedy_any _ _ _ _ T ws w2 HT2.out HO.out HR2.out HOK.out (by omega)
    rw [HK1.out] at GR
    go_wp2_with fail
    refine GR.mono ?_
    rintro e w3 ⟨rfl, hb3⟩
    have HB3 := Lib.hid (HB2.out.trans (hb3.mono hBs))
    have HT3 := Lib.hid (HT2.out.below hb3)
    have BX3 := Lib.hid (Boxs.below BX2.out hb3)
    have HINV3 := Lib.hid (Boxs.below HINV2.out hb3)
    have HR3 := Lib.hid (RdI.below HR2.out hb3)
    clear hb3 GR b0 hbxl c0 c1 c2 HINV2 BX2 HR2 HB2 HT2 hlB2
    have c0 := BX3.out.cell 0; have c1 := BX3.out.cell 1; have c2 := BX3.out.cell 2
    simp only [List.getElem?_toArray, List.getElem?_cons_zero, List.getElem?_cons_succ] at c0 c1 c2
    have GV := given_any _ _ _ _ T ws k w3 HT3.out HO.out HR3.out HOK.out (by omega) hk2
    unfold OwnI at GV
    go_wp2_with fail
    with_reducible refine GV.mono ?_
    rintro e w4 ⟨⟨vl, rfl, hown⟩, hb4⟩
    obtain ⟨al, cl, rfl⟩ := owns_form hown
    have hb4s := HB3.out.size
    have hgl := given_len T ws k
    obtain ⟨G, hG⟩ : ∃ G, given T ws k = G := ⟨_, rfl⟩
    rw [hG] at hown hgl ⊢
    have HLB := Lib.hid fun g (hg : (Value.slice al G.length cl).ownBlock = some g) => (hown.lt g hg).2
    have HG := Lib.hid hG
    obtain ⟨bn, hbn⟩ : ∃ b, w4.heap.size = b := ⟨_, rfl⟩
    have NB := Boxs.new w4 105 #[.int .i64 (k : Int), .int .i64 0, .slice al G.length cl, .slice none 0 0]
    rw [hbn] at NB HLB
    have hal := alloc_below w4 (.cells #[.int .i64 (k : Int), .int .i64 0, .slice al G.length cl, .slice none 0 0] 105)
    have hb5 := hb4.trans (hal.mono hb4.size)
    have HB5 := Lib.hid (HB3.out.trans (hb5.mono hb4s))
    have HT5 := Lib.hid (HT3.out.below hb5)
    have BX5 := Lib.hid (Boxs.below BX3.out hb5)
    have HINV5 := Lib.hid (Boxs.below HINV3.out hb5)
    have HR5 := Lib.hid (RdI.below HR3.out hb5)
    have HL5 := Lib.hid (owns_below hown hal)
    have NU := Lib.hid (show NodeU 105 48 w3.heap.size (w4.alloc (.cells #[.int .i64 (k : Int), .int .i64 0, .slice al G.length cl, .slice none 0 0] 105)) bn (k : Int) (.slice al G.length cl) (.slice none 0 0) [] [] from ⟨by have := hb4.size; omega, by have := hb4.size; simp; omega, NB, World.ownsRow_nil _ _ _ _, Trees.nil _ _ _⟩)
    clear GV hb4 hb5 hal NB hown hG c0 c1 c2
    go_wp2_with fail
    obtain ⟨w5, hw5⟩ : ∃ w5, w4.alloc (.cells #[.int .i64 (k : Int), .int .i64 0, .slice al G.length cl, .slice none 0 0] 105) = w5 := ⟨_, rfl⟩
    rw [hw5] at HB5 HT5 BX5 HINV5 HR5 HL5 NU ⊢
    clear hw5 hbn
    go_loopw [11] (fun iv wr => ∃ (q : Nat) (us : List Value) (kv : Value), q ≤ G.length ∧ iv = .int .i64 q ∧ us.length = q ∧ (∀ b, kv.ownBlock = some b → w5.heap.size ≤ b) ∧ NodeU 105 48 w3.heap.size wr bn (k : Int) (.slice al G.length cl) kv us ((G.take q).map fun a => treeF (greedyA T) T n (withW T ws k a)) ∧ Keeps (fun i => i = bn) w5 wr) (fun iv _ => G.length - (intOf iv).toNat)
    case atStart => exact ⟨0, [], _, Nat.zero_le _, rfl, rfl, fun b hb => (by cases hb), NU.out, Keeps.refl _ _⟩
    case round =>
      have hbn3 : w3.heap.size ≤ bn := NU.out.hb
      clear NU
      obtain ⟨q, us, kv, hq, rfl, hus, hkb, hnu, hkp⟩ := hrel
      have hq0 : (0 : Int) ≤ (q : Int) := Int.natCast_nonneg _
      have NU := Lib.hid hnu; have HKP := Lib.hid hkp; have HUS := Lib.hid hus; have HKB := Lib.hid hkb
      obtain ⟨akv, ckv, hkv⟩ := owns_form hnu.row
      rw [hus] at hkv
      subst hkv
      have hsr := hkp.size
      have hBbn : B ≠ bn := by have := BX3.out.lt; omega
      have BXR := Lib.hid (Boxs.block BX5.out (hkp.block B BX5.out.lt hBbn))
      have n2 := hnu.box.cell 2; have n3 := hnu.box.cell 3
      have hnl := hnu.box.lt
      simp only [List.getElem?_toArray, List.getElem?_cons_zero, List.getElem?_cons_succ] at n2 n3
      have HLr := Lib.hid (owns_blk HL5.out (W' := wr) fun g hg => hkp.block g (HL5.out.lt g hg).2 (Nat.ne_of_lt (HLB.out g hg)))
      clear hnu hkp hus hkb
      by_cases hqg : q < G.length
      · have hq1 : (q : Int) < (G.length : Int) := by omega
        obtain ⟨y, hy⟩ := elem_at hqg
        have hblr := HB5.out.trans (HKP.out.below (n := w.heap.size) HB5.out.size (fun i _ hi => by have hi2 : i = bn := hi; omega))
        have HBLR := Lib.hid hblr
        obtain ⟨bl, ol, rfl, hbl5, qy5⟩ := ints_at (owns_ints HL5.out) hy
        have hbln : bl < bn := HLB.out bl rfl
        have qy : wr.cell? ⟨bl, ol + q, none⟩ = some (.int .i64 y) := (cell_blk (HKP.out.block bl hbl5 (by show bl ≠ bn; omega))).trans qy5
        have c0 := BXR.out.cell 0; have c1 := BXR.out.cell 1; have c2 := BXR.out.cell 2
        simp only [List.getElem?_toArray, List.getElem?_cons_zero, List.getElem?_cons_succ] at c0 c1 c2
        have hdr := Below.dn (Below.refl wr.heap.size wr) 1
        have hwl := withW_le T ws k y
        have WT := with_any _ _ _ _ T ws k y (wr.drewN 1) ((HTw.out.below hblr).below hdr) HO.out ((RdI.below HRw.out hblr).below hdr) HOK.out (by omega) hk2
        unfold OwnI at WT
        have TC := fun (vx : Value) (W : World) (hW : Below wr.heap.size wr W) hr => IH.out (withW T ws k y) vx W (by have := HLT.out y; omega) (withW_ne (by rw [HG.out]; exact List.mem_of_getElem? hy)) (by omega) (withW_sorted HS.out k y) (withW_ok HOK.out k y) (HTw.out.below (hblr.trans (hW.mono hblr.size))) (Boxs.below HIw.out (hblr.trans (hW.mono hblr.size))) hr
        unfold RTree at TC
        have HTK := Lib.hid (show (G.take (q + 1)).map (fun a => treeF (greedyA T) T n (withW T ws k a)) = (G.take q).map (fun a => treeF (greedyA T) T n (withW T ws k a)) ++ [treeF (greedyA T) T n (withW T ws k y)] by rw [take_succ_at hy, List.map_append]; rfl)
        have hS : (wr.drewN 1).cell? ⟨B, 0, none⟩ = some (.slice aa T.rows.length ca) ∧ (wr.drewN 1).cell? ⟨B, 1, none⟩ = some (.slice ac T.costs.length cc) ∧ (wr.drewN 1).cell? ⟨B, 2, none⟩ = some (.slice ak T.cls.length ck) ∧ (wr.drewN 1).cell? ⟨bn, 2, none⟩ = some (.slice (some ⟨bl, ol, none⟩) G.length cl) ∧ (wr.drewN 1).cell? ⟨bn, 3, none⟩ = some (.slice akv q ckv) ∧ (wr.drewN 1).cell? ⟨bl, ol + q, none⟩ = some (.int .i64 y) := ⟨c0, c1, c2, n2, n3, qy⟩
        have hbnr := NU.out.box.lt
        have HY := Lib.hid hy
        clear hy
        go_wp2_with fail
        refine wp_region_E (fun W => W.cell? ⟨B, 0, none⟩ = some (.slice aa T.rows.length ca) ∧ W.cell? ⟨B, 1, none⟩ = some (.slice ac T.costs.length cc) ∧ W.cell? ⟨B, 2, none⟩ = some (.slice ak T.cls.length ck) ∧ W.cell? ⟨bn, 2, none⟩ = some (.slice (some ⟨bl, ol, none⟩) G.length cl) ∧ W.cell? ⟨bn, 3, none⟩ = some (.slice akv q ckv) ∧ W.cell? ⟨bl, ol + q, none⟩ = some (.int .i64 y)) (by kernel_rfl) ?_
        have hdr : (wr).drew = { wr with drawn := (wr).drawn + 1 } := rfl
        rw [← hdr]
        clear hdr
        change wpAnyE _ _ _ _ _ _ _ _ ((wr).drewN 1)
        refine tm 0 70 rfl rfl (.pointer (some ⟨bn, 0, none⟩)) hS ?_
        try simp only [pa, pl]
        refine tm 1 71 rfl rfl (.pointer (some ⟨bn, 0, none⟩)) hS ?_
        try simp only [pa, pl]
        refine tg 2 72 rfl rfl (.pointer (some ⟨bn, 0, none⟩)) hS ?_
        try simp only [pa, pl]
        refine tg 3 73 rfl rfl (.pointer (some ⟨bn, 3, none⟩)) hS ?_
        try simp only [pa, pl]
        refine tk 4 74 rfl rfl (.slice akv q ckv) (fun W hW => by obtain ⟨c0, c1, c2, n2, n3, qy⟩ := hW; go_simp) hS ?_
        try simp only [pa, pl]
        refine tm 5 75 rfl rfl (.pointer (some ⟨bx, 0, none⟩)) hS ?_
        try simp only [pa, pl]
        refine tk 6 76 rfl rfl (.agg #[.slice aa T.rows.length ca, .slice ac T.costs.length cc, .slice ak T.cls.length ck]) (fun W hW => by obtain ⟨c0, c1, c2, n2, n3, qy⟩ := hW; go_simp) hS ?_
        try simp only [pa, pl]
        refine tk 7 77 rfl rfl (.agg #[.slice aa T.rows.length ca, .slice ac T.costs.length cc, .slice ak T.cls.length ck]) (fun W hW => by obtain ⟨c0, c1, c2, n2, n3, qy⟩ := hW; go_simp) hS ?_
        try simp only [pa, pl]
        refine tm 8 78 rfl rfl (.slice aw (nI ws).length cw) hS ?_
        try simp only [pa, pl]
        refine tm 9 79 rfl rfl (.int .i64 (k : Int)) hS ?_
        try simp only [pa, pl]
        refine tm 10 80 rfl rfl (.pointer (some ⟨bn, 0, none⟩)) hS ?_
        try simp only [pa, pl]
        refine tg 11 81 rfl rfl (.pointer (some ⟨bn, 0, none⟩)) hS ?_
        try simp only [pa, pl]
        refine tg 12 82 rfl rfl (.pointer (some ⟨bn, 2, none⟩)) hS ?_
        try simp only [pa, pl]
        refine tk 13 83 rfl rfl (.slice (some ⟨bl, ol, none⟩) G.length cl) (fun W hW => by obtain ⟨c0, c1, c2, n2, n3, qy⟩ := hW; go_simp) hS ?_
        try simp only [pa, pl]
        refine tm 14 84 rfl rfl (.int .i64 (q : Int)) hS ?_
        try simp only [pa, pl]
        refine tg 15 85 rfl rfl (.pointer (some ⟨bl, ol + q, none⟩)) hS ?_
        try simp only [pa, pl]
        refine tk 16 86 rfl rfl (.int .i64 y) (fun W hW => by obtain ⟨c0, c1, c2, n2, n3, qy⟩ := hW; go_simp) hS ?_
        try simp only [pa, pl]
        refine wpAnyEOne 17 (by kernel_rfl) ?_
        refine wpOpCall (some 87) 80 #[.agg #[.slice aa T.rows.length ca, .slice ac T.costs.length cc, .slice ak T.cls.length ck], .slice aw (nI ws).length cw, .int .i64 (k : Int), .int .i64 y] rfl rfl rfl (by go_simp) (WT) ?_
        rintro e w7 ⟨⟨v7, rfl, hown7⟩, hb7⟩
        obtain ⟨a7, c7, rfl⟩ := owns_form hown7
        have hb7 := hdr.trans hb7
        have bx7 := Boxs.below BXR.out hb7
        have nu7 := NU.out.under hb7
        have qy7 := (hb7.cell (p := ⟨bl, ol + q, none⟩) (cell_in qy)).trans qy
        have hr7 := owns_ints hown7
        refine ⟨_, rfl, ?_⟩
        refine ⟨.inl (⟨bx7.cell 0, bx7.cell 1, bx7.cell 2, nu7.box.cell 2, nu7.box.cell 3, qy7⟩), ?_⟩
        try simp only [pa, pl]
        refine wpAnyEOne 18 (by kernel_rfl) ?_
        refine wpOpCall (some 88) 62 #[.pointer (some ⟨bx, 0, none⟩), .agg #[.slice aa T.rows.length ca, .slice ac T.costs.length cc, .slice ak T.cls.length ck], .slice a7 (nI (withW T ws k y)).length c7] rfl rfl rfl (by go_simp) (TC _ w7 hb7 hr7) ?_
        rintro e w8 ⟨⟨p8, rfl, ht8⟩, hb8⟩
        obtain ⟨pp, rfl⟩ := ht8.form
        have bx8 := Boxs.below bx7 hb8
        have nu8 := nu7.under hb8
        have qy8 := (hb8.cell (p := ⟨bl, ol + q, none⟩) (cell_in qy7)).trans qy7
        have hb78 := hb7.trans (hb8.mono hb7.size)
        refine ⟨_, rfl, ?_⟩
        refine ⟨.inl (⟨bx8.cell 0, bx8.cell 1, bx8.cell 2, nu8.box.cell 2, nu8.box.cell 3, qy8⟩), ?_⟩
        try simp only [pa, pl]
        refine wpAnyEOne 19 (by kernel_rfl) ?_
        refine wpOpRun' (v := .slice (some ⟨w8.heap.size, 0, none⟩) 1 1) (w' := (w8.alloc (.cells #[.pointer pp] 48))) (some 89) rfl rfl rfl (by go_simp <;> rfl) ?_
        have hal9 := alloc_below w8 (.cells #[.pointer pp] 48)
        have bx9 := Boxs.below bx8 hal9
        have NU9 := nu8.under hal9
        have qy9 := (hal9.cell (p := ⟨bl, ol + q, none⟩) (cell_in qy8)).trans qy8
        have hb79 := hb78.trans (hal9.mono hb78.size)
        refine ⟨.inl (⟨bx9.cell 0, bx9.cell 1, bx9.cell 2, NU9.box.cell 2, NU9.box.cell 3, qy9⟩), ?_⟩
        try simp only [pa, pl]
        refine wpAnyEOne 20 (by kernel_rfl) ?_
        refine wpOpAppU (base := w3.heap.size) 20 (some 90) rfl rfl rfl (.tmp 74) (.tmp 89) rfl (.slice akv q ckv) q us rfl (by have := NU9.row; rw [HUS.out] at this; exact this) (.slice (some ⟨w8.heap.size, 0, none⟩) 1 1) [.pointer pp] rfl (Rd_fresh w8 48 #[.pointer pp] 1 rfl (by omega)) (by intro u hu; rw [List.mem_singleton.1 hu]; rfl) (by simp only [List.length_cons, List.length_nil]; omega) NU9.sz fun v10 w10 happ => ?_
        obtain ⟨a10, k10, rfl⟩ := happ.form
        have happ : AppOut w3.heap.size 48 (w8.alloc (.cells #[.pointer pp] 48)) (.slice akv q ckv) (q + 1) (us ++ [.pointer pp]) (.slice a10 (q + 1) k10) w10 := happ
        have bx10 := Boxs.app bx9 NU9.row happ (by decide)
        have nb10 := Boxs.app NU9.box NU9.row happ (by decide)
        have qy10 : w10.cell? ⟨bl, ol + q, none⟩ = some (.int .i64 y) := by
          obtain ⟨b', o', e, _, h⟩ := ints_at (owns_ints (owns_app (owns_below HLr.out hb79) NU9.row happ (by decide))) HY.out
          cases e; exact h
        have cf10 := nb10.frozen 3
        have cl10 := nb10.lt
        have cc10 := nb10.cell 3
        simp only [List.getElem?_toArray, List.getElem?_cons_zero, List.getElem?_cons_succ] at cc10
        refine ⟨.inl (⟨bx10.cell 0, bx10.cell 1, bx10.cell 2, nb10.cell 2, nb10.cell 3, qy10⟩), ?_⟩
        try simp only [pa, pl]
        refine tg 21 91 rfl rfl (.pointer (some ⟨bn, 0, none⟩)) ⟨bx10.cell 0, bx10.cell 1, bx10.cell 2, nb10.cell 2, nb10.cell 3, qy10⟩ ?_
        try simp only [pa, pl]
        refine tg 22 92 rfl rfl (.pointer (some ⟨bn, 3, none⟩)) ⟨bx10.cell 0, bx10.cell 1, bx10.cell 2, nb10.cell 2, nb10.cell 3, qy10⟩ ?_
        try simp only [pa, pl]
        refine wpAnyEOne 23 (by kernel_rfl) ?_
        refine wpOpSkip (w' := w10.setCell ⟨bn, 3, none⟩ (.slice a10 (q + 1) k10)) 23 rfl rfl rfl (by go_simp <;> rfl) ?_
        refine ⟨.inr (allUp_of (by kernel_rfl)), ?_⟩
        try simp only [pa, pl]
        refine wpAnyE_done (by kernel_rfl) ?_ _
        have hT8 := (ht8.mono (G := fun i => w3.heap.size ≤ i ∧ i ≠ bn ∧ (Value.slice akv q ckv).ownBlock ≠ some i) fun i _ hi => by
          have hi' : w7.heap.size ≤ i := hi
          have h7 := hb7.size
          have h7' : wr.heap.size ≤ w7.heap.size := h7
          exact ⟨by omega, by omega, fun he => by have := (NU.out.row.lt i he).2; omega⟩).under (alloc_below w8 (.cells #[.pointer pp] 48))
        have NUN := NU9.app (by decide) hT8 (by rw [HUS.out]; exact happ)
        rw [← HTK.out] at NUN
        have HNU := Lib.hid NUN
        have HKN := Lib.hid (show Keeps (fun i => i = bn) w5 (w10.setCell ⟨bn, 3, none⟩ (.slice a10 (q + 1) k10)) from
          (((HKP.out.trans (Keeps.of_below hb79)).app happ (fun b hb => HKB.out b hb)).setCell (p := ⟨bn, 3, none⟩) rfl _))
        have HKV := Lib.hid (show ∀ b, (Value.slice a10 (q + 1) k10).ownBlock = some b → w5.heap.size ≤ b from fun b hb => by
          rcases happ.2.2 with h2 | h2
          · exact HKB.out b (by rw [← h2]; exact hb)
          · rw [h2] at hb; cases hb; exact Nat.le_trans hsr hb79.size)
        clear NUN happ hT8 ht8 NU9 hS c0 c1 c2 n2 n3 qy hdr
        go_wp2_with fail
        go_roundw
        case rel => exact ⟨q + 1, us ++ [.pointer pp], _, by omega, by go_num, by simp [HUS.out], HKV.out, HNU.out, HKN.out⟩
        case measure => simp [intOf]; omega
      · obtain rfl : q = G.length := by omega
        have hq1 : ¬ (G.length : Int) < (G.length : Int) := by omega
        rw [List.take_length] at NU
        have hFl := RdIn_owns HLr.out
        have HDN := Lib.hid (NU.out.done hFl)
        have HBF := Lib.hid (HB5.out.trans (HKP.out.below (n := w.heap.size) HB5.out.size (fun i _ hi => by have hi2 : i = bn := hi; omega)))
        clear hFl
        go_wp2_with fail
        go_ret
        subst hB
        exact ⟨⟨_, rfl, by rw [HTF.out, HG.out]; exact HDN.out.le (by omega)⟩, HBF.out⟩
set_option maxRecDepth 100000 in
set_option maxHeartbeats 16000000 in
theorem rtreeB_any (T : Tb) (w1 : World) (N0 N bx ga gk cA cK : Nat) (hp : RPos w1.heap.size N0 bx ga gk) (A C : List Int)  (ho : OkT T) (h10 : T.rows.length ≤ 10) (hch : ChooseOk (fun ws => (bestV T ws).1) T) (va vc vk : Value) :
    ∀ (n : Nat) (ws : List Nat) (v : Value) (w : World), ws.length ≤ n → ws ≠ [] → ws.length ≤ 64 → ws.Pairwise (· < ·) → WsOk T ws → TbR w va vc vk T → RInv w1 T N bx ga gk cA cK A C w → N0 ≤ w.heap.size → (single T ws = true ∨ Noted C ws) → RdI w v (nI ws) →
      Calls Try.prog 62 #[.pointer (some ⟨bx, 0, none⟩), .agg #[va, vc, vk], v] w fun e w' => RTree w.heap.size (treeF (fun ws => (bestV T ws).1) T n ws) e w' ∧ Below w.heap.size w w' := by
  have HO := Lib.hid ho; have HCH := Lib.hid hch
  have hk64 := ho.c64
  have HPP := Lib.hid hp
  clear hp
  clear ho hch
  intro n
  induction n with
  | zero =>
    intro ws v w hn hne
    exact absurd (List.length_eq_zero_iff.1 (Nat.le_zero.1 hn)) hne
  | succ n ih =>
  intro ws v w hn hne h64 hsrt hok hT hinv hN0 hkn hr
  have IH := Lib.hid ih
  obtain ⟨aa, ca, rfl⟩ := hT.rows.form
  obtain ⟨ac, cc, rfl⟩ := hT.costs.form
  obtain ⟨ak, ck, rfl⟩ := hT.cls.form
  obtain ⟨aw, cw, rfl⟩ := RdI.form (show RdI w v (nI ws) from hr)
  obtain ⟨B, hB⟩ : ∃ b, w.heap.size = b := ⟨_, rfl⟩
  have hal := alloc_below w (.cells #[.slice aa T.rows.length ca, .slice ac T.costs.length cc, .slice ak T.cls.length ck] 25)
  have HB := Lib.hid hal
  have HT := Lib.hid (hT.below hal)
  have BX := Lib.hid (Boxs.new w 25 #[.slice aa T.rows.length ca, .slice ac T.costs.length cc, .slice ak T.cls.length ck])
  have HINV := Lib.hid (hinv.under HPP.out (hal.mono hN0))
  have HR := Lib.hid (RdI.below hr hal)
  have HTw := Lib.hid hT; have HRw := Lib.hid hr; have HIw := Lib.hid hinv
  have HS := Lib.hid hsrt; have HOK := Lib.hid hok
  have HKN := Lib.hid hkn
  clear hr hinv ih hal hsrt hT hkn
  have SG := rsingle_any _ _ _ _ T ws _ HT.out HR.out (fun j hj => by rw [HO.out.kl]; exact hok j hj) (by omega)
  rw [hB] at BX
  have hNB : N0 ≤ B := by omega
  have hN0w := hN0
  have c0 := BX.out.cell 0; have c1 := BX.out.cell 1; have c2 := BX.out.cell 2
  simp only [List.getElem?_toArray, List.getElem?_cons_zero, List.getElem?_cons_succ] at c0 c1 c2
  clear hok
  go_enter Try.func62, Try.ntmps62
  go_wp2_with fail
  generalize w.alloc (.cells #[.slice aa T.rows.length ca, .slice ac T.costs.length cc, .slice ak T.cls.length ck] 25) = wb at *
  refine SG.mono ?_
  rintro e w2 ⟨rfl, hb2⟩
  have hs1 := HB.out.size
  have HB2 := Lib.hid (HB.out.trans (hb2.mono hs1))
  have HT2 := Lib.hid (HT.out.below hb2)
  have BX2 := Lib.hid (Boxs.below BX.out hb2)
  have hN2 : N0 ≤ wb.heap.size := by omega
  have HINV2 := Lib.hid (HINV.out.under HPP.out (hb2.mono hN2))
  have HR2 := Lib.hid (RdI.below HR.out hb2)
  have hlB2 := BX2.out.lt
  have hBs := HB2.out.size
  clear hb2 SG c0 c1 c2 HINV BX HR HB HT hs1
  obtain ⟨sg, hsg⟩ : ∃ b, single T ws = b := ⟨_, rfl⟩
  have HSG := Lib.hid hsg
  rw [hsg]
  clear hsg
  cases sg
  case true =>
    obtain ⟨i0, hi0⟩ := elem_at (show 0 < ws.length from List.length_pos_iff.2 hne)
    have hih := HOK.out i0 (List.mem_of_getElem? hi0)
    obtain ⟨x, hx⟩ := elem_at (show i0 < T.cls.length by rw [HO.out.kl]; exact hih)
    have htf : treeF (fun ws => (bestV T ws).1) T (n + 1) ws = .node (-1) x [] [] := by rw [treeF, if_pos HSG.out, clsAt_head hi0 hx]
    have HTF := Lib.hid htf
    obtain ⟨bw, ow, rfl, _, qw⟩ := nI_elem HR2.out hi0
    obtain ⟨bk, ok, rfl, _, qk⟩ := ints_at HT2.out.cls hx
    have c2 := BX2.out.cell 2
    simp only [List.getElem?_toArray, List.getElem?_cons_zero, List.getElem?_cons_succ] at c2
    have hi00 : (0 : Int) ≤ (i0 : Int) := Int.natCast_nonneg _
    have hi01 : (i0 : Int) < (T.cls.length : Int) := by have := HO.out.kl; omega
    have hl0 : 0 < (nI ws).length := by rw [nI_len]; exact List.length_pos_iff.2 hne
    rw [Nat.add_zero] at qw
    have hS : (w2.drewN 1).cell? ⟨B, 2, none⟩ = some (.slice (some ⟨bk, ok, none⟩) T.cls.length ck) ∧ (w2.drewN 1).cell? ⟨bw, ow, none⟩ = some (.int .i64 (i0 : Int)) ∧ (w2.drewN 1).cell? ⟨bk, ok + i0, none⟩ = some (.int .i64 x) := ⟨c2, qw, qk⟩
    clear htf hi0 hx hne
    go_wp2_with fail
    refine wp_region_E (fun W => W.cell? ⟨B, 2, none⟩ = some (.slice (some ⟨bk, ok, none⟩) T.cls.length ck) ∧ W.cell? ⟨bw, ow, none⟩ = some (.int .i64 (i0 : Int)) ∧ W.cell? ⟨bk, ok + i0, none⟩ = some (.int .i64 x)) (by kernel_rfl) ?_
    have hdr : (w2).drew = { w2 with drawn := (w2).drawn + 1 } := rfl
    rw [← hdr]
    clear hdr
    change wpAnyE _ _ _ _ _ _ _ _ ((w2).drewN 1)
    refine tg 0 15 rfl rfl (.pointer (some ⟨B, 2, none⟩)) hS ?_
    try simp only [pa, pl]
    refine tk 1 16 rfl rfl (.slice (some ⟨bk, ok, none⟩) T.cls.length ck) (fun W hW => by obtain ⟨c2, qw, qk⟩ := hW; go_simp) hS ?_
    try simp only [pa, pl]
    refine tm 2 17 rfl rfl (.slice (some ⟨bw, ow, none⟩) (nI ws).length cw) hS ?_
    try simp only [pa, pl]
    refine tk 3 18 rfl rfl (.pointer (some ⟨bw, ow, none⟩)) (fun _ _ => by go_simp <;> first | omega | (intro h0; rw [h0] at hl0; exact absurd hl0 (by simp))) hS ?_
    try simp only [pa, pl]
    refine tk 4 19 rfl rfl (.int .i64 (i0 : Int)) (fun W hW => by obtain ⟨c2, qw, qk⟩ := hW; go_simp) hS ?_
    try simp only [pa, pl]
    refine tg 5 20 rfl rfl (.pointer (some ⟨bk, ok + i0, none⟩)) hS ?_
    try simp only [pa, pl]
    refine tk 6 21 rfl rfl (.int .i64 x) (fun W hW => by obtain ⟨c2, qw, qk⟩ := hW; go_simp) hS ?_
    try simp only [pa, pl]
    refine tg 7 22 rfl rfl (.agg #[.int .i64 (-1), .int .i64 x, .slice none 0 0, .slice none 0 0]) hS ?_
    try simp only [pa, pl]
    refine wpAnyEOne 8 (by kernel_rfl) ?_
    refine wpOpRun' (v := .pointer (some ⟨w2.heap.size, 0, none⟩)) (w' := ((w2.drewN 1).alloc (.cells #[.int .i64 (-1), .int .i64 x, .slice none 0 0, .slice none 0 0] 105))) (some 23) rfl rfl rfl (by go_simp <;> rfl) ?_
    have hb3 := (Below.dn (Below.refl w2.heap.size w2) 1).trans ((alloc_below (w2.drewN 1) (.cells #[.int .i64 (-1), .int .i64 x, .slice none 0 0, .slice none 0 0] 105)).mono (Nat.le_refl _))
    have hS3 : ((w2.drewN 1).alloc (.cells #[.int .i64 (-1), .int .i64 x, .slice none 0 0, .slice none 0 0] 105)).cell? ⟨B, 2, none⟩ = some (.slice (some ⟨bk, ok, none⟩) T.cls.length ck) ∧ ((w2.drewN 1).alloc (.cells #[.int .i64 (-1), .int .i64 x, .slice none 0 0, .slice none 0 0] 105)).cell? ⟨bw, ow, none⟩ = some (.int .i64 (i0 : Int)) ∧ ((w2.drewN 1).alloc (.cells #[.int .i64 (-1), .int .i64 x, .slice none 0 0, .slice none 0 0] 105)).cell? ⟨bk, ok + i0, none⟩ = some (.int .i64 x) := ⟨(hb3.cell (p := ⟨B, 2, none⟩) (cell_in c2)).trans c2, (hb3.cell (p := ⟨bw, ow, none⟩) (cell_in qw)).trans qw, (hb3.cell (p := ⟨bk, ok + i0, none⟩) (cell_in qk)).trans qk⟩
    refine ⟨.inl (hS3), ?_⟩
    try simp only [pa, pl]
    refine wpAnyEOne 9 (by kernel_rfl) ?_
    refine wpOpRun' (v := .pointer (some ⟨w2.heap.size, 0, none⟩)) (w' := ((w2.drewN 1).alloc (.cells #[.int .i64 (-1), .int .i64 x, .slice none 0 0, .slice none 0 0] 105))) (some 6) rfl rfl rfl (by rfl) ?_
    refine ⟨.inr (allUp_of (by kernel_rfl)), ?_⟩
    try simp only [pa, pl]
    refine wpAnyE_done (by kernel_rfl) ?_ _
    have HX := Lib.hid (show TreeIn 105 (w.heap.size ≤ ·) ((w2.drewN 1).alloc (.cells #[.int .i64 (-1), .int .i64 x, .slice none 0 0, .slice none 0 0] 105)) (.pointer (some ⟨w2.heap.size, 0, none⟩)) (.node (-1) x [] []) from .of hBs (Boxs.new (w2.drewN 1) 105 _) (RdIn.nil _ _) (RdIn.nil _ _) (Trees.nil _ _ _))
    have HBF := Lib.hid (HB2.out.trans (hb3.mono hBs))
    clear hb3 hS hS3 c2 qw qk
    go_wp2_with fail
    go_ret
    exact ⟨⟨_, rfl, by rw [HTF.out]; exact HX.out⟩, HBF.out⟩
  case false =>
    obtain ⟨k, hk1, hk2, hk3⟩ := HCH.out ws HOK.out HSG.out
    have htf : treeF (fun ws => (bestV T ws).1) T (n + 1) ws = .node (k : Int) 0 (given T ws k) ((given T ws k).map fun a => treeF (fun ws => (bestV T ws).1) T n (withW T ws k a)) := by
      rw [treeF, if_neg (by rw [HSG.out]; simp)]
      show Tr.node ((bestV T ws).1) 0 _ _ = _
      have hk1 : (bestV T ws).1 = k := hk1
      simp only [hk1, Int.toNat_natCast]
    have HTF := Lib.hid htf; have HK1 := Lib.hid hk1
    have hk0 : (0 : Int) ≤ (k : Int) := Int.natCast_nonneg _
    have HLT := Lib.hid fun a => withW_lt (T := T) (ws := ws) (k := k) (a := a) hk3
    have c0 := BX2.out.cell 0; have c1 := BX2.out.cell 1; have c2 := BX2.out.cell 2
    simp only [List.getElem?_toArray, List.getElem?_cons_zero, List.getElem?_cons_succ] at c0 c1 c2
    clear htf hk1
    have hno := (HKN.out).resolve_left (by rw [HSG.out]; simp)
    have hs3 : N0 ≤ w2.heap.size := by omega
    obtain ⟨cv, hcv, hc0⟩ := hno
    obtain ⟨_, hA, hPN⟩ := HINV2.out.kn.hit HS.out hcv hc0
    have hk1' : (bestV T ws).1 = k := HK1.out
    rw [hk1'] at hA
    have HA := Lib.hid hA; have HPN := Lib.hid (hPN k hk2 hk3)
    have hsN : setW ws < N := by rw [HINV2.out.hN]; exact setW_lt ws HOK.out
    have HSN := Lib.hid hsN
    have r0 := HINV2.out.rs.inn 0 _ _ rfl rfl
    have hla : A.length = N := by rw [HINV2.out.kn.la, HINV2.out.hN]
    rw [hla] at r0
    have qa := own_cell (n := N) r0 hA
    have b0 := HINV2.out.bx.cell 0
    have hbxl := HINV2.out.bx.lt
    simp only [List.getElem?_toArray, List.getElem?_cons_zero] at b0
    have hNp : 0 < N := by omega
    clear hcv hc0 hA hPN hk1' hsN r0 hla
    go_wp2_with fail
    clear c0 c1 c2 b0 qa
    go_loopw [8, 9] (fun v jv wr => ∃ j : Nat, j ≤ ws.length ∧ jv = .int .i64 j ∧ v = .int .i64 (setW (ws.take j) : Nat) ∧ wr = w2) (fun _ jv _ => ws.length - (intOf jv).toNat)
    case atStart => exact ⟨0, Nat.zero_le _, rfl, rfl, rfl⟩
    case round =>
      obtain ⟨j, hj, rfl, rfl, hww⟩ := hrel
      obtain rfl := hww.symm
      have hj0 : (0 : Int) ≤ (j : Int) := Int.natCast_nonneg _
      by_cases hlt : j < ws.length
      · have hj1 : (j : Int) < ((nI ws).length : Int) := by have := nI_len ws; omega
        obtain ⟨i, hi⟩ := elem_at hlt
        obtain ⟨bw, ow, rfl, _, q1⟩ := nI_elem HR2.out hi
        have hi20 : i < 20 := by have := HOK.out i (List.mem_of_getElem? hi); omega
        have hss := setW_succ hi
        have hsl : setW (ws.take j) < 2 ^ 20 := setW_lt _ (fun i hi => by have := HOK.out i (List.mem_of_mem_take hi); omega)
        obtain ⟨s, hs⟩ : ∃ s, setW (ws.take j) = s := ⟨_, rfl⟩
        rw [hs] at hss hsl ⊢
        have HSS := Lib.hid hss
        have hi0 : (0 : Int) ≤ (i : Int) := Int.natCast_nonneg _
        have hi64 : (i : Int) < 64 := by omega
        clear hss hs hi
        go_wp2_with fail
        go_roundw
        case rel => exact ⟨j + 1, by omega, by go_num, by rw [HSS.out, ← or_i64 hsl hi20, IntWalk.i64_left], trivial⟩
        case measure => simp [intOf]; omega
      · have hj1 : ¬ (j : Int) < ((nI ws).length : Int) := by have := nI_len ws; omega
        rw [List.take_of_length_le (by omega)]
        obtain ⟨s, hs⟩ : ∃ s, setW ws = s := ⟨_, rfl⟩
        rw [hs] at HA HSN ⊢
        have hsN := HSN.out
        have hs0 : (0 : Int) ≤ (s : Int) := Int.natCast_nonneg _
        have hs1 : (s : Int) < (N : Int) := by omega
        have r0 := HINV2.out.rs.inn 0 _ _ rfl rfl
        have hla : A.length = N := by rw [HINV2.out.kn.la, HINV2.out.hN]
        rw [hla] at r0
        have qa := own_cell (n := N) r0 HA.out
        have b0 := HINV2.out.bx.cell 0
        have c0 := BX2.out.cell 0; have c1 := BX2.out.cell 1; have c2 := BX2.out.cell 2
        simp only [List.getElem?_toArray, List.getElem?_cons_zero, List.getElem?_cons_succ] at b0 c0 c1 c2
        have GV := given_any _ _ _ _ T ws k w2 HT2.out HO.out HR2.out HOK.out (by omega) hk2
        unfold OwnI at GV
        clear hs r0 hla hj hlt hsN
        go_wp2_with fail
        with_reducible refine GV.mono ?_
        rintro e w4 ⟨⟨vl, rfl, hown⟩, hb4⟩
        obtain ⟨al, cl, rfl⟩ := owns_form hown
        have hb4s := HB2.out.size
        have hgl := given_len T ws k
        obtain ⟨G, hG⟩ : ∃ G, given T ws k = G := ⟨_, rfl⟩
        rw [hG] at hown hgl ⊢
        have HLB := Lib.hid fun g (hg : (Value.slice al G.length cl).ownBlock = some g) => (hown.lt g hg).2
        rw [hG] at HPN
        have HG := Lib.hid hG
        obtain ⟨bn, hbn⟩ : ∃ b, w4.heap.size = b := ⟨_, rfl⟩
        have NB := Boxs.new w4 105 #[.int .i64 (k : Int), .int .i64 0, .slice al G.length cl, .slice none 0 0]
        rw [hbn] at NB HLB
        have hal := alloc_below w4 (.cells #[.int .i64 (k : Int), .int .i64 0, .slice al G.length cl, .slice none 0 0] 105)
        have hb5 := hb4.trans (hal.mono hb4.size)
        have HB5 := Lib.hid (HB2.out.trans (hb5.mono hb4s))
        have HT5 := Lib.hid (HT2.out.below hb5)
        have BX5 := Lib.hid (Boxs.below BX2.out hb5)
        have hN3 : N0 ≤ w2.heap.size := by omega
        have HINV5 := Lib.hid (HINV2.out.under HPP.out (hb5.mono hN3))
        have HR5 := Lib.hid (RdI.below HR2.out hb5)
        have HL5 := Lib.hid (owns_below hown hal)
        have NU := Lib.hid (show NodeU 105 48 w2.heap.size (w4.alloc (.cells #[.int .i64 (k : Int), .int .i64 0, .slice al G.length cl, .slice none 0 0] 105)) bn (k : Int) (.slice al G.length cl) (.slice none 0 0) [] [] from ⟨by have := hb4.size; omega, by have := hb4.size; simp; omega, NB, World.ownsRow_nil _ _ _ _, Trees.nil _ _ _⟩)
        clear GV hb4 hb5 hal NB hown hG c0 c1 c2 b0 qa
        go_wp2_with fail
        obtain ⟨w5, hw5⟩ : ∃ w5, w4.alloc (.cells #[.int .i64 (k : Int), .int .i64 0, .slice al G.length cl, .slice none 0 0] 105) = w5 := ⟨_, rfl⟩
        rw [hw5] at HB5 HT5 BX5 HINV5 HR5 HL5 NU ⊢
        clear hw5 hbn
        go_loopw [11] (fun iv wr => ∃ (q : Nat) (us : List Value) (kv : Value), q ≤ G.length ∧ iv = .int .i64 q ∧ us.length = q ∧ (∀ b, kv.ownBlock = some b → w5.heap.size ≤ b) ∧ NodeU 105 48 w2.heap.size wr bn (k : Int) (.slice al G.length cl) kv us ((G.take q).map fun a => treeF (fun ws => (bestV T ws).1) T n (withW T ws k a)) ∧ Keeps (fun i => i = bn) w5 wr) (fun iv _ => G.length - (intOf iv).toNat)
        case atStart => exact ⟨0, [], _, Nat.zero_le _, rfl, rfl, fun b hb => (by cases hb), NU.out, Keeps.refl _ _⟩
        case round =>
          have hbn3 : w2.heap.size ≤ bn := NU.out.hb
          clear NU
          obtain ⟨q, us, kv, hq, rfl, hus, hkb, hnu, hkp⟩ := hrel
          have hq0 : (0 : Int) ≤ (q : Int) := Int.natCast_nonneg _
          have NU := Lib.hid hnu; have HKP := Lib.hid hkp; have HUS := Lib.hid hus; have HKB := Lib.hid hkb
          obtain ⟨akv, ckv, hkv⟩ := owns_form hnu.row
          rw [hus] at hkv
          subst hkv
          have hsr := hkp.size
          have hBbn : B ≠ bn := by have := BX2.out.lt; omega
          have BXR := Lib.hid (Boxs.block BX5.out (hkp.block B BX5.out.lt hBbn))
          have n2 := hnu.box.cell 2; have n3 := hnu.box.cell 3
          have hnl := hnu.box.lt
          simp only [List.getElem?_toArray, List.getElem?_cons_zero, List.getElem?_cons_succ] at n2 n3
          have HLr := Lib.hid (owns_blk HL5.out (W' := wr) fun g hg => hkp.block g (HL5.out.lt g hg).2 (Nat.ne_of_lt (HLB.out g hg)))
          clear hnu hkp hus hkb
          by_cases hqg : q < G.length
          · have hq1 : (q : Int) < (G.length : Int) := by omega
            obtain ⟨y, hy⟩ := elem_at hqg
            have hblr := HB5.out.trans (HKP.out.below (n := w.heap.size) HB5.out.size (fun i _ hi => by have hi2 : i = bn := hi; omega))
            have HBLR := Lib.hid hblr
            obtain ⟨bl, ol, rfl, hbl5, qy5⟩ := ints_at (owns_ints HL5.out) hy
            have hbln : bl < bn := HLB.out bl rfl
            have qy : wr.cell? ⟨bl, ol + q, none⟩ = some (.int .i64 y) := (cell_blk (HKP.out.block bl hbl5 (by show bl ≠ bn; omega))).trans qy5
            have c0 := BXR.out.cell 0; have c1 := BXR.out.cell 1; have c2 := BXR.out.cell 2
            simp only [List.getElem?_toArray, List.getElem?_cons_zero, List.getElem?_cons_succ] at c0 c1 c2
            have hdr := Below.dn (Below.refl wr.heap.size wr) 1
            have hwl := withW_le T ws k y
            have WT := with_any _ _ _ _ T ws k y (wr.drewN 1) ((HTw.out.below hblr).below hdr) HO.out ((RdI.below HRw.out hblr).below hdr) HOK.out (by omega) hk2
            unfold OwnI at WT
            have TC := fun (vx : Value) (W : World) (hW : Below wr.heap.size wr W) hr => IH.out (withW T ws k y) vx W (by have := HLT.out y; omega) (withW_ne (by rw [HG.out]; exact List.mem_of_getElem? hy)) (by omega) (withW_sorted HS.out k y) (withW_ok HOK.out k y) (HTw.out.below (hblr.trans (hW.mono hblr.size))) (HIw.out.under HPP.out ((hblr.trans (hW.mono hblr.size)).mono hN0w)) (by have := hblr.size; have := hW.size; omega) (HPN.out y (List.mem_of_getElem? hy)) hr
            unfold RTree at TC
            have HTK := Lib.hid (show (G.take (q + 1)).map (fun a => treeF (fun ws => (bestV T ws).1) T n (withW T ws k a)) = (G.take q).map (fun a => treeF (fun ws => (bestV T ws).1) T n (withW T ws k a)) ++ [treeF (fun ws => (bestV T ws).1) T n (withW T ws k y)] by rw [take_succ_at hy, List.map_append]; rfl)
            have hS : (wr.drewN 1).cell? ⟨B, 0, none⟩ = some (.slice aa T.rows.length ca) ∧ (wr.drewN 1).cell? ⟨B, 1, none⟩ = some (.slice ac T.costs.length cc) ∧ (wr.drewN 1).cell? ⟨B, 2, none⟩ = some (.slice ak T.cls.length ck) ∧ (wr.drewN 1).cell? ⟨bn, 2, none⟩ = some (.slice (some ⟨bl, ol, none⟩) G.length cl) ∧ (wr.drewN 1).cell? ⟨bn, 3, none⟩ = some (.slice akv q ckv) ∧ (wr.drewN 1).cell? ⟨bl, ol + q, none⟩ = some (.int .i64 y) := ⟨c0, c1, c2, n2, n3, qy⟩
            have hbnr := NU.out.box.lt
            have HY := Lib.hid hy
            clear hy
            go_wp2_with fail
            refine wp_region_E (fun W => W.cell? ⟨B, 0, none⟩ = some (.slice aa T.rows.length ca) ∧ W.cell? ⟨B, 1, none⟩ = some (.slice ac T.costs.length cc) ∧ W.cell? ⟨B, 2, none⟩ = some (.slice ak T.cls.length ck) ∧ W.cell? ⟨bn, 2, none⟩ = some (.slice (some ⟨bl, ol, none⟩) G.length cl) ∧ W.cell? ⟨bn, 3, none⟩ = some (.slice akv q ckv) ∧ W.cell? ⟨bl, ol + q, none⟩ = some (.int .i64 y)) (by kernel_rfl) ?_
            have hdr : (wr).drew = { wr with drawn := (wr).drawn + 1 } := rfl
            rw [← hdr]
            clear hdr
            change wpAnyE _ _ _ _ _ _ _ _ ((wr).drewN 1)
            refine tm 0 70 rfl rfl (.pointer (some ⟨bn, 0, none⟩)) hS ?_
            try simp only [pa, pl]
            refine tm 1 71 rfl rfl (.pointer (some ⟨bn, 0, none⟩)) hS ?_
            try simp only [pa, pl]
            refine tg 2 72 rfl rfl (.pointer (some ⟨bn, 0, none⟩)) hS ?_
            try simp only [pa, pl]
            refine tg 3 73 rfl rfl (.pointer (some ⟨bn, 3, none⟩)) hS ?_
            try simp only [pa, pl]
            refine tk 4 74 rfl rfl (.slice akv q ckv) (fun W hW => by obtain ⟨c0, c1, c2, n2, n3, qy⟩ := hW; go_simp) hS ?_
            try simp only [pa, pl]
            refine tm 5 75 rfl rfl (.pointer (some ⟨bx, 0, none⟩)) hS ?_
            try simp only [pa, pl]
            refine tk 6 76 rfl rfl (.agg #[.slice aa T.rows.length ca, .slice ac T.costs.length cc, .slice ak T.cls.length ck]) (fun W hW => by obtain ⟨c0, c1, c2, n2, n3, qy⟩ := hW; go_simp) hS ?_
            try simp only [pa, pl]
            refine tk 7 77 rfl rfl (.agg #[.slice aa T.rows.length ca, .slice ac T.costs.length cc, .slice ak T.cls.length ck]) (fun W hW => by obtain ⟨c0, c1, c2, n2, n3, qy⟩ := hW; go_simp) hS ?_
            try simp only [pa, pl]
            refine tm 8 78 rfl rfl (.slice aw (nI ws).length cw) hS ?_
            try simp only [pa, pl]
            refine tm 9 79 rfl rfl (.int .i64 (k : Int)) hS ?_
            try simp only [pa, pl]
            refine tm 10 80 rfl rfl (.pointer (some ⟨bn, 0, none⟩)) hS ?_
            try simp only [pa, pl]
            refine tg 11 81 rfl rfl (.pointer (some ⟨bn, 0, none⟩)) hS ?_
            try simp only [pa, pl]
            refine tg 12 82 rfl rfl (.pointer (some ⟨bn, 2, none⟩)) hS ?_
            try simp only [pa, pl]
            refine tk 13 83 rfl rfl (.slice (some ⟨bl, ol, none⟩) G.length cl) (fun W hW => by obtain ⟨c0, c1, c2, n2, n3, qy⟩ := hW; go_simp) hS ?_
            try simp only [pa, pl]
            refine tm 14 84 rfl rfl (.int .i64 (q : Int)) hS ?_
            try simp only [pa, pl]
            refine tg 15 85 rfl rfl (.pointer (some ⟨bl, ol + q, none⟩)) hS ?_
            try simp only [pa, pl]
            refine tk 16 86 rfl rfl (.int .i64 y) (fun W hW => by obtain ⟨c0, c1, c2, n2, n3, qy⟩ := hW; go_simp) hS ?_
            try simp only [pa, pl]
            refine wpAnyEOne 17 (by kernel_rfl) ?_
            refine wpOpCall (some 87) 80 #[.agg #[.slice aa T.rows.length ca, .slice ac T.costs.length cc, .slice ak T.cls.length ck], .slice aw (nI ws).length cw, .int .i64 (k : Int), .int .i64 y] rfl rfl rfl (by go_simp) (WT) ?_
            rintro e w7 ⟨⟨v7, rfl, hown7⟩, hb7⟩
            obtain ⟨a7, c7, rfl⟩ := owns_form hown7
            have hb7 := hdr.trans hb7
            have bx7 := Boxs.below BXR.out hb7
            have nu7 := NU.out.under hb7
            have qy7 := (hb7.cell (p := ⟨bl, ol + q, none⟩) (cell_in qy)).trans qy
            have hr7 := owns_ints hown7
            refine ⟨_, rfl, ?_⟩
            refine ⟨.inl (⟨bx7.cell 0, bx7.cell 1, bx7.cell 2, nu7.box.cell 2, nu7.box.cell 3, qy7⟩), ?_⟩
            try simp only [pa, pl]
            refine wpAnyEOne 18 (by kernel_rfl) ?_
            refine wpOpCall (some 88) 62 #[.pointer (some ⟨bx, 0, none⟩), .agg #[.slice aa T.rows.length ca, .slice ac T.costs.length cc, .slice ak T.cls.length ck], .slice a7 (nI (withW T ws k y)).length c7] rfl rfl rfl (by go_simp) (TC _ w7 hb7 hr7) ?_
            rintro e w8 ⟨⟨p8, rfl, ht8⟩, hb8⟩
            obtain ⟨pp, rfl⟩ := ht8.form
            have bx8 := Boxs.below bx7 hb8
            have nu8 := nu7.under hb8
            have qy8 := (hb8.cell (p := ⟨bl, ol + q, none⟩) (cell_in qy7)).trans qy7
            have hb78 := hb7.trans (hb8.mono hb7.size)
            refine ⟨_, rfl, ?_⟩
            refine ⟨.inl (⟨bx8.cell 0, bx8.cell 1, bx8.cell 2, nu8.box.cell 2, nu8.box.cell 3, qy8⟩), ?_⟩
            try simp only [pa, pl]
            refine wpAnyEOne 19 (by kernel_rfl) ?_
            refine wpOpRun' (v := .slice (some ⟨w8.heap.size, 0, none⟩) 1 1) (w' := (w8.alloc (.cells #[.pointer pp] 48))) (some 89) rfl rfl rfl (by go_simp <;> rfl) ?_
            have hal9 := alloc_below w8 (.cells #[.pointer pp] 48)
            have bx9 := Boxs.below bx8 hal9
            have NU9 := nu8.under hal9
            have qy9 := (hal9.cell (p := ⟨bl, ol + q, none⟩) (cell_in qy8)).trans qy8
            have hb79 := hb78.trans (hal9.mono hb78.size)
            refine ⟨.inl (⟨bx9.cell 0, bx9.cell 1, bx9.cell 2, NU9.box.cell 2, NU9.box.cell 3, qy9⟩), ?_⟩
            try simp only [pa, pl]
            refine wpAnyEOne 20 (by kernel_rfl) ?_
            refine wpOpAppU (base := w2.heap.size) 20 (some 90) rfl rfl rfl (.tmp 74) (.tmp 89) rfl (.slice akv q ckv) q us rfl (by have := NU9.row; rw [HUS.out] at this; exact this) (.slice (some ⟨w8.heap.size, 0, none⟩) 1 1) [.pointer pp] rfl (Rd_fresh w8 48 #[.pointer pp] 1 rfl (by omega)) (by intro u hu; rw [List.mem_singleton.1 hu]; rfl) (by simp only [List.length_cons, List.length_nil]; omega) NU9.sz fun v10 w10 happ => ?_
            obtain ⟨a10, k10, rfl⟩ := happ.form
            have happ : AppOut w2.heap.size 48 (w8.alloc (.cells #[.pointer pp] 48)) (.slice akv q ckv) (q + 1) (us ++ [.pointer pp]) (.slice a10 (q + 1) k10) w10 := happ
            have bx10 := Boxs.app bx9 NU9.row happ (by decide)
            have nb10 := Boxs.app NU9.box NU9.row happ (by decide)
            have qy10 : w10.cell? ⟨bl, ol + q, none⟩ = some (.int .i64 y) := by
              obtain ⟨b', o', e, _, h⟩ := ints_at (owns_ints (owns_app (owns_below HLr.out hb79) NU9.row happ (by decide))) HY.out
              cases e; exact h
            have cf10 := nb10.frozen 3
            have cl10 := nb10.lt
            have cc10 := nb10.cell 3
            simp only [List.getElem?_toArray, List.getElem?_cons_zero, List.getElem?_cons_succ] at cc10
            refine ⟨.inl (⟨bx10.cell 0, bx10.cell 1, bx10.cell 2, nb10.cell 2, nb10.cell 3, qy10⟩), ?_⟩
            try simp only [pa, pl]
            refine tg 21 91 rfl rfl (.pointer (some ⟨bn, 0, none⟩)) ⟨bx10.cell 0, bx10.cell 1, bx10.cell 2, nb10.cell 2, nb10.cell 3, qy10⟩ ?_
            try simp only [pa, pl]
            refine tg 22 92 rfl rfl (.pointer (some ⟨bn, 3, none⟩)) ⟨bx10.cell 0, bx10.cell 1, bx10.cell 2, nb10.cell 2, nb10.cell 3, qy10⟩ ?_
            try simp only [pa, pl]
            refine wpAnyEOne 23 (by kernel_rfl) ?_
            refine wpOpSkip (w' := w10.setCell ⟨bn, 3, none⟩ (.slice a10 (q + 1) k10)) 23 rfl rfl rfl (by go_simp <;> rfl) ?_
            refine ⟨.inr (allUp_of (by kernel_rfl)), ?_⟩
            try simp only [pa, pl]
            refine wpAnyE_done (by kernel_rfl) ?_ _
            have hT8 := (ht8.mono (G := fun i => w2.heap.size ≤ i ∧ i ≠ bn ∧ (Value.slice akv q ckv).ownBlock ≠ some i) fun i _ hi => by
              have hi' : w7.heap.size ≤ i := hi
              have h7 := hb7.size
              have h7' : wr.heap.size ≤ w7.heap.size := h7
              exact ⟨by omega, by omega, fun he => by have := (NU.out.row.lt i he).2; omega⟩).under (alloc_below w8 (.cells #[.pointer pp] 48))
            have NUN := NU9.app (by decide) hT8 (by rw [HUS.out]; exact happ)
            rw [← HTK.out] at NUN
            have HNU := Lib.hid NUN
            have HKN := Lib.hid (show Keeps (fun i => i = bn) w5 (w10.setCell ⟨bn, 3, none⟩ (.slice a10 (q + 1) k10)) from
              (((HKP.out.trans (Keeps.of_below hb79)).app happ (fun b hb => HKB.out b hb)).setCell (p := ⟨bn, 3, none⟩) rfl _))
            have HKV := Lib.hid (show ∀ b, (Value.slice a10 (q + 1) k10).ownBlock = some b → w5.heap.size ≤ b from fun b hb => by
              rcases happ.2.2 with h2 | h2
              · exact HKB.out b (by rw [← h2]; exact hb)
              · rw [h2] at hb; cases hb; exact Nat.le_trans hsr hb79.size)
            clear NUN happ hT8 ht8 NU9 hS c0 c1 c2 n2 n3 qy hdr
            go_wp2_with fail
            go_roundw
            case rel => exact ⟨q + 1, us ++ [.pointer pp], _, by omega, by go_num, by simp [HUS.out], HKV.out, HNU.out, HKN.out⟩
            case measure => simp [intOf]; omega
          · obtain rfl : q = G.length := by omega
            have hq1 : ¬ (G.length : Int) < (G.length : Int) := by omega
            rw [List.take_length] at NU
            have hFl := RdIn_owns HLr.out
            have HDN := Lib.hid (NU.out.done hFl)
            have HBF := Lib.hid (HB5.out.trans (HKP.out.below (n := w.heap.size) HB5.out.size (fun i _ hi => by have hi2 : i = bn := hi; omega)))
            clear hFl
            go_wp2_with fail
            go_ret
            subst hB
            exact ⟨⟨_, rfl, by rw [HTF.out, HG.out]; exact HDN.out.le (by omega)⟩, HBF.out⟩
end Go.Proofs.Ytmkkegigajmhkaa

namespace Go.Proofs.Ytmkkegigajmhkaa
open Go.RowKit Go.Maps

/-- the lists of choices under construction -/
structure CI (n0 bc : Nat) (va vk : Value) (xs ys : List Int) (w W : World) : Prop where
  bel : Below n0 w W
  hb : n0 ≤ bc
  sz : n0 ≤ W.heap.size
  bx : Boxs W bc 96 #[va, vk]
  rs : OwnRs n0 W [va, vk] [xs, ys]
theorem CI.under {n0 bc : Nat} {va vk : Value} {xs ys : List Int} {w W W' : World} (h : CI n0 bc va vk xs ys w W) (hb : Below W.heap.size W W') : CI n0 bc va vk xs ys w W' :=
  ⟨h.bel.trans (hb.mono h.sz), h.hb, Nat.le_trans h.sz hb.size, Boxs.below h.bx hb, h.rs.below hb⟩
theorem CI.appA {n0 bc : Nat} {va vk v' : Value} {xs ys zs : List Int} {w W W' : World} (h : CI n0 bc va vk xs ys w W) (ha : AppOut n0 3 W va zs.length (ints zs) v' W') : CI n0 bc v' vk zs ys w (W'.setCell ⟨bc, 0, none⟩ v') := by
  have r0 := h.rs.inn 0 _ _ rfl rfl
  have bx := Boxs.app h.bx r0 ha (by decide)
  have rs := h.rs.app (k := 0) rfl ha
  exact ⟨(ha.below h.bel r0 (Nat.le_refl _) h.sz).setCell (p := ⟨bc, 0, none⟩) h.hb v', h.hb, by simpa using Nat.le_trans h.sz ha.size, by simpa using bx.put 0 v', rs.boxset bx (by decide) v'⟩
theorem CI.appK {n0 bc : Nat} {va vk v' : Value} {xs ys zs : List Int} {w W W' : World} (h : CI n0 bc va vk xs ys w W) (ha : AppOut n0 3 W vk zs.length (ints zs) v' W') : CI n0 bc va v' xs zs w (W'.setCell ⟨bc, 1, none⟩ v') := by
  have r0 := h.rs.inn 1 _ _ rfl rfl
  have bx := Boxs.app h.bx r0 ha (by decide)
  have rs := h.rs.app (k := 1) rfl ha
  exact ⟨(ha.below h.bel r0 (Nat.le_refl _) h.sz).setCell (p := ⟨bc, 1, none⟩) h.hb v', h.hb, by simpa using Nat.le_trans h.sz ha.size, by simpa using bx.put 1 v', rs.boxset bx (by decide) v'⟩
theorem known0 (T : Tb) : KnownR T (List.replicate (2 ^ T.rows.length) (-1)) (List.replicate (2 ^ T.rows.length) (-1)) :=
  ⟨by simp, by simp, fun s c hc h0 => by
    have := (List.mem_replicate.1 (List.mem_of_getElem? hc)).2
    omega⟩
theorem CI.inv {bc N ga gk ca ck : Nat} {T : Tb} {w W : World} (hN : N = 2 ^ T.rows.length) (h : CI w.heap.size bc (.slice (some ⟨ga, 0, none⟩) N ca) (.slice (some ⟨gk, 0, none⟩) N ck) (List.replicate N (-1)) (List.replicate N (-1)) w W) :
    RInv w T N bc ga gk ca ck (List.replicate N (-1)) (List.replicate N (-1)) W ∧ RPos w.heap.size W.heap.size bc ga gk := by
  have r0 := h.rs.inn 0 _ _ rfl rfl
  have r1 := h.rs.inn 1 _ _ rfl rfl
  exact ⟨⟨h.bel, h.bx, h.rs, by rw [hN]; exact known0 T, hN⟩, ⟨h.bel.size, h.hb, h.bx.lt, (r0.lt ga rfl).2, (r1.lt gk rfl).2⟩⟩
def RSolve (n0 : Nat) (t : Tr) (c x : Int) (e : Ending) (w' : World) : Prop := ∃ p, e = .returned (.tuple #[p, .int .i64 c, .int .i64 x]) ∧ TreeIn 105 (n0 ≤ ·) w' p t
set_option maxRecDepth 100000 in
set_option maxHeartbeats 16000000 in
theorem rgreedyP_any (va vc vk : Value) (T : Tb) (w : World) (h : TbR w va vc vk T) :
    Calls Try.prog 27 #[.agg #[va, vc, vk]] w fun e w' => (∃ c x, RSolve w.heap.size (greTr T) c x e w' ∧ Gr T c x) ∧ Below w.heap.size w w' := by
  obtain ⟨aa, ca, rfl⟩ := h.rows.form
  obtain ⟨ac, cc, rfl⟩ := h.costs.form
  obtain ⟨ak, ck, rfl⟩ := h.cls.form
  have HB := Lib.hid (alloc_below w (.cells #[.slice aa T.rows.length ca, .slice ac T.costs.length cc, .slice ak T.cls.length ck] 25))
  have BX := Lib.hid (Boxs.new w 25 #[.slice aa T.rows.length ca, .slice ac T.costs.length cc, .slice ak T.cls.length ck])
  have HTw := Lib.hid h
  obtain ⟨B, hB⟩ : ∃ B, w.heap.size = B := ⟨_, rfl⟩
  rw [hB] at BX
  clear h
  have V := rvalid_any _ _ _ T _ (HTw.out.below HB.out)
  have c0 := BX.out.cell 0; have c1 := BX.out.cell 1; have c2 := BX.out.cell 2
  simp only [List.getElem?_toArray, List.getElem?_cons_zero, List.getElem?_cons_succ] at c0 c1 c2
  obtain ⟨x, hx⟩ : ∃ x, validE T = x := ⟨_, rfl⟩
  rw [hx] at V
  have HX := Lib.hid hx
  clear hx
  go_enter Try.func27, Try.ntmps27
  go_wp2_with fail
  generalize w.alloc (.cells #[.slice aa T.rows.length ca, .slice ac T.costs.length cc, .slice ak T.cls.length ck] 25) = wb at *
  refine V.mono ?_
  rintro e w2 ⟨rfl, hb2⟩
  have hs0 := HB.out.size
  have HB2 := Lib.hid (HB.out.trans (hb2.mono hs0))
  have BX2 := Lib.hid (Boxs.below BX.out hb2)
  clear V c0 c1 c2 hb2 HB BX hs0
  by_cases hv : x = 0
  · subst hv
    have HO := Lib.hid ((okT_iff T).1 HX.out)
    have TW := rtwins_any _ _ _ T w2 (HTw.out.below HB2.out)
    unfold TwOut at TW
    have c0 := BX2.out.cell 0; have c1 := BX2.out.cell 1; have c2 := BX2.out.cell 2
    simp only [List.getElem?_toArray, List.getElem?_cons_zero, List.getElem?_cons_succ] at c0 c1 c2
    go_wp2_with fail
    refine TW.mono ?_
    rintro e w3 ⟨⟨tx, ty, tb, rfl, htw⟩, hb3⟩
    have htb := htw.is HX.out
    have HTB := Lib.hid htb.symm
    have hs2 := HB2.out.size
    have HB3 := Lib.hid (HB2.out.trans (hb3.mono hs2))
    have BX3 := Lib.hid (Boxs.below BX2.out hb3)
    have hal := alloc_below w3 (.cells #[.int .i64 tx, .int .i64 ty] 30)
    have hs3 := HB3.out.size
    have HB4 := Lib.hid (HB3.out.trans (hal.mono hs3))
    have BX4 := Lib.hid (Boxs.below BX3.out hal)
    obtain ⟨w4, hw4⟩ : ∃ W, w3.alloc (.cells #[.int .i64 tx, .int .i64 ty] 30) = W := ⟨_, rfl⟩
    rw [hw4] at HB4 BX4
    clear TW htw htb hb3 hal c0 c1 c2 HB2 BX2 HB3 BX3
    have c0 := BX4.out.cell 0; have c1 := BX4.out.cell 1; have c2 := BX4.out.cell 2
    simp only [List.getElem?_toArray, List.getElem?_cons_zero, List.getElem?_cons_succ] at c0 c1 c2
    cases tb
    case true =>
      have HE := Lib.hid (show exE T = 14 by unfold exE; rw [if_neg (by rw [HX.out]; simp), if_pos HTB.out])
      go_wp2_with fail
      (try simp only [Exit.inBlock, Exit.then]); refine bodyPost_ret (results_tmp3 rfl _ _ _) rfl ?_
      exact ⟨⟨_, _, ⟨_, rfl, by unfold greTr; rw [if_neg (by rw [HE.out]; simp)]; exact .nil⟩, by have := Gr.bad (T := T) (by rw [HE.out]; simp); rw [HE.out] at this; exact this⟩, HB4.out⟩
    case false =>
      have HE := Lib.hid (show exE T = 0 by unfold exE; rw [if_neg (by rw [HX.out]; simp), if_neg (by rw [HTB.out]; simp)])
      have HN := Lib.hid (exE_ok HE.out).2
      have hal := alloc_below w4 (.cells #[.slice none 0 0, .slice none 0 0] 96)
      have hs4 := HB4.out.size
      have HB5 := Lib.hid (HB4.out.trans (hal.mono hs4))
      have BX5 := Lib.hid (Boxs.below BX4.out hal)
      have BC := Boxs.new w4 96 #[.slice none 0 0, .slice none 0 0]
      obtain ⟨bc, hbc⟩ : ∃ b, w4.heap.size = b := ⟨_, rfl⟩
      obtain ⟨w5, hw5⟩ : ∃ W, w4.alloc (.cells #[.slice none 0 0, .slice none 0 0] 96) = W := ⟨_, rfl⟩
      rw [hbc, hw5] at BC
      rw [hw5] at HB5 BX5
      have BCH := Lib.hid BC
      clear hal BC
      go_wp2_with fail
      clear hw5 hw4 hbc c0 c1 c2
      have hlen := allW_len T
      have hr1 := HO.out.r1; have hr64 := HO.out.r64
      have AL := rall_any _ _ _ T (w5.drewN 1) ((HTw.out.below HB5.out).below (Below.dn (Below.refl _ _) 1)) (by omega)
      have TC := fun (vx : Value) (W : World) (hW : Below w5.heap.size w5 W) hr => rtreeG_any bc T HO.out (greedy_choose HO.out HN.out) _ _ _ T.rows.length (allW T) vx W (by omega) (fun h0 => by rw [h0] at hlen; simp at hlen; omega) (by omega) (allW_sorted T) (allW_ok T) (HTw.out.below (HB5.out.trans (hW.mono HB5.out.size))) (Boxs.below BCH.out hW) hr
      unfold RTree at TC
      have c0 := BX5.out.cell 0; have c1 := BX5.out.cell 1; have c2 := BX5.out.cell 2
      simp only [List.getElem?_toArray, List.getElem?_cons_zero, List.getElem?_cons_succ] at c0 c1 c2
      have hS : (w5.drewN 1).cell? ⟨B, 0, none⟩ = some (.slice aa T.rows.length ca) ∧ (w5.drewN 1).cell? ⟨B, 1, none⟩ = some (.slice ac T.costs.length cc) ∧ (w5.drewN 1).cell? ⟨B, 2, none⟩ = some (.slice ak T.cls.length ck) := ⟨c0, c1, c2⟩
      refine wp_region_E (fun W => W.cell? ⟨B, 0, none⟩ = some (.slice aa T.rows.length ca) ∧ W.cell? ⟨B, 1, none⟩ = some (.slice ac T.costs.length cc) ∧ W.cell? ⟨B, 2, none⟩ = some (.slice ak T.cls.length ck)) (by kernel_rfl) ?_
      have hdr : (w5).drew = { w5 with drawn := (w5).drawn + 1 } := rfl
      rw [← hdr]
      clear hdr
      change wpAnyE _ _ _ _ _ _ _ _ ((w5).drewN 1)
      refine tm 0 25 rfl rfl (.pointer (some ⟨bc, 0, none⟩)) hS ?_
      try simp only [pa, pl]
      refine tk 1 26 rfl rfl (.agg #[.slice aa T.rows.length ca, .slice ac T.costs.length cc, .slice ak T.cls.length ck]) (fun W hW => by obtain ⟨c0, c1, c2⟩ := hW; go_simp) hS ?_
      try simp only [pa, pl]
      refine tk 2 27 rfl rfl (.agg #[.slice aa T.rows.length ca, .slice ac T.costs.length cc, .slice ak T.cls.length ck]) (fun W hW => by obtain ⟨c0, c1, c2⟩ := hW; go_simp) hS ?_
      try simp only [pa, pl]
      refine wpAnyEOne 3 (by kernel_rfl) ?_
      refine wpOpCall (some 28) 61 #[.agg #[.slice aa T.rows.length ca, .slice ac T.costs.length cc, .slice ak T.cls.length ck]] rfl rfl rfl (by go_simp) (AL) ?_
      rintro e w6 ⟨vl, rfl, hown, hb6⟩
      obtain ⟨al, cl, rfl⟩ := owns_form hown
      have hb56 := (Below.dn (Below.refl w5.heap.size w5) 1).trans hb6
      have bx6 := Boxs.below BX5.out hb56
      have hrl := owns_ints hown
      refine ⟨_, rfl, ?_⟩
      refine ⟨.inl (⟨bx6.cell 0, bx6.cell 1, bx6.cell 2⟩), ?_⟩
      try simp only [pa, pl]
      refine wpAnyEOne 4 (by kernel_rfl) ?_
      refine wpOpCall (some 29) 62 #[.pointer (some ⟨bc, 0, none⟩), .agg #[.slice aa T.rows.length ca, .slice ac T.costs.length cc, .slice ak T.cls.length ck], .slice al T.rows.length cl] rfl rfl rfl (by go_simp) (TC _ w6 hb56 hrl) ?_
      rintro e w7 ⟨⟨p, rfl, ht7⟩, hb7⟩
      obtain ⟨pp, rfl⟩ := ht7.form
      have bx7 := Boxs.below bx6 hb7
      refine ⟨_, rfl, ?_⟩
      refine ⟨.inl (⟨bx7.cell 0, bx7.cell 1, bx7.cell 2⟩), ?_⟩
      try simp only [pa, pl]
      refine wpAnyEOne 5 (by kernel_rfl) ?_
      refine wpOpRun' (v := .pointer pp) (w' := w7) (some 9) rfl rfl rfl (by rfl) ?_
      refine ⟨.inr (allUp_of (by kernel_rfl)), ?_⟩
      try simp only [pa, pl]
      refine wpAnyE_done (by kernel_rfl) ?_ _
      have hs5 := HB5.out.size
      have hb57 := hb56.trans (hb7.mono hb56.size)
      have HB7 := Lib.hid (HB5.out.trans (hb57.mono hs5))
      have BX7 := Lib.hid bx7
      have h06 : w.heap.size ≤ w6.heap.size := Nat.le_trans hs5 hb56.size
      have HT7 := Lib.hid (ht7.le h06)
      have CK := rcheck_any (ht7.le h06) (by have := treeF_dep (greedyA T) T T.rows.length (allW T); omega) _ _ _ T w7 (Below.refl _ _) (HTw.out.below HB7.out)
      clear hb57 hb56 hb6 hb7 bx6 bx7 ht7 hrl hown TC hS c0 c1 c2 AL h06
      have c0 := BX7.out.cell 0; have c1 := BX7.out.cell 1; have c2 := BX7.out.cell 2
      simp only [List.getElem?_toArray, List.getElem?_cons_zero, List.getElem?_cons_succ] at c0 c1 c2
      go_wp2_with fail
      refine CK.mono ?_
      rintro e w8 ⟨⟨cc8, xx8, rfl, hck⟩, hb8⟩
      have HCK := Lib.hid hck
      have HT8 := Lib.hid (HT7.out.under hb8)
      have HB8 := Lib.hid (HB7.out.trans (hb8.mono HB7.out.size))
      clear hck hb8 CK
      go_wp2_with fail
      (try simp only [Exit.inBlock, Exit.then]); refine bodyPost_ret (results_tmp3 rfl _ _ _) rfl ?_
      have hg : greTr T = treeF (greedyA T) T T.rows.length (allW T) := by unfold greTr; rw [if_pos HE.out]
      exact ⟨⟨_, _, ⟨_, rfl, by rw [hg]; exact HT8.out⟩, .good HE.out (by rw [hg]; exact HCK.out)⟩, HB8.out⟩
  · have hv' : (x != 0) = true := by simpa using hv
    have HE := Lib.hid (show exE T = x by unfold exE; rw [if_pos (by rw [HX.out]; exact hv), HX.out])
    have HV := Lib.hid hv
    clear hv
    go_wp2_with fail
    (try simp only [Exit.inBlock, Exit.then]); refine bodyPost_ret (results_tmp3 rfl _ _ _) rfl ?_
    exact ⟨⟨_, _, ⟨_, rfl, by unfold greTr; rw [if_neg (by rw [HE.out]; exact HV.out)]; exact .nil⟩, by have := Gr.bad (T := T) (by rw [HE.out]; exact HV.out); rw [HE.out] at this; exact this⟩, HB2.out⟩
end Go.Proofs.Ytmkkegigajmhkaa

namespace Go.Proofs.Ytmkkegigajmhkaa
open Go.RowKit Go.Maps

theorem rep_snoc (s : Nat) (x : Int) : List.replicate s x ++ [x] = List.replicate (s + 1) x := (List.replicate_succ' ..).symm
theorem pow10 {n : Nat} (h : n ≤ 10) : 2 ^ n ≤ 1024 := Nat.pow_le_pow_right (n := 2) (by omega) h
theorem wpow {n : Nat} (h : n ≤ 10) : wrap64 (2 ^ n) = ((2 ^ n : Nat) : Int) := by
  have := pow10 h
  have e : ((2 : Int) ^ n) = ((2 ^ n : Nat) : Int) := by simp
  rw [e]
  generalize 2 ^ n = p at *
  exact IntWalk.wrap64_in _ (by omega)
theorem best_ex {T : Tb} {x : Int} (h : exE T = x) (hx : x ≠ 0) : bestErr T = x ∧ bestC T = 0 ∧ bestTr T = .nil := by
  have he : bestErr T = x := by unfold bestErr; rw [if_pos (by rw [h]; exact hx), h]
  refine ⟨he, ?_, ?_⟩
  · unfold bestC; rw [if_neg (by rw [he]; exact hx)]
  · unfold bestTr; rw [if_neg (by rw [he]; exact hx)]
set_option maxRecDepth 100000 in
set_option maxHeartbeats 16000000 in
theorem rbestP_any (va vc vk : Value) (T : Tb) (w : World) (h : TbR w va vc vk T) :
    Calls Try.prog 24 #[.agg #[va, vc, vk]] w fun e w' => RSolve w.heap.size (bestTr T) (bestC T) (bestErr T) e w' ∧ Below w.heap.size w w' := by
  obtain ⟨aa, ca, rfl⟩ := h.rows.form
  obtain ⟨ac, cc, rfl⟩ := h.costs.form
  obtain ⟨ak, ck, rfl⟩ := h.cls.form
  have HB := Lib.hid (alloc_below w (.cells #[.slice aa T.rows.length ca, .slice ac T.costs.length cc, .slice ak T.cls.length ck] 25))
  have BX := Lib.hid (Boxs.new w 25 #[.slice aa T.rows.length ca, .slice ac T.costs.length cc, .slice ak T.cls.length ck])
  have HTw := Lib.hid h
  obtain ⟨B, hB⟩ : ∃ B, w.heap.size = B := ⟨_, rfl⟩
  rw [hB] at BX
  clear h
  have V := rvalid_any _ _ _ T _ (HTw.out.below HB.out)
  have c0 := BX.out.cell 0; have c1 := BX.out.cell 1; have c2 := BX.out.cell 2
  simp only [List.getElem?_toArray, List.getElem?_cons_zero, List.getElem?_cons_succ] at c0 c1 c2
  obtain ⟨x, hx⟩ : ∃ x, validE T = x := ⟨_, rfl⟩
  rw [hx] at V
  have HX := Lib.hid hx
  clear hx
  go_enter Try.func24, Try.ntmps24
  go_wp2_with fail
  generalize w.alloc (.cells #[.slice aa T.rows.length ca, .slice ac T.costs.length cc, .slice ak T.cls.length ck] 25) = wb at *
  refine V.mono ?_
  rintro e w2 ⟨rfl, hb2⟩
  have hs0 := HB.out.size
  have HB2 := Lib.hid (HB.out.trans (hb2.mono hs0))
  have BX2 := Lib.hid (Boxs.below BX.out hb2)
  clear V c0 c1 c2 hb2 HB BX hs0
  by_cases hv : x = 0
  · subst hv
    have HO := Lib.hid ((okT_iff T).1 HX.out)
    have TW := rtwins_any _ _ _ T w2 (HTw.out.below HB2.out)
    unfold TwOut at TW
    have c0 := BX2.out.cell 0; have c1 := BX2.out.cell 1; have c2 := BX2.out.cell 2
    simp only [List.getElem?_toArray, List.getElem?_cons_zero, List.getElem?_cons_succ] at c0 c1 c2
    go_wp2_with fail
    refine TW.mono ?_
    rintro e w3 ⟨⟨tx, ty, tb, rfl, htw⟩, hb3⟩
    have htb := htw.is HX.out
    have HTB := Lib.hid htb.symm
    have hs2 := HB2.out.size
    have HB3 := Lib.hid (HB2.out.trans (hb3.mono hs2))
    have BX3 := Lib.hid (Boxs.below BX2.out hb3)
    have hal := alloc_below w3 (.cells #[.int .i64 tx, .int .i64 ty] 30)
    have hs3 := HB3.out.size
    have HB4 := Lib.hid (HB3.out.trans (hal.mono hs3))
    have BX4 := Lib.hid (Boxs.below BX3.out hal)
    obtain ⟨w4, hw4⟩ : ∃ W, w3.alloc (.cells #[.int .i64 tx, .int .i64 ty] 30) = W := ⟨_, rfl⟩
    rw [hw4] at HB4 BX4
    clear TW htw htb hb3 hal c0 c1 c2 HB2 BX2 HB3 BX3
    have c0 := BX4.out.cell 0; have c1 := BX4.out.cell 1; have c2 := BX4.out.cell 2
    simp only [List.getElem?_toArray, List.getElem?_cons_zero, List.getElem?_cons_succ] at c0 c1 c2
    cases tb
    case true =>
      have HE := Lib.hid (show exE T = 14 by unfold exE; rw [if_neg (by rw [HX.out]; simp), if_pos HTB.out])
      go_wp2_with fail
      (try simp only [Exit.inBlock, Exit.then]); refine bodyPost_ret (results_tmp3 rfl _ _ _) rfl ?_
      exact ⟨⟨_, by rw [(best_ex HE.out (by omega)).1, (best_ex HE.out (by omega)).2.1] <;> rfl, by rw [(best_ex HE.out (by omega)).2.2]; exact .nil⟩, HB4.out⟩
    case false =>
      have HE := Lib.hid (show exE T = 0 by unfold exE; rw [if_neg (by rw [HX.out]; simp), if_neg (by rw [HTB.out]; simp)])
      have HN := Lib.hid (exE_ok HE.out).2
      by_cases h10 : 10 < T.rows.length
      · have he : bestErr T = 4 := by unfold bestErr; rw [if_neg (by rw [HE.out]; simp), if_pos h10]
        have ht : bestTr T = .nil := by unfold bestTr; rw [he]; rfl
        have hc : bestC T = 0 := by unfold bestC; rw [he]; rfl
        have hg : (10 : Int) < (T.rows.length : Int) := by omega
        have HER := Lib.hid he; have HTR := Lib.hid ht; have HC := Lib.hid hc
        clear he ht hc h10
        go_wp2_with fail
        (try simp only [Exit.inBlock, Exit.then]); refine bodyPost_ret (results_tmp3 rfl _ _ _) rfl ?_
        exact ⟨⟨_, by rw [HER.out, HC.out] <;> rfl, by rw [HTR.out]; exact .nil⟩, HB4.out⟩
      · have he : bestErr T = 0 := by unfold bestErr; rw [if_neg (by rw [HE.out]; simp), if_neg h10]
        have ht : bestTr T = treeF (fun ws => (bestV T ws).1) T T.rows.length (allW T) := by unfold bestTr; rw [if_pos he]
        have hc : bestC T = (bestV T (allW T)).2 := by unfold bestC; rw [if_pos he]
        have hg : ¬ (10 : Int) < (T.rows.length : Int) := by omega
        have hh10 : T.rows.length ≤ 10 := by omega
        have HER := Lib.hid he; have HTR := Lib.hid ht; have HC := Lib.hid hc
        have hal := alloc_below w4 (.cells #[.slice none 0 0, .slice none 0 0] 96)
        have hs4 := HB4.out.size
        have BC := Boxs.new w4 96 #[.slice none 0 0, .slice none 0 0]
        obtain ⟨bc, hbc⟩ : ∃ b, w4.heap.size = b := ⟨_, rfl⟩
        obtain ⟨w5, hw5⟩ : ∃ W, w4.alloc (.cells #[.slice none 0 0, .slice none 0 0] 96) = W := ⟨_, rfl⟩
        rw [hbc, hw5] at BC
        rw [hw5] at hal
        have CI0 := Lib.hid (show CI w4.heap.size bc (.slice none 0 0) (.slice none 0 0) [] [] w4 w5 from ⟨hal, by omega, hal.size, BC, OwnRs.nils _ _ 2⟩)
        have hB4 := BX4.out.lt
        have HT4 := Lib.hid (HTw.out.below HB4.out)
        clear hal BC he ht hc h10
        go_wp2_with fail
        clear hw5 hw4 c0 c1 c2 hg hB
        obtain ⟨N, hN⟩ : ∃ N, 2 ^ T.rows.length = N := ⟨_, rfl⟩
        have HNN := Lib.hid hN
        have hp := pow10 hh10
        have HWP := Lib.hid (wpow hh10)
        rw [hN] at hp
        have hN1 : 1 ≤ N := by have := Nat.two_pow_pos T.rows.length; omega
        clear hN
        go_loopw [9] (fun sv wr => ∃ (s : Nat) (va vk : Value), s ≤ N ∧ sv = .int .i64 s ∧ CI w4.heap.size bc va vk (List.replicate s (-1)) (List.replicate s (-1)) w4 wr) (fun sv _ => N - (intOf sv).toNat)
        case atStart => exact ⟨0, _, _, Nat.zero_le _, rfl, CI0.out⟩
        case round =>
          clear CI0
          obtain ⟨s, va, vk, hs, rfl, hci⟩ := hrel
          have hbx := Boxs.of_below BX4.out hci.bel hB4
          have hs0 : (0 : Int) ≤ (s : Int) := Int.natCast_nonneg _
          have BXR := Lib.hid hbx; have CIR := Lib.hid hci
          have c0 := hbx.cell 0
          have b0 := hci.bx.cell 0; have b1 := hci.bx.cell 1
          simp only [List.getElem?_toArray, List.getElem?_cons_zero, List.getElem?_cons_succ] at b0 b1 c0
          have f0 := hci.bx.frozen 0; have f1 := hci.bx.frozen 1
          have hbl := hci.bx.lt
          have hn0 : (0 : Int) ≤ (T.rows.length : Int) := Int.natCast_nonneg _
          have hn64 : (T.rows.length : Int) < 64 := by omega
          by_cases hlt : s < N
          · have hlt' : (s : Int) < wrap64 (2 ^ T.rows.length) := by rw [HWP.out, HNN.out]; omega
            have r0 := hci.rs.inn 0 _ _ rfl rfl
            have r1 := hci.rs.inn 1 _ _ rfl rfl
            obtain ⟨a0, k0, rfl⟩ := owns_form r0
            obtain ⟨a1, k1, rfl⟩ := owns_form r1
            rw [List.length_replicate] at b0 b1
            clear hci hbx r0 r1
            rw [List.length_replicate] at CIR
            have hal := alloc_below wr (.cells #[.int .i64 (-1)] 3)
            have CA := Lib.hid (CIR.out.under hal)
            clear hal
            go_wp2_with (first | (at_builtin; refine wpList_appI (base := w4.heap.size) rfl _ _ rfl (.slice a0 s k0) (List.replicate s (-1)) rfl (CA.out.rs.inn 0 _ _ rfl rfl) (.slice (some ⟨wr.heap.size, 0, none⟩) 1 1) [-1] rfl (Rd_fresh wr 3 #[.int .i64 (-1)] 1 rfl (by omega)) (by simp; omega) CA.out.sz ?_; intro v6 w6 happ; rw [rep_snoc] at happ; obtain ⟨a6, k6, he6⟩ := happ.form; rw [List.length_replicate] at he6; subst he6; have CB := Lib.hid (CA.out.appA happ); have hx6 := Boxs.app CA.out.bx (CA.out.rs.inn 0 _ _ rfl rfl) happ (by decide); have g0 := hx6.cell 0; have g1 := hx6.cell 1; have gf0 := hx6.frozen 0; have gf1 := hx6.frozen 1; have gl := hx6.lt; simp only [List.getElem?_toArray, List.getElem?_cons_zero, List.getElem?_cons_succ] at g0 g1; clear happ hx6 b0 b1 f0 f1 hbl) | (at_builtin; have hal6 := alloc_below (w6.setCell ⟨bc, 0, none⟩ (.slice a6 (s + 1) k6)) (.cells #[.int .i64 (-1)] 3); have CC := Lib.hid (CB.out.under hal6); refine wpList_appI (base := w4.heap.size) rfl _ _ rfl (.slice a1 s k1) (List.replicate s (-1)) rfl (CC.out.rs.inn 1 _ _ rfl rfl) (.slice (some ⟨w6.heap.size, 0, none⟩) 1 1) [-1] rfl (by have := Rd_fresh (w6.setCell ⟨bc, 0, none⟩ (.slice a6 (s + 1) k6)) 3 #[.int .i64 (-1)] 1 rfl (by omega); rw [World.size_setCell] at this; exact this) (by simp; omega) CC.out.sz ?_; intro v8 w8 happ; rw [rep_snoc] at happ; obtain ⟨a8, k8, he8⟩ := happ.form; rw [List.length_replicate] at he8; subst he8; have CD := Lib.hid (CC.out.appK happ); have hx8 := Boxs.app CC.out.bx (CC.out.rs.inn 1 _ _ rfl rfl) happ (by decide); have j0 := hx8.cell 0; have j1 := hx8.cell 1; have jf1 := hx8.frozen 1; have jl := hx8.lt; simp only [List.getElem?_toArray, List.getElem?_cons_zero, List.getElem?_cons_succ] at j0 j1; clear happ hx8 hal6))
            go_roundw
            case rel => exact ⟨s + 1, _, _, by omega, by go_num, CD.out⟩
            case measure => simp [intOf]; omega
          · have hlt' : ¬ (s : Int) < wrap64 (2 ^ T.rows.length) := by rw [HWP.out, HNN.out]; omega
            obtain rfl : s = N := by omega
            have r0 := hci.rs.inn 0 _ _ rfl rfl
            have r1 := hci.rs.inn 1 _ _ rfl rfl
            rw [List.length_replicate] at r0 r1
            obtain ⟨ga, kA, e0⟩ := ownsRow_some r0 (by omega)
            obtain ⟨gk, kK, e1⟩ := ownsRow_some r1 (by omega)
            subst e0; subst e1
            obtain ⟨hri, hrp⟩ := CIR.out.inv HNN.out.symm
            have HRI := Lib.hid hri; have HRP := Lib.hid hrp
            have HBR := Lib.hid hci.bel
            have hszr := hci.sz
            have hlen := allW_len T
            have hr1 := HO.out.r1; have hr64 := HO.out.r64
            have hdr := Below.dn (Below.refl wr.heap.size wr) 1
            have AL := fun (W : World) (hW : Below wr.heap.size wr W) => rall_any _ _ _ T W (HT4.out.below (HBR.out.trans (hW.mono hszr))) (by omega)
            have BB := fun (vx : Value) (W : World) (hW : Below wr.heap.size wr W) hr => rbest_any w4 _ _ _ T HO.out hh10 HT4.out wr.heap.size s bc ga gk kA kK HRP.out ((allW T).length + 1) (allW T) vx W _ _ (by omega) (by omega) (allW_ok T) (allW_sorted T) (HRI.out.under HRP.out hW) hW.size hr
            unfold RBOut at BB
            have c1 := hbx.cell 1; have c2 := hbx.cell 2
            simp only [List.getElem?_toArray, List.getElem?_cons_zero, List.getElem?_cons_succ] at c1 c2
            have hS : (wr.drewN 1).cell? ⟨B, 0, none⟩ = some (.slice aa T.rows.length ca) ∧ (wr.drewN 1).cell? ⟨B, 1, none⟩ = some (.slice ac T.costs.length cc) ∧ (wr.drewN 1).cell? ⟨B, 2, none⟩ = some (.slice ak T.cls.length ck) := ⟨c0, c1, c2⟩
            obtain ⟨⟨q1, cost⟩, hpe⟩ : ∃ z, bestV T (allW T) = z := ⟨_, rfl⟩
            rw [hpe] at BB HC
            clear hci hbx r0 r1 hri hrp hpe hlt
            go_wp2_with fail
            refine wp_region_E (fun W => W.cell? ⟨B, 0, none⟩ = some (.slice aa T.rows.length ca) ∧ W.cell? ⟨B, 1, none⟩ = some (.slice ac T.costs.length cc) ∧ W.cell? ⟨B, 2, none⟩ = some (.slice ak T.cls.length ck)) (by kernel_rfl) ?_
            have hdr : (wr).drew = { wr with drawn := (wr).drawn + 1 } := rfl
            rw [← hdr]
            clear hdr
            change wpAnyE _ _ _ _ _ _ _ _ ((wr).drewN 1)
            refine tm 0 55 rfl rfl (.pointer (some ⟨bc, 0, none⟩)) hS ?_
            try simp only [pa, pl]
            refine tk 1 56 rfl rfl (.agg #[.slice aa T.rows.length ca, .slice ac T.costs.length cc, .slice ak T.cls.length ck]) (fun W hW => by obtain ⟨c0, c1, c2⟩ := hW; go_simp) hS ?_
            try simp only [pa, pl]
            refine tk 2 57 rfl rfl (.agg #[.slice aa T.rows.length ca, .slice ac T.costs.length cc, .slice ak T.cls.length ck]) (fun W hW => by obtain ⟨c0, c1, c2⟩ := hW; go_simp) hS ?_
            try simp only [pa, pl]
            refine wpAnyEOne 3 (by kernel_rfl) ?_
            refine wpOpCall (some 58) 61 #[.agg #[.slice aa T.rows.length ca, .slice ac T.costs.length cc, .slice ak T.cls.length ck]] rfl rfl rfl (by go_simp) (AL (wr.drewN 1) hdr) ?_
            rintro e w6 ⟨vl, rfl, hown, hb6⟩
            obtain ⟨al, cl, rfl⟩ := owns_form hown
            have hb6 := hdr.trans hb6
            have bx6 := Boxs.below BXR.out hb6
            have hrl := RdIn_owns hown
            refine ⟨_, rfl, ?_⟩
            refine ⟨.inl (⟨bx6.cell 0, bx6.cell 1, bx6.cell 2⟩), ?_⟩
            try simp only [pa, pl]
            refine wpAnyEOne 4 (by kernel_rfl) ?_
            refine wpOpCall (some 59) 60 #[.pointer (some ⟨bc, 0, none⟩), .agg #[.slice aa T.rows.length ca, .slice ac T.costs.length cc, .slice ak T.cls.length ck], .slice al T.rows.length cl] rfl rfl rfl (by go_simp) (BB _ w6 hb6 hrl) ?_
            rintro e w7 ⟨rfl, A7, C7, hI7, hm7, hn7, hk7⟩
            have bx7 := Boxs.of_below BX4.out hI7.bel hB4
            refine ⟨_, rfl, ?_⟩
            refine ⟨.inl (⟨bx7.cell 0, bx7.cell 1, bx7.cell 2⟩), ?_⟩
            try simp only [pa, pl]
            refine wpAnyEOne 5 (by kernel_rfl) ?_
            refine wpOpRun' (v := .int .i64 cost) (w' := w7) (some 10) rfl rfl rfl (by rfl) ?_
            refine ⟨.inr (allUp_of (by kernel_rfl)), ?_⟩
            try simp only [pa, pl]
            refine wpAnyE_done (by kernel_rfl) ?_ _
            have HI7 := Lib.hid hI7
            have hk57 := (Keeps.of_below hb6).trans hk7
            have BX7 := Lib.hid bx7
            have hs7 : wr.heap.size ≤ w7.heap.size := hk57.size
            have HN7 := Lib.hid hn7
            clear bx7 bx6 hI7 hk57 hk7 hn7 hm7 hb6 hrl hown BB hS c0 c1 c2 hdr
            have HB7 := Lib.hid (HI7.out.bel)
            have TC := fun (vx : Value) (W : World) (hW : Below w7.heap.size w7 W) hr => rtreeB_any T w4 wr.heap.size s bc ga gk kA kK HRP.out A7 C7 HO.out hh10 (best_choose HO.out HN.out) _ _ _ T.rows.length (allW T) vx W (by omega) (fun h0 => by rw [h0] at hlen; simp at hlen; omega) (by omega) (allW_sorted T) (allW_ok T) (HT4.out.below (HB7.out.trans (hW.mono (by omega)))) (HI7.out.under HRP.out (hW.mono hs7)) (Nat.le_trans hs7 hW.size) HN7.out hr
            unfold RTree at TC
            have AL7 := rall_any _ _ _ T (w7.drewN 1) (HT4.out.below (Below.dn HB7.out 1)) (by omega)
            have c0 := BX7.out.cell 0; have c1 := BX7.out.cell 1; have c2 := BX7.out.cell 2
            simp only [List.getElem?_toArray, List.getElem?_cons_zero, List.getElem?_cons_succ] at c0 c1 c2
            have hS : (w7.drewN 1).cell? ⟨B, 0, none⟩ = some (.slice aa T.rows.length ca) ∧ (w7.drewN 1).cell? ⟨B, 1, none⟩ = some (.slice ac T.costs.length cc) ∧ (w7.drewN 1).cell? ⟨B, 2, none⟩ = some (.slice ak T.cls.length ck) := ⟨c0, c1, c2⟩
            go_wp2_with fail
            refine wp_region_E (fun W => W.cell? ⟨B, 0, none⟩ = some (.slice aa T.rows.length ca) ∧ W.cell? ⟨B, 1, none⟩ = some (.slice ac T.costs.length cc) ∧ W.cell? ⟨B, 2, none⟩ = some (.slice ak T.cls.length ck)) (by kernel_rfl) ?_
            have hdr : (w7).drew = { w7 with drawn := (w7).drawn + 1 } := rfl
            rw [← hdr]
            clear hdr
            change wpAnyE _ _ _ _ _ _ _ _ ((w7).drewN 1)
            refine tm 0 60 rfl rfl (.pointer (some ⟨bc, 0, none⟩)) hS ?_
            try simp only [pa, pl]
            refine tk 1 61 rfl rfl (.agg #[.slice aa T.rows.length ca, .slice ac T.costs.length cc, .slice ak T.cls.length ck]) (fun W hW => by obtain ⟨c0, c1, c2⟩ := hW; go_simp) hS ?_
            try simp only [pa, pl]
            refine tk 2 62 rfl rfl (.agg #[.slice aa T.rows.length ca, .slice ac T.costs.length cc, .slice ak T.cls.length ck]) (fun W hW => by obtain ⟨c0, c1, c2⟩ := hW; go_simp) hS ?_
            try simp only [pa, pl]
            refine tm 5 65 rfl rfl (.int .i64 cost) hS ?_
            try simp only [pa, pl]
            refine wpAnyEOne 3 (by kernel_rfl) ?_
            refine wpOpCall (some 63) 61 #[.agg #[.slice aa T.rows.length ca, .slice ac T.costs.length cc, .slice ak T.cls.length ck]] rfl rfl rfl (by go_simp) (AL7) ?_
            rintro e w8 ⟨vl, rfl, hown, hb8⟩
            obtain ⟨al8, cl8, rfl⟩ := owns_form hown
            have hb8 := (Below.dn (Below.refl w7.heap.size w7) 1).trans hb8
            have bx8 := Boxs.below BX7.out hb8
            have hrl := owns_ints hown
            refine ⟨_, rfl, ?_⟩
            refine ⟨.inl (⟨bx8.cell 0, bx8.cell 1, bx8.cell 2⟩), ?_⟩
            try simp only [pa, pl]
            refine wpAnyEOne 4 (by kernel_rfl) ?_
            refine wpOpCall (some 64) 62 #[.pointer (some ⟨bc, 0, none⟩), .agg #[.slice aa T.rows.length ca, .slice ac T.costs.length cc, .slice ak T.cls.length ck], .slice al8 T.rows.length cl8] rfl rfl rfl (by go_simp) (TC _ w8 hb8 hrl) ?_
            rintro e w9 ⟨⟨p, rfl, ht9⟩, hb9⟩
            obtain ⟨pp, rfl⟩ := ht9.form
            have bx9 := Boxs.below bx8 hb9
            refine ⟨_, rfl, ?_⟩
            refine ⟨.inl (⟨bx9.cell 0, bx9.cell 1, bx9.cell 2⟩), ?_⟩
            try simp only [pa, pl]
            refine wpAnyEOne 6 (by kernel_rfl) ?_
            refine wpOpRun' (v := .pointer pp) (w' := w9) (some 2) rfl rfl rfl (by rfl) ?_
            refine ⟨.inl (⟨bx9.cell 0, bx9.cell 1, bx9.cell 2⟩), ?_⟩
            try simp only [pa, pl]
            refine wpAnyEOne 7 (by kernel_rfl) ?_
            refine wpOpRun' (v := .int .i64 cost) (w' := w9) (some 3) rfl rfl rfl (by rfl) ?_
            refine ⟨.inl (⟨bx9.cell 0, bx9.cell 1, bx9.cell 2⟩), ?_⟩
            try simp only [pa, pl]
            refine wpAnyEOne 8 (by kernel_rfl) ?_
            refine wpOpRun' (v := .int .i64 0) (w' := w9) (some 4) rfl rfl rfl (by rfl) ?_
            refine ⟨.inr (allUp_of (by kernel_rfl)), ?_⟩
            try simp only [pa, pl]
            refine wpAnyE_done (by kernel_rfl) ?_ _
            have hb79 := hb8.trans (hb9.mono hb8.size)
            have h4 : w.heap.size ≤ w4.heap.size := hs4
            have h48 : w4.heap.size ≤ w8.heap.size := by have := hb8.size; omega
            have HTF := Lib.hid (ht9.le (Nat.le_trans h4 h48))
            have HBF := Lib.hid (HB4.out.trans ((HB7.out.trans (hb79.mono (by omega))).mono h4))
            clear TC hS c0 c1 c2 AL7 hb79 hb8 hb9 bx8 bx9 ht9 hrl hown
            go_wp2_with fail
            (try simp only [Exit.inBlock, Exit.then]); refine bodyPost_ret (results_tmp3 rfl _ _ _) rfl ?_
            exact ⟨⟨_, by rw [HER.out, HC.out] <;> rfl, by rw [HTR.out]; exact HTF.out⟩, HBF.out⟩
  · have hv' : (x != 0) = true := by simpa using hv
    have HE := Lib.hid (show exE T = x by unfold exE; rw [if_pos (by rw [HX.out]; exact hv), HX.out])
    have HV := Lib.hid hv
    clear hv
    go_wp2_with fail
    (try simp only [Exit.inBlock, Exit.then]); refine bodyPost_ret (results_tmp3 rfl _ _ _) rfl ?_
    exact ⟨⟨_, by rw [(best_ex HE.out HV.out).1, (best_ex HE.out HV.out).2.1] <;> rfl, by rw [(best_ex HE.out HV.out).2.2]; exact .nil⟩, HB2.out⟩
end Go.Proofs.Ytmkkegigajmhkaa

