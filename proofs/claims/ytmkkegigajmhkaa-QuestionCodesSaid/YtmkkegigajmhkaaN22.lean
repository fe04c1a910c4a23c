/- Trees of the one kind as trees of the other (law). Same of equal trees (reference); same (law). A table that grows and whose rows may be shared; what is small of the trees. -/
import Derived.Test.YtmkkegigajmhkaaN21
import Derived.Test.YtmkkegigajmhkaaN23
set_option linter.unusedVariables false
namespace Go.Proofs.Ytmkkegigajmhkaa
open Go.RowKit Go.Maps

/-- a node of any class to which children are added -/
structure NodeV (τ ε : TypeId) (G : Nat → Prop) (n0 : Nat) (W : World) (bx : Nat) (a c : Int) (va kv : Value) (us : List Value) (ts : List Tr) : Prop where
  hb : n0 ≤ bx
  gn : ∀ i, n0 ≤ i → G i
  sz : n0 ≤ W.heap.size
  box : Boxs W bx τ #[.int .i64 a, .int .i64 c, va, kv]
  row : W.ownsRow n0 ε 1 kv us.length us
  trees : Trees τ (fun i => G i ∧ i ≠ bx ∧ kv.ownBlock ≠ some i) W us ts
section
variable {τ ε : TypeId} {G : Nat → Prop} {n0 : Nat} {W W' : World} {bx : Nat} {a c : Int} {va kv : Value} {us : List Value} {ts : List Tr}
theorem NodeV.under (h : NodeV τ ε G n0 W bx a c va kv us ts) (hb : Below W.heap.size W W') : NodeV τ ε G n0 W' bx a c va kv us ts :=
  ⟨h.hb, h.gn, Nat.le_trans h.sz hb.size, Boxs.below h.box hb, owns_below h.row hb, h.trees.block fun i hi _ => hb.block i hi⟩
theorem NodeV.app {kv' pt : Value} {t : Tr} (h : NodeV τ ε G n0 W bx a c va kv us ts) (hne : τ ≠ ε) (ht : TreeIn τ (fun i => G i ∧ i ≠ bx ∧ kv.ownBlock ≠ some i) W pt t)
    (ha : AppOut n0 ε W kv (us.length + 1) (us ++ [pt]) kv' W') : NodeV τ ε G n0 (W'.setCell ⟨bx, 3, none⟩ kv') bx a c va kv' (us ++ [pt]) (ts ++ [t]) := by
  have hsz := ha.size
  have hbx' : Boxs W' bx τ #[.int .i64 a, .int .i64 c, va, kv] := Boxs.app h.box h.row ha hne
  have hT := (h.trees.snoc ht).mono (G := fun i => (G i ∧ i ≠ bx ∧ kv.ownBlock ≠ some i) ∧ kv'.ownBlock ≠ some i) fun i hi hF => ⟨hF, fun he => by
    rcases ha.2.2 with h2 | h2
    · exact hF.2.2 (h2 ▸ he)
    · rw [h2] at he; cases he; omega⟩
  refine ⟨h.hb, h.gn, by simpa using Nat.le_trans h.sz hsz, ?_, ?_, ?_⟩
  · simpa using hbx'.put 3 kv'
  · have := owns_boxset (o := 3) ha.1 hbx' hne kv'
    simpa using this
  · refine (hT.block (W' := W'.setCell ⟨bx, 3, none⟩ kv') fun i hi hF => ?_).mono fun i _ hF => ⟨hF.1.1, hF.1.2.1, hF.2⟩
    rw [Below.heap_setCell _ _ _ _ hF.1.2.1]
    exact ha.2.1.block i hi fun e => hF.1.2.2 e.symm
theorem NodeV.done {ans : List Int} (h : NodeV τ ε G n0 W bx a c va kv us ts) (ha : RdIn G W va (ints ans)) : TreeIn τ G W (.pointer (some ⟨bx, 0, none⟩)) (.node a c ans ts) :=
  .of (h.gn _ h.hb) h.box ha (RdIn.mono (RdIn_owns h.row) fun i _ hi => h.gn i hi) (h.trees.mono fun i _ hF => hF.1)
end
mutual
/-- no list of a tree is great -/
def smK : Tr → Bool
  | .nil => true
  | .node _ _ ans kids => decide (ans.length ≤ 100000 ∧ kids.length ≤ 100000) && smKs kids
def smKs : List Tr → Bool
  | [] => true
  | t :: r => smK t && smKs r
end
theorem smKs_mem : ∀ (l : List Tr) (t : Tr), smKs l = true → t ∈ l → smK t = true
  | [], t, _, h => by cases h
  | x :: r, t, h, ht => by
    rw [smKs] at h
    obtain ⟨h1, h2⟩ := Bool.and_eq_true_iff.1 h
    rcases List.mem_cons.1 ht with e | e
    · rw [e]; exact h1
    · exact smKs_mem r t h2 e
/-- what the conversions return -/
def ConvOut (τ : TypeId) (F : Nat → Prop) (W0 w : World) (t : Tr) (e : Ending) (w' : World) : Prop := ∃ p, e = .returned p ∧ TreeIn τ (fun i => (F i ∧ i < W0.heap.size) ∨ w.heap.size ≤ i) w' p t
set_option maxRecDepth 100000 in
set_option maxHeartbeats 8000000 in
theorem plainN_any {F : Nat → Prop} {W0 : World} {v : Value} {t : Tr} (h : TreeIn 108 F W0 v t) (hsm : smK t = true) :
    ∀ (d : Nat) (w : World), Below W0.heap.size W0 w → depT t ≤ d → d ≤ 1000 → Calls Try.prog 64 #[v, .int .i64 (d : Int)] w fun e w' => ConvOut 105 F W0 w t e w' ∧ Below w.heap.size w w' := by
  induction h with
  | nil =>
    intro d w _ _ _
    go_enter Try.func64, Try.ntmps64
    go_wp2_with fail
    go_ret
    exact ⟨⟨_, rfl, .nil⟩, Below.refl _ _⟩
  | node hF hB ha hk hl hs ih =>
    rename_i b a c ans kids us va vk
    intro d w hb hdp hd
    rw [smK] at hsm
    obtain ⟨hsm1, hsm2⟩ := Bool.and_eq_true_iff.1 hsm
    have hsm1 := of_decide_eq_true hsm1
    obtain ⟨aa, ca, rfl⟩ := RdI.form (show RdI W0 va ans from ha.1)
    obtain ⟨ak, ck, rfl, hk2⟩ : ∃ x c, vk = .slice x us.length c ∧ Rd W0 (.slice x us.length c) us := by
      obtain ⟨x, c, h1, _⟩ := hk.1; exact ⟨x, c, h1, h1 ▸ hk.1⟩
    have hsz0 := hb.size
    have HAI := Lib.hid (RdIn.mono ha (G := fun i => (F i ∧ i < W0.heap.size) ∨ w.heap.size ≤ i) fun i hi hF => .inl ⟨hF, hi⟩)
    have HBX := Lib.hid hB
    have IH := Lib.hid ih
    have HK := Lib.hid hk2; have HL := Lib.hid hl; have HB := Lib.hid hb
    have HSM := Lib.hid hsm2
    have HSF := Lib.hid fun k u t hu ht => (hs k u t hu ht).form
    have hB2 := Boxs.below hB hb
    have hlb := hB.lt
    have c0 := hB2.cell 0; have c1 := hB2.cell 1; have c2 := hB2.cell 2; have c3 := hB2.cell 3
    simp only [List.getElem?_toArray, List.getElem?_cons_zero, List.getElem?_cons_succ] at c0 c1 c2 c3
    have hul : us.length ≤ 1000000 := by omega
    have hd1 : depT (.node a c ans kids) = depTs kids + 1 := by rw [depT]
    have hd0 : ((d : Int) == 0) = false := by simpa using (by omega : ¬ (d : Int) = 0)
    have hS : (w.drewN 1).cell? ⟨b, 0, none⟩ = some (.int .i64 a) ∧ (w.drewN 1).cell? ⟨b, 1, none⟩ = some (.int .i64 c) ∧ (w.drewN 1).cell? ⟨b, 2, none⟩ = some (.slice aa ans.length ca) := ⟨c0, c1, c2⟩
    clear ih hs ha hk hk2 hB hB2 hb hl hsm hsm2
    go_enter Try.func64, Try.ntmps64
    go_wp2_with fail
    refine wp_region_E (fun W => W.cell? ⟨b, 0, none⟩ = some (.int .i64 a) ∧ W.cell? ⟨b, 1, none⟩ = some (.int .i64 c) ∧ W.cell? ⟨b, 2, none⟩ = some (.slice aa ans.length ca)) (by kernel_rfl) ?_
    have hdr : (w).drew = { w with drawn := (w).drawn + 1 } := rfl
    rw [← hdr]
    clear hdr
    change wpAnyE _ _ _ _ _ _ _ _ ((w).drewN 1)
    refine tm 0 13 rfl rfl (.pointer (some ⟨b, 0, none⟩)) hS ?_
    try simp only [pa, pl]
    refine tg 1 14 rfl rfl (.pointer (some ⟨b, 0, none⟩)) hS ?_
    try simp only [pa, pl]
    refine tg 2 15 rfl rfl (.pointer (some ⟨b, 0, none⟩)) hS ?_
    try simp only [pa, pl]
    refine tk 3 16 rfl rfl (.int .i64 a) (fun W hW => by obtain ⟨c0, c1, c2⟩ := hW; go_simp) hS ?_
    try simp only [pa, pl]
    refine tm 4 17 rfl rfl (.pointer (some ⟨b, 0, none⟩)) hS ?_
    try simp only [pa, pl]
    refine tg 5 18 rfl rfl (.pointer (some ⟨b, 0, none⟩)) hS ?_
    try simp only [pa, pl]
    refine tg 6 19 rfl rfl (.pointer (some ⟨b, 1, none⟩)) hS ?_
    try simp only [pa, pl]
    refine tk 7 20 rfl rfl (.int .i64 c) (fun W hW => by obtain ⟨c0, c1, c2⟩ := hW; go_simp) hS ?_
    try simp only [pa, pl]
    refine tm 8 21 rfl rfl (.pointer (some ⟨b, 0, none⟩)) hS ?_
    try simp only [pa, pl]
    refine tg 9 22 rfl rfl (.pointer (some ⟨b, 0, none⟩)) hS ?_
    try simp only [pa, pl]
    refine tg 10 23 rfl rfl (.pointer (some ⟨b, 2, none⟩)) hS ?_
    try simp only [pa, pl]
    refine tk 11 24 rfl rfl (.slice aa ans.length ca) (fun W hW => by obtain ⟨c0, c1, c2⟩ := hW; go_simp) hS ?_
    try simp only [pa, pl]
    refine tg 12 25 rfl rfl (.agg #[.int .i64 a, .int .i64 c, .slice aa ans.length ca, .slice none 0 0]) hS ?_
    try simp only [pa, pl]
    refine wpAnyEOne 13 (by kernel_rfl) ?_
    refine wpOpRun' (v := .pointer (some ⟨w.heap.size, 0, none⟩)) (w' := ((w.drewN 1).alloc (.cells #[.int .i64 a, .int .i64 c, .slice aa ans.length ca, .slice none 0 0] 105))) (some 26) rfl rfl rfl (by go_simp <;> rfl) ?_
    have hb1 := (Below.dn (Below.refl w.heap.size w) 1).trans ((alloc_below (w.drewN 1) (.cells #[.int .i64 a, .int .i64 c, .slice aa ans.length ca, .slice none 0 0] 105)).mono (Nat.le_refl _))
    have hS1 : ((w.drewN 1).alloc (.cells #[.int .i64 a, .int .i64 c, .slice aa ans.length ca, .slice none 0 0] 105)).cell? ⟨b, 0, none⟩ = some (.int .i64 a) ∧ ((w.drewN 1).alloc (.cells #[.int .i64 a, .int .i64 c, .slice aa ans.length ca, .slice none 0 0] 105)).cell? ⟨b, 1, none⟩ = some (.int .i64 c) ∧ ((w.drewN 1).alloc (.cells #[.int .i64 a, .int .i64 c, .slice aa ans.length ca, .slice none 0 0] 105)).cell? ⟨b, 2, none⟩ = some (.slice aa ans.length ca) := ⟨(hb1.cell (p := ⟨b, 0, none⟩) (cell_in c0)).trans c0, (hb1.cell (p := ⟨b, 1, none⟩) (cell_in c1)).trans c1, (hb1.cell (p := ⟨b, 2, none⟩) (cell_in c2)).trans c2⟩
    refine ⟨.inl (hS1), ?_⟩
    try simp only [pa, pl]
    refine wpAnyEOne 14 (by kernel_rfl) ?_
    refine wpOpRun' (v := .pointer (some ⟨w.heap.size, 0, none⟩)) (w' := ((w.drewN 1).alloc (.cells #[.int .i64 a, .int .i64 c, .slice aa ans.length ca, .slice none 0 0] 105))) (some 5) rfl rfl rfl (by rfl) ?_
    refine ⟨.inr (allUp_of (by kernel_rfl)), ?_⟩
    try simp only [pa, pl]
    refine wpAnyE_done (by kernel_rfl) ?_ _
    have NB := Boxs.new (w.drewN 1) 105 #[.int .i64 a, .int .i64 c, .slice aa ans.length ca, .slice none 0 0]
    obtain ⟨bn, hbn⟩ : ∃ z, w.heap.size = z := ⟨_, rfl⟩
    have NV := Lib.hid (show NodeV 105 48 (fun i => (F i ∧ i < W0.heap.size) ∨ w.heap.size ≤ i) w.heap.size ((w.drewN 1).alloc (.cells #[.int .i64 a, .int .i64 c, .slice aa ans.length ca, .slice none 0 0] 105)) w.heap.size a c (.slice aa ans.length ca) (.slice none 0 0) [] [] from ⟨Nat.le_refl _, fun i hi => .inr hi, by simp, NB, World.ownsRow_nil _ _ _ _, Trees.nil _ _ _⟩)
    obtain ⟨w5, hw5⟩ : ∃ z, ((w.drewN 1).alloc (.cells #[.int .i64 a, .int .i64 c, .slice aa ans.length ca, .slice none 0 0] 105)) = z := ⟨_, rfl⟩
    rw [hw5] at NV hb1 ⊢
    have HB1 := Lib.hid hb1
    have c3 := (hb1.cell (p := ⟨b, 3, none⟩) (cell_in c3)).trans c3
    rw [hbn] at NV HAI ⊢
    have hs15 := hb1.size
    have h0n : W0.heap.size ≤ bn := by omega
    clear hw5 NB hS hS1 c0 c1 c2 hb1 hd0
    go_wp2_with fail
    go_loopw [6] (fun iv wr => ∃ (q : Nat) (zs : List Value) (kv : Value), q ≤ us.length ∧ iv = .int .i64 q ∧ zs.length = q ∧ (∀ b, kv.ownBlock = some b → w5.heap.size ≤ b) ∧ NodeV 105 48 (fun i => (F i ∧ i < W0.heap.size) ∨ bn ≤ i) bn wr bn a c (.slice aa ans.length ca) kv zs (kids.take q) ∧ Keeps (fun i => i = bn) w5 wr) (fun iv _ => us.length - (intOf iv).toNat)
    case atStart => exact ⟨0, [], _, Nat.zero_le _, rfl, rfl, fun b hb => (by cases hb), NV.out, Keeps.refl _ _⟩
    case round =>
      clear NV c3
      obtain ⟨q, zs, kv, hq, rfl, hzs, hkb, hnv, hkp⟩ := hrel
      have hq0 : (0 : Int) ≤ (q : Int) := Int.natCast_nonneg _
      have NV := Lib.hid hnv; have HKP := Lib.hid hkp; have HZS := Lib.hid hzs; have HKB := Lib.hid hkb
      obtain ⟨akv, ckv, hkv⟩ := owns_form hnv.row
      rw [hzs] at hkv
      subst hkv
      have hsr := hkp.size
      have HWR := Lib.hid (HB.out.trans ((show Below w.heap.size w wr from HB1.out.trans (hkp.below (n := w.heap.size) HB1.out.size (fun i _ hi => by have hi2 : i = bn := hi; omega))).mono HB.out.size))
      have HWW := Lib.hid (show Below w.heap.size w wr from HB1.out.trans (hkp.below (n := w.heap.size) HB1.out.size (fun i _ hi => by have hi2 : i = bn := hi; omega)))
      have hBX := Boxs.below HBX.out HWR.out
      have c3 := hBX.cell 3
      have n3 := hnv.box.cell 3
      have hnl := hnv.box.lt
      simp only [List.getElem?_toArray, List.getElem?_cons_zero, List.getElem?_cons_succ] at n3 c3
      clear hnv hkp hzs hkb hBX
      by_cases hqg : q < us.length
      · have hq1 : (q : Int) < (us.length : Int) := by omega
        obtain ⟨u, hu⟩ := elem_at hqg
        obtain ⟨tki, htk⟩ := elem_at (show q < kids.length by rw [← HL.out]; exact hqg)
        obtain ⟨bk, ok, rfl, hbk, hcu⟩ := HK.out.at hu
        have qu := (HWR.out.cell (p := ⟨bk, ok + q, none⟩) hbk).trans hcu
        obtain ⟨pu, rfl⟩ := HSF.out q u tki hu htk
        have hdr := Below.dn (Below.refl wr.heap.size wr) 1
        have IC := IH.out q _ tki hu htk (smKs_mem kids tki HSM.out (List.mem_of_getElem? htk)) (d - 1) (wr.drewN 1) (HWR.out.trans (hdr.mono HWR.out.size)) (by have := depTs_mem kids tki (List.mem_of_getElem? htk); omega) (by omega)
        unfold ConvOut at IC
        have hdm : ((d - 1 : Nat) : Int) = (d : Int) - 1 := by omega
        rw [hdm] at IC
        have HW1 := Lib.hid (show IntKind.i64.wrap ((d : Int) - 1) = (d : Int) - 1 from IntWalk.i64_in _ (by omega))
        have HTK := Lib.hid (show kids.take (q + 1) = kids.take q ++ [tki] from take_succ_at htk)
        have hS : (wr.drewN 1).cell? ⟨bn, 3, none⟩ = some (.slice akv q ckv) ∧ (wr.drewN 1).cell? ⟨b, 3, none⟩ = some (.slice (some ⟨bk, ok, none⟩) us.length ck) ∧ (wr.drewN 1).cell? ⟨bk, ok + q, none⟩ = some (.pointer pu) := ⟨n3, c3, qu⟩
        clear hu htk hcu hdm
        go_wp2_with fail
        refine wp_region_E (fun W => W.cell? ⟨bn, 3, none⟩ = some (.slice akv q ckv) ∧ W.cell? ⟨b, 3, none⟩ = some (.slice (some ⟨bk, ok, none⟩) us.length ck) ∧ W.cell? ⟨bk, ok + q, none⟩ = some (.pointer pu)) (by kernel_rfl) ?_
        have hdr : (wr).drew = { wr with drawn := (wr).drawn + 1 } := rfl
        rw [← hdr]
        clear hdr
        change wpAnyE _ _ _ _ _ _ _ _ ((wr).drewN 1)
        refine tm 0 36 rfl rfl (.pointer (some ⟨bn, 0, none⟩)) hS ?_
        try simp only [pa, pl]
        refine tm 1 37 rfl rfl (.pointer (some ⟨bn, 0, none⟩)) hS ?_
        try simp only [pa, pl]
        refine tg 2 38 rfl rfl (.pointer (some ⟨bn, 0, none⟩)) hS ?_
        try simp only [pa, pl]
        refine tg 3 39 rfl rfl (.pointer (some ⟨bn, 3, none⟩)) hS ?_
        try simp only [pa, pl]
        refine tk 4 40 rfl rfl (.slice akv q ckv) (fun W hW => by obtain ⟨n3, c3, qu⟩ := hW; go_simp) hS ?_
        try simp only [pa, pl]
        refine tm 5 41 rfl rfl (.pointer (some ⟨b, 0, none⟩)) hS ?_
        try simp only [pa, pl]
        refine tg 6 42 rfl rfl (.pointer (some ⟨b, 0, none⟩)) hS ?_
        try simp only [pa, pl]
        refine tg 7 43 rfl rfl (.pointer (some ⟨b, 3, none⟩)) hS ?_
        try simp only [pa, pl]
        refine tk 8 44 rfl rfl (.slice (some ⟨bk, ok, none⟩) us.length ck) (fun W hW => by obtain ⟨n3, c3, qu⟩ := hW; go_simp) hS ?_
        try simp only [pa, pl]
        refine tm 9 45 rfl rfl (.int .i64 (q : Int)) hS ?_
        try simp only [pa, pl]
        refine tg 10 46 rfl rfl (.pointer (some ⟨bk, ok + q, none⟩)) hS ?_
        try simp only [pa, pl]
        refine tk 11 47 rfl rfl (.pointer pu) (fun W hW => by obtain ⟨n3, c3, qu⟩ := hW; go_simp) hS ?_
        try simp only [pa, pl]
        refine tm 12 48 rfl rfl (.int .i64 (d : Int)) hS ?_
        try simp only [pa, pl]
        refine tk 13 49 rfl rfl (.int .i64 ((d : Int) - 1)) (fun _ _ => by go_simp <;> exact HW1.out) hS ?_
        try simp only [pa, pl]
        refine wpAnyEOne 14 (by kernel_rfl) ?_
        refine wpOpCall (some 50) 64 #[.pointer pu, .int .i64 ((d : Int) - 1)] rfl rfl rfl (by go_simp) (IC) ?_
        rintro e w8 ⟨⟨p8, rfl, ht8⟩, hb8⟩
        have hb8 := hdr.trans hb8
        obtain ⟨pp, rfl⟩ := ht8.form
        have nv8 := NV.out.under hb8
        have f1 := (hb8.cell (p := ⟨b, 3, none⟩) (cell_in c3)).trans c3
        have f2 := (hb8.cell (p := ⟨bk, ok + q, none⟩) (cell_in qu)).trans qu
        refine ⟨_, rfl, ?_⟩
        refine ⟨.inl (⟨nv8.box.cell 3, f1, f2⟩), ?_⟩
        try simp only [pa, pl]
        refine wpAnyEOne 15 (by kernel_rfl) ?_
        refine wpOpRun' (v := .slice (some ⟨w8.heap.size, 0, none⟩) 1 1) (w' := (w8.alloc (.cells #[.pointer pp] 48))) (some 51) rfl rfl rfl (by go_simp <;> rfl) ?_
        have hal9 := alloc_below w8 (.cells #[.pointer pp] 48)
        have NV9 := nv8.under hal9
        have g1 := (hal9.cell (p := ⟨b, 3, none⟩) (cell_in f1)).trans f1
        have g2 := (hal9.cell (p := ⟨bk, ok + q, none⟩) (cell_in f2)).trans f2
        have hb79 := hb8.trans (hal9.mono hb8.size)
        refine ⟨.inl (⟨NV9.box.cell 3, g1, g2⟩), ?_⟩
        try simp only [pa, pl]
        refine wpAnyEOne 16 (by kernel_rfl) ?_
        refine wpOpAppU (base := bn) 16 (some 52) rfl rfl rfl (.tmp 40) (.tmp 51) rfl (.slice akv q ckv) q zs rfl (by have := NV9.row; rw [HZS.out] at this; exact this) (.slice (some ⟨w8.heap.size, 0, none⟩) 1 1) [.pointer pp] rfl (Rd_fresh w8 48 #[.pointer pp] 1 rfl (by omega)) (by intro u hu; rw [List.mem_singleton.1 hu]; rfl) (by simp only [List.length_cons, List.length_nil]; omega) NV9.sz fun v10 w10 happ => ?_
        obtain ⟨a10, k10, rfl⟩ := happ.form
        have happ : AppOut bn 48 (w8.alloc (.cells #[.pointer pp] 48)) (.slice akv q ckv) (q + 1) (zs ++ [.pointer pp]) (.slice a10 (q + 1) k10) w10 := happ
        have nb10 := Boxs.app NV9.box NV9.row happ (by decide)
        have hfar : ∀ i, i < W0.heap.size → w10.heap[i]? = (w8.alloc (.cells #[.pointer pp] 48)).heap[i]? := fun i hi => happ.2.1.block i (by have := hb79.size; have := HWR.out.size; omega) (fun e => by have := (NV9.row.lt i e.symm).1; omega)
        have i1 := (cell_blk (o := 3) (hfar b hlb)).trans g1
        have i2 := (cell_blk (o := ok + q) (hfar bk hbk)).trans g2
        have cf10 := nb10.frozen 3
        have cl10 := nb10.lt
        have cc10 := nb10.cell 3
        simp only [List.getElem?_toArray, List.getElem?_cons_zero, List.getElem?_cons_succ] at cc10
        refine ⟨.inl (⟨nb10.cell 3, i1, i2⟩), ?_⟩
        try simp only [pa, pl]
        refine tg 17 53 rfl rfl (.pointer (some ⟨bn, 0, none⟩)) ⟨nb10.cell 3, i1, i2⟩ ?_
        try simp only [pa, pl]
        refine tg 18 54 rfl rfl (.pointer (some ⟨bn, 3, none⟩)) ⟨nb10.cell 3, i1, i2⟩ ?_
        try simp only [pa, pl]
        refine wpAnyEOne 19 (by kernel_rfl) ?_
        refine wpOpSkip (w' := w10.setCell ⟨bn, 3, none⟩ (.slice a10 (q + 1) k10)) 19 rfl rfl rfl (by go_simp <;> rfl) ?_
        refine ⟨.inr (allUp_of (by kernel_rfl)), ?_⟩
        try simp only [pa, pl]
        refine wpAnyE_done (by kernel_rfl) ?_ _
        have hT8 := (ht8.mono (G := fun i => ((F i ∧ i < W0.heap.size) ∨ bn ≤ i) ∧ i ≠ bn ∧ (Value.slice akv q ckv).ownBlock ≠ some i) fun i hil hi => by
          rcases hi with hi | hi
          · exact ⟨.inl hi, by omega, fun he => by have := (NV.out.row.lt i he).1; omega⟩
          · have hi2 : wr.heap.size ≤ i := hi
            exact ⟨.inr (by omega), by omega, fun he => by have := (NV.out.row.lt i he).2; omega⟩).under (alloc_below w8 (.cells #[.pointer pp] 48))
        have NVN := NV9.app (by decide) hT8 (by rw [HZS.out]; exact happ)
        rw [← HTK.out] at NVN
        have HNV := Lib.hid NVN
        have HKN := Lib.hid (show Keeps (fun i => i = bn) w5 (w10.setCell ⟨bn, 3, none⟩ (.slice a10 (q + 1) k10)) from
          (((HKP.out.trans (Keeps.of_below hb79)).app happ (fun b hb => HKB.out b hb)).setCell (p := ⟨bn, 3, none⟩) rfl _))
        have HKV := Lib.hid (show ∀ b, (Value.slice a10 (q + 1) k10).ownBlock = some b → w5.heap.size ≤ b from fun b hb => by
          rcases happ.2.2 with h2 | h2
          · exact HKB.out b (by rw [← h2]; exact hb)
          · rw [h2] at hb; cases hb; exact Nat.le_trans hsr hb79.size)
        clear NVN happ hT8 ht8 NV9 nv8 hS n3 c3 qu hdr f1 f2 g1 g2 i1 i2 hfar
        go_wp2_with fail
        go_roundw
        case rel => exact ⟨q + 1, zs ++ [.pointer pp], _, by omega, by go_num, by simp [HZS.out], HKV.out, HNV.out, HKN.out⟩
        case measure => simp [intOf]; omega
      · obtain rfl : q = us.length := by omega
        have hq1 : ¬ (us.length : Int) < (us.length : Int) := by omega
        have hall : kids.take us.length = kids := List.take_of_length_le (by rw [HL.out]; exact Nat.le_refl _)
        rw [hall] at NV
        have hFa := RdIn.below HAI.out HWR.out
        have HDN := Lib.hid (NV.out.done hFa)
        clear hFa hall
        go_wp2_with fail
        go_ret
        subst hbn
        exact ⟨⟨_, rfl, HDN.out⟩, HWW.out⟩
set_option maxRecDepth 100000 in
set_option maxHeartbeats 8000000 in
theorem treeN_any {F : Nat → Prop} {W0 : World} {v : Value} {t : Tr} (h : TreeIn 105 F W0 v t) (hsm : smK t = true) :
    ∀ (w : World), Below W0.heap.size W0 w → Calls Try.prog 30 #[v] w fun e w' => ConvOut 108 F W0 w t e w' ∧ Below w.heap.size w w' := by
  induction h with
  | nil =>
    intro w _ 
    go_enter Try.func30, Try.ntmps30
    go_wp2_with fail
    go_ret
    exact ⟨⟨_, rfl, .nil⟩, Below.refl _ _⟩
  | node hF hB ha hk hl hs ih =>
    rename_i b a c ans kids us va vk
    intro w hb 
    rw [smK] at hsm
    obtain ⟨hsm1, hsm2⟩ := Bool.and_eq_true_iff.1 hsm
    have hsm1 := of_decide_eq_true hsm1
    obtain ⟨aa, ca, rfl⟩ := RdI.form (show RdI W0 va ans from ha.1)
    obtain ⟨ak, ck, rfl, hk2⟩ : ∃ x c, vk = .slice x us.length c ∧ Rd W0 (.slice x us.length c) us := by
      obtain ⟨x, c, h1, _⟩ := hk.1; exact ⟨x, c, h1, h1 ▸ hk.1⟩
    have hsz0 := hb.size
    have HAI := Lib.hid (RdIn.mono ha (G := fun i => (F i ∧ i < W0.heap.size) ∨ w.heap.size ≤ i) fun i hi hF => .inl ⟨hF, hi⟩)
    have HBX := Lib.hid hB
    have IH := Lib.hid ih
    have HK := Lib.hid hk2; have HL := Lib.hid hl; have HB := Lib.hid hb
    have HSM := Lib.hid hsm2
    have HSF := Lib.hid fun k u t hu ht => (hs k u t hu ht).form
    have hB2 := Boxs.below hB hb
    have hlb := hB.lt
    have c0 := hB2.cell 0; have c1 := hB2.cell 1; have c2 := hB2.cell 2; have c3 := hB2.cell 3
    simp only [List.getElem?_toArray, List.getElem?_cons_zero, List.getElem?_cons_succ] at c0 c1 c2 c3
    have hul : us.length ≤ 1000000 := by omega
    
    
    have hS : (w.drewN 1).cell? ⟨b, 0, none⟩ = some (.int .i64 a) ∧ (w.drewN 1).cell? ⟨b, 1, none⟩ = some (.int .i64 c) ∧ (w.drewN 1).cell? ⟨b, 2, none⟩ = some (.slice aa ans.length ca) := ⟨c0, c1, c2⟩
    clear ih hs ha hk hk2 hB hB2 hb hl hsm hsm2
    go_enter Try.func30, Try.ntmps30
    go_wp2_with fail
    refine wp_region_E (fun W => W.cell? ⟨b, 0, none⟩ = some (.int .i64 a) ∧ W.cell? ⟨b, 1, none⟩ = some (.int .i64 c) ∧ W.cell? ⟨b, 2, none⟩ = some (.slice aa ans.length ca)) (by kernel_rfl) ?_
    have hdr : (w).drew = { w with drawn := (w).drawn + 1 } := rfl
    rw [← hdr]
    clear hdr
    change wpAnyE _ _ _ _ _ _ _ _ ((w).drewN 1)
    refine tm 0 7 rfl rfl (.pointer (some ⟨b, 0, none⟩)) hS ?_
    try simp only [pa, pl]
    refine tg 1 8 rfl rfl (.pointer (some ⟨b, 0, none⟩)) hS ?_
    try simp only [pa, pl]
    refine tg 2 9 rfl rfl (.pointer (some ⟨b, 0, none⟩)) hS ?_
    try simp only [pa, pl]
    refine tk 3 10 rfl rfl (.int .i64 a) (fun W hW => by obtain ⟨c0, c1, c2⟩ := hW; go_simp) hS ?_
    try simp only [pa, pl]
    refine tm 4 11 rfl rfl (.pointer (some ⟨b, 0, none⟩)) hS ?_
    try simp only [pa, pl]
    refine tg 5 12 rfl rfl (.pointer (some ⟨b, 0, none⟩)) hS ?_
    try simp only [pa, pl]
    refine tg 6 13 rfl rfl (.pointer (some ⟨b, 1, none⟩)) hS ?_
    try simp only [pa, pl]
    refine tk 7 14 rfl rfl (.int .i64 c) (fun W hW => by obtain ⟨c0, c1, c2⟩ := hW; go_simp) hS ?_
    try simp only [pa, pl]
    refine tm 8 15 rfl rfl (.pointer (some ⟨b, 0, none⟩)) hS ?_
    try simp only [pa, pl]
    refine tg 9 16 rfl rfl (.pointer (some ⟨b, 0, none⟩)) hS ?_
    try simp only [pa, pl]
    refine tg 10 17 rfl rfl (.pointer (some ⟨b, 2, none⟩)) hS ?_
    try simp only [pa, pl]
    refine tk 11 18 rfl rfl (.slice aa ans.length ca) (fun W hW => by obtain ⟨c0, c1, c2⟩ := hW; go_simp) hS ?_
    try simp only [pa, pl]
    refine tg 12 19 rfl rfl (.agg #[.int .i64 a, .int .i64 c, .slice aa ans.length ca, .slice none 0 0]) hS ?_
    try simp only [pa, pl]
    refine wpAnyEOne 13 (by kernel_rfl) ?_
    refine wpOpRun' (v := .pointer (some ⟨w.heap.size, 0, none⟩)) (w' := ((w.drewN 1).alloc (.cells #[.int .i64 a, .int .i64 c, .slice aa ans.length ca, .slice none 0 0] 108))) (some 20) rfl rfl rfl (by go_simp <;> rfl) ?_
    have hb1 := (Below.dn (Below.refl w.heap.size w) 1).trans ((alloc_below (w.drewN 1) (.cells #[.int .i64 a, .int .i64 c, .slice aa ans.length ca, .slice none 0 0] 108)).mono (Nat.le_refl _))
    have hS1 : ((w.drewN 1).alloc (.cells #[.int .i64 a, .int .i64 c, .slice aa ans.length ca, .slice none 0 0] 108)).cell? ⟨b, 0, none⟩ = some (.int .i64 a) ∧ ((w.drewN 1).alloc (.cells #[.int .i64 a, .int .i64 c, .slice aa ans.length ca, .slice none 0 0] 108)).cell? ⟨b, 1, none⟩ = some (.int .i64 c) ∧ ((w.drewN 1).alloc (.cells #[.int .i64 a, .int .i64 c, .slice aa ans.length ca, .slice none 0 0] 108)).cell? ⟨b, 2, none⟩ = some (.slice aa ans.length ca) := ⟨(hb1.cell (p := ⟨b, 0, none⟩) (cell_in c0)).trans c0, (hb1.cell (p := ⟨b, 1, none⟩) (cell_in c1)).trans c1, (hb1.cell (p := ⟨b, 2, none⟩) (cell_in c2)).trans c2⟩
    refine ⟨.inl (hS1), ?_⟩
    try simp only [pa, pl]
    refine wpAnyEOne 14 (by kernel_rfl) ?_
    refine wpOpRun' (v := .pointer (some ⟨w.heap.size, 0, none⟩)) (w' := ((w.drewN 1).alloc (.cells #[.int .i64 a, .int .i64 c, .slice aa ans.length ca, .slice none 0 0] 108))) (some 3) rfl rfl rfl (by rfl) ?_
    refine ⟨.inr (allUp_of (by kernel_rfl)), ?_⟩
    try simp only [pa, pl]
    refine wpAnyE_done (by kernel_rfl) ?_ _
    have NB := Boxs.new (w.drewN 1) 108 #[.int .i64 a, .int .i64 c, .slice aa ans.length ca, .slice none 0 0]
    obtain ⟨bn, hbn⟩ : ∃ z, w.heap.size = z := ⟨_, rfl⟩
    have NV := Lib.hid (show NodeV 108 45 (fun i => (F i ∧ i < W0.heap.size) ∨ w.heap.size ≤ i) w.heap.size ((w.drewN 1).alloc (.cells #[.int .i64 a, .int .i64 c, .slice aa ans.length ca, .slice none 0 0] 108)) w.heap.size a c (.slice aa ans.length ca) (.slice none 0 0) [] [] from ⟨Nat.le_refl _, fun i hi => .inr hi, by simp, NB, World.ownsRow_nil _ _ _ _, Trees.nil _ _ _⟩)
    obtain ⟨w5, hw5⟩ : ∃ z, ((w.drewN 1).alloc (.cells #[.int .i64 a, .int .i64 c, .slice aa ans.length ca, .slice none 0 0] 108)) = z := ⟨_, rfl⟩
    rw [hw5] at NV hb1 ⊢
    have HB1 := Lib.hid hb1
    have c3 := (hb1.cell (p := ⟨b, 3, none⟩) (cell_in c3)).trans c3
    rw [hbn] at NV HAI ⊢
    have hs15 := hb1.size
    have h0n : W0.heap.size ≤ bn := by omega
    clear hw5 NB hS hS1 c0 c1 c2 hb1
    go_wp2_with fail
    go_loopw [4] (fun iv wr => ∃ (q : Nat) (zs : List Value) (kv : Value), q ≤ us.length ∧ iv = .int .i64 q ∧ zs.length = q ∧ (∀ b, kv.ownBlock = some b → w5.heap.size ≤ b) ∧ NodeV 108 45 (fun i => (F i ∧ i < W0.heap.size) ∨ bn ≤ i) bn wr bn a c (.slice aa ans.length ca) kv zs (kids.take q) ∧ Keeps (fun i => i = bn) w5 wr) (fun iv _ => us.length - (intOf iv).toNat)
    case atStart => exact ⟨0, [], _, Nat.zero_le _, rfl, rfl, fun b hb => (by cases hb), NV.out, Keeps.refl _ _⟩
    case round =>
      clear NV c3
      obtain ⟨q, zs, kv, hq, rfl, hzs, hkb, hnv, hkp⟩ := hrel
      have hq0 : (0 : Int) ≤ (q : Int) := Int.natCast_nonneg _
      have NV := Lib.hid hnv; have HKP := Lib.hid hkp; have HZS := Lib.hid hzs; have HKB := Lib.hid hkb
      obtain ⟨akv, ckv, hkv⟩ := owns_form hnv.row
      rw [hzs] at hkv
      subst hkv
      have hsr := hkp.size
      have HWR := Lib.hid (HB.out.trans ((show Below w.heap.size w wr from HB1.out.trans (hkp.below (n := w.heap.size) HB1.out.size (fun i _ hi => by have hi2 : i = bn := hi; omega))).mono HB.out.size))
      have HWW := Lib.hid (show Below w.heap.size w wr from HB1.out.trans (hkp.below (n := w.heap.size) HB1.out.size (fun i _ hi => by have hi2 : i = bn := hi; omega)))
      have hBX := Boxs.below HBX.out HWR.out
      have c3 := hBX.cell 3
      have n3 := hnv.box.cell 3
      have hnl := hnv.box.lt
      simp only [List.getElem?_toArray, List.getElem?_cons_zero, List.getElem?_cons_succ] at n3 c3
      clear hnv hkp hzs hkb hBX
      by_cases hqg : q < us.length
      · have hq1 : (q : Int) < (us.length : Int) := by omega
        obtain ⟨u, hu⟩ := elem_at hqg
        obtain ⟨tki, htk⟩ := elem_at (show q < kids.length by rw [← HL.out]; exact hqg)
        obtain ⟨bk, ok, rfl, hbk, hcu⟩ := HK.out.at hu
        have qu := (HWR.out.cell (p := ⟨bk, ok + q, none⟩) hbk).trans hcu
        obtain ⟨pu, rfl⟩ := HSF.out q u tki hu htk
        have hdr := Below.dn (Below.refl wr.heap.size wr) 1
        have IC := IH.out q _ tki hu htk (smKs_mem kids tki HSM.out (List.mem_of_getElem? htk)) (wr.drewN 1) (HWR.out.trans (hdr.mono HWR.out.size)) 
        unfold ConvOut at IC
        
        
        
        have HTK := Lib.hid (show kids.take (q + 1) = kids.take q ++ [tki] from take_succ_at htk)
        have hS : (wr.drewN 1).cell? ⟨bn, 3, none⟩ = some (.slice akv q ckv) ∧ (wr.drewN 1).cell? ⟨b, 3, none⟩ = some (.slice (some ⟨bk, ok, none⟩) us.length ck) ∧ (wr.drewN 1).cell? ⟨bk, ok + q, none⟩ = some (.pointer pu) := ⟨n3, c3, qu⟩
        clear hu htk hcu
        go_wp2_with fail
        refine wp_region_E (fun W => W.cell? ⟨bn, 3, none⟩ = some (.slice akv q ckv) ∧ W.cell? ⟨b, 3, none⟩ = some (.slice (some ⟨bk, ok, none⟩) us.length ck) ∧ W.cell? ⟨bk, ok + q, none⟩ = some (.pointer pu)) (by kernel_rfl) ?_
        have hdr : (wr).drew = { wr with drawn := (wr).drawn + 1 } := rfl
        rw [← hdr]
        clear hdr
        change wpAnyE _ _ _ _ _ _ _ _ ((wr).drewN 1)
        refine tm 0 30 rfl rfl (.pointer (some ⟨bn, 0, none⟩)) hS ?_
        try simp only [pa, pl]
        refine tm 1 31 rfl rfl (.pointer (some ⟨bn, 0, none⟩)) hS ?_
        try simp only [pa, pl]
        refine tg 2 32 rfl rfl (.pointer (some ⟨bn, 0, none⟩)) hS ?_
        try simp only [pa, pl]
        refine tg 3 33 rfl rfl (.pointer (some ⟨bn, 3, none⟩)) hS ?_
        try simp only [pa, pl]
        refine tk 4 34 rfl rfl (.slice akv q ckv) (fun W hW => by obtain ⟨n3, c3, qu⟩ := hW; go_simp) hS ?_
        try simp only [pa, pl]
        refine tm 5 35 rfl rfl (.pointer (some ⟨b, 0, none⟩)) hS ?_
        try simp only [pa, pl]
        refine tg 6 36 rfl rfl (.pointer (some ⟨b, 0, none⟩)) hS ?_
        try simp only [pa, pl]
        refine tg 7 37 rfl rfl (.pointer (some ⟨b, 3, none⟩)) hS ?_
        try simp only [pa, pl]
        refine tk 8 38 rfl rfl (.slice (some ⟨bk, ok, none⟩) us.length ck) (fun W hW => by obtain ⟨n3, c3, qu⟩ := hW; go_simp) hS ?_
        try simp only [pa, pl]
        refine tm 9 39 rfl rfl (.int .i64 (q : Int)) hS ?_
        try simp only [pa, pl]
        refine tg 10 40 rfl rfl (.pointer (some ⟨bk, ok + q, none⟩)) hS ?_
        try simp only [pa, pl]
        refine tk 11 41 rfl rfl (.pointer pu) (fun W hW => by obtain ⟨n3, c3, qu⟩ := hW; go_simp) hS ?_
        try simp only [pa, pl]
        refine wpAnyEOne 12 (by kernel_rfl) ?_
        refine wpOpCall (some 42) 30 #[.pointer pu] rfl rfl rfl (by go_simp) (IC) ?_
        rintro e w8 ⟨⟨p8, rfl, ht8⟩, hb8⟩
        have hb8 := hdr.trans hb8
        obtain ⟨pp, rfl⟩ := ht8.form
        have nv8 := NV.out.under hb8
        have f1 := (hb8.cell (p := ⟨b, 3, none⟩) (cell_in c3)).trans c3
        have f2 := (hb8.cell (p := ⟨bk, ok + q, none⟩) (cell_in qu)).trans qu
        refine ⟨_, rfl, ?_⟩
        refine ⟨.inl (⟨nv8.box.cell 3, f1, f2⟩), ?_⟩
        try simp only [pa, pl]
        refine wpAnyEOne 13 (by kernel_rfl) ?_
        refine wpOpRun' (v := .slice (some ⟨w8.heap.size, 0, none⟩) 1 1) (w' := (w8.alloc (.cells #[.pointer pp] 45))) (some 43) rfl rfl rfl (by go_simp <;> rfl) ?_
        have hal9 := alloc_below w8 (.cells #[.pointer pp] 45)
        have NV9 := nv8.under hal9
        have g1 := (hal9.cell (p := ⟨b, 3, none⟩) (cell_in f1)).trans f1
        have g2 := (hal9.cell (p := ⟨bk, ok + q, none⟩) (cell_in f2)).trans f2
        have hb79 := hb8.trans (hal9.mono hb8.size)
        refine ⟨.inl (⟨NV9.box.cell 3, g1, g2⟩), ?_⟩
        try simp only [pa, pl]
        refine wpAnyEOne 14 (by kernel_rfl) ?_
        refine wpOpAppT (base := bn) 14 (some 44) rfl rfl rfl (.tmp 34) (.tmp 43) rfl (.slice akv q ckv) q zs rfl (by have := NV9.row; rw [HZS.out] at this; exact this) (.slice (some ⟨w8.heap.size, 0, none⟩) 1 1) [.pointer pp] rfl (Rd_fresh w8 45 #[.pointer pp] 1 rfl (by omega)) (by intro u hu; rw [List.mem_singleton.1 hu]; rfl) (by simp only [List.length_cons, List.length_nil]; omega) NV9.sz fun v10 w10 happ => ?_
        obtain ⟨a10, k10, rfl⟩ := happ.form
        have happ : AppOut bn 45 (w8.alloc (.cells #[.pointer pp] 45)) (.slice akv q ckv) (q + 1) (zs ++ [.pointer pp]) (.slice a10 (q + 1) k10) w10 := happ
        have nb10 := Boxs.app NV9.box NV9.row happ (by decide)
        have hfar : ∀ i, i < W0.heap.size → w10.heap[i]? = (w8.alloc (.cells #[.pointer pp] 45)).heap[i]? := fun i hi => happ.2.1.block i (by have := hb79.size; have := HWR.out.size; omega) (fun e => by have := (NV9.row.lt i e.symm).1; omega)
        have i1 := (cell_blk (o := 3) (hfar b hlb)).trans g1
        have i2 := (cell_blk (o := ok + q) (hfar bk hbk)).trans g2
        have cf10 := nb10.frozen 3
        have cl10 := nb10.lt
        have cc10 := nb10.cell 3
        simp only [List.getElem?_toArray, List.getElem?_cons_zero, List.getElem?_cons_succ] at cc10
        refine ⟨.inl (⟨nb10.cell 3, i1, i2⟩), ?_⟩
        try simp only [pa, pl]
        refine tg 15 45 rfl rfl (.pointer (some ⟨bn, 0, none⟩)) ⟨nb10.cell 3, i1, i2⟩ ?_
        try simp only [pa, pl]
        refine tg 16 46 rfl rfl (.pointer (some ⟨bn, 3, none⟩)) ⟨nb10.cell 3, i1, i2⟩ ?_
        try simp only [pa, pl]
        refine wpAnyEOne 17 (by kernel_rfl) ?_
        refine wpOpSkip (w' := w10.setCell ⟨bn, 3, none⟩ (.slice a10 (q + 1) k10)) 17 rfl rfl rfl (by go_simp <;> rfl) ?_
        refine ⟨.inr (allUp_of (by kernel_rfl)), ?_⟩
        try simp only [pa, pl]
        refine wpAnyE_done (by kernel_rfl) ?_ _
        have hT8 := (ht8.mono (G := fun i => ((F i ∧ i < W0.heap.size) ∨ bn ≤ i) ∧ i ≠ bn ∧ (Value.slice akv q ckv).ownBlock ≠ some i) fun i hil hi => by
          rcases hi with hi | hi
          · exact ⟨.inl hi, by omega, fun he => by have := (NV.out.row.lt i he).1; omega⟩
          · have hi2 : wr.heap.size ≤ i := hi
            exact ⟨.inr (by omega), by omega, fun he => by have := (NV.out.row.lt i he).2; omega⟩).under (alloc_below w8 (.cells #[.pointer pp] 45))
        have NVN := NV9.app (by decide) hT8 (by rw [HZS.out]; exact happ)
        rw [← HTK.out] at NVN
        have HNV := Lib.hid NVN
        have HKN := Lib.hid (show Keeps (fun i => i = bn) w5 (w10.setCell ⟨bn, 3, none⟩ (.slice a10 (q + 1) k10)) from
          (((HKP.out.trans (Keeps.of_below hb79)).app happ (fun b hb => HKB.out b hb)).setCell (p := ⟨bn, 3, none⟩) rfl _))
        have HKV := Lib.hid (show ∀ b, (Value.slice a10 (q + 1) k10).ownBlock = some b → w5.heap.size ≤ b from fun b hb => by
          rcases happ.2.2 with h2 | h2
          · exact HKB.out b (by rw [← h2]; exact hb)
          · rw [h2] at hb; cases hb; exact Nat.le_trans hsr hb79.size)
        clear NVN happ hT8 ht8 NV9 nv8 hS n3 c3 qu hdr f1 f2 g1 g2 i1 i2 hfar
        go_wp2_with fail
        go_roundw
        case rel => exact ⟨q + 1, zs ++ [.pointer pp], _, by omega, by go_num, by simp [HZS.out], HKV.out, HNV.out, HKN.out⟩
        case measure => simp [intOf]; omega
      · obtain rfl : q = us.length := by omega
        have hq1 : ¬ (us.length : Int) < (us.length : Int) := by omega
        have hall : kids.take us.length = kids := List.take_of_length_le (by rw [HL.out]; exact Nat.le_refl _)
        rw [hall] at NV
        have hFa := RdIn.below HAI.out HWR.out
        have HDN := Lib.hid (NV.out.done hFa)
        clear hFa hall
        go_wp2_with fail
        go_ret
        subst hbn
        exact ⟨⟨_, rfl, HDN.out⟩, HWW.out⟩
end Go.Proofs.Ytmkkegigajmhkaa

namespace Go.Proofs.Ytmkkegigajmhkaa
open Go.RowKit Go.Maps

set_option maxRecDepth 100000 in
set_option maxHeartbeats 8000000 in
theorem rsame_any {F F2 : Nat → Prop} {W0 : World} {v : Value} {t : Tr} (h : TreeIn 105 F W0 v t) :
    ∀ (v2 : Value) (w : World), TreeIn 105 F2 W0 v2 t → Below W0.heap.size W0 w → Calls Try.prog 63 #[v, v2] w fun e w' => e = .returned (.bool true) ∧ Below w.heap.size w w' := by
  induction h with
  | nil =>
    intro v2 w h2 _
    cases h2
    go_enter Try.func63, Try.ntmps63
    go_wp2_with fail
    go_ret
    exact ⟨rfl, Below.refl _ _⟩
  | node hF hB ha hk hl hs ih =>
    rename_i b a c ans kids us va vk
    intro v2 w h2 hb
    obtain ⟨b2, us2, va2, vk2, rfl, _, hB2, ha2, hk2, hts2⟩ := h2.open
    obtain ⟨aa, ca, rfl⟩ := RdI.form (show RdI W0 va ans from ha.1)
    obtain ⟨aa2, ca2, rfl⟩ := RdI.form (show RdI W0 va2 ans from ha2.1)
    obtain ⟨ak, ck, rfl, hkr⟩ : ∃ x c, vk = .slice x us.length c ∧ Rd W0 (.slice x us.length c) us := by
      obtain ⟨x, c, h1, _⟩ := hk.1; exact ⟨x, c, h1, h1 ▸ hk.1⟩
    obtain ⟨ak2, ck2, rfl, hkr2⟩ : ∃ x c, vk2 = .slice x us2.length c ∧ Rd W0 (.slice x us2.length c) us2 := by
      obtain ⟨x, c, h1, _⟩ := hk2.1; exact ⟨x, c, h1, h1 ▸ hk2.1⟩
    have hul : us2.length = us.length := by have := hts2.1; omega
    rw [hul] at hB2 hkr2
    have IH := Lib.hid ih; have HTS := Lib.hid hts2.2; have HL := Lib.hid hl; have HUL := Lib.hid hul
    have HSF := Lib.hid fun k u t hu ht => (hs k u t hu ht).form
    have HB := Lib.hid hb
    have HK := Lib.hid hkr; have HK2 := Lib.hid hkr2
    have b1 := Boxs.below hB hb; have b3 := Boxs.below hB2 hb
    have HB1 := Lib.hid hB; have HB2 := Lib.hid hB2
    have c0 := b1.cell 0; have c1 := b1.cell 1; have c2 := b1.cell 2; have c3 := b1.cell 3
    have d0 := b3.cell 0; have d1 := b3.cell 1; have d2 := b3.cell 2; have d3 := b3.cell 3
    simp only [List.getElem?_toArray, List.getElem?_cons_zero, List.getElem?_cons_succ] at c0 c1 c2 c3 d0 d1 d2 d3
    have SI := sameInts_any _ _ ans ans (w.drewN 1) ((RdI.below ha.1 hb).below (Below.dn (Below.refl _ _) 1)) ((RdI.below ha2.1 hb).below (Below.dn (Below.refl _ _) 1))
    rw [show decide (ans = ans) = true by simp] at SI
    have e0 : (a != a) = false := by simp
    have e1 : (c != c) = false := by simp
    have e3 : ((us.length : Int) != (us.length : Int)) = false := by simp
    have hul63 : us.length ≤ 9223372036854775807 := by obtain ⟨_, cap, e, h1, h2, _⟩ := hkr; omega
    have hS : (w.drewN 1).cell? ⟨b, 0, none⟩ = some (.int .i64 a) ∧ (w.drewN 1).cell? ⟨b, 1, none⟩ = some (.int .i64 c) ∧ (w.drewN 1).cell? ⟨b, 2, none⟩ = some (.slice aa ans.length ca) ∧ (w.drewN 1).cell? ⟨b, 3, none⟩ = some (.slice ak us.length ck) ∧ (w.drewN 1).cell? ⟨b2, 0, none⟩ = some (.int .i64 a) ∧ (w.drewN 1).cell? ⟨b2, 1, none⟩ = some (.int .i64 c) ∧ (w.drewN 1).cell? ⟨b2, 2, none⟩ = some (.slice aa2 ans.length ca2) ∧ (w.drewN 1).cell? ⟨b2, 3, none⟩ = some (.slice ak2 us.length ck2) := ⟨c0, c1, c2, c3, d0, d1, d2, d3⟩
    clear ih hs ha ha2 hk hk2 hkr hkr2 hB hB2 hb hl hts2 h2 hul b1 b3
    go_enter Try.func63, Try.ntmps63
    go_wp2_with fail
    refine wp_region_E (fun W => W.cell? ⟨b, 0, none⟩ = some (.int .i64 a) ∧ W.cell? ⟨b, 1, none⟩ = some (.int .i64 c) ∧ W.cell? ⟨b, 2, none⟩ = some (.slice aa ans.length ca) ∧ W.cell? ⟨b, 3, none⟩ = some (.slice ak us.length ck) ∧ W.cell? ⟨b2, 0, none⟩ = some (.int .i64 a) ∧ W.cell? ⟨b2, 1, none⟩ = some (.int .i64 c) ∧ W.cell? ⟨b2, 2, none⟩ = some (.slice aa2 ans.length ca2) ∧ W.cell? ⟨b2, 3, none⟩ = some (.slice ak2 us.length ck2)) (by kernel_rfl) ?_
    have hdr : (w).drew = { w with drawn := (w).drawn + 1 } := rfl
    rw [← hdr]
    clear hdr
    change wpAnyE _ _ _ _ _ _ _ _ ((w).drewN 1)
    refine tm 0 18 rfl rfl (.pointer (some ⟨b, 0, none⟩)) hS ?_
    try simp only [pa, pl]
    refine tg 1 19 rfl rfl (.pointer (some ⟨b, 0, none⟩)) hS ?_
    try simp only [pa, pl]
    refine tg 2 20 rfl rfl (.pointer (some ⟨b, 0, none⟩)) hS ?_
    try simp only [pa, pl]
    refine tk 3 21 rfl rfl (.int .i64 a) (fun W hW => by obtain ⟨c0, c1, c2, c3, d0, d1, d2, d3⟩ := hW; go_simp) hS ?_
    try simp only [pa, pl]
    refine tm 4 22 rfl rfl (.pointer (some ⟨b2, 0, none⟩)) hS ?_
    try simp only [pa, pl]
    refine tg 5 23 rfl rfl (.pointer (some ⟨b2, 0, none⟩)) hS ?_
    try simp only [pa, pl]
    refine tg 6 24 rfl rfl (.pointer (some ⟨b2, 0, none⟩)) hS ?_
    try simp only [pa, pl]
    refine tk 7 25 rfl rfl (.int .i64 a) (fun W hW => by obtain ⟨c0, c1, c2, c3, d0, d1, d2, d3⟩ := hW; go_simp) hS ?_
    try simp only [pa, pl]
    refine tg 8 26 rfl rfl (.bool false) hS ?_
    try simp only [pa, pl]
    refine tm 9 27 rfl rfl (.bool false) hS ?_
    try simp only [pa, pl]
    refine tm 10 28 rfl rfl (.pointer (some ⟨b, 0, none⟩)) hS ?_
    try simp only [pa, pl]
    refine tg 11 29 rfl rfl (.pointer (some ⟨b, 0, none⟩)) hS ?_
    try simp only [pa, pl]
    refine tg 12 30 rfl rfl (.pointer (some ⟨b, 1, none⟩)) hS ?_
    try simp only [pa, pl]
    refine tk 13 31 rfl rfl (.int .i64 c) (fun W hW => by obtain ⟨c0, c1, c2, c3, d0, d1, d2, d3⟩ := hW; go_simp) hS ?_
    try simp only [pa, pl]
    refine tm 14 32 rfl rfl (.pointer (some ⟨b2, 0, none⟩)) hS ?_
    try simp only [pa, pl]
    refine tg 15 33 rfl rfl (.pointer (some ⟨b2, 0, none⟩)) hS ?_
    try simp only [pa, pl]
    refine tg 16 34 rfl rfl (.pointer (some ⟨b2, 1, none⟩)) hS ?_
    try simp only [pa, pl]
    refine tk 17 35 rfl rfl (.int .i64 c) (fun W hW => by obtain ⟨c0, c1, c2, c3, d0, d1, d2, d3⟩ := hW; go_simp) hS ?_
    try simp only [pa, pl]
    refine tg 18 36 rfl rfl (.bool false) hS ?_
    try simp only [pa, pl]
    refine tg 19 37 rfl rfl (.bool false) hS ?_
    try simp only [pa, pl]
    refine tm 20 38 rfl rfl (.bool false) hS ?_
    try simp only [pa, pl]
    refine tm 21 39 rfl rfl (.pointer (some ⟨b, 0, none⟩)) hS ?_
    try simp only [pa, pl]
    refine tg 22 40 rfl rfl (.pointer (some ⟨b, 0, none⟩)) hS ?_
    try simp only [pa, pl]
    refine tg 23 41 rfl rfl (.pointer (some ⟨b, 2, none⟩)) hS ?_
    try simp only [pa, pl]
    refine tk 24 42 rfl rfl (.slice aa ans.length ca) (fun W hW => by obtain ⟨c0, c1, c2, c3, d0, d1, d2, d3⟩ := hW; go_simp) hS ?_
    try simp only [pa, pl]
    refine tm 25 43 rfl rfl (.pointer (some ⟨b2, 0, none⟩)) hS ?_
    try simp only [pa, pl]
    refine tg 26 44 rfl rfl (.pointer (some ⟨b2, 0, none⟩)) hS ?_
    try simp only [pa, pl]
    refine tg 27 45 rfl rfl (.pointer (some ⟨b2, 2, none⟩)) hS ?_
    try simp only [pa, pl]
    refine tk 28 46 rfl rfl (.slice aa2 ans.length ca2) (fun W hW => by obtain ⟨c0, c1, c2, c3, d0, d1, d2, d3⟩ := hW; go_simp) hS ?_
    try simp only [pa, pl]
    refine wpAnyEOne 29 (by kernel_rfl) ?_
    refine wpOpCall (some 47) 20 #[.slice aa ans.length ca, .slice aa2 ans.length ca2] rfl rfl rfl (by go_simp) (SI) ?_
    rintro e w2 ⟨rfl, hb2⟩
    have hb2 := (Below.dn (Below.refl w.heap.size w) 1).trans hb2
    have hS2 : w2.cell? ⟨b, 0, none⟩ = some (.int .i64 a) ∧ w2.cell? ⟨b, 1, none⟩ = some (.int .i64 c) ∧ w2.cell? ⟨b, 2, none⟩ = some (.slice aa ans.length ca) ∧ w2.cell? ⟨b, 3, none⟩ = some (.slice ak us.length ck) ∧ w2.cell? ⟨b2, 0, none⟩ = some (.int .i64 a) ∧ w2.cell? ⟨b2, 1, none⟩ = some (.int .i64 c) ∧ w2.cell? ⟨b2, 2, none⟩ = some (.slice aa2 ans.length ca2) ∧ w2.cell? ⟨b2, 3, none⟩ = some (.slice ak2 us.length ck2) := ⟨(hb2.cell (p := ⟨b, 0, none⟩) (cell_in c0)).trans c0, (hb2.cell (p := ⟨b, 1, none⟩) (cell_in c1)).trans c1, (hb2.cell (p := ⟨b, 2, none⟩) (cell_in c2)).trans c2, (hb2.cell (p := ⟨b, 3, none⟩) (cell_in c3)).trans c3, (hb2.cell (p := ⟨b2, 0, none⟩) (cell_in d0)).trans d0, (hb2.cell (p := ⟨b2, 1, none⟩) (cell_in d1)).trans d1, (hb2.cell (p := ⟨b2, 2, none⟩) (cell_in d2)).trans d2, (hb2.cell (p := ⟨b2, 3, none⟩) (cell_in d3)).trans d3⟩
    refine ⟨_, rfl, ?_⟩
    refine ⟨.inl (hS2), ?_⟩
    try simp only [pa, pl]
    refine tg 30 48 rfl rfl (.bool false) hS2 ?_
    try simp only [pa, pl]
    refine tg 31 49 rfl rfl (.bool false) hS2 ?_
    try simp only [pa, pl]
    refine tm 32 50 rfl rfl (.bool false) hS2 ?_
    try simp only [pa, pl]
    refine tm 33 51 rfl rfl (.pointer (some ⟨b, 0, none⟩)) hS2 ?_
    try simp only [pa, pl]
    refine tg 34 52 rfl rfl (.pointer (some ⟨b, 0, none⟩)) hS2 ?_
    try simp only [pa, pl]
    refine tg 35 53 rfl rfl (.pointer (some ⟨b, 3, none⟩)) hS2 ?_
    try simp only [pa, pl]
    refine tk 36 54 rfl rfl (.slice ak us.length ck) (fun W hW => by obtain ⟨c0, c1, c2, c3, d0, d1, d2, d3⟩ := hW; go_simp) hS2 ?_
    try simp only [pa, pl]
    refine tg 37 55 rfl rfl (.int .i64 (us.length : Int)) hS2 ?_
    try simp only [pa, pl]
    refine tm 38 56 rfl rfl (.pointer (some ⟨b2, 0, none⟩)) hS2 ?_
    try simp only [pa, pl]
    refine tg 39 57 rfl rfl (.pointer (some ⟨b2, 0, none⟩)) hS2 ?_
    try simp only [pa, pl]
    refine tg 40 58 rfl rfl (.pointer (some ⟨b2, 3, none⟩)) hS2 ?_
    try simp only [pa, pl]
    refine tk 41 59 rfl rfl (.slice ak2 us.length ck2) (fun W hW => by obtain ⟨c0, c1, c2, c3, d0, d1, d2, d3⟩ := hW; go_simp) hS2 ?_
    try simp only [pa, pl]
    refine tg 42 60 rfl rfl (.int .i64 (us.length : Int)) hS2 ?_
    try simp only [pa, pl]
    refine tg 43 61 rfl rfl (.bool false) hS2 ?_
    try simp only [pa, pl]
    refine wpAnyEOne 44 (by kernel_rfl) ?_
    refine wpOpRun' (v := .bool false) (w' := w2) (some 62) rfl rfl rfl (by go_simp) ?_
    refine ⟨.inr (allUp_of (by kernel_rfl)), ?_⟩
    try simp only [pa, pl]
    refine wpAnyE_done (by kernel_rfl) ?_ _
    have HB2W := Lib.hid hb2
    have HBW := Lib.hid (HB.out.trans (hb2.mono HB.out.size))
    clear hS hS2 hb2 SI e0 e1 e3 c0 c1 c2 c3 d0 d1 d2 d3
    go_wp2_with fail
    go_loopw [5] (fun iv wr => ∃ i : Nat, i ≤ us.length ∧ iv = .int .i64 i ∧ Below w2.heap.size w2 wr) (fun iv _ => us.length - (intOf iv).toNat)
    case atStart => exact ⟨0, Nat.zero_le _, rfl, Below.refl _ _⟩
    case round =>
      obtain ⟨i, hi, rfl, hbl⟩ := hrel
      have hi0 : (0 : Int) ≤ (i : Int) := Int.natCast_nonneg _
      have HBL := Lib.hid hbl
      have hbr := HBW.out.trans (hbl.mono HBW.out.size)
      have HBR := Lib.hid hbr
      have c3 := (Boxs.below HB1.out hbr).cell 3
      have d3 := (Boxs.below HB2.out hbr).cell 3
      simp only [List.getElem?_toArray, List.getElem?_cons_zero, List.getElem?_cons_succ] at c3 d3
      by_cases hlt : i < us.length
      · have hi1 : (i : Int) < (us.length : Int) := by omega
        obtain ⟨u, hu⟩ := elem_at hlt
        obtain ⟨u2, hu2⟩ := elem_at (show i < us2.length by rw [HUL.out]; exact hlt)
        obtain ⟨tki, htk⟩ := elem_at (show i < kids.length by rw [← HL.out]; exact hlt)
        obtain ⟨bk, ok, rfl, hbk, hcu⟩ := HK.out.at hu
        obtain ⟨bm, om, rfl, hbm, hcm⟩ := HK2.out.at hu2
        have qu := (hbr.cell (p := ⟨bk, ok + i, none⟩) hbk).trans hcu
        have qm := (hbr.cell (p := ⟨bm, om + i, none⟩) hbm).trans hcm
        obtain ⟨pu, rfl⟩ := HSF.out i u tki hu htk
        have ht2 := HTS.out i u2 tki hu2 htk
        obtain ⟨pm, rfl⟩ := ht2.form
        have hdr := Below.dn (Below.refl wr.heap.size wr) 1
        have SC := IH.out i _ tki hu htk _ (wr.drewN 1) ht2 (hbr.trans (hdr.mono hbr.size))
        have hS : (wr.drewN 1).cell? ⟨b, 3, none⟩ = some (.slice (some ⟨bk, ok, none⟩) us.length ck) ∧ (wr.drewN 1).cell? ⟨b2, 3, none⟩ = some (.slice (some ⟨bm, om, none⟩) us.length ck2) ∧ (wr.drewN 1).cell? ⟨bk, ok + i, none⟩ = some (.pointer pu) ∧ (wr.drewN 1).cell? ⟨bm, om + i, none⟩ = some (.pointer pm) := ⟨c3, d3, qu, qm⟩
        clear hu hu2 htk hcu hcm ht2 hbl hbr
        go_wp2_with fail
        refine wp_region_E (fun W => W.cell? ⟨b, 3, none⟩ = some (.slice (some ⟨bk, ok, none⟩) us.length ck) ∧ W.cell? ⟨b2, 3, none⟩ = some (.slice (some ⟨bm, om, none⟩) us.length ck2) ∧ W.cell? ⟨bk, ok + i, none⟩ = some (.pointer pu) ∧ W.cell? ⟨bm, om + i, none⟩ = some (.pointer pm)) (by kernel_rfl) ?_
        have hdr : (wr).drew = { wr with drawn := (wr).drawn + 1 } := rfl
        rw [← hdr]
        clear hdr
        change wpAnyE _ _ _ _ _ _ _ _ ((wr).drewN 1)
        refine tm 0 72 rfl rfl (.pointer (some ⟨b, 0, none⟩)) hS ?_
        try simp only [pa, pl]
        refine tg 1 73 rfl rfl (.pointer (some ⟨b, 0, none⟩)) hS ?_
        try simp only [pa, pl]
        refine tg 2 74 rfl rfl (.pointer (some ⟨b, 3, none⟩)) hS ?_
        try simp only [pa, pl]
        refine tk 3 75 rfl rfl (.slice (some ⟨bk, ok, none⟩) us.length ck) (fun W hW => by obtain ⟨c3, d3, qu, qm⟩ := hW; go_simp) hS ?_
        try simp only [pa, pl]
        refine tm 4 76 rfl rfl (.int .i64 (i : Int)) hS ?_
        try simp only [pa, pl]
        refine tg 5 77 rfl rfl (.pointer (some ⟨bk, ok + i, none⟩)) hS ?_
        try simp only [pa, pl]
        refine tk 6 78 rfl rfl (.pointer pu) (fun W hW => by obtain ⟨c3, d3, qu, qm⟩ := hW; go_simp) hS ?_
        try simp only [pa, pl]
        refine tm 7 79 rfl rfl (.pointer (some ⟨b2, 0, none⟩)) hS ?_
        try simp only [pa, pl]
        refine tg 8 80 rfl rfl (.pointer (some ⟨b2, 0, none⟩)) hS ?_
        try simp only [pa, pl]
        refine tg 9 81 rfl rfl (.pointer (some ⟨b2, 3, none⟩)) hS ?_
        try simp only [pa, pl]
        refine tk 10 82 rfl rfl (.slice (some ⟨bm, om, none⟩) us.length ck2) (fun W hW => by obtain ⟨c3, d3, qu, qm⟩ := hW; go_simp) hS ?_
        try simp only [pa, pl]
        refine tm 11 83 rfl rfl (.int .i64 (i : Int)) hS ?_
        try simp only [pa, pl]
        refine tg 12 84 rfl rfl (.pointer (some ⟨bm, om + i, none⟩)) hS ?_
        try simp only [pa, pl]
        refine tk 13 85 rfl rfl (.pointer pm) (fun W hW => by obtain ⟨c3, d3, qu, qm⟩ := hW; go_simp) hS ?_
        try simp only [pa, pl]
        refine wpAnyEOne 14 (by kernel_rfl) ?_
        refine wpOpCall (some 86) 63 #[.pointer pu, .pointer pm] rfl rfl rfl (by go_simp) (SC) ?_
        rintro e w3 ⟨rfl, hb3⟩
        have hb3 := hdr.trans hb3
        have hS3 : w3.cell? ⟨b, 3, none⟩ = some (.slice (some ⟨bk, ok, none⟩) us.length ck) ∧ w3.cell? ⟨b2, 3, none⟩ = some (.slice (some ⟨bm, om, none⟩) us.length ck2) ∧ w3.cell? ⟨bk, ok + i, none⟩ = some (.pointer pu) ∧ w3.cell? ⟨bm, om + i, none⟩ = some (.pointer pm) := ⟨(hb3.cell (p := ⟨b, 3, none⟩) (cell_in c3)).trans c3, (hb3.cell (p := ⟨b2, 3, none⟩) (cell_in d3)).trans d3, (hb3.cell (p := ⟨bk, ok + i, none⟩) (cell_in qu)).trans qu, (hb3.cell (p := ⟨bm, om + i, none⟩) (cell_in qm)).trans qm⟩
        refine ⟨_, rfl, ?_⟩
        refine ⟨.inl (hS3), ?_⟩
        try simp only [pa, pl]
        refine wpAnyEOne 15 (by kernel_rfl) ?_
        refine wpOpRun' (v := .bool false) (w' := w3) (some 87) rfl rfl rfl (by go_simp) ?_
        refine ⟨.inr (allUp_of (by kernel_rfl)), ?_⟩
        try simp only [pa, pl]
        refine wpAnyE_done (by kernel_rfl) ?_ _
        have HBN := Lib.hid (HBL.out.trans (hb3.mono HBL.out.size))
        clear hS hS3 hb3 hdr SC c3 d3 qu qm
        go_wp2_with fail
        go_roundw
        case rel => exact ⟨i + 1, by omega, by go_num, HBN.out⟩
        case measure => simp [intOf]; omega
      · have hi1 : ¬ (i : Int) < (us.length : Int) := by omega
        have HBF := Lib.hid (HB2W.out.trans (hbl.mono HB2W.out.size))
        clear hbl hbr
        go_wp2_with fail
        go_ret
        exact ⟨rfl, HBF.out⟩
set_option maxHeartbeats 1000000 in
/-- the same tree as one of the package and as one of the reference -/
theorem same_any {F F2 : Nat → Prop} {W0 : World} {v v2 : Value} {t : Tr} (h : TreeIn 108 F W0 v t) (h2 : TreeIn 105 F2 W0 v2 t) (hsm : smK t = true) (hd : depT t ≤ 80) (w : World) (hb : Below W0.heap.size W0 w) :
    Calls Try.prog 25 #[v, v2] w fun e w' => e = .returned (.bool true) ∧ Below w.heap.size w w' := by
  have PL := plainN_any h hsm 80 w hb hd (by omega)
  unfold ConvOut at PL
  obtain ⟨p, rfl⟩ := h.form
  obtain ⟨p2, rfl⟩ := h2.form
  have H2 := Lib.hid (h2.under hb)
  clear h h2 hb
  go_enter Try.func25, Try.ntmps25
  go_wp2_with fail
  refine PL.mono ?_
  rintro e w2 ⟨⟨q, rfl, ht⟩, hb2⟩
  have SM := rsame_any ht _ w2 (H2.out.under hb2) (Below.refl _ _)
  obtain ⟨pq, rfl⟩ := ht.form
  have HB2 := Lib.hid hb2
  clear PL ht hb2
  go_wp2_with fail
  refine SM.mono ?_
  rintro e w3 ⟨rfl, hb3⟩
  have HB3 := Lib.hid (HB2.out.trans (hb3.mono HB2.out.size))
  clear SM hb3
  go_wp2_with fail
  go_ret
  exact ⟨rfl, HB3.out⟩
end Go.Proofs.Ytmkkegigajmhkaa

namespace Go.Proofs.Ytmkkegigajmhkaa
open Go.RowKit Go.Maps

structure LG (n0 : Nat) (w W : World) (b : Nat) (va vc vk : Value) (us : List Value) (T : Tb) : Prop where
  bel : Below n0 w W
  hb : n0 ≤ b
  sz : n0 ≤ W.heap.size
  box : Boxs W b 25 #[va, vc, vk]
  out : W.ownsRow n0 22 1 va T.rows.length us
  cst : W.ownsRow n0 3 1 vc T.costs.length (ints T.costs)
  cls : W.ownsRow n0 3 1 vk T.cls.length (ints T.cls)
  cd : ∀ g, vc.ownBlock = some g → vk.ownBlock ≠ some g
  rows : ∀ (k : Nat) (u : Value) (r : List Int), us[k]? = some u → T.rows[k]? = some r → W.ownsRow n0 3 1 u r.length (ints r) ∧ ∀ g, u.ownBlock = some g → vk.ownBlock ≠ some g
section
variable {n0 : Nat} {w W W' : World} {b : Nat} {va vc vk : Value} {us : List Value} {T : Tb}
theorem LG.len (h : LG n0 w W b va vc vk us T) : us.length = T.rows.length := by have := h.out.1; omega
theorem LG.below (h : LG n0 w W b va vc vk us T) (hb : Below W.heap.size W W') : LG n0 w W' b va vc vk us T :=
  ⟨h.bel.trans (hb.mono h.sz), h.hb, Nat.le_trans h.sz hb.size, Boxs.below h.box hb, owns_below h.out hb, owns_below h.cst hb, owns_below h.cls hb, h.cd, fun k u r hu hr => ⟨owns_below (h.rows k u r hu hr).1 hb, (h.rows k u r hu hr).2⟩⟩
theorem LG.tb (h : LG n0 w W b va vc vk us T) : TbR W va vc vk T :=
  ⟨⟨us, Rd_of_owns h.out, h.len, fun k u r hu hr => owns_ints (h.rows k u r hu hr).1⟩, owns_ints h.cst, owns_ints h.cls⟩
theorem LG.of {cs : Array Value} (ho : OwnT n0 W va vc vk us T) (hbel : Below n0 w W) (hb : n0 ≤ b) (hsz : n0 ≤ W.heap.size) (hcs : cs = #[va, vc, vk]) (box : Boxs W b 25 cs) : LG n0 w W b va vc vk us T := by
  subst hcs
  refine ⟨hbel, hb, hsz, box, ho.out, ho.rs.inn 0 _ _ rfl rfl, ho.rs.inn 1 _ _ rfl rfl, fun g h1 h2 => ?_, fun k u r hu hr => ⟨ho.rs.inn (k + 2) u r (by simpa using hu) (by simpa using hr), fun g h1 h2 => ?_⟩⟩
  · have := ho.rs.dis 0 1 vc vk g rfl rfl h1 h2; omega
  · have := ho.rs.dis (k + 2) 1 u vk g (by simpa using hu) rfl h1 h2; omega
/-- a row that is there is put at the end once more -/
theorem LG.appR {k : Nat} {u v' : Value} {r : List Int} (h : LG n0 w W b va vc vk us T) (hu : us[k]? = some u) (hr : T.rows[k]? = some r) (ha : AppOut n0 22 W va (T.rows.length + 1) (us ++ [u]) v' W') :
    LG n0 w (W'.setCell ⟨b, 0, none⟩ v') b v' vc vk (us ++ [u]) ⟨T.rows ++ [r], T.costs, T.cls⟩ := by
  have bx := Boxs.app h.box h.out ha (by decide)
  have hl := h.len
  refine ⟨(ha.below h.bel h.out (Nat.le_refl _) h.sz).setCell (p := ⟨b, 0, none⟩) h.hb v', h.hb, by simpa using Nat.le_trans h.sz ha.size, by simpa using bx.put 0 v', ?_, ?_, ?_, h.cd, fun j u1 r1 h1 h2 => ?_⟩
  · have := owns_boxset (o := 0) ha.1 bx (by decide) v'
    simpa using this
  · exact owns_boxset (owns_app h.cst h.out ha (by decide)) bx (by decide) v'
  · exact owns_boxset (owns_app h.cls h.out ha (by decide)) bx (by decide) v'
  · have key : ∃ j' : Nat, us[j']? = some u1 ∧ T.rows[j']? = some r1 := by
      by_cases hj : j < us.length
      · rw [List.getElem?_append_left hj] at h1
        rw [List.getElem?_append_left (by omega)] at h2
        exact ⟨j, h1, h2⟩
      · have hjl : j = us.length := by have := (List.getElem?_eq_some_iff.1 h1).1; simp at this; omega
        subst hjl
        rw [get_last] at h1
        rw [hl, get_last] at h2
        cases h1; cases h2
        exact ⟨k, hu, hr⟩
    obtain ⟨j', g1, g2⟩ := key
    have h3 := h.rows j' u1 r1 g1 g2
    exact ⟨owns_boxset (owns_app h3.1 h.out ha (by decide)) bx (by decide) v', h3.2⟩
/-- one class more -/
theorem LG.appK {x : Int} {v' : Value} (h : LG n0 w W b va vc vk us T) (ha : AppOut n0 3 W vk (T.cls ++ [x]).length (ints (T.cls ++ [x])) v' W') :
    LG n0 w (W'.setCell ⟨b, 2, none⟩ v') b va vc v' us ⟨T.rows, T.costs, T.cls ++ [x]⟩ := by
  have bx := Boxs.app h.box h.cls ha (by decide)
  have key : ∀ {u : Value} {r : List Int}, W.ownsRow n0 3 1 u r.length (ints r) → (∀ g, u.ownBlock = some g → vk.ownBlock ≠ some g) → (W'.setCell ⟨b, 2, none⟩ v').ownsRow n0 3 1 u r.length (ints r) ∧ ∀ g, u.ownBlock = some g → v'.ownBlock ≠ some g := fun {u r} h1 h2 => by
    refine ⟨owns_boxset (owns_grown h1 ha.2.1 fun g hg e => h2 g hg e) bx (by decide) v', fun g hg e => ?_⟩
    rcases ha.2.2 with h3 | h3
    · rw [h3] at e; exact h2 g hg e
    · rw [h3] at e; cases e; have := (h1.lt _ hg).2; omega
  refine ⟨(ha.below h.bel h.cls (Nat.le_refl _) h.sz).setCell (p := ⟨b, 2, none⟩) h.hb v', h.hb, by simpa using Nat.le_trans h.sz ha.size, by simpa using bx.put 2 v', ?_, (key h.cst h.cd).1, owns_boxset ha.1 bx (by decide) v', (key h.cst h.cd).2, fun j u1 r1 h1 h2 => ?_⟩
  · exact owns_boxset (owns_app h.out h.cls ha (by decide)) bx (by decide) v'
  · have h3 := h.rows j u1 r1 h1 h2
    exact key h3.1 h3.2
end
/-- worlds that are there are put at the end once more -/
def growT (T : Tb) (n : Nat) : Nat → Tb
  | 0 => T
  | j + 1 => ⟨(growT T n j).rows ++ [rowAt (growT T n j) (j % n)], (growT T n j).costs, (growT T n j).cls ++ [clsAt (growT T n j) (j % n)]⟩
theorem growT_len (T : Tb) (n : Nat) : ∀ j, (growT T n j).rows.length = T.rows.length + j ∧ (growT T n j).cls.length = T.cls.length + j ∧ (growT T n j).costs = T.costs
  | 0 => ⟨rfl, rfl, rfl⟩
  | j + 1 => by
    obtain ⟨h1, h2, h3⟩ := growT_len T n j
    unfold growT
    refine ⟨by simp [h1]; omega, by simp [h2]; omega, h3⟩
theorem smKs_map {α : Type} (f : α → Tr) : ∀ l : List α, (∀ x, x ∈ l → smK (f x) = true) → smKs (l.map f) = true
  | [], _ => rfl
  | x :: r, h => by
    rw [List.map_cons, smKs, h x (by simp), smKs_map f r (fun y hy => h y (by simp [hy]))]; rfl
theorem treeF_smK (choose : List Nat → Int) (T : Tb) : ∀ (n : Nat) (ws : List Nat), ws.length ≤ 100000 → smK (treeF choose T n ws) = true
  | 0, ws, _ => rfl
  | n + 1, ws, h => by
    rw [treeF]
    split
    · rfl
    · rw [smK]
      have hg := given_len T ws (choose ws).toNat
      rw [decide_eq_true (by simp; omega), smKs_map _ _ (fun a _ => treeF_smK choose T n _ (by have := withW_le T ws (choose ws).toNat a; omega))]
      rfl
theorem bestTr_sm (T : Tb) : smK (bestTr T) = true ∧ depT (bestTr T) ≤ 80 := by
  unfold bestTr
  split
  · rename_i he
    have h10 : T.rows.length ≤ 10 := by
      unfold bestErr at he
      split at he
      · contradiction
      · split at he
        · cases he
        · omega
    exact ⟨treeF_smK _ T _ _ (by rw [allW_len]; omega), by have := treeF_dep (fun ws => (bestV T ws).1) T T.rows.length (allW T); omega⟩
  · exact ⟨rfl, by simp [depT]⟩
theorem greTr_sm (T : Tb) : smK (greTr T) = true ∧ depT (greTr T) ≤ 80 := by
  unfold greTr
  split
  · rename_i he
    have h64 := (exE_ok he).1.r64
    exact ⟨treeF_smK _ T _ _ (by rw [allW_len]; omega), by have := treeF_dep (greedyA T) T T.rows.length (allW T); omega⟩
  · exact ⟨rfl, by simp [depT]⟩
end Go.Proofs.Ytmkkegigajmhkaa

