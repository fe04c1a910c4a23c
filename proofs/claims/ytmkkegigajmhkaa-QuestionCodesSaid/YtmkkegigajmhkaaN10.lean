/- The walk of parts. The answers that some worlds give (Given, reference). The greedy question (program's closure). -/
import Derived.Test.YtmkkegigajmhkaaN09
import Derived.Carry
import Derived.Lib.LazyBuf
import Derived.Deep.WholeRow
set_option linter.unusedVariables false
namespace Go.Proofs.Ytmkkegigajmhkaa
open Go.RowKit Go.Maps

theorem zero22 (W : World) : (zeroValue 22).run Try.prog W = .ok (.slice none 0 0) W := (zero_of_info (t := 22) (v := .slice none 0 0) (n := 1) (by kernel_rfl)).1 W
@[go_sem high] theorem Try.eqlNil22 (w : World) (a : Option Addr) (n c : Nat) : (binOp .eql 22 (.slice a n c) (.slice none 0 0)).run Try.prog w = .ok (.bool a.isNone) w := Go.run_eql_slice_nil w 22 3 a n c Try.underlying22
/-- a slice that reads as a list, in a block of some kind -/
def RdIn (F : Nat → Prop) (W : World) (v : Value) (cs : List Value) : Prop := Rd W v cs ∧ (cs ≠ [] → ∀ b, v.ownBlock = some b → F b)
theorem RdIn.block {F : Nat → Prop} {W W' : World} {v : Value} {cs : List Value} (h : RdIn F W v cs) (hk : ∀ i, i < W.heap.size → F i → W'.heap[i]? = W.heap[i]?) : RdIn F W' v cs := by
  obtain ⟨⟨a, cap, h2, h3, h4, h5⟩, hF⟩ := h
  refine ⟨⟨a, cap, h2, h3, h4, ?_⟩, hF⟩
  rcases h5 with h5 | ⟨b, off, h5, h6, h7⟩
  · exact .inl h5
  · by_cases hcs : cs = []
    · exact .inl (by rw [hcs]; rfl)
    have hFb := hF hcs b (by rw [h2, h5]; rfl)
    have hb := hk b h6 hFb
    have hlt : b < W'.heap.size := by
      rw [Array.getElem?_eq_getElem h6] at hb
      exact (Array.getElem?_eq_some_iff.1 hb).1
    exact .inr ⟨b, off, h5, hlt, fun j u hu => (World.cell?_of_block (a := ⟨b, off + j, none⟩) hb).trans (h7 j u hu)⟩
theorem RdIn.mono {F G : Nat → Prop} {W : World} {v : Value} {cs : List Value} (h : RdIn F W v cs) (hFG : ∀ i, i < W.heap.size → F i → G i) : RdIn G W v cs := by
  refine ⟨h.1, fun hne b hb => hFG b ?_ (h.2 hne b hb)⟩
  obtain ⟨a, cap, h2, h3, h4, h5⟩ := h.1
  rcases h5 with h5 | ⟨b', off, h5, h6, h7⟩
  · exact absurd (List.length_eq_zero_iff.1 h5) hne
  · rw [h2, h5] at hb
    cases hb
    exact h6
theorem RdIn.below {F : Nat → Prop} {W W' : World} {v : Value} {cs : List Value} (h : RdIn F W v cs) (hb : Below W.heap.size W W') : RdIn F W' v cs := ⟨h.1.below hb, h.2⟩
theorem RdIn_owns {w : World} {base : Nat} {e : TypeId} {v : Value} {n : Nat} {cs : List Value} (h : w.ownsRow base e 1 v n cs) : RdIn (base ≤ ·) w v cs := ⟨Rd_of_owns h, fun _ b hb => (h.lt b hb).1⟩
/-- a slice of slices that reads as a list of lists, in blocks of some kind -/
def RdRn (F : Nat → Prop) (W : World) (v : Value) (rows : List (List Int)) : Prop :=
  ∃ us : List Value, RdIn F W v us ∧ us.length = rows.length ∧ ∀ (k : Nat) (u : Value) (r : List Int), us[k]? = some u → rows[k]? = some r → RdIn F W u (ints r)
theorem RdRn.rd {F : Nat → Prop} {W : World} {v : Value} {rows : List (List Int)} (h : RdRn F W v rows) : RdR W v rows := by
  obtain ⟨us, h1, h2, h3⟩ := h
  exact ⟨us, h1.1, h2, fun k u r hu hr => (h3 k u r hu hr).1⟩
theorem RdRn.block {F : Nat → Prop} {W W' : World} {v : Value} {rows : List (List Int)} (h : RdRn F W v rows) (hk : ∀ i, i < W.heap.size → F i → W'.heap[i]? = W.heap[i]?) : RdRn F W' v rows := by
  obtain ⟨us, h1, h2, h3⟩ := h
  exact ⟨us, h1.block hk, h2, fun k u r hu hr => (h3 k u r hu hr).block hk⟩
theorem RdRn.mono {F G : Nat → Prop} {W : World} {v : Value} {rows : List (List Int)} (h : RdRn F W v rows) (hFG : ∀ i, i < W.heap.size → F i → G i) : RdRn G W v rows := by
  obtain ⟨us, h1, h2, h3⟩ := h
  exact ⟨us, h1.mono hFG, h2, fun k u r hu hr => (h3 k u r hu hr).mono hFG⟩
theorem RdRn.at {F : Nat → Prop} {W : World} {a : Option Addr} {n c : Nat} {rows : List (List Int)} (h : RdRn F W (.slice a n c) rows) {k : Nat} {r : List Int} (hr : rows[k]? = some r) :
    ∃ b off u, a = some ⟨b, off, none⟩ ∧ b < W.heap.size ∧ F b ∧ W.cell? ⟨b, off + k, none⟩ = some u ∧ RdIn F W u (ints r) := by
  obtain ⟨us, ⟨⟨a', cap, h2, h3, h4, h5⟩, hF⟩, hl, h6⟩ := h
  have hk' := (List.getElem?_eq_some_iff.1 hr).1
  cases h2
  rcases h5 with h5 | ⟨b, off, h5, h7, h8⟩
  · omega
  · obtain ⟨u, hu⟩ := elem_at (show k < us.length by omega)
    exact ⟨b, off, u, h5, h7, hF (by intro h0; rw [h0] at hu; simp at hu) b (by rw [h5]; rfl), h8 k u hu, h6 k u r hu hr⟩
def PartsOut (base : Nat) (T : Tb) (ws : List Nat) (k : Nat) (e : Ending) (w' : World) : Prop := ∃ v1 v2, e = .returned (.tuple #[v1, v2]) ∧ RdIn (base ≤ ·) w' v1 (ints (given T ws k)) ∧ RdRn (base ≤ ·) w' v2 (partsW T ws k (given T ws k))
set_option maxRecDepth 100000 in
set_option maxHeartbeats 8000000 in
theorem parts_any (va vc vk v : Value) (T : Tb) (ws : List Nat) (k : Nat) (w : World) (h : TbR w va vc vk T) (ho : OkT T) (hr : RdI w v (nI ws)) (hok : WsOk T ws) (hlen : ws.length ≤ 1000) (hk : k < T.costs.length) :
    Calls Try.prog 56 #[.agg #[va, vc, vk], v, .int .i64 (k : Int)] w fun e w' => PartsOut w.heap.size T ws k e w' ∧ Below w.heap.size w w' := by
  obtain ⟨aa, ca, rfl⟩ := h.rows.form
  obtain ⟨ac, cc, rfl⟩ := h.costs.form
  obtain ⟨ak, ck, rfl⟩ := h.cls.form
  obtain ⟨aw, cw, rfl⟩ := hr.form
  have HB := Lib.hid (alloc_below w (.cells #[.slice aa T.rows.length ca, .slice ac T.costs.length cc, .slice ak T.cls.length ck] 33))
  have HT := Lib.hid (BoxT.new h 33)
  have HR := Lib.hid (hr.below HB.out)
  have HO := Lib.hid ho
  have hk64 := ho.c64
  clear h hr ho
  have hmm := fun (W : World) => Go.RowKit.run_makeMap (P := Try.prog) 116 W
  go_enter Try.func56, Try.ntmps56
  go_wp2_with fail
  obtain ⟨B, hB⟩ : ∃ B, w.heap.size = B := ⟨_, rfl⟩
  obtain ⟨m, hm⟩ : ∃ m, w.heap.size + 1 = m := ⟨_, rfl⟩
  have hMF := MapF.new (w.alloc (.cells #[.slice aa T.rows.length ca, .slice ac T.costs.length cc, .slice ak T.cls.length ck] 33)) .i64
  have hbl0 := alloc_below (w.alloc (.cells #[.slice aa T.rows.length ca, .slice ac T.costs.length cc, .slice ak T.cls.length ck] 33)) (.map #[] 0)
  rw [World.size_alloc] at hMF
  rw [hm] at hMF ⊢
  rw [hB] at HT ⊢
  clear hmm
  obtain ⟨w1, hw1⟩ : ∃ w1, w.alloc (.cells #[.slice aa T.rows.length ca, .slice ac T.costs.length cc, .slice ak T.cls.length ck] 33) = w1 := ⟨_, rfl⟩
  rw [hw1] at HB HT HR hMF hbl0 ⊢
  obtain ⟨N, hN⟩ : ∃ N, w1.heap.size = N := ⟨_, rfl⟩
  have hmN : N ≤ m := by rw [← hN, ← hw1, World.size_alloc]; omega
  clear hw1
  have hwN : w.heap.size ≤ N := by rw [← hN]; exact HB.out.size
  have HBK := Lib.hid (fun (W : World) (hw : Below N w1 W) => HT.out.below (w' := W) (by rw [hN]; exact hw))
  have HRK := Lib.hid (fun (W : World) (hw : Below N w1 W) => HR.out.below (w' := W) (by rw [hN]; exact hw))
  have HNK := Lib.hid (fun (W : World) (hw : Below N w1 W) => (show N ≤ W.heap.size by have := hw.size; omega))
  rw [hN] at hbl0
  have HP := Lib.hid (show PS N (w1.alloc (.map #[] 0)) m (.slice none 0 0) [] T (ws.take 0) k (firsts T (ws.take 0) k) from ⟨hmN, ⟨_, hMF, fun j a u h => by simp [firsts, firstsF] at h, fun _ _ => rfl⟩, OwnRs.nils _ _ 1⟩)
  have HBL := Lib.hid hbl0
  clear HT HR hMF hbl0
  go_loopw [9, 19] (fun v jv wr => ∃ (j : Nat) (us : List Value), j ≤ ws.length ∧ jv = .int .i64 j ∧ PS N wr m v us T (ws.take j) k (firsts T (ws.take j) k) ∧ Below N w1 wr) (fun _ jv _ => ws.length - (intOf jv).toNat)
  case atStart => exact ⟨0, [], Nat.zero_le _, rfl, HP.out, HBL.out⟩
  case round =>
    clear HP HBL
    obtain ⟨j, us, hj, rfl, hps, hbl⟩ := hrel
    have hj0 : (0 : Int) ≤ (j : Int) := Int.natCast_nonneg _
    have hfl : (firsts T (ws.take j) k).length ≤ j := by have := firsts_len T (ws.take j) k; rw [List.length_take] at this; omega
    obtain ⟨av, cv, rfl⟩ := owns_form (hps.rs.inn 0 _ _ rfl rfl)
    have HPS := Lib.hid hps; have HBL := Lib.hid hbl
    by_cases hlt : j < ws.length
    · have hj1 : (j : Int) < ((nI ws).length : Int) := by have := nI_len ws; omega
      obtain ⟨i, hi⟩ := elem_at hlt
      have hir := hok i (List.mem_of_getElem? hi)
      obtain ⟨bw, ow, rfl, _, q1⟩ := nI_elem (HRK.out _ hbl) hi
      have hbt := HBK.out _ hbl
      obtain ⟨br, or, bu, ou, nu, cu, rfl, li, qa, _, _, hku⟩ := ans_cells hbt.tb.rows HO.out hir hk
      have c0 := hbt.c0
      have hfs := firsts_succ (T := T) (k := k) hi
      have HI := Lib.hid hi
      obtain ⟨x, hx⟩ : ∃ x, ansAt T i k = x := ⟨_, rfl⟩
      have HX := Lib.hid hx
      rw [hx] at hfs qa
      have hi1 : (i : Int) < (T.rows.length : Int) := by omega
      have hi0 : (0 : Int) ≤ (i : Int) := Int.natCast_nonneg _
      have hk0 : (0 : Int) ≤ (k : Int) := Int.natCast_nonneg _
      have hku1 : (k : Int) < (nu : Int) := by omega
      have hsz := HNK.out _ hbl
      obtain ⟨f, hmf, hf1, hf2⟩ := hps.map
      obtain ⟨A, hA⟩ : ∃ A, firsts T (ws.take j) k = A := ⟨_, rfl⟩
      have hnd := firsts_nodup T (ws.take j) k
      have HAA := Lib.hid hA
      rw [hA] at hfs hfl hf1 hf2 hnd HPS ⊢
      have HFS := Lib.hid hfs
      have hlk := run_look hmf (t := 116) Try.underlying116 Try.underlying3 (zero22 wr) x false
      have HMF := Lib.hid hmf
      have HF1 := Lib.hid hf1; have HF2 := Lib.hid hf2
      clear hps hbl hbt hfs hi hx hA hmf hf1
      by_cases hxA : x ∈ A
      · obtain ⟨p, hp⟩ := List.mem_iff_getElem?.1 hxA
        have hpl := (List.getElem?_eq_some_iff.1 hp).1
        obtain ⟨u, hu⟩ := elem_at (show p < us.length by rw [HPS.out.len]; exact hpl)
        have hfx := HF1.out p x u hp hu
        have hou := HPS.out.rs.inn (p + 1) u _ (by simpa using hu) (by simpa using partsW_at hp)
        have hwn : withW T (ws.take j) k x ≠ [] := fun e => by
          have h1 : x ∈ firsts T (ws.take j) k := by rw [HAA.out]; exact hxA
          obtain ⟨i', hi', e'⟩ := (firsts_mem T _ k x).1 h1
          have := withW_mem.2 ⟨hi', e'⟩
          rw [e] at this; cases this
        obtain ⟨gu, cu2, rfl⟩ := ownsRow_some hou (by rw [nI_len]; exact List.length_pos_iff.2 hwn)
        rw [hfx] at hlk
        simp only [Option.getD_some, Bool.false_eq_true, if_false] at hlk
        rw [if_pos hxA] at HFS
        have hwl : (withW T (ws.take j) k x).length ≤ j := by have := withW_le T (ws.take j) k x; rw [List.length_take] at this; omega
        have HOU := Lib.hid hou; have HU := Lib.hid hu; have HPP := Lib.hid hp
        clear hou hu hp hfx hwn hxA hf2
        have HPA := Lib.hid (HPS.out.below (alloc_below wr (.cells #[.int .i64 (i : Int)] 3)))
        have HBA := Lib.hid (HBL.out.alloc hsz (.cells #[.int .i64 (i : Int)] 3))
        go_wp2_with (at_builtin; first | (refine wpList_appI (base := N) rfl _ _ rfl (.slice (some ⟨gu, 0, none⟩) (nI (withW T (ws.take j) k x)).length cu2) (nI (withW T (ws.take j) k x)) rfl (HOU.out.alloc _) (.slice (some ⟨wr.heap.size, 0, none⟩) 1 1) [(i : Int)] rfl (Rd_fresh wr 3 #[.int .i64 (i : Int)] 1 rfl (by omega)) (by rw [nI_len]; simp; omega) (by simp; omega) ?_; intro v4 w4 happ; have hmf4 := (HMF.out.below (alloc_below wr (.cells #[.int .i64 (i : Int)] 3))).app (HOU.out.alloc (.cells #[.int .i64 (i : Int)] 3)) happ; obtain ⟨w6, hup, hmf6, hg6⟩ := run_upd hmf4 (t := 116) Try.underlying116 Try.underlying3 x v4; have HP6 := Lib.hid (HPA.out.hit HI.out HX.out hnd HPP.out HU.out HF1.out HF2.out happ hmf4 hmf6 hg6); have HB6 := Lib.hid ((happ.below HBA.out (HOU.out.alloc _) (Nat.le_refl _) (by simp; omega)).grown hg6 (Nat.le_trans (by simp; omega) happ.size) (fun q e => by cases e; exact hmN)); clear hmf4 hmf6 hg6 happ))
        go_roundw
        case rel => exact ⟨j + 1, _, by omega, by go_num, by rw [HFS.out]; exact HP6.out, HB6.out⟩
        case measure => simp [intOf]; omega
      · have hfx := HF2.out x hxA
        rw [hfx] at hlk
        simp only [Option.getD_none, Bool.false_eq_true, if_false] at hlk
        rw [if_neg hxA] at HFS
        have hoa := HPS.out.rs.inn 0 _ _ rfl rfl
        have HOA := Lib.hid (hoa.alloc (.cells #[.int .i64 x] 3))
        have HPA := Lib.hid (HPS.out.below (alloc_below wr (.cells #[.int .i64 x] 3)))
        have HBA := Lib.hid (HBL.out.alloc hsz (.cells #[.int .i64 x] 3))
        have HXA := Lib.hid hxA; have HFX := Lib.hid hfx
        clear hoa hxA hfx hf2
        go_wp2_with (at_builtin; first
          | (refine wpList_appI (base := N) rfl _ _ rfl (.slice av A.length cv) A rfl HOA.out (.slice (some ⟨wr.heap.size, 0, none⟩) 1 1) [x] rfl (Rd_fresh wr 3 #[.int .i64 x] 1 rfl (by omega)) (by simp; omega) (by simp; omega) ?_; intro va4 w4 happ; have hmf4 := (HMF.out.below (alloc_below wr (.cells #[.int .i64 x] 3))).app HOA.out happ; have hlk4 := run_look hmf4 (t := 116) Try.underlying116 Try.underlying3 (zero22 w4) x false; rw [HFX.out] at hlk4; simp only [Option.getD_none, Bool.false_eq_true, if_false] at hlk4; have hbl4 := happ.below HBA.out HOA.out (Nat.le_refl _) (by simp; omega); have hsz4 := HNK.out _ hbl4; have hrs4 := HPA.out.rs.app (k := 0) rfl happ; have HAPP := Lib.hid happ; have HRS4 := Lib.hid hrs4; have HMF4 := Lib.hid hmf4; have HBL4 := Lib.hid hbl4; clear happ hrs4 hmf4 hbl4)
          | (refine wpList_appI (base := N) rfl _ _ rfl (.slice none 0 0) [] rfl (World.ownsRow_nil _ _ _ _) (.slice (some ⟨w4.heap.size, 0, none⟩) 1 1) [(i : Int)] rfl (Rd_fresh w4 3 #[.int .i64 (i : Int)] 1 rfl (by omega)) (by simp) (by simp; omega) ?_; intro v5 w5 happ5; have hmf5 := (HMF4.out.below (alloc_below w4 (.cells #[.int .i64 (i : Int)] 3))).app (World.ownsRow_nil _ N 3 1) happ5; obtain ⟨w6, hup, hmf6, hg6⟩ := run_upd hmf5 (t := 116) Try.underlying116 Try.underlying3 x v5; have hrs5 := ((HRS4.out.below (alloc_below w4 (.cells #[.int .i64 (i : Int)] 3))).snoc (u := .slice none 0 0) (r := []) (World.ownsRow_nil _ _ _ _) (fun k u' b h1 h2 h3 => by cases h3)).appL happ5; have hb45 : Below w4.heap.size w4 w5 := (alloc_below w4 (.cells #[.int .i64 (i : Int)] 3)).grown happ5.2.1 (by simp) (fun q e => by cases e); have HP6 := Lib.hid (HPA.out.miss HI.out HX.out HAA.out HXA.out HF1.out HF2.out HAPP.out hb45 hrs5 hmf5 hmf6 hg6); have HB6 := Lib.hid ((HBL4.out.trans (hb45.mono hsz4)).grown hg6 (Nat.le_trans hsz4 hb45.size) (fun q e => by cases e; exact hmN)); clear hmf5 hmf6 hg6 happ5 hrs5 hb45))
        go_roundw
        case rel => exact ⟨j + 1, _, by omega, by go_num, by rw [HFS.out]; exact HP6.out, HB6.out⟩
        case measure => simp [intOf]; omega
    · have hj1 : ¬ (j : Int) < ((nI ws).length : Int) := by have := nI_len ws; omega
      have hta : ws.take j = ws := List.take_of_length_le (by omega)
      rw [hta] at HPS hfl ⊢
      have hsz := HNK.out _ hbl
      have hfs := firsts_sort T ws k
      have hgl : (given T ws k).length ≤ 1000 := by have := given_len T ws k; omega
      have hll : (firsts T ws k).length = (given T ws k).length := by rw [← hfs, sortL_len]
      have hfm := fun b => (firsts_mem T ws k b).trans (given_mem T ws k b).symm
      obtain ⟨A, hA⟩ : ∃ A, firsts T ws k = A := ⟨_, rfl⟩
      rw [hA] at HPS hfl hfs hll hfm ⊢
      obtain ⟨G, hG⟩ : ∃ G, given T ws k = G := ⟨_, rfl⟩
      rw [hG] at hgl hfs hll hfm
      have hoa := HPS.out.rs.inn 0 _ _ rfl rfl
      have SO := sortI_any _ A N wr hoa (by omega)
      rw [hfs] at SO
      have HOA := Lib.hid hoa
      have HGG := Lib.hid hG; have HFM := Lib.hid hfm; have HLL := Lib.hid hll
      clear hps hbl hfs hA hoa hta hfm hll hG
      go_wp2_with fail
      refine SO.mono ?_
      rintro e w2 ⟨rfl, hso, hgr⟩
      have hrs2 := HPS.out.rs.set (k := 0) (r' := G) rfl (by rw [← HLL.out]; exact hso) hgr (.inl rfl) (Nat.le_refl _)
      obtain ⟨f, hmf, hf1, hf2⟩ := HPS.out.map
      have hmf2 := hmf.keep (hgr.block m hmf.lt (Ne.symm (hmf.not_own HOA.out)))
      have HF1 := Lib.hid hf1; have HF2 := Lib.hid hf2
      have HRS := Lib.hid hrs2; have HMF := Lib.hid hmf2
      have HB2 := Lib.hid (HBL.out.grown hgr hsz (fun q e => (HOA.out.lt q e).1))
      clear hso hgr hrs2 hmf hmf2 hf1 hf2 SO
      go_wp2_with fail
      go_loopw [13, 52] (fun vo qv wr => ∃ (q : Nat) (uo : List Value), q ≤ G.length ∧ qv = .int .i64 q ∧ wr.ownsRow N 22 1 vo q uo ∧ (∀ (p : Nat) (u : Value) (a : Int), uo[p]? = some u → G[p]? = some a → f a = some u) ∧ MapF wr m .i64 f ∧ OwnRs N wr (.slice av A.length cv :: us) (G :: partsW T ws k A) ∧ Below N w1 wr) (fun _ qv _ => G.length - (intOf qv).toNat)
      case atStart => exact ⟨0, [], Nat.zero_le _, rfl, World.ownsRow_nil _ _ _ _, fun p u a h => by simp at h, HMF.out, HRS.out, HB2.out⟩
      case round =>
        clear HMF HRS HB2
        obtain ⟨q, uo, hq, rfl, hout, huo, hmf, hrs, hbl⟩ := hrel
        have hq0 : (0 : Int) ≤ (q : Int) := Int.natCast_nonneg _
        have hql : A.length = G.length := HLL.out
        obtain ⟨ao, co, rfl⟩ := owns_form hout
        by_cases hqg : q < G.length
        · have hq1 : (q : Int) < (A.length : Int) := by omega
          obtain ⟨x, hx⟩ := elem_at hqg
          have hoa := hrs.inn 0 _ _ rfl rfl
          obtain ⟨b1, o1, rfl, _, qx⟩ := ints_at (owns_ints hoa) hx
          have hxA : x ∈ A := (HFM.out x).2 (List.mem_of_getElem? hx)
          obtain ⟨p, hp⟩ := List.mem_iff_getElem?.1 hxA
          have hul : us.length = A.length := by have := hrs.len; unfold partsW at this; simp at this; exact this
          obtain ⟨u, hu⟩ := elem_at (show p < us.length by rw [hul]; exact (List.getElem?_eq_some_iff.1 hp).1)
          have hfx := HF1.out p x u hp hu
          have hlk := run_look hmf (t := 116) Try.underlying116 Try.underlying3 (zero22 wr) x false
          rw [hfx] at hlk
          simp only [Option.getD_some, Bool.false_eq_true, if_false] at hlk
          have hou := hrs.inn (p + 1) u _ (by simpa using hu) (by simpa using partsW_at hp)
          have h1c := owns_one hou
          obtain ⟨au, cu, hue⟩ := owns_form hou
          have hsz := HNK.out _ hbl
          have hall : ∀ (p : Nat) (u' : Value) (a : Int), (uo ++ [u])[p]? = some u' → G[p]? = some a → f a = some u' := fun p' u' a h1 h2 => by
            have hul2 : uo.length = q := by have := hout.1; omega
            by_cases hpl : p' < uo.length
            · rw [List.getElem?_append_left hpl] at h1
              exact huo p' u' a h1 h2
            · rw [List.getElem?_append_right (by omega)] at h1
              have e0 : p' - uo.length = 0 := by have := (List.getElem?_eq_some_iff.1 h1).1; simp at this; omega
              rw [e0] at h1
              simp at h1
              subst h1
              have : p' = q := by omega
              subst this
              rw [hx] at h2; cases h2
              exact hfx
          have HOUT := Lib.hid hout; have HALL := Lib.hid hall; have HMF := Lib.hid (hmf.below (alloc_below wr (.cells #[u] 22))); have HRS := Lib.hid (hrs.below (alloc_below wr (.cells #[u] 22))); have HBL := Lib.hid (hbl.alloc hsz (.cells #[u] 22))
          clear hout huo hmf hrs hbl hx hoa hxA hp hu hfx hou hall hql hul
          subst hue
          go_wp2_with (at_builtin; refine wpList_appR (base := N) rfl _ _ rfl (.slice ao q co) q uo rfl (HOUT.out.alloc _) (.slice (some ⟨wr.heap.size, 0, none⟩) 1 1) [.slice au _ cu] rfl (Rd_fresh wr 22 #[.slice au _ cu] 1 rfl (by omega)) (by simp [Value.oneCell']) (by simp; omega) (by simp; omega) ?_; intro v4 w4 happ)
          have hmf4 := HMF.out.app (HOUT.out.alloc _) happ
          have hrs4 := HRS.out.appO (HOUT.out.alloc _) happ (by decide)
          have hbl4 := happ.below HBL.out (HOUT.out.alloc _) (Nat.le_refl _) (by simp; omega)
          have HO4 := Lib.hid happ.1; have HMF := Lib.hid hmf4; have HRS := Lib.hid hrs4; have HBL := Lib.hid hbl4
          clear happ hmf4 hrs4 hbl4
          go_roundw
          case rel => exact ⟨q + 1, _, by omega, by go_num, HO4.out, HALL.out, HMF.out, HRS.out, HBL.out⟩
          case measure => simp [intOf]; omega
        · obtain rfl : q = G.length := by omega
          have hq1 : ¬ (G.length : Int) < (A.length : Int) := by omega
          have hul : us.length = A.length := by have := hrs.len; unfold partsW at this; simp at this; exact this
          have hR : RdRn (N ≤ ·) wr (.slice ao G.length co) (partsW T ws k G) := by
            refine ⟨uo, RdIn_owns hout, by unfold partsW; rw [List.length_map]; have := hout.1; omega, fun p u r hu hr => ?_⟩
            unfold partsW at hr
            rw [List.getElem?_map] at hr
            cases hg : G[p]? with
            | none => rw [hg] at hr; cases hr
            | some a =>
              rw [hg] at hr
              simp at hr
              subst hr
              have hfa := huo p u a hu hg
              have haA : a ∈ A := (HFM.out a).2 (List.mem_of_getElem? hg)
              obtain ⟨p2, hp2⟩ := List.mem_iff_getElem?.1 haA
              obtain ⟨u2, hu2⟩ := elem_at (show p2 < us.length by rw [hul]; exact (List.getElem?_eq_some_iff.1 hp2).1)
              have hfa2 := HF1.out p2 a u2 hp2 hu2
              rw [hfa] at hfa2
              cases hfa2
              exact RdIn_owns (hrs.inn (p2 + 1) u _ (by simpa using hu2) (by simpa using partsW_at hp2))
          have hL : RdIn (N ≤ ·) wr (.slice av A.length cv) (ints G) := RdIn_owns (hrs.inn 0 _ _ rfl rfl)
          have HRR := Lib.hid hR; have HLL2 := Lib.hid hL; have HBL := Lib.hid hbl
          clear hout huo hmf hrs hbl hR hL hul hql
          go_wp2_with fail
          go_ret2
          subst hB
          exact ⟨⟨_, _, rfl, by rw [HGG.out]; exact HLL2.out.mono fun i _ hi => Nat.le_trans hwN hi, by rw [HGG.out]; exact HRR.out.mono fun i _ hi => Nat.le_trans hwN hi⟩, HB.out.trans (HBL.out.mono hwN)⟩
end Go.Proofs.Ytmkkegigajmhkaa

namespace Go.Proofs.Ytmkkegigajmhkaa
open Go.RowKit Go.Maps

theorem insU_at (a : Int) : ∀ (l : List Int) (k : Nat), l.Pairwise (· < ·) → k ≤ l.length → (∀ (j : Nat) (y : Int), k ≤ j → l[j]? = some y → a < y) → (∀ y, 0 < k → l[k - 1]? = some y → y < a) → insU a l = l.take k ++ a :: l.drop k
  | [], k, _, hk, _, _ => by simp at hk; subst hk; rfl
  | x :: r, k, hs, hk, h1, h2 => by
    rw [List.pairwise_cons] at hs
    cases k with
    | zero =>
      have := h1 0 x (Nat.le_refl _) rfl
      unfold insU
      rw [if_pos this]
      rfl
    | succ k =>
      have hx : x < a := by
        have hb := h2
        by_cases h0 : k = 0
        · subst h0; exact hb x (by omega) rfl
        · obtain ⟨y, hy⟩ := elem_at (show k - 1 < r.length by simp at hk; omega)
          have h3 := hs.1 y (List.mem_of_getElem? hy)
          have h4 := hb y (by omega) (by rw [show k + 1 - 1 = (k - 1) + 1 by omega]; simpa using hy)
          omega
      unfold insU
      rw [if_neg (by omega), if_neg (by omega)]
      rw [insU_at a r k hs.2 (by simpa using hk) (fun j y hj hy => h1 (j + 1) y (by omega) (by simpa using hy)) (fun y hk0 hy => h2 y (by omega) (by rw [show k + 1 - 1 = (k - 1) + 1 by omega]; simpa using hy))]
      rfl
theorem insU_has (a : Int) : ∀ (l : List Int) (k : Nat), l.Pairwise (· < ·) → l[k]? = some a → insU a l = l
  | [], k, _, h => by simp at h
  | x :: r, k, hs, h => by
    rw [List.pairwise_cons] at hs
    cases k with
    | zero =>
      simp at h; subst h
      unfold insU
      rw [if_neg (by omega), if_pos rfl]
    | succ k =>
      have h' : r[k]? = some a := by simpa using h
      have := hs.1 a (List.mem_of_getElem? h')
      unfold insU
      rw [if_neg (by omega), if_neg (by omega), insU_has a r k hs.2 h']
/-- a part of a list that can be read -/
theorem RdI.take {W : World} {a : Option Addr} {n c k : Nat} {xs : List Int} (h : RdI W (.slice a n c) xs) (hk : k ≤ n) : RdI W (.slice a k c) (xs.take k) := by
  obtain ⟨a', c', e, h3, h4, h5⟩ := h
  cases e
  rw [ints_len] at h3 h5 hk
  refine ⟨a, c, by rw [ints_len, List.length_take]; congr 1; omega, by rw [ints_len, List.length_take]; omega, h4, ?_⟩
  rcases h5 with h5 | ⟨b, off, h5, h6, h7⟩
  · left; rw [ints_len, List.length_take]; omega
  · right
    refine ⟨b, off, h5, h6, fun j u hu => h7 j u ?_⟩
    unfold ints at hu ⊢
    rw [List.map_take, List.getElem?_take] at hu
    split at hu
    · exact hu
    · cases hu
theorem RdI.drop {W : World} {b off n c k : Nat} {xs : List Int} (h : RdI W (.slice (some ⟨b, off, Option.none⟩) n c) xs) (hk : k ≤ n) : RdI W (.slice (some ⟨b, off + k, Option.none⟩) (n - k) (c - k)) (xs.drop k) := by
  obtain ⟨a', c', e, h3, h4, h5⟩ := h
  cases e
  rw [ints_len] at h3 h5 hk
  refine ⟨_, c - k, by rw [ints_len, ints_len, List.length_drop], by rw [ints_len, List.length_drop]; omega, by omega, ?_⟩
  rcases h5 with h5 | ⟨b', off', h5, h6, h7⟩
  · left; rw [ints_len, List.length_drop]; omega
  · right
    cases h5
    refine ⟨b, off + k, rfl, h6, fun j u hu => ?_⟩
    rw [Nat.add_assoc]
    refine h7 (k + j) u ?_
    unfold ints at hu ⊢
    rw [List.map_drop, List.getElem?_drop] at hu
    exact hu
theorem OwnRs.lit {N : Nat} {W : World} {us : List Value} {rows : List (List Int)} {k : Nat} {xs : List Int} (h : OwnRs N W us rows) (hu : us[k]? = some (.slice none 0 0)) (hN : N ≤ W.heap.size) (hx : xs.length ≤ 1000000) :
    OwnRs N (W.alloc (.cells (ints xs).toArray 3)) (us.set k (.slice (some ⟨W.heap.size, 0, none⟩) xs.length xs.length)) (rows.set k xs) :=
  h.set hu (owns_block (size := 1) (n := xs.length) (Boxs.new W 3 _) hN rfl (by rw [ints_len]; omega) hx) (grown_alloc W _ _) (.inr rfl) (Nat.le_refl _)
theorem owns_cap {W : World} {N : Nat} {e : TypeId} {s : Nat} {a : Option Addr} {n c : Nat} {xs : List Value} (h : W.ownsRow N e s (.slice a n c) n xs) : n ≤ c := by
  rcases h.2 with ⟨e, h0⟩ | ⟨g, cap, _, e, _, _, hn, _⟩
  · omega
  · cases e; exact hn
theorem three_rs {N : Nat} {W : World} {v : Value} {L : List Int} (h : W.ownsRow N 3 1 v L.length (ints L)) : OwnRs N W [v, .slice none 0 0, .slice none 0 0] [L, [], []] :=
  (((⟨rfl, fun k u r hu => by simp at hu, fun j k u u' b hu => by simp at hu⟩ : OwnRs N W [] []).snoc h (fun k u' b hu => by simp at hu)).snoc (u := .slice none 0 0) (r := []) (World.ownsRow_nil _ _ _ _) (fun k u' b h1 h2 h3 => by cases h3)).snoc (u := .slice none 0 0) (r := []) (World.ownsRow_nil _ _ _ _) (fun k u' b h1 h2 h3 => by cases h3)
theorem RdI.dropA {W : World} {b off n c k : Nat} {xs : List Int} (h : RdI W (.slice (some ⟨b, off, Option.none⟩) n c) xs) (hk : k ≤ n) : RdI W (.slice (if c = k then some ⟨b, off, Option.none⟩ else some ⟨b, off + k, Option.none⟩) (n - k) (c - k)) (xs.drop k) := by
  split
  · rename_i hc
    obtain ⟨a', c', e, h3, h4, h5⟩ := h
    cases e
    rw [ints_len] at h3 hk
    exact ⟨_, c - k, by rw [ints_len, ints_len, List.length_drop], by rw [ints_len, List.length_drop]; omega, by omega, .inl (by rw [ints_len, List.length_drop]; omega)⟩
  · exact h.drop hk
set_option maxRecDepth 100000 in
set_option maxHeartbeats 8000000 in
theorem given_any (va vc vk v : Value) (T : Tb) (ws : List Nat) (k : Nat) (w : World) (h : TbR w va vc vk T) (ho : OkT T) (hr : RdI w v (nI ws)) (hok : WsOk T ws) (hlen : ws.length ≤ 1000) (hk : k < T.costs.length) :
    Calls Try.prog 79 #[.agg #[va, vc, vk], v, .int .i64 (k : Int)] w fun e w' => OwnI w.heap.size w' e (given T ws k) ∧ Below w.heap.size w w' := by
  obtain ⟨aa, ca, rfl⟩ := h.rows.form
  obtain ⟨ac, cc, rfl⟩ := h.costs.form
  obtain ⟨ak, ck, rfl⟩ := h.cls.form
  obtain ⟨aw, cw, rfl⟩ := hr.form
  have HB := Lib.hid (alloc_below w (.cells #[.slice aa T.rows.length ca, .slice ac T.costs.length cc, .slice ak T.cls.length ck] 25))
  have HT := Lib.hid (BoxT.new h 25)
  have HR := Lib.hid (hr.below HB.out)
  have HO := Lib.hid ho
  have hk64 := ho.c64
  clear h hr ho
  go_enter Try.func79, Try.ntmps79
  go_wp2_with fail
  obtain ⟨B, hB⟩ : ∃ B, w.heap.size = B := ⟨_, rfl⟩
  rw [hB] at HT ⊢
  generalize w.alloc (.cells #[.slice aa T.rows.length ca, .slice ac T.costs.length cc, .slice ak T.cls.length ck] 25) = w1 at *
  obtain ⟨N, hN⟩ : ∃ N, w1.heap.size = N := ⟨_, rfl⟩
  have hwN : w.heap.size ≤ N := by rw [← hN]; exact HB.out.size
  have HBK := Lib.hid (fun (W : World) (hw : Below N w1 W) => HT.out.below (w' := W) (by rw [hN]; exact hw))
  have HRK := Lib.hid (fun (W : World) (hw : Below N w1 W) => HR.out.below (w' := W) (by rw [hN]; exact hw))
  have HNK := Lib.hid (fun (W : World) (hw : Below N w1 W) => (show N ≤ W.heap.size by have := hw.size; omega))
  clear HT HR
  go_loopw [7, 8] (fun v jv wr => ∃ j : Nat, j ≤ ws.length ∧ jv = .int .i64 j ∧ wr.ownsRow N 3 1 v (given T (ws.take j) k).length (ints (given T (ws.take j) k)) ∧ Below N w1 wr) (fun _ jv _ => ws.length - (intOf jv).toNat)
  case atStart => exact ⟨0, Nat.zero_le _, rfl, World.ownsRow_nil _ _ _ _, Below.refl _ _⟩
  case round =>
    obtain ⟨j, hj, rfl, hown, hbl⟩ := hrel
    have hj0 : (0 : Int) ≤ (j : Int) := Int.natCast_nonneg _
    have hgl : (given T (ws.take j) k).length ≤ j := by have := given_len T (ws.take j) k; rw [List.length_take] at this; omega
    have hgs := given_sorted T (ws.take j) k
    by_cases hlt : j < ws.length
    · have hj1 : (j : Int) < ((nI ws).length : Int) := by have := nI_len ws; omega
      obtain ⟨i, hi⟩ := elem_at hlt
      have hir := hok i (List.mem_of_getElem? hi)
      obtain ⟨bw, ow, rfl, _, q1⟩ := nI_elem (HRK.out _ hbl) hi
      have hbt := HBK.out _ hbl
      obtain ⟨br, or, bu, ou, nu, cu, rfl, li, qa, _, _, hku⟩ := ans_cells hbt.tb.rows HO.out hir hk
      have c0 := hbt.c0
      have hsu := given_succ (T := T) (k := k) hi
      obtain ⟨x, hx⟩ : ∃ x, ansAt T i k = x := ⟨_, rfl⟩
      rw [hx] at hsu qa
      obtain ⟨L, hL⟩ : ∃ L, given T (ws.take j) k = L := ⟨_, rfl⟩
      rw [hL] at hsu hgl hgs hown
      obtain ⟨av, cv, rfl⟩ := owns_form hown
      have hi1 : (i : Int) < (T.rows.length : Int) := by omega
      have hi0 : (0 : Int) ≤ (i : Int) := Int.natCast_nonneg _
      have hk0 : (0 : Int) ≤ (k : Int) := Int.natCast_nonneg _
      have hku1 : (k : Int) < (nu : Int) := by omega
      have HSU := Lib.hid hsu
      have HOW := Lib.hid hown; have HBL := Lib.hid hbl
      have HGS := Lib.hid hgs
      clear hown hbl hbt hsu hi hx hL hgs
      go_wp2_with fail
      go_quiet (fail)
      have HOW := Lib.hid (owns_below HOW.out (Below.dn (Below.refl wr.heap.size wr) nq)); have HBL := Lib.hid (Below.dn HBL.out nq)
      clear q1 c0 li qa
      obtain ⟨w5, hw5⟩ : ∃ w5, wr.drewN nq = w5 := ⟨_, rfl⟩
      rw [hw5] at HOW HBL ⊢
      clear hw5
      have hs5 := HNK.out _ HBL.out
      go_wp2_with fail
      go_loopw [10] (fun pv wr => ∃ p : Nat, p ≤ L.length ∧ pv = .int .i64 p ∧ (∀ (q : Nat) (y : Int), p ≤ q → L[q]? = some y → x < y) ∧ wr = w5) (fun pv _ => (intOf pv).toNat)
      case atStart => exact ⟨L.length, Nat.le_refl _, rfl, fun q y h1 h2 => by have := (List.getElem?_eq_some_iff.1 h2).1; omega, rfl⟩
      case round =>
        obtain ⟨p, hp, rfl, hall, rfl⟩ := hrel
        have hp0 : (0 : Int) ≤ (p : Int) := Int.natCast_nonneg _
        have HALL := Lib.hid hall
        clear hall
        by_cases hpp : 0 < p
        · have hp1 : (0 : Int) < (p : Int) := by omega
          obtain ⟨m, rfl⟩ : ∃ m, p = m + 1 := ⟨p - 1, by omega⟩
          obtain ⟨y, hy⟩ := elem_at (show m < L.length by omega)
          obtain ⟨b1, o1, rfl, _, qy⟩ := ints_at (owns_ints HOW.out) hy
          have hm1 : (m : Int) < (L.length : Int) := by omega
          have hm0 : (0 : Int) ≤ (m : Int) := Int.natCast_nonneg _
          have hml : (m : Int) ≤ 1000 := by omega
          have HY := Lib.hid hy
          clear hy
          by_cases hyx : x < y
          · go_wp2_with fail
            go_roundw
            case rel => exact ⟨m, by omega, by go_num, fun q z h1 h2 => by
              rcases Nat.lt_or_ge m q with h | h
              · exact HALL.out q z (by omega) h2
              · obtain rfl : q = m := by omega
                rw [HY.out] at h2; cases h2; exact hyx, trivial⟩
            case measure => simp [intOf]
          · by_cases hyeq : y = x
            · subst hyeq
              have hins := insU_has y L m HGS.out HY.out
              have HI := Lib.hid hins
              clear hins
              go_wp2_with fail
              go_roundw
              case rel => exact ⟨j + 1, by omega, by go_num, by rw [HSU.out, HI.out]; exact HOW.out, HBL.out⟩
              case measure => simp [intOf]; omega
            · have hyx2 : (y != x) = true := by simpa using hyeq
              have hins := insU_at x L (m + 1) HGS.out (by omega) HALL.out (fun z _ hz => by rw [show m + 1 - 1 = m by omega, HY.out] at hz; cases hz; omega)
              have HI := Lib.hid hins
              clear hins hyeq
              go_wp2_with fail
              have hcv : L.length ≤ cv := owns_cap HOW.out
              refine wp_region_E (fun _ => True) (by kernel_rfl) ?_
              have hdr : (wr).drew = { wr with drawn := (wr).drawn + 1 } := rfl
              rw [← hdr]
              clear hdr
              change wpAnyE _ _ _ _ _ _ _ _ (wr.drewN 1)
              refine tm 1 55 rfl rfl (.slice (some ⟨b1, o1, none⟩) L.length cv) trivial ?_
              try simp only [pa, pl]
              refine tm 2 56 rfl rfl (.int .i64 ((m : Int) + 1)) trivial ?_
              try simp only [pa, pl]
              refine tk 3 57 rfl rfl (.slice (some ⟨b1, o1, none⟩) (m + 1) cv) (fun _ _ => by go_simp <;> omega) trivial ?_
              try simp only [pa, pl]
              refine tm 5 59 rfl rfl (.int .i64 x) trivial ?_
              try simp only [pa, pl]
              refine tm 8 62 rfl rfl (.slice (some ⟨b1, o1, none⟩) L.length cv) trivial ?_
              try simp only [pa, pl]
              refine tm 9 63 rfl rfl (.int .i64 ((m : Int) + 1)) trivial ?_
              try simp only [pa, pl]
              refine tk 10 64 rfl rfl (.slice (if cv = m + 1 then some ⟨b1, o1, none⟩ else some ⟨b1, o1 + (m + 1), none⟩) (L.length - (m + 1)) (cv - (m + 1))) (fun _ _ => by go_simp; intro h; have := h (by omega); omega) trivial ?_
              try simp only [pa, pl]
              have hbl := Below.dn HBL.out 1
              have hs : N ≤ (wr.drewN 1).heap.size := HNK.out _ hbl
              have hrs : OwnRs N (wr.drewN 1) [.slice (some ⟨b1, o1, none⟩) L.length cv, .slice none 0 0, .slice none 0 0] [L, [], []] := three_rs (owns_below HOW.out (Below.dn (Below.refl _ _) 1))
              refine wpAnyEBoth 0 6 (by kernel_rfl) ?_ ?_
              · refine wpOpRun' (v := .slice (some ⟨(wr.drewN 1).heap.size, 0, none⟩) 0 0) (w' := ((wr.drewN 1).alloc (.cells #[] 3))) (some 54) rfl rfl rfl (by go_simp <;> rfl) ?_
                have hrs := hrs.void (k := 1) rfl hs
                have hbl := hbl.alloc hs (.cells #[] 3)
                have hs := HNK.out _ hbl
                refine ⟨.inl trivial, ?_⟩
                try simp only [pa, pl]
                refine wpAnyEBoth 4 6 (by kernel_rfl) ?_ ?_
                · have hrd := (owns_ints (hrs.inn 0 _ _ rfl rfl)).take (k := m + 1) (by omega)
                  refine wpOpAppI (base := N) 4 (some 58) rfl rfl rfl (.tmp 54) (.tmp 57) rfl (.slice (some ⟨(wr.drewN 1).heap.size, 0, none⟩) 0 0) ([]) rfl (hrs.inn 1 _ _ rfl rfl) (.slice (some ⟨b1, o1, none⟩) (m + 1) cv) (L.take (m + 1)) rfl hrd (by simp only [List.length_take, List.length_nil]; omega) hs fun v1 W1 happ => ?_
                  have hbl := happ.below hbl (hrs.inn 1 _ _ rfl rfl) (Nat.le_refl _) hs
                  have hrs := hrs.app (k := 1) rfl happ
                  have hs := HNK.out _ hbl
                  clear happ hrd
                  refine ⟨.inl trivial, ?_⟩
                  try simp only [pa, pl]
                  refine wpAnyEOne 6 (by kernel_rfl) ?_
                  refine wpOpRun' (v := .slice (some ⟨W1.heap.size, 0, none⟩) 1 1) (w' := (W1.alloc (.cells #[.int .i64 x] 3))) (some 60) rfl rfl rfl (by go_simp <;> rfl) ?_
                  have hrs := hrs.lit (k := 2) (xs := [x]) rfl hs (by simp)
                  have hbl := hbl.alloc hs (.cells #[.int .i64 x] 3)
                  have hs := HNK.out _ hbl
                  refine ⟨.inl trivial, ?_⟩
                  try simp only [pa, pl]
                  refine wpAnyEOne 7 (by kernel_rfl) ?_
                  have hrd := (owns_ints (hrs.inn 2 _ _ rfl rfl))
                  refine wpOpAppI (base := N) 7 (some 61) rfl rfl rfl (.tmp 58) (.tmp 60) rfl (v1) (([] ++ L.take (m + 1))) rfl (hrs.inn 1 _ _ rfl rfl) (.slice (some ⟨W1.heap.size, 0, none⟩) 1 1) ([x]) rfl hrd (by simp only [List.length_append, List.length_take, List.length_cons, List.length_nil]; omega) hs fun v3 W3 happ => ?_
                  have hbl := happ.below hbl (hrs.inn 1 _ _ rfl rfl) (Nat.le_refl _) hs
                  have hrs := hrs.app (k := 1) rfl happ
                  have hs := HNK.out _ hbl
                  clear happ hrd
                  refine ⟨.inl trivial, ?_⟩
                  try simp only [pa, pl]
                  refine wpAnyEOne 11 (by kernel_rfl) ?_
                  have hrd := (owns_ints (hrs.inn 0 _ _ rfl rfl)).dropA (k := m + 1) (by omega)
                  refine wpOpAppI (base := N) 11 (some 65) rfl rfl rfl (.tmp 61) (.tmp 64) rfl (v3) ((([] ++ L.take (m + 1)) ++ [x])) rfl (hrs.inn 1 _ _ rfl rfl) (.slice (if cv = m + 1 then some ⟨b1, o1, none⟩ else some ⟨b1, o1 + (m + 1), none⟩) (L.length - (m + 1)) (cv - (m + 1))) (L.drop (m + 1)) rfl hrd (by simp only [List.length_append, List.length_take, List.length_drop, List.length_cons, List.length_nil]; omega) hs fun v4 W4 happ => ?_
                  have hbl := happ.below hbl (hrs.inn 1 _ _ rfl rfl) (Nat.le_refl _) hs
                  have hrs := hrs.app (k := 1) rfl happ
                  have hs := HNK.out _ hbl
                  clear happ hrd
                  refine ⟨.inl trivial, ?_⟩
                  try simp only [pa, pl]
                  refine wpAnyEOne 12 (by kernel_rfl) ?_
                  refine wpOpRun' (v := v4) (w' := W4) (some 7) rfl rfl rfl (by rfl) ?_
                  refine ⟨.inr (allUp_of (by kernel_rfl)), ?_⟩
                  try simp only [pa, pl]
                  refine wpAnyE_done (by kernel_rfl) ?_ _
                  have hfin : W4.ownsRow N 3 1 (v4) (((([] ++ L.take (m + 1)) ++ [x]) ++ L.drop (m + 1))).length (ints (((([] ++ L.take (m + 1)) ++ [x]) ++ L.drop (m + 1)))) := hrs.inn 1 _ _ rfl rfl
                  rw [show ((([] ++ L.take (m + 1)) ++ [x]) ++ L.drop (m + 1)) = insU x L by rw [HI.out]; simp] at hfin
                  rw [← HSU.out] at hfin
                  have HF := Lib.hid hfin; have HBL := Lib.hid hbl
                  clear hfin hbl hrs hs
                  go_wp2_with fail
                  go_roundw
                  case rel => exact ⟨j + 1, by omega, by go_num, HF.out, HBL.out⟩
                  case measure => simp [intOf]; omega
                · refine wpOpRun' (v := .slice (some ⟨((wr.drewN 1).alloc (.cells #[] 3)).heap.size, 0, none⟩) 1 1) (w' := (((wr.drewN 1).alloc (.cells #[] 3)).alloc (.cells #[.int .i64 x] 3))) (some 60) rfl rfl rfl (by go_simp <;> rfl) ?_
                  have hrs := hrs.lit (k := 2) (xs := [x]) rfl hs (by simp)
                  have hbl := hbl.alloc hs (.cells #[.int .i64 x] 3)
                  have hs := HNK.out _ hbl
                  refine ⟨.inl trivial, ?_⟩
                  try simp only [pa, pl]
                  refine wpAnyEOne 4 (by kernel_rfl) ?_
                  have hrd := (owns_ints (hrs.inn 0 _ _ rfl rfl)).take (k := m + 1) (by omega)
                  refine wpOpAppI (base := N) 4 (some 58) rfl rfl rfl (.tmp 54) (.tmp 57) rfl (.slice (some ⟨(wr.drewN 1).heap.size, 0, none⟩) 0 0) ([]) rfl (hrs.inn 1 _ _ rfl rfl) (.slice (some ⟨b1, o1, none⟩) (m + 1) cv) (L.take (m + 1)) rfl hrd (by simp only [List.length_take, List.length_nil]; omega) hs fun v7 W7 happ => ?_
                  have hbl := happ.below hbl (hrs.inn 1 _ _ rfl rfl) (Nat.le_refl _) hs
                  have hrs := hrs.app (k := 1) rfl happ
                  have hs := HNK.out _ hbl
                  clear happ hrd
                  refine ⟨.inl trivial, ?_⟩
                  try simp only [pa, pl]
                  refine wpAnyEOne 7 (by kernel_rfl) ?_
                  have hrd := (owns_ints (hrs.inn 2 _ _ rfl rfl))
                  refine wpOpAppI (base := N) 7 (some 61) rfl rfl rfl (.tmp 58) (.tmp 60) rfl (v7) (([] ++ L.take (m + 1))) rfl (hrs.inn 1 _ _ rfl rfl) (.slice (some ⟨((wr.drewN 1).alloc (.cells #[] 3)).heap.size, 0, none⟩) 1 1) ([x]) rfl hrd (by simp only [List.length_append, List.length_take, List.length_cons, List.length_nil]; omega) hs fun v8 W8 happ => ?_
                  have hbl := happ.below hbl (hrs.inn 1 _ _ rfl rfl) (Nat.le_refl _) hs
                  have hrs := hrs.app (k := 1) rfl happ
                  have hs := HNK.out _ hbl
                  clear happ hrd
                  refine ⟨.inl trivial, ?_⟩
                  try simp only [pa, pl]
                  refine wpAnyEOne 11 (by kernel_rfl) ?_
                  have hrd := (owns_ints (hrs.inn 0 _ _ rfl rfl)).dropA (k := m + 1) (by omega)
                  refine wpOpAppI (base := N) 11 (some 65) rfl rfl rfl (.tmp 61) (.tmp 64) rfl (v8) ((([] ++ L.take (m + 1)) ++ [x])) rfl (hrs.inn 1 _ _ rfl rfl) (.slice (if cv = m + 1 then some ⟨b1, o1, none⟩ else some ⟨b1, o1 + (m + 1), none⟩) (L.length - (m + 1)) (cv - (m + 1))) (L.drop (m + 1)) rfl hrd (by simp only [List.length_append, List.length_take, List.length_drop, List.length_cons, List.length_nil]; omega) hs fun v9 W9 happ => ?_
                  have hbl := happ.below hbl (hrs.inn 1 _ _ rfl rfl) (Nat.le_refl _) hs
                  have hrs := hrs.app (k := 1) rfl happ
                  have hs := HNK.out _ hbl
                  clear happ hrd
                  refine ⟨.inl trivial, ?_⟩
                  try simp only [pa, pl]
                  refine wpAnyEOne 12 (by kernel_rfl) ?_
                  refine wpOpRun' (v := v9) (w' := W9) (some 7) rfl rfl rfl (by rfl) ?_
                  refine ⟨.inr (allUp_of (by kernel_rfl)), ?_⟩
                  try simp only [pa, pl]
                  refine wpAnyE_done (by kernel_rfl) ?_ _
                  have hfin : W9.ownsRow N 3 1 (v9) (((([] ++ L.take (m + 1)) ++ [x]) ++ L.drop (m + 1))).length (ints (((([] ++ L.take (m + 1)) ++ [x]) ++ L.drop (m + 1)))) := hrs.inn 1 _ _ rfl rfl
                  rw [show ((([] ++ L.take (m + 1)) ++ [x]) ++ L.drop (m + 1)) = insU x L by rw [HI.out]; simp] at hfin
                  rw [← HSU.out] at hfin
                  have HF := Lib.hid hfin; have HBL := Lib.hid hbl
                  clear hfin hbl hrs hs
                  go_wp2_with fail
                  go_roundw
                  case rel => exact ⟨j + 1, by omega, by go_num, HF.out, HBL.out⟩
                  case measure => simp [intOf]; omega
              · refine wpOpRun' (v := .slice (some ⟨(wr.drewN 1).heap.size, 0, none⟩) 1 1) (w' := ((wr.drewN 1).alloc (.cells #[.int .i64 x] 3))) (some 60) rfl rfl rfl (by go_simp <;> rfl) ?_
                have hrs := hrs.lit (k := 2) (xs := [x]) rfl hs (by simp)
                have hbl := hbl.alloc hs (.cells #[.int .i64 x] 3)
                have hs := HNK.out _ hbl
                refine ⟨.inl trivial, ?_⟩
                try simp only [pa, pl]
                refine wpAnyEOne 0 (by kernel_rfl) ?_
                refine wpOpRun' (v := .slice (some ⟨((wr.drewN 1).alloc (.cells #[.int .i64 x] 3)).heap.size, 0, none⟩) 0 0) (w' := (((wr.drewN 1).alloc (.cells #[.int .i64 x] 3)).alloc (.cells #[] 3))) (some 54) rfl rfl rfl (by go_simp <;> rfl) ?_
                have hrs := hrs.void (k := 1) rfl hs
                have hbl := hbl.alloc hs (.cells #[] 3)
                have hs := HNK.out _ hbl
                refine ⟨.inl trivial, ?_⟩
                try simp only [pa, pl]
                refine wpAnyEOne 4 (by kernel_rfl) ?_
                have hrd := (owns_ints (hrs.inn 0 _ _ rfl rfl)).take (k := m + 1) (by omega)
                refine wpOpAppI (base := N) 4 (some 58) rfl rfl rfl (.tmp 54) (.tmp 57) rfl (.slice (some ⟨((wr.drewN 1).alloc (.cells #[.int .i64 x] 3)).heap.size, 0, none⟩) 0 0) ([]) rfl (hrs.inn 1 _ _ rfl rfl) (.slice (some ⟨b1, o1, none⟩) (m + 1) cv) (L.take (m + 1)) rfl hrd (by simp only [List.length_take, List.length_nil]; omega) hs fun v13 W13 happ => ?_
                have hbl := happ.below hbl (hrs.inn 1 _ _ rfl rfl) (Nat.le_refl _) hs
                have hrs := hrs.app (k := 1) rfl happ
                have hs := HNK.out _ hbl
                clear happ hrd
                refine ⟨.inl trivial, ?_⟩
                try simp only [pa, pl]
                refine wpAnyEOne 7 (by kernel_rfl) ?_
                have hrd := (owns_ints (hrs.inn 2 _ _ rfl rfl))
                refine wpOpAppI (base := N) 7 (some 61) rfl rfl rfl (.tmp 58) (.tmp 60) rfl (v13) (([] ++ L.take (m + 1))) rfl (hrs.inn 1 _ _ rfl rfl) (.slice (some ⟨(wr.drewN 1).heap.size, 0, none⟩) 1 1) ([x]) rfl hrd (by simp only [List.length_append, List.length_take, List.length_cons, List.length_nil]; omega) hs fun v14 W14 happ => ?_
                have hbl := happ.below hbl (hrs.inn 1 _ _ rfl rfl) (Nat.le_refl _) hs
                have hrs := hrs.app (k := 1) rfl happ
                have hs := HNK.out _ hbl
                clear happ hrd
                refine ⟨.inl trivial, ?_⟩
                try simp only [pa, pl]
                refine wpAnyEOne 11 (by kernel_rfl) ?_
                have hrd := (owns_ints (hrs.inn 0 _ _ rfl rfl)).dropA (k := m + 1) (by omega)
                refine wpOpAppI (base := N) 11 (some 65) rfl rfl rfl (.tmp 61) (.tmp 64) rfl (v14) ((([] ++ L.take (m + 1)) ++ [x])) rfl (hrs.inn 1 _ _ rfl rfl) (.slice (if cv = m + 1 then some ⟨b1, o1, none⟩ else some ⟨b1, o1 + (m + 1), none⟩) (L.length - (m + 1)) (cv - (m + 1))) (L.drop (m + 1)) rfl hrd (by simp only [List.length_append, List.length_take, List.length_drop, List.length_cons, List.length_nil]; omega) hs fun v15 W15 happ => ?_
                have hbl := happ.below hbl (hrs.inn 1 _ _ rfl rfl) (Nat.le_refl _) hs
                have hrs := hrs.app (k := 1) rfl happ
                have hs := HNK.out _ hbl
                clear happ hrd
                refine ⟨.inl trivial, ?_⟩
                try simp only [pa, pl]
                refine wpAnyEOne 12 (by kernel_rfl) ?_
                refine wpOpRun' (v := v15) (w' := W15) (some 7) rfl rfl rfl (by rfl) ?_
                refine ⟨.inr (allUp_of (by kernel_rfl)), ?_⟩
                try simp only [pa, pl]
                refine wpAnyE_done (by kernel_rfl) ?_ _
                have hfin : W15.ownsRow N 3 1 (v15) (((([] ++ L.take (m + 1)) ++ [x]) ++ L.drop (m + 1))).length (ints (((([] ++ L.take (m + 1)) ++ [x]) ++ L.drop (m + 1)))) := hrs.inn 1 _ _ rfl rfl
                rw [show ((([] ++ L.take (m + 1)) ++ [x]) ++ L.drop (m + 1)) = insU x L by rw [HI.out]; simp] at hfin
                rw [← HSU.out] at hfin
                have HF := Lib.hid hfin; have HBL := Lib.hid hbl
                clear hfin hbl hrs hs
                go_wp2_with fail
                go_roundw
                case rel => exact ⟨j + 1, by omega, by go_num, HF.out, HBL.out⟩
                case measure => simp [intOf]; omega
        · obtain rfl : p = 0 := by omega
          have hins := insU_at x L 0 HGS.out (by omega) HALL.out (fun z h _ => absurd h (by omega))
          have HI := Lib.hid hins
          clear hins
          rcases HOW.out.2 with ⟨e, h0⟩ | ⟨g1, cap1, cur1, e, _, _, hcv, _⟩
          · have hL0 : L = [] := List.eq_nil_of_length_eq_zero h0
            subst hL0
            cases e
            clear h0
            go_wp2_with fail
            refine wp_region_E (fun _ => True) (by kernel_rfl) ?_
            have hdr : (wr).drew = { wr with drawn := (wr).drawn + 1 } := rfl
            rw [← hdr]
            clear hdr
            change wpAnyE _ _ _ _ _ _ _ _ (wr.drewN 1)
            refine tm 1 55 rfl rfl (.slice none 0 0) trivial ?_
            try simp only [pa, pl]
            refine tm 2 56 rfl rfl (.int .i64 0) trivial ?_
            try simp only [pa, pl]
            refine tg 3 57 rfl rfl (.slice none 0 0) trivial ?_
            try simp only [pa, pl]
            refine tm 5 59 rfl rfl (.int .i64 x) trivial ?_
            try simp only [pa, pl]
            refine tm 8 62 rfl rfl (.slice none 0 0) trivial ?_
            try simp only [pa, pl]
            refine tm 9 63 rfl rfl (.int .i64 0) trivial ?_
            try simp only [pa, pl]
            refine tg 10 64 rfl rfl (.slice none 0 0) trivial ?_
            try simp only [pa, pl]
            have hbl := Below.dn HBL.out 1
            have hs : N ≤ (wr.drewN 1).heap.size := HNK.out _ hbl
            have hrs : OwnRs N (wr.drewN 1) [.slice none 0 0, .slice none 0 0, .slice none 0 0] [([] : List Int), [], []] := three_rs (owns_below HOW.out (Below.dn (Below.refl _ _) 1))
            refine wpAnyEBoth 0 6 (by kernel_rfl) ?_ ?_
            · refine wpOpRun' (v := .slice (some ⟨(wr.drewN 1).heap.size, 0, none⟩) 0 0) (w' := ((wr.drewN 1).alloc (.cells #[] 3))) (some 54) rfl rfl rfl (by go_simp <;> rfl) ?_
              have hrs := hrs.void (k := 1) rfl hs
              have hbl := hbl.alloc hs (.cells #[] 3)
              have hs := HNK.out _ hbl
              refine ⟨.inl trivial, ?_⟩
              try simp only [pa, pl]
              refine wpAnyEBoth 4 6 (by kernel_rfl) ?_ ?_
              · have hrd := (RdI.none ((wr.drewN 1).alloc (.cells #[] 3)))
                refine wpOpAppI (base := N) 4 (some 58) rfl rfl rfl (.tmp 54) (.tmp 57) rfl (.slice (some ⟨(wr.drewN 1).heap.size, 0, none⟩) 0 0) ([]) rfl (hrs.inn 1 _ _ rfl rfl) (.slice none 0 0) ([]) rfl hrd (by simp only [List.length_nil]; omega) hs fun v1 W1 happ => ?_
                have hbl := happ.below hbl (hrs.inn 1 _ _ rfl rfl) (Nat.le_refl _) hs
                have hrs := hrs.app (k := 1) rfl happ
                have hs := HNK.out _ hbl
                clear happ hrd
                refine ⟨.inl trivial, ?_⟩
                try simp only [pa, pl]
                refine wpAnyEOne 6 (by kernel_rfl) ?_
                refine wpOpRun' (v := .slice (some ⟨W1.heap.size, 0, none⟩) 1 1) (w' := (W1.alloc (.cells #[.int .i64 x] 3))) (some 60) rfl rfl rfl (by go_simp <;> rfl) ?_
                have hrs := hrs.lit (k := 2) (xs := [x]) rfl hs (by simp)
                have hbl := hbl.alloc hs (.cells #[.int .i64 x] 3)
                have hs := HNK.out _ hbl
                refine ⟨.inl trivial, ?_⟩
                try simp only [pa, pl]
                refine wpAnyEOne 7 (by kernel_rfl) ?_
                have hrd := (owns_ints (hrs.inn 2 _ _ rfl rfl))
                refine wpOpAppI (base := N) 7 (some 61) rfl rfl rfl (.tmp 58) (.tmp 60) rfl (v1) (([] ++ [])) rfl (hrs.inn 1 _ _ rfl rfl) (.slice (some ⟨W1.heap.size, 0, none⟩) 1 1) ([x]) rfl hrd (by simp only [List.length_append, List.length_cons, List.length_nil]; omega) hs fun v3 W3 happ => ?_
                have hbl := happ.below hbl (hrs.inn 1 _ _ rfl rfl) (Nat.le_refl _) hs
                have hrs := hrs.app (k := 1) rfl happ
                have hs := HNK.out _ hbl
                clear happ hrd
                refine ⟨.inl trivial, ?_⟩
                try simp only [pa, pl]
                refine wpAnyEOne 11 (by kernel_rfl) ?_
                have hrd := (RdI.none W3)
                refine wpOpAppI (base := N) 11 (some 65) rfl rfl rfl (.tmp 61) (.tmp 64) rfl (v3) ((([] ++ []) ++ [x])) rfl (hrs.inn 1 _ _ rfl rfl) (.slice none 0 0) ([]) rfl hrd (by simp only [List.length_append, List.length_cons, List.length_nil]; omega) hs fun v4 W4 happ => ?_
                have hbl := happ.below hbl (hrs.inn 1 _ _ rfl rfl) (Nat.le_refl _) hs
                have hrs := hrs.app (k := 1) rfl happ
                have hs := HNK.out _ hbl
                clear happ hrd
                refine ⟨.inl trivial, ?_⟩
                try simp only [pa, pl]
                refine wpAnyEOne 12 (by kernel_rfl) ?_
                refine wpOpRun' (v := v4) (w' := W4) (some 7) rfl rfl rfl (by rfl) ?_
                refine ⟨.inr (allUp_of (by kernel_rfl)), ?_⟩
                try simp only [pa, pl]
                refine wpAnyE_done (by kernel_rfl) ?_ _
                have hfin : W4.ownsRow N 3 1 (v4) (((([] ++ []) ++ [x]) ++ [])).length (ints (((([] ++ []) ++ [x]) ++ []))) := hrs.inn 1 _ _ rfl rfl
                rw [show ((([] ++ []) ++ [x]) ++ []) = insU x [] by rw [HI.out]; simp] at hfin
                rw [← HSU.out] at hfin
                have HF := Lib.hid hfin; have HBL := Lib.hid hbl
                clear hfin hbl hrs hs
                go_wp2_with fail
                go_roundw
                case rel => exact ⟨j + 1, by omega, by go_num, HF.out, HBL.out⟩
                case measure => simp [intOf]; omega
              · refine wpOpRun' (v := .slice (some ⟨((wr.drewN 1).alloc (.cells #[] 3)).heap.size, 0, none⟩) 1 1) (w' := (((wr.drewN 1).alloc (.cells #[] 3)).alloc (.cells #[.int .i64 x] 3))) (some 60) rfl rfl rfl (by go_simp <;> rfl) ?_
                have hrs := hrs.lit (k := 2) (xs := [x]) rfl hs (by simp)
                have hbl := hbl.alloc hs (.cells #[.int .i64 x] 3)
                have hs := HNK.out _ hbl
                refine ⟨.inl trivial, ?_⟩
                try simp only [pa, pl]
                refine wpAnyEOne 4 (by kernel_rfl) ?_
                have hrd := (RdI.none (((wr.drewN 1).alloc (.cells #[] 3)).alloc (.cells #[.int .i64 x] 3)))
                refine wpOpAppI (base := N) 4 (some 58) rfl rfl rfl (.tmp 54) (.tmp 57) rfl (.slice (some ⟨(wr.drewN 1).heap.size, 0, none⟩) 0 0) ([]) rfl (hrs.inn 1 _ _ rfl rfl) (.slice none 0 0) ([]) rfl hrd (by simp only [List.length_nil]; omega) hs fun v7 W7 happ => ?_
                have hbl := happ.below hbl (hrs.inn 1 _ _ rfl rfl) (Nat.le_refl _) hs
                have hrs := hrs.app (k := 1) rfl happ
                have hs := HNK.out _ hbl
                clear happ hrd
                refine ⟨.inl trivial, ?_⟩
                try simp only [pa, pl]
                refine wpAnyEOne 7 (by kernel_rfl) ?_
                have hrd := (owns_ints (hrs.inn 2 _ _ rfl rfl))
                refine wpOpAppI (base := N) 7 (some 61) rfl rfl rfl (.tmp 58) (.tmp 60) rfl (v7) (([] ++ [])) rfl (hrs.inn 1 _ _ rfl rfl) (.slice (some ⟨((wr.drewN 1).alloc (.cells #[] 3)).heap.size, 0, none⟩) 1 1) ([x]) rfl hrd (by simp only [List.length_append, List.length_cons, List.length_nil]; omega) hs fun v8 W8 happ => ?_
                have hbl := happ.below hbl (hrs.inn 1 _ _ rfl rfl) (Nat.le_refl _) hs
                have hrs := hrs.app (k := 1) rfl happ
                have hs := HNK.out _ hbl
                clear happ hrd
                refine ⟨.inl trivial, ?_⟩
                try simp only [pa, pl]
                refine wpAnyEOne 11 (by kernel_rfl) ?_
                have hrd := (RdI.none W8)
                refine wpOpAppI (base := N) 11 (some 65) rfl rfl rfl (.tmp 61) (.tmp 64) rfl (v8) ((([] ++ []) ++ [x])) rfl (hrs.inn 1 _ _ rfl rfl) (.slice none 0 0) ([]) rfl hrd (by simp only [List.length_append, List.length_cons, List.length_nil]; omega) hs fun v9 W9 happ => ?_
                have hbl := happ.below hbl (hrs.inn 1 _ _ rfl rfl) (Nat.le_refl _) hs
                have hrs := hrs.app (k := 1) rfl happ
                have hs := HNK.out _ hbl
                clear happ hrd
                refine ⟨.inl trivial, ?_⟩
                try simp only [pa, pl]
                refine wpAnyEOne 12 (by kernel_rfl) ?_
                refine wpOpRun' (v := v9) (w' := W9) (some 7) rfl rfl rfl (by rfl) ?_
                refine ⟨.inr (allUp_of (by kernel_rfl)), ?_⟩
                try simp only [pa, pl]
                refine wpAnyE_done (by kernel_rfl) ?_ _
                have hfin : W9.ownsRow N 3 1 (v9) (((([] ++ []) ++ [x]) ++ [])).length (ints (((([] ++ []) ++ [x]) ++ []))) := hrs.inn 1 _ _ rfl rfl
                rw [show ((([] ++ []) ++ [x]) ++ []) = insU x [] by rw [HI.out]; simp] at hfin
                rw [← HSU.out] at hfin
                have HF := Lib.hid hfin; have HBL := Lib.hid hbl
                clear hfin hbl hrs hs
                go_wp2_with fail
                go_roundw
                case rel => exact ⟨j + 1, by omega, by go_num, HF.out, HBL.out⟩
                case measure => simp [intOf]; omega
            · refine wpOpRun' (v := .slice (some ⟨(wr.drewN 1).heap.size, 0, none⟩) 1 1) (w' := ((wr.drewN 1).alloc (.cells #[.int .i64 x] 3))) (some 60) rfl rfl rfl (by go_simp <;> rfl) ?_
              have hrs := hrs.lit (k := 2) (xs := [x]) rfl hs (by simp)
              have hbl := hbl.alloc hs (.cells #[.int .i64 x] 3)
              have hs := HNK.out _ hbl
              refine ⟨.inl trivial, ?_⟩
              try simp only [pa, pl]
              refine wpAnyEOne 0 (by kernel_rfl) ?_
              refine wpOpRun' (v := .slice (some ⟨((wr.drewN 1).alloc (.cells #[.int .i64 x] 3)).heap.size, 0, none⟩) 0 0) (w' := (((wr.drewN 1).alloc (.cells #[.int .i64 x] 3)).alloc (.cells #[] 3))) (some 54) rfl rfl rfl (by go_simp <;> rfl) ?_
              have hrs := hrs.void (k := 1) rfl hs
              have hbl := hbl.alloc hs (.cells #[] 3)
              have hs := HNK.out _ hbl
              refine ⟨.inl trivial, ?_⟩
              try simp only [pa, pl]
              refine wpAnyEOne 4 (by kernel_rfl) ?_
              have hrd := (RdI.none (((wr.drewN 1).alloc (.cells #[.int .i64 x] 3)).alloc (.cells #[] 3)))
              refine wpOpAppI (base := N) 4 (some 58) rfl rfl rfl (.tmp 54) (.tmp 57) rfl (.slice (some ⟨((wr.drewN 1).alloc (.cells #[.int .i64 x] 3)).heap.size, 0, none⟩) 0 0) ([]) rfl (hrs.inn 1 _ _ rfl rfl) (.slice none 0 0) ([]) rfl hrd (by simp only [List.length_nil]; omega) hs fun v13 W13 happ => ?_
              have hbl := happ.below hbl (hrs.inn 1 _ _ rfl rfl) (Nat.le_refl _) hs
              have hrs := hrs.app (k := 1) rfl happ
              have hs := HNK.out _ hbl
              clear happ hrd
              refine ⟨.inl trivial, ?_⟩
              try simp only [pa, pl]
              refine wpAnyEOne 7 (by kernel_rfl) ?_
              have hrd := (owns_ints (hrs.inn 2 _ _ rfl rfl))
              refine wpOpAppI (base := N) 7 (some 61) rfl rfl rfl (.tmp 58) (.tmp 60) rfl (v13) (([] ++ [])) rfl (hrs.inn 1 _ _ rfl rfl) (.slice (some ⟨(wr.drewN 1).heap.size, 0, none⟩) 1 1) ([x]) rfl hrd (by simp only [List.length_append, List.length_cons, List.length_nil]; omega) hs fun v14 W14 happ => ?_
              have hbl := happ.below hbl (hrs.inn 1 _ _ rfl rfl) (Nat.le_refl _) hs
              have hrs := hrs.app (k := 1) rfl happ
              have hs := HNK.out _ hbl
              clear happ hrd
              refine ⟨.inl trivial, ?_⟩
              try simp only [pa, pl]
              refine wpAnyEOne 11 (by kernel_rfl) ?_
              have hrd := (RdI.none W14)
              refine wpOpAppI (base := N) 11 (some 65) rfl rfl rfl (.tmp 61) (.tmp 64) rfl (v14) ((([] ++ []) ++ [x])) rfl (hrs.inn 1 _ _ rfl rfl) (.slice none 0 0) ([]) rfl hrd (by simp only [List.length_append, List.length_cons, List.length_nil]; omega) hs fun v15 W15 happ => ?_
              have hbl := happ.below hbl (hrs.inn 1 _ _ rfl rfl) (Nat.le_refl _) hs
              have hrs := hrs.app (k := 1) rfl happ
              have hs := HNK.out _ hbl
              clear happ hrd
              refine ⟨.inl trivial, ?_⟩
              try simp only [pa, pl]
              refine wpAnyEOne 12 (by kernel_rfl) ?_
              refine wpOpRun' (v := v15) (w' := W15) (some 7) rfl rfl rfl (by rfl) ?_
              refine ⟨.inr (allUp_of (by kernel_rfl)), ?_⟩
              try simp only [pa, pl]
              refine wpAnyE_done (by kernel_rfl) ?_ _
              have hfin : W15.ownsRow N 3 1 (v15) (((([] ++ []) ++ [x]) ++ [])).length (ints (((([] ++ []) ++ [x]) ++ []))) := hrs.inn 1 _ _ rfl rfl
              rw [show ((([] ++ []) ++ [x]) ++ []) = insU x [] by rw [HI.out]; simp] at hfin
              rw [← HSU.out] at hfin
              have HF := Lib.hid hfin; have HBL := Lib.hid hbl
              clear hfin hbl hrs hs
              go_wp2_with fail
              go_roundw
              case rel => exact ⟨j + 1, by omega, by go_num, HF.out, HBL.out⟩
              case measure => simp [intOf]; omega
          · cases e
            clear hcv
            go_wp2_with fail
            refine wp_region_E (fun _ => True) (by kernel_rfl) ?_
            have hdr : (wr).drew = { wr with drawn := (wr).drawn + 1 } := rfl
            rw [← hdr]
            clear hdr
            change wpAnyE _ _ _ _ _ _ _ _ (wr.drewN 1)
            refine tm 1 55 rfl rfl (.slice (some ⟨g1, 0, none⟩) L.length cv) trivial ?_
            try simp only [pa, pl]
            refine tm 2 56 rfl rfl (.int .i64 0) trivial ?_
            try simp only [pa, pl]
            refine tg 3 57 rfl rfl (.slice (some ⟨g1, 0, none⟩) 0 cv) trivial ?_
            try simp only [pa, pl]
            refine tm 5 59 rfl rfl (.int .i64 x) trivial ?_
            try simp only [pa, pl]
            refine tm 8 62 rfl rfl (.slice (some ⟨g1, 0, none⟩) L.length cv) trivial ?_
            try simp only [pa, pl]
            refine tm 9 63 rfl rfl (.int .i64 0) trivial ?_
            try simp only [pa, pl]
            refine tg 10 64 rfl rfl (.slice (some ⟨g1, 0, none⟩) L.length cv) trivial ?_
            try simp only [pa, pl]
            have hbl := Below.dn HBL.out 1
            have hs : N ≤ (wr.drewN 1).heap.size := HNK.out _ hbl
            have hrs : OwnRs N (wr.drewN 1) [.slice (some ⟨g1, 0, none⟩) L.length cv, .slice none 0 0, .slice none 0 0] [L, [], []] := three_rs (owns_below HOW.out (Below.dn (Below.refl _ _) 1))
            refine wpAnyEBoth 0 6 (by kernel_rfl) ?_ ?_
            · refine wpOpRun' (v := .slice (some ⟨(wr.drewN 1).heap.size, 0, none⟩) 0 0) (w' := ((wr.drewN 1).alloc (.cells #[] 3))) (some 54) rfl rfl rfl (by go_simp <;> rfl) ?_
              have hrs := hrs.void (k := 1) rfl hs
              have hbl := hbl.alloc hs (.cells #[] 3)
              have hs := HNK.out _ hbl
              refine ⟨.inl trivial, ?_⟩
              try simp only [pa, pl]
              refine wpAnyEBoth 4 6 (by kernel_rfl) ?_ ?_
              · have hrd := (owns_ints (hrs.inn 0 _ _ rfl rfl)).take (k := 0) (by omega)
                refine wpOpAppI (base := N) 4 (some 58) rfl rfl rfl (.tmp 54) (.tmp 57) rfl (.slice (some ⟨(wr.drewN 1).heap.size, 0, none⟩) 0 0) ([]) rfl (hrs.inn 1 _ _ rfl rfl) (.slice (some ⟨g1, 0, none⟩) 0 cv) (L.take 0) rfl hrd (by simp only [List.length_take, List.length_nil]; omega) hs fun v1 W1 happ => ?_
                have hbl := happ.below hbl (hrs.inn 1 _ _ rfl rfl) (Nat.le_refl _) hs
                have hrs := hrs.app (k := 1) rfl happ
                have hs := HNK.out _ hbl
                clear happ hrd
                refine ⟨.inl trivial, ?_⟩
                try simp only [pa, pl]
                refine wpAnyEOne 6 (by kernel_rfl) ?_
                refine wpOpRun' (v := .slice (some ⟨W1.heap.size, 0, none⟩) 1 1) (w' := (W1.alloc (.cells #[.int .i64 x] 3))) (some 60) rfl rfl rfl (by go_simp <;> rfl) ?_
                have hrs := hrs.lit (k := 2) (xs := [x]) rfl hs (by simp)
                have hbl := hbl.alloc hs (.cells #[.int .i64 x] 3)
                have hs := HNK.out _ hbl
                refine ⟨.inl trivial, ?_⟩
                try simp only [pa, pl]
                refine wpAnyEOne 7 (by kernel_rfl) ?_
                have hrd := (owns_ints (hrs.inn 2 _ _ rfl rfl))
                refine wpOpAppI (base := N) 7 (some 61) rfl rfl rfl (.tmp 58) (.tmp 60) rfl (v1) (([] ++ L.take 0)) rfl (hrs.inn 1 _ _ rfl rfl) (.slice (some ⟨W1.heap.size, 0, none⟩) 1 1) ([x]) rfl hrd (by simp only [List.length_append, List.length_take, List.length_cons, List.length_nil]; omega) hs fun v3 W3 happ => ?_
                have hbl := happ.below hbl (hrs.inn 1 _ _ rfl rfl) (Nat.le_refl _) hs
                have hrs := hrs.app (k := 1) rfl happ
                have hs := HNK.out _ hbl
                clear happ hrd
                refine ⟨.inl trivial, ?_⟩
                try simp only [pa, pl]
                refine wpAnyEOne 11 (by kernel_rfl) ?_
                have hrd := (show RdI W3 (.slice (some ⟨g1, 0, none⟩) L.length cv) (L.drop 0) from owns_ints (hrs.inn 0 _ _ rfl rfl))
                refine wpOpAppI (base := N) 11 (some 65) rfl rfl rfl (.tmp 61) (.tmp 64) rfl (v3) ((([] ++ L.take 0) ++ [x])) rfl (hrs.inn 1 _ _ rfl rfl) (.slice (some ⟨g1, 0, none⟩) L.length cv) (L.drop 0) rfl hrd (by simp only [List.length_append, List.length_take, List.length_drop, List.length_cons, List.length_nil]; omega) hs fun v4 W4 happ => ?_
                have hbl := happ.below hbl (hrs.inn 1 _ _ rfl rfl) (Nat.le_refl _) hs
                have hrs := hrs.app (k := 1) rfl happ
                have hs := HNK.out _ hbl
                clear happ hrd
                refine ⟨.inl trivial, ?_⟩
                try simp only [pa, pl]
                refine wpAnyEOne 12 (by kernel_rfl) ?_
                refine wpOpRun' (v := v4) (w' := W4) (some 7) rfl rfl rfl (by rfl) ?_
                refine ⟨.inr (allUp_of (by kernel_rfl)), ?_⟩
                try simp only [pa, pl]
                refine wpAnyE_done (by kernel_rfl) ?_ _
                have hfin : W4.ownsRow N 3 1 (v4) (((([] ++ L.take 0) ++ [x]) ++ L.drop 0)).length (ints (((([] ++ L.take 0) ++ [x]) ++ L.drop 0))) := hrs.inn 1 _ _ rfl rfl
                rw [show ((([] ++ L.take 0) ++ [x]) ++ L.drop 0) = insU x L by rw [HI.out]; simp] at hfin
                rw [← HSU.out] at hfin
                have HF := Lib.hid hfin; have HBL := Lib.hid hbl
                clear hfin hbl hrs hs
                go_wp2_with fail
                go_roundw
                case rel => exact ⟨j + 1, by omega, by go_num, HF.out, HBL.out⟩
                case measure => simp [intOf]; omega
              · refine wpOpRun' (v := .slice (some ⟨((wr.drewN 1).alloc (.cells #[] 3)).heap.size, 0, none⟩) 1 1) (w' := (((wr.drewN 1).alloc (.cells #[] 3)).alloc (.cells #[.int .i64 x] 3))) (some 60) rfl rfl rfl (by go_simp <;> rfl) ?_
                have hrs := hrs.lit (k := 2) (xs := [x]) rfl hs (by simp)
                have hbl := hbl.alloc hs (.cells #[.int .i64 x] 3)
                have hs := HNK.out _ hbl
                refine ⟨.inl trivial, ?_⟩
                try simp only [pa, pl]
                refine wpAnyEOne 4 (by kernel_rfl) ?_
                have hrd := (owns_ints (hrs.inn 0 _ _ rfl rfl)).take (k := 0) (by omega)
                refine wpOpAppI (base := N) 4 (some 58) rfl rfl rfl (.tmp 54) (.tmp 57) rfl (.slice (some ⟨(wr.drewN 1).heap.size, 0, none⟩) 0 0) ([]) rfl (hrs.inn 1 _ _ rfl rfl) (.slice (some ⟨g1, 0, none⟩) 0 cv) (L.take 0) rfl hrd (by simp only [List.length_take, List.length_nil]; omega) hs fun v7 W7 happ => ?_
                have hbl := happ.below hbl (hrs.inn 1 _ _ rfl rfl) (Nat.le_refl _) hs
                have hrs := hrs.app (k := 1) rfl happ
                have hs := HNK.out _ hbl
                clear happ hrd
                refine ⟨.inl trivial, ?_⟩
                try simp only [pa, pl]
                refine wpAnyEOne 7 (by kernel_rfl) ?_
                have hrd := (owns_ints (hrs.inn 2 _ _ rfl rfl))
                refine wpOpAppI (base := N) 7 (some 61) rfl rfl rfl (.tmp 58) (.tmp 60) rfl (v7) (([] ++ L.take 0)) rfl (hrs.inn 1 _ _ rfl rfl) (.slice (some ⟨((wr.drewN 1).alloc (.cells #[] 3)).heap.size, 0, none⟩) 1 1) ([x]) rfl hrd (by simp only [List.length_append, List.length_take, List.length_cons, List.length_nil]; omega) hs fun v8 W8 happ => ?_
                have hbl := happ.below hbl (hrs.inn 1 _ _ rfl rfl) (Nat.le_refl _) hs
                have hrs := hrs.app (k := 1) rfl happ
                have hs := HNK.out _ hbl
                clear happ hrd
                refine ⟨.inl trivial, ?_⟩
                try simp only [pa, pl]
                refine wpAnyEOne 11 (by kernel_rfl) ?_
                have hrd := (show RdI W8 (.slice (some ⟨g1, 0, none⟩) L.length cv) (L.drop 0) from owns_ints (hrs.inn 0 _ _ rfl rfl))
                refine wpOpAppI (base := N) 11 (some 65) rfl rfl rfl (.tmp 61) (.tmp 64) rfl (v8) ((([] ++ L.take 0) ++ [x])) rfl (hrs.inn 1 _ _ rfl rfl) (.slice (some ⟨g1, 0, none⟩) L.length cv) (L.drop 0) rfl hrd (by simp only [List.length_append, List.length_take, List.length_drop, List.length_cons, List.length_nil]; omega) hs fun v9 W9 happ => ?_
                have hbl := happ.below hbl (hrs.inn 1 _ _ rfl rfl) (Nat.le_refl _) hs
                have hrs := hrs.app (k := 1) rfl happ
                have hs := HNK.out _ hbl
                clear happ hrd
                refine ⟨.inl trivial, ?_⟩
                try simp only [pa, pl]
                refine wpAnyEOne 12 (by kernel_rfl) ?_
                refine wpOpRun' (v := v9) (w' := W9) (some 7) rfl rfl rfl (by rfl) ?_
                refine ⟨.inr (allUp_of (by kernel_rfl)), ?_⟩
                try simp only [pa, pl]
                refine wpAnyE_done (by kernel_rfl) ?_ _
                have hfin : W9.ownsRow N 3 1 (v9) (((([] ++ L.take 0) ++ [x]) ++ L.drop 0)).length (ints (((([] ++ L.take 0) ++ [x]) ++ L.drop 0))) := hrs.inn 1 _ _ rfl rfl
                rw [show ((([] ++ L.take 0) ++ [x]) ++ L.drop 0) = insU x L by rw [HI.out]; simp] at hfin
                rw [← HSU.out] at hfin
                have HF := Lib.hid hfin; have HBL := Lib.hid hbl
                clear hfin hbl hrs hs
                go_wp2_with fail
                go_roundw
                case rel => exact ⟨j + 1, by omega, by go_num, HF.out, HBL.out⟩
                case measure => simp [intOf]; omega
            · refine wpOpRun' (v := .slice (some ⟨(wr.drewN 1).heap.size, 0, none⟩) 1 1) (w' := ((wr.drewN 1).alloc (.cells #[.int .i64 x] 3))) (some 60) rfl rfl rfl (by go_simp <;> rfl) ?_
              have hrs := hrs.lit (k := 2) (xs := [x]) rfl hs (by simp)
              have hbl := hbl.alloc hs (.cells #[.int .i64 x] 3)
              have hs := HNK.out _ hbl
              refine ⟨.inl trivial, ?_⟩
              try simp only [pa, pl]
              refine wpAnyEOne 0 (by kernel_rfl) ?_
              refine wpOpRun' (v := .slice (some ⟨((wr.drewN 1).alloc (.cells #[.int .i64 x] 3)).heap.size, 0, none⟩) 0 0) (w' := (((wr.drewN 1).alloc (.cells #[.int .i64 x] 3)).alloc (.cells #[] 3))) (some 54) rfl rfl rfl (by go_simp <;> rfl) ?_
              have hrs := hrs.void (k := 1) rfl hs
              have hbl := hbl.alloc hs (.cells #[] 3)
              have hs := HNK.out _ hbl
              refine ⟨.inl trivial, ?_⟩
              try simp only [pa, pl]
              refine wpAnyEOne 4 (by kernel_rfl) ?_
              have hrd := (owns_ints (hrs.inn 0 _ _ rfl rfl)).take (k := 0) (by omega)
              refine wpOpAppI (base := N) 4 (some 58) rfl rfl rfl (.tmp 54) (.tmp 57) rfl (.slice (some ⟨((wr.drewN 1).alloc (.cells #[.int .i64 x] 3)).heap.size, 0, none⟩) 0 0) ([]) rfl (hrs.inn 1 _ _ rfl rfl) (.slice (some ⟨g1, 0, none⟩) 0 cv) (L.take 0) rfl hrd (by simp only [List.length_take, List.length_nil]; omega) hs fun v13 W13 happ => ?_
              have hbl := happ.below hbl (hrs.inn 1 _ _ rfl rfl) (Nat.le_refl _) hs
              have hrs := hrs.app (k := 1) rfl happ
              have hs := HNK.out _ hbl
              clear happ hrd
              refine ⟨.inl trivial, ?_⟩
              try simp only [pa, pl]
              refine wpAnyEOne 7 (by kernel_rfl) ?_
              have hrd := (owns_ints (hrs.inn 2 _ _ rfl rfl))
              refine wpOpAppI (base := N) 7 (some 61) rfl rfl rfl (.tmp 58) (.tmp 60) rfl (v13) (([] ++ L.take 0)) rfl (hrs.inn 1 _ _ rfl rfl) (.slice (some ⟨(wr.drewN 1).heap.size, 0, none⟩) 1 1) ([x]) rfl hrd (by simp only [List.length_append, List.length_take, List.length_cons, List.length_nil]; omega) hs fun v14 W14 happ => ?_
              have hbl := happ.below hbl (hrs.inn 1 _ _ rfl rfl) (Nat.le_refl _) hs
              have hrs := hrs.app (k := 1) rfl happ
              have hs := HNK.out _ hbl
              clear happ hrd
              refine ⟨.inl trivial, ?_⟩
              try simp only [pa, pl]
              refine wpAnyEOne 11 (by kernel_rfl) ?_
              have hrd := (show RdI W14 (.slice (some ⟨g1, 0, none⟩) L.length cv) (L.drop 0) from owns_ints (hrs.inn 0 _ _ rfl rfl))
              refine wpOpAppI (base := N) 11 (some 65) rfl rfl rfl (.tmp 61) (.tmp 64) rfl (v14) ((([] ++ L.take 0) ++ [x])) rfl (hrs.inn 1 _ _ rfl rfl) (.slice (some ⟨g1, 0, none⟩) L.length cv) (L.drop 0) rfl hrd (by simp only [List.length_append, List.length_take, List.length_drop, List.length_cons, List.length_nil]; omega) hs fun v15 W15 happ => ?_
              have hbl := happ.below hbl (hrs.inn 1 _ _ rfl rfl) (Nat.le_refl _) hs
              have hrs := hrs.app (k := 1) rfl happ
              have hs := HNK.out _ hbl
              clear happ hrd
              refine ⟨.inl trivial, ?_⟩
              try simp only [pa, pl]
              refine wpAnyEOne 12 (by kernel_rfl) ?_
              refine wpOpRun' (v := v15) (w' := W15) (some 7) rfl rfl rfl (by rfl) ?_
              refine ⟨.inr (allUp_of (by kernel_rfl)), ?_⟩
              try simp only [pa, pl]
              refine wpAnyE_done (by kernel_rfl) ?_ _
              have hfin : W15.ownsRow N 3 1 (v15) (((([] ++ L.take 0) ++ [x]) ++ L.drop 0)).length (ints (((([] ++ L.take 0) ++ [x]) ++ L.drop 0))) := hrs.inn 1 _ _ rfl rfl
              rw [show ((([] ++ L.take 0) ++ [x]) ++ L.drop 0) = insU x L by rw [HI.out]; simp] at hfin
              rw [← HSU.out] at hfin
              have HF := Lib.hid hfin; have HBL := Lib.hid hbl
              clear hfin hbl hrs hs
              go_wp2_with fail
              go_roundw
              case rel => exact ⟨j + 1, by omega, by go_num, HF.out, HBL.out⟩
              case measure => simp [intOf]; omega
    · have hj1 : ¬ (j : Int) < ((nI ws).length : Int) := by have := nI_len ws; omega
      have hta : ws.take j = ws := List.take_of_length_le (by omega)
      obtain ⟨av, cv, rfl⟩ := owns_form hown
      rw [hta] at hown ⊢
      have HOW := Lib.hid hown; have HBL := Lib.hid hbl
      clear hown hbl hta hgl hgs
      go_wp2_with fail
      go_ret
      subst hB
      exact ⟨⟨_, rfl, owns_lower HOW.out hwN⟩, HB.out.trans (HBL.out.mono hwN)⟩
end Go.Proofs.Ytmkkegigajmhkaa

namespace Go.Proofs.Ytmkkegigajmhkaa
open Go.RowKit Go.Maps

def costAt (T : Tb) (k : Nat) : Int := T.costs[k]?.getD 0
theorem costAt_of {T : Tb} {k : Nat} {x : Int} (h : T.costs[k]? = some x) : costAt T k = x := by unfold costAt; rw [h]; rfl
/-- the greatest number of worlds with one of some answers -/
def mostN (T : Tb) (ws : List Nat) (k : Nat) (G : List Int) : Int := G.foldl (fun n a => max n ((withW T ws k a).length : Int)) 0
theorem mostN_succ {T : Tb} {ws : List Nat} {k q : Nat} {G : List Int} {a : Int} (h : G[q]? = some a) : mostN T ws k (G.take (q + 1)) = max (mostN T ws k (G.take q)) ((withW T ws k a).length : Int) := by
  unfold mostN; rw [take_succ_at h, List.foldl_append]; rfl
theorem mostN_bd (T : Tb) (ws : List Nat) (k : Nat) (G : List Int) : 0 ≤ mostN T ws k G ∧ mostN T ws k G ≤ ws.length := by
  have key : ∀ (G : List Int) (n : Int), 0 ≤ n → n ≤ ws.length → 0 ≤ G.foldl (fun n a => max n ((withW T ws k a).length : Int)) n ∧ G.foldl (fun n a => max n ((withW T ws k a).length : Int)) n ≤ ws.length := by
    intro G
    induction G with
    | nil => intro n h1 h2; exact ⟨h1, h2⟩
    | cons a r ih =>
      intro n h1 h2
      have := withW_le T ws k a
      exact ih _ (show 0 ≤ max n ((withW T ws k a).length : Int) by omega) (show max n ((withW T ws k a).length : Int) ≤ ws.length by omega)
  exact key G 0 (by omega) (by omega)
/-- one question more -/
def gStep (T : Tb) (ws : List Nat) (s : Int × Int) (k : Nat) : Int × Int :=
  if (given T ws k).length < 2 then s
  else if s.1 < 0 ∨ mostN T ws k (given T ws k) < s.2 ∨ (mostN T ws k (given T ws k) = s.2 ∧ costAt T k < costAt T s.1.toNat) then ((k : Int), mostN T ws k (given T ws k)) else s
def gState (T : Tb) (ws : List Nat) : Nat → Int × Int
  | 0 => (-1, 0)
  | k + 1 => gStep T ws (gState T ws k) k
def greedyA (T : Tb) (ws : List Nat) : Int := (gState T ws T.costs.length).1
theorem gState_bd (T : Tb) (ws : List Nat) : ∀ k : Nat, -1 ≤ (gState T ws k).1 ∧ (gState T ws k).1 < k ∧ 0 ≤ (gState T ws k).2 ∧ (gState T ws k).2 ≤ ws.length
  | 0 => by unfold gState; simp
  | k + 1 => by
    have h := gState_bd T ws k
    have hm := mostN_bd T ws k (given T ws k)
    unfold gState gStep
    split
    · omega
    · split
      · simp only []; omega
      · omega
theorem part_at {T : Tb} {ws : List Nat} {k q : Nat} {W : World} {a : Option Addr} {n c : Nat} {G : List Int} {x : Int} (h : RdR W (.slice a n c) (partsW T ws k G)) (hx : G[q]? = some x) :
    ∃ b off u, a = some ⟨b, off, none⟩ ∧ b < W.heap.size ∧ W.cell? ⟨b, off + q, none⟩ = some u ∧ RdI W u (nI (withW T ws k x)) := rows_at h (partsW_at hx)
set_option maxRecDepth 100000 in
set_option maxHeartbeats 8000000 in
theorem g65_any (v : Value) (ws : List Nat) (B : Nat) (va vc vk : Value) (T : Tb) (w : World) (hT : BoxT w B va vc vk T) (ho : OkT T) (hr : RdI w v (nI ws)) (hok : WsOk T ws) (hlen : ws.length ≤ 1000) :
    Calls Try.prog 65 #[v, .pointer (some ⟨B, 0, none⟩)] w fun e w' => e = .returned (.int .i64 (greedyA T ws)) ∧ Below w.heap.size w w' := by
  obtain ⟨aa, ca, rfl⟩ := hT.tb.rows.form
  obtain ⟨ac, cc, rfl⟩ := hT.tb.costs.form
  obtain ⟨ak, ck, rfl⟩ := hT.tb.cls.form
  obtain ⟨aw, cw, rfl⟩ := hr.form
  have HT := Lib.hid hT; have HR := Lib.hid hr; have HO := Lib.hid ho
  have hk64 := ho.c64
  have c1 := hT.c1
  clear hT hr ho
  go_enter Try.func65, Try.ntmps65
  go_wp2_with fail
  clear c1
  go_loopw [4, 5, 16] (fun av lv kv wr => ∃ k : Nat, k ≤ T.costs.length ∧ kv = .int .i64 k ∧ av = .int .i64 (gState T ws k).1 ∧ lv = .int .i64 (gState T ws k).2 ∧ Below w.heap.size w wr) (fun _ _ kv _ => T.costs.length - (intOf kv).toNat)
  case atStart => exact ⟨0, Nat.zero_le _, rfl, rfl, rfl, Below.refl _ _⟩
  case round =>
    obtain ⟨k, hk, rfl, rfl, rfl, hbl⟩ := hrel
    have hk0 : (0 : Int) ≤ (k : Int) := Int.natCast_nonneg _
    have hgb := gState_bd T ws k
    have hst : gState T ws (k + 1) = gStep T ws (gState T ws k) k := rfl
    obtain ⟨⟨ask, least⟩, hgs⟩ : ∃ s, gState T ws k = s := ⟨_, rfl⟩
    rw [hgs] at hst hgb ⊢
    unfold gStep at hst
    simp only at hst hgb
    have HST := Lib.hid hst
    have HGS := Lib.hid hgs
    have HBL := Lib.hid hbl
    clear hst hgs
    by_cases hlt : k < T.costs.length
    · have hk1 : (k : Int) < (T.costs.length : Int) := by omega
      obtain ⟨x, hx⟩ := elem_at hlt
      have hxb := HO.out.cb x (List.mem_of_getElem? hx)
      have hbt := HT.out.below hbl
      obtain ⟨bc, oc, rfl, _, qc⟩ := ints_at hbt.tb.costs hx
      have c0 := hbt.c0; have c1 := hbt.c1; have c2 := hbt.c2
      have PA := parts_any _ _ _ _ T ws k wr hbt.tb HO.out (HR.out.below hbl) hok hlen hlt
      have HX := Lib.hid hx
      clear hbl hbt hx
      go_wp2_with fail
      refine PA.mono ?_
      rintro e w2 ⟨⟨v1, v2, rfl, hg1', hg2'⟩, hb9⟩
      have hg1 : RdI w2 v1 (given T ws k) := hg1'.1
      have hg2 := hg2'.rd
      clear hg1' hg2'
      obtain ⟨a1, c1', rfl⟩ := hg1.form
      obtain ⟨a2, c2', rfl⟩ := hg2.form
      have HBL := Lib.hid (HBL.out.trans (hb9.mono HBL.out.size))
      have HG := Lib.hid hg2
      have hpl : (partsW T ws k (given T ws k)).length = (given T ws k).length := by unfold partsW; rw [List.length_map]
      have HPL := Lib.hid hpl
      have hgl := given_len T ws k
      clear PA hg1 hg2 hb9 c0 c1 c2 qc hpl
      by_cases h2 : (given T ws k).length < 2
      · have h2' : ((partsW T ws k (given T ws k)).length : Int) < 2 := by have := HPL.out; omega
        rw [if_pos h2] at HST
        go_wp2_with fail
        go_roundw
        case rel => exact ⟨k + 1, by omega, by go_num, by rw [HST.out], by rw [HST.out], HBL.out⟩
        case measure => simp [intOf]; omega
      · have h2' : ¬ ((partsW T ws k (given T ws k)).length : Int) < 2 := by have := HPL.out; omega
        rw [if_neg h2] at HST
        obtain ⟨G, hG⟩ : ∃ G, given T ws k = G := ⟨_, rfl⟩
        rw [hG] at HST HG HPL hgl h2' ⊢
        clear h2 hG
        go_wp2_with fail
        obtain ⟨wo, hwo⟩ : ∃ wo, wo = w2 := ⟨_, rfl⟩
        go_loopw [10, 33] (fun nv qv wr => ∃ q : Nat, q ≤ G.length ∧ qv = .int .i64 q ∧ nv = .int .i64 (mostN T ws k (G.take q)) ∧ wr = w2) (fun _ qv _ => G.length - (intOf qv).toNat)
        case atStart => exact ⟨0, Nat.zero_le _, rfl, rfl, rfl⟩
        case round =>
          obtain ⟨q, hq, rfl, rfl, rfl⟩ := hrel
          have hq0 : (0 : Int) ≤ (q : Int) := Int.natCast_nonneg _
          by_cases hqg : q < G.length
          · have hq1 : (q : Int) < ((partsW T ws k G).length : Int) := by have := HPL.out; omega
            obtain ⟨y, hy⟩ := elem_at hqg
            obtain ⟨b3, o3, u, rfl, _, qu, hu⟩ := part_at HG.out hy
            obtain ⟨au, cu, rfl⟩ := hu.form
            have hms := mostN_succ (T := T) (ws := ws) (k := k) hy
            have hul := nI_len (withW T ws k y)
            have hwl := withW_le T ws k y
            have hmb := mostN_bd T ws k (G.take q)
            obtain ⟨mn, hmn⟩ : ∃ n, mostN T ws k (G.take q) = n := ⟨_, rfl⟩
            rw [hmn] at hms hmb ⊢
            have HMS := Lib.hid hms; have HUL := Lib.hid hul
            clear hms hul hmn hu hy
            go_wp2_with fail
            go_roundw
            case rel => exact ⟨q + 1, by omega, by go_num, by rw [HMS.out, ← HUL.out], trivial⟩
            case measure => simp [intOf]; omega
          · obtain rfl : q = G.length := by omega
            have hq1 : ¬ (G.length : Int) < ((partsW T ws k G).length : Int) := by have := HPL.out; omega
            rw [List.take_length]
            have hmb := mostN_bd T ws k G
            obtain ⟨mn, hmn⟩ : ∃ n, mostN T ws k G = n := ⟨_, rfl⟩
            rw [hmn] at HST hmb ⊢
            have hxx := costAt_of HX.out
            rw [hxx] at HST
            clear hmn hxx
            by_cases ha : ask < 0
            · have hs2 := HST.out
              rw [if_pos (.inl ha)] at hs2
              have HS2 := Lib.hid hs2
              clear hs2
              go_wp2_with fail
              go_roundw
              case rel => exact ⟨k + 1, by omega, by go_num, by rw [HS2.out], by rw [HS2.out], HBL.out⟩
              case measure => simp [intOf]; omega
            · by_cases hn : mn < least
              · have hs2 := HST.out
                rw [if_pos (.inr (.inl hn))] at hs2
                have HS2 := Lib.hid hs2
                clear hs2
                go_wp2_with fail
                go_roundw
                case rel => exact ⟨k + 1, by omega, by go_num, by rw [HS2.out], by rw [HS2.out], HBL.out⟩
                case measure => simp [intOf]; omega
              · by_cases he : mn = least
                · obtain ⟨p, rfl⟩ : ∃ p : Nat, ask = p := ⟨ask.toNat, by omega⟩
                  obtain ⟨y, hy⟩ := elem_at (show p < T.costs.length by omega)
                  have hbt := HT.out.below HBL.out
                  obtain ⟨b5, o5, e5, _, qy⟩ := ints_at hbt.tb.costs hy
                  cases e5
                  have c1 := hbt.c1
                  have hyy : costAt T p = y := costAt_of hy
                  have hst := HST.out
                  rw [Int.toNat_natCast, hyy] at hst
                  have hp1 : (p : Int) < (T.costs.length : Int) := by omega
                  have hp0 : (0 : Int) ≤ (p : Int) := Int.natCast_nonneg _
                  have he' : (mn == least) = true := by simpa using he
                  clear hbt hy hyy
                  by_cases hc : x < y
                  · rw [if_pos (.inr (.inr ⟨he, hc⟩))] at hst
                    have HS2 := Lib.hid hst
                    clear hst he
                    go_wp2_with fail
                    go_roundw
                    case rel => exact ⟨k + 1, by omega, by go_num, by rw [HS2.out], by rw [HS2.out], HBL.out⟩
                    case measure => simp [intOf]; omega
                  · rw [if_neg (by rintro (h | h | ⟨_, h⟩) <;> omega)] at hst
                    have HS2 := Lib.hid hst
                    clear hst he
                    go_wp2_with fail
                    go_roundw
                    case rel => exact ⟨k + 1, by omega, by go_num, by rw [HS2.out], by rw [HS2.out], HBL.out⟩
                    case measure => simp [intOf]; omega
                · have hs2 := HST.out
                  rw [if_neg (by rintro (h | h | ⟨h, _⟩) <;> omega)] at hs2
                  have HS2 := Lib.hid hs2
                  have he' : (mn == least) = false := by simpa using he
                  clear hs2 he
                  go_wp2_with fail
                  go_roundw
                  case rel => exact ⟨k + 1, by omega, by go_num, by rw [HS2.out], by rw [HS2.out], HBL.out⟩
                  case measure => simp [intOf]; omega
    · obtain rfl : k = T.costs.length := by omega
      have hk1 : ¬ (T.costs.length : Int) < (T.costs.length : Int) := by omega
      clear hbl
      go_wp2_with fail
      go_ret
      exact ⟨ret_int (by unfold greedyA; rw [HGS.out]), HBL.out⟩
end Go.Proofs.Ytmkkegigajmhkaa

