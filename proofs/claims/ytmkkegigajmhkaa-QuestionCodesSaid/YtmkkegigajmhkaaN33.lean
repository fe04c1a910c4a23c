/- A bent tree (reference): whatever it is, it is a tree and not much greater. -/
import Derived.Test.YtmkkegigajmhkaaN32
import Derived.Test.YtmkkegigajmhkaaN15
import Derived.Deep.DeepCutAuto
set_option linter.unusedVariables false
namespace Go.Proofs.Ytmkkegigajmhkaa
open Go.RowKit Go.Maps

theorem Rd.dropA {W : World} {b off n c k : Nat} {xs : List Value} (h : Rd W (.slice (some ⟨b, off, Option.none⟩) n c) xs) (hk : k ≤ n) : Rd W (.slice (if c = k then some ⟨b, off, Option.none⟩ else some ⟨b, off + k, Option.none⟩) (n - k) (c - k)) (xs.drop k) := by
  obtain ⟨a', c', e, h3, h4, h5⟩ := h
  cases e
  refine ⟨_, c - k, by rw [List.length_drop], by rw [List.length_drop]; omega, by omega, ?_⟩
  rcases h5 with h5 | ⟨b', off', h5, h6, h7⟩
  · left; rw [List.length_drop]; omega
  · cases h5
    split
    · left; rw [List.length_drop]; omega
    · right
      refine ⟨b, off + k, rfl, h6, fun j u hu => ?_⟩
      rw [Nat.add_assoc]
      exact h7 (k + j) u (by rwa [List.getElem?_drop] at hu)
/-- the node that Bent copies -/
theorem NB.new {F : Nat → Prop} {W0 w W : World} {a c : Int} {va vk : Value} {ans : List Int} {us : List Value} {kids : List Tr} (h0 : Below W0.heap.size W0 w) (hbl : Below w.heap.size w W)
    (hA : W.ownsRow w.heap.size 3 1 va ans.length (ints ans)) (hK : W.ownsRow w.heap.size 48 1 vk us.length us) (hT : Trees 105 F W0 us kids) :
    NB (fun i => (F i ∧ i < W0.heap.size) ∨ w.heap.size ≤ i) w.heap.size (W.alloc (.cells #[.int .i64 a, .int .i64 c, va, vk] 105)) W.heap.size a c va vk ans us kids := by
  have hs0 := h0.size; have hs1 := hbl.size
  have hal := alloc_below W (.cells #[.int .i64 a, .int .i64 c, va, vk] 105)
  refine ⟨hs1, fun i hi => .inr hi, by simp; omega, Boxs.new _ _ _, owns_below hA hal, owns_below hK hal, ?_⟩
  refine (hT.mono (G := fun i => F i ∧ i < W0.heap.size) fun i hi hF => ⟨hF, hi⟩).block (W' := W.alloc (.cells #[.int .i64 a, .int .i64 c, va, vk] 105)) (fun i hi _ => ?_) |>.mono fun i _ hF => ⟨.inl hF, by omega, fun he => by have := (hA.lt i he).1; omega, fun he => by have := (hK.lt i he).1; omega⟩
  rw [hal.block i (by omega), hbl.block i (by omega), h0.block i hi]
theorem bent_leaf {F : Nat → Prop} {W0 w W : World} {bx : Nat} {a c : Int} {va vk : Value} {ans : List Int} {us : List Value} {ts : List Tr} {t : Tr} (hNB : NB (fun i => (F i ∧ i < W0.heap.size) ∨ w.heap.size ≤ i) w.heap.size W bx a c va vk ans us ts)
    (hbl : Below w.heap.size w W) (hok : BentOk t (.node a c ans ts)) : BentOut F W0 w t (.returned (.pointer (some ⟨bx, 0, none⟩))) W ∧ Below w.heap.size w W := ⟨⟨_, _, rfl, hNB.done, hok⟩, hbl⟩
theorem bent_three {F : Nat → Prop} {W0 w W : World} {p : Option Addr} {t : Tr} {q : Int} {B B1 B2 : Nat} (hb0 : Below W0.heap.size W0 W) (hbl : Below w.heap.size w W) (hw0 : W0.heap.size ≤ w.heap.size) (ht : TreeIn 105 F W0 (.pointer p) t) (h1 : B1 = W.heap.size) (h2 : B2 = W.heap.size + 1) (hB : B = W.heap.size + 2) :
    BentOut F W0 w t (.returned (.pointer (some ⟨B, 0, none⟩))) (((W.alloc (.cells #[.int .i64 0, .int .i64 1, .int .i64 2] 3)).alloc (.cells #[.pointer p, .pointer p, .pointer p] 48)).alloc (.cells #[.int .i64 q, .int .i64 0, .slice (some ⟨B1, 0, none⟩) 3 3, .slice (some ⟨B2, 0, none⟩) 3 3] 105)) ∧
    Below w.heap.size w (((W.alloc (.cells #[.int .i64 0, .int .i64 1, .int .i64 2] 3)).alloc (.cells #[.pointer p, .pointer p, .pointer p] 48)).alloc (.cells #[.int .i64 q, .int .i64 0, .slice (some ⟨B1, 0, none⟩) 3 3, .slice (some ⟨B2, 0, none⟩) 3 3] 105)) := by
  subst h1 h2 hB
  have e1 := alloc_below W (.cells #[.int .i64 0, .int .i64 1, .int .i64 2] 3)
  have e2 := alloc_below (W.alloc (.cells #[.int .i64 0, .int .i64 1, .int .i64 2] 3)) (.cells #[.pointer p, .pointer p, .pointer p] 48)
  have e3 := alloc_below ((W.alloc (.cells #[.int .i64 0, .int .i64 1, .int .i64 2] 3)).alloc (.cells #[.pointer p, .pointer p, .pointer p] 48)) (.cells #[.int .i64 q, .int .i64 0, .slice (some ⟨W.heap.size, 0, none⟩) 3 3, .slice (some ⟨W.heap.size + 1, 0, none⟩) 3 3] 105)
  have r1 := Rd_fresh W 3 #[.int .i64 0, .int .i64 1, .int .i64 2] 3 rfl (by omega)
  have r2 := Rd_fresh (W.alloc (.cells #[.int .i64 0, .int .i64 1, .int .i64 2] 3)) 48 #[.pointer p, .pointer p, .pointer p] 3 rfl (by omega)
  have r3 := Boxs.new ((W.alloc (.cells #[.int .i64 0, .int .i64 1, .int .i64 2] 3)).alloc (.cells #[.pointer p, .pointer p, .pointer p] 48)) 105 #[.int .i64 q, .int .i64 0, .slice (some ⟨W.heap.size, 0, none⟩) 3 3, .slice (some ⟨W.heap.size + 1, 0, none⟩) 3 3]
  rw [World.size_alloc] at r2
  rw [World.size_alloc, World.size_alloc] at r3
  have hs := hbl.size
  have e23 := e2.trans (e3.mono e2.size)
  have e13 := e1.trans (e23.mono e1.size)
  have ht2 := (ht.mono (G := fun i => (F i ∧ i < W0.heap.size) ∨ w.heap.size ≤ i) fun i hi hF => .inl ⟨hF, hi⟩).under (hb0.trans (e13.mono hb0.size))
  refine ⟨⟨_, _, rfl, TreeIn.of (ans := [0, 1, 2]) (kids := [t, t, t]) (us := [.pointer p, .pointer p, .pointer p]) (.inr (by omega)) r3 ⟨r1.below e23, fun _ i hi => .inr (by cases hi; exact hs)⟩ ⟨r2.below e3, fun _ i hi => .inr (by cases hi; show w.heap.size ≤ W.heap.size + 1; omega)⟩ ⟨rfl, fun k u x hu hx => ?_⟩, ⟨by simp only [depT, depTs]; omega, by simp only [szT, szTs, List.length_cons, List.length_nil]; omega, by simp only [wdT, wdTs, List.length_cons, List.length_nil]; omega, .tri _ _⟩⟩, hbl.trans (e13.mono hs)⟩
  match k, hu, hx with
  | 0, hu, hx => cases hu; cases hx; exact ht2
  | 1, hu, hx => cases hu; cases hx; exact ht2
  | 2, hu, hx => cases hu; cases hx; exact ht2
theorem bentOk_ans {a c a' c' : Int} {ans ans' : List Int} {kids : List Tr} (h : ans'.length ≤ ans.length + 1) : BentOk (.node a c ans kids) (.node a' c' ans' kids) :=
  ⟨by simp [depT], by simp only [szT]; omega, by simp only [wdT]; omega, .small (by omega)⟩
set_option maxRecDepth 100000 in
set_option maxHeartbeats 16000000 in
theorem bent_any {F : Nat → Prop} {W0 : World} {v : Value} {t : Tr} (h : TreeIn 105 F W0 v t) (hsm : smK t = true) :
    ∀ (how by_ : Int) (w : World), Below W0.heap.size W0 w → -9223372036854775808 ≤ how → how ≤ 9223372036854775807 → -9223372036854775808 ≤ by_ → by_ ≤ 9223372036854775807 →
      Calls Try.prog 66 #[v, .int .i64 how, .int .i64 by_] w fun e w' => BentOut F W0 w t e w' ∧ Below w.heap.size w w' := by
  induction h with
  | nil =>
    intro how by_ w hb hh1 hh2 hb1 hb2
    go_enter Try.func66, Try.ntmps66
    go_wp2_with fail
    refine (around_any by_ 4 _ hb1 hb2 (by omega) (by omega)).mono ?_
    rintro e w4 ⟨rfl, rfl⟩
    generalize around by_ 4 = x
    go_wp2_with fail
    go_ret
    refine ⟨⟨_, _, rfl, TreeIn.of (ans := []) (kids := []) (us := []) ?_ (Boxs.new _ _ _) (RdIn.nil _ _) (RdIn.nil _ _) (Trees.nil _ _ _), ?_⟩, ?_⟩
    · exact .inr (Nat.le_refl _)
    · exact ⟨by simp [depT, depTs], by simp [szT, szTs], by simp [wdT, wdTs], .nil _⟩
    · exact alloc_below _ _
  | node hF hB ha hk hl hs ih =>
    rename_i b a c ans kids us va vk
    intro how by_ w hb hh1 hh2 hb1 hb2
    rw [smK] at hsm
    obtain ⟨hsm1, hsm2⟩ := Bool.and_eq_true_iff.1 hsm
    have hsm1 := of_decide_eq_true hsm1
    obtain ⟨aa, ca, rfl⟩ := RdI.form (show RdI W0 va ans from ha.1)
    obtain ⟨ak, ck, rfl, hk2⟩ : ∃ x c, vk = .slice x us.length c ∧ Rd W0 (.slice x us.length c) us := by
      obtain ⟨x, c, h1, _⟩ := hk.1; exact ⟨x, c, h1, h1 ▸ hk.1⟩
    have hul : us.length ≤ 100000 := by omega
    have hal : ans.length ≤ 100000 := hsm1.1
    have hT : Trees 105 F W0 us kids := ⟨hl, hs⟩
    have HTR := Lib.hid (TreeIn.node hF hB ha hk hl hs)
    have HT := Lib.hid hT
    have HRA := Lib.hid (show RdI W0 (.slice aa ans.length ca) ans from ha.1)
    have HK := Lib.hid hk2; have HL := Lib.hid hl; have HB := Lib.hid hb
    have HSM := Lib.hid hsm2
    have IH := Lib.hid ih
    have HBB := Lib.hid hB
    have HC := Lib.hid (show ∀ W, Below w.heap.size w W → W.cell? ⟨b, 0, none⟩ = some (.int .i64 a) ∧ W.cell? ⟨b, 1, none⟩ = some (.int .i64 c) ∧ W.cell? ⟨b, 2, none⟩ = some (.slice aa ans.length ca) ∧ W.cell? ⟨b, 3, none⟩ = some (.slice ak us.length ck) from fun W hW => by
      have := (hB.below hb).below hW
      exact ⟨this.cell 0, this.cell 1, this.cell 2, this.cell 3⟩)
    have HW0 := Lib.hid (show ∀ W, Below w.heap.size w W → Below W0.heap.size W0 W from fun W hW => hb.trans (hW.mono hb.size))
    clear ih hs ha hk hk2 hB hb hl hsm hsm2 hT
    go_enter Try.func66, Try.ntmps66
    go_upto_region 3 with fail
    go_cut [7] (fun s7 wx => ∃ (bx : Nat) (va vk : Value), s7 = .pointer (some ⟨bx, 0, none⟩) ∧ NB (fun i => (F i ∧ i < W0.heap.size) ∨ w.heap.size ≤ i) w.heap.size wx bx a c va vk ans us kids ∧ Below w.heap.size w wx)
    case first =>
      as_aux_lemma =>
        clear IH HSM HBB
        refine wp_region_E (fun W => W.cell? ⟨b, 0, none⟩ = some (.int .i64 a) ∧ W.cell? ⟨b, 1, none⟩ = some (.int .i64 c) ∧ W.cell? ⟨b, 2, none⟩ = some (.slice aa ans.length ca) ∧ W.cell? ⟨b, 3, none⟩ = some (.slice ak us.length ck)) (by kernel_rfl) ?_
        have hdr : (w).drew = { w with drawn := (w).drawn + 1 } := rfl
        rw [← hdr]
        clear hdr
        change wpAnyE _ _ _ _ _ _ _ _ ((w).drewN 1)
        have hbl := Below.dn (Below.refl w.heap.size w) 1
        refine tm 0 17 rfl rfl (.pointer (some ⟨b, 0, none⟩)) ((HC.out _ hbl)) ?_
        try simp only [pa, pl]
        refine tg 1 18 rfl rfl (.pointer (some ⟨b, 0, none⟩)) ((HC.out _ hbl)) ?_
        try simp only [pa, pl]
        refine tg 2 19 rfl rfl (.pointer (some ⟨b, 0, none⟩)) ((HC.out _ hbl)) ?_
        try simp only [pa, pl]
        refine tk 3 20 rfl rfl (.int .i64 a) (fun W hW => by obtain ⟨c0, c1, c2, c3⟩ := hW; go_simp) ((HC.out _ hbl)) ?_
        try simp only [pa, pl]
        refine tm 4 21 rfl rfl (.pointer (some ⟨b, 0, none⟩)) ((HC.out _ hbl)) ?_
        try simp only [pa, pl]
        refine tg 5 22 rfl rfl (.pointer (some ⟨b, 0, none⟩)) ((HC.out _ hbl)) ?_
        try simp only [pa, pl]
        refine tg 6 23 rfl rfl (.pointer (some ⟨b, 1, none⟩)) ((HC.out _ hbl)) ?_
        try simp only [pa, pl]
        refine tk 7 24 rfl rfl (.int .i64 c) (fun W hW => by obtain ⟨c0, c1, c2, c3⟩ := hW; go_simp) ((HC.out _ hbl)) ?_
        try simp only [pa, pl]
        refine tm 9 26 rfl rfl (.pointer (some ⟨b, 0, none⟩)) ((HC.out _ hbl)) ?_
        try simp only [pa, pl]
        refine tg 10 27 rfl rfl (.pointer (some ⟨b, 0, none⟩)) ((HC.out _ hbl)) ?_
        try simp only [pa, pl]
        refine tg 11 28 rfl rfl (.pointer (some ⟨b, 2, none⟩)) ((HC.out _ hbl)) ?_
        try simp only [pa, pl]
        refine tk 12 29 rfl rfl (.slice aa ans.length ca) (fun W hW => by obtain ⟨c0, c1, c2, c3⟩ := hW; go_simp) ((HC.out _ hbl)) ?_
        try simp only [pa, pl]
        refine tm 15 32 rfl rfl (.pointer (some ⟨b, 0, none⟩)) ((HC.out _ hbl)) ?_
        try simp only [pa, pl]
        refine tg 16 33 rfl rfl (.pointer (some ⟨b, 0, none⟩)) ((HC.out _ hbl)) ?_
        try simp only [pa, pl]
        refine tg 17 34 rfl rfl (.pointer (some ⟨b, 3, none⟩)) ((HC.out _ hbl)) ?_
        try simp only [pa, pl]
        refine tk 18 35 rfl rfl (.slice ak us.length ck) (fun W hW => by obtain ⟨c0, c1, c2, c3⟩ := hW; go_simp) ((HC.out _ hbl)) ?_
        try simp only [pa, pl]
        refine wpAnyEBoth 8 14 (by kernel_rfl) ?_ ?_
        · refine wpOpRun' (v := .slice (some ⟨(w.drewN 1).heap.size, 0, none⟩) 0 0) (w' := ((w.drewN 1).alloc (.cells #[] 3))) (some 25) rfl rfl rfl (by go_simp <;> rfl) ?_
          have hA := owns_block (base := w.heap.size) (Boxs.new (w.drewN 1) 3 #[]) hbl.size (xs := []) rfl (n := 0) (size := 1) rfl (by omega)
          have hbl := hbl.alloc hbl.size (.cells #[] 3)
          refine ⟨.inl ((HC.out _ hbl)), ?_⟩
          try simp only [pa, pl]
          refine wpAnyEBoth 13 14 (by kernel_rfl) ?_ ?_
          · refine wpOpAppI (base := w.heap.size) 13 (some 30) rfl rfl rfl (.tmp 25) (.tmp 29) rfl (.slice (some ⟨(w.drewN 1).heap.size, 0, none⟩) 0 0) ([]) rfl (hA) (.slice aa ans.length ca) (ans) rfl (RdI.below HRA.out (HW0.out _ hbl)) (by simp only [List.length_nil]; omega) hbl.size fun v2 W2 happ => ?_
            have happ : AppOut w.heap.size 3 ((w.drewN 1).alloc (.cells #[] 3)) (.slice (some ⟨(w.drewN 1).heap.size, 0, none⟩) 0 0) ans.length (ints ans) v2 W2 := by simpa using happ
            obtain ⟨a2, k2, rfl⟩ := happ.form
            have hbl1 := happ.below hbl hA (Nat.le_refl _) hbl.size
            have hA := happ.1
            clear happ hbl
            have hbl := hbl1
            clear hbl1
            refine ⟨.inl ((HC.out _ hbl)), ?_⟩
            try simp only [pa, pl]
            refine wpAnyEOne 14 (by kernel_rfl) ?_
            refine wpOpRun' (v := .slice (some ⟨W2.heap.size, 0, none⟩) 0 0) (w' := (W2.alloc (.cells #[] 48))) (some 31) rfl rfl rfl (by go_simp <;> rfl) ?_
            have hK := owns_block (base := w.heap.size) (Boxs.new W2 48 #[]) hbl.size (xs := []) rfl (n := 0) (size := 1) rfl (by omega)
            have hA := owns_below hA (alloc_below W2 (.cells #[] 48))
            have hbl := hbl.alloc hbl.size (.cells #[] 48)
            refine ⟨.inl ((HC.out _ hbl)), ?_⟩
            try simp only [pa, pl]
            refine wpAnyEOne 19 (by kernel_rfl) ?_
            refine wpOpAppU (base := w.heap.size) 19 (some 36) rfl rfl rfl (.tmp 31) (.tmp 35) rfl (.slice (some ⟨W2.heap.size, 0, none⟩) 0 0) 0 ([]) rfl (hK) (.slice ak us.length ck) us rfl (Rd.below HK.out (HW0.out _ hbl)) (HT.out.one) (by omega) hbl.size fun v4 W4 happ => ?_
            have happ : AppOut w.heap.size 48 (W2.alloc (.cells #[] 48)) (.slice (some ⟨W2.heap.size, 0, none⟩) 0 0) us.length us v4 W4 := by simpa using happ
            obtain ⟨a4, k4, rfl⟩ := happ.form
            have hbl1 := happ.below hbl hK (Nat.le_refl _) hbl.size
            have hA := owns_app hA hK happ (by decide)
            have hK := happ.1
            clear happ hbl
            have hbl := hbl1
            clear hbl1
            refine ⟨.inl ((HC.out _ hbl)), ?_⟩
            try simp only [pa, pl]
            refine tg 20 37 rfl rfl (.agg #[.int .i64 a, .int .i64 c, .slice a2 ans.length k2, .slice a4 us.length k4]) ((HC.out _ hbl)) ?_
            try simp only [pa, pl]
            refine wpAnyEOne 21 (by kernel_rfl) ?_
            refine wpOpRun' (v := .pointer (some ⟨W4.heap.size, 0, none⟩)) (w' := (W4.alloc (.cells #[.int .i64 a, .int .i64 c, .slice a2 ans.length k2, .slice a4 us.length k4] 105))) (some 38) rfl rfl rfl (by go_simp <;> rfl) ?_
            have hNB := NB.new (a := a) (c := c) HB.out hbl hA hK HT.out
            have hbl := hbl.alloc hbl.size (.cells #[.int .i64 a, .int .i64 c, .slice a2 ans.length k2, .slice a4 us.length k4] 105)
            refine ⟨.inl ((HC.out _ hbl)), ?_⟩
            try simp only [pa, pl]
            refine wpAnyEOne 22 (by kernel_rfl) ?_
            refine wpOpRun' (v := .pointer (some ⟨W4.heap.size, 0, none⟩)) (w' := (W4.alloc (.cells #[.int .i64 a, .int .i64 c, .slice a2 ans.length k2, .slice a4 us.length k4] 105))) (some 7) rfl rfl rfl (by rfl) ?_
            refine ⟨.inr (allUp_of (by kernel_rfl)), ?_⟩
            try simp only [pa, pl]
            refine wpAnyE_done (by kernel_rfl) ?_ _
            go_wp2_with fail
            go_meet
            exact ⟨_, _, _, rfl, hNB, hbl⟩
          · refine wpOpRun' (v := .slice (some ⟨((w.drewN 1).alloc (.cells #[] 3)).heap.size, 0, none⟩) 0 0) (w' := (((w.drewN 1).alloc (.cells #[] 3)).alloc (.cells #[] 48))) (some 31) rfl rfl rfl (by go_simp <;> rfl) ?_
            have hK := owns_block (base := w.heap.size) (Boxs.new ((w.drewN 1).alloc (.cells #[] 3)) 48 #[]) hbl.size (xs := []) rfl (n := 0) (size := 1) rfl (by omega)
            have hA := owns_below hA (alloc_below ((w.drewN 1).alloc (.cells #[] 3)) (.cells #[] 48))
            have hbl := hbl.alloc hbl.size (.cells #[] 48)
            refine ⟨.inl ((HC.out _ hbl)), ?_⟩
            try simp only [pa, pl]
            refine wpAnyEOne 13 (by kernel_rfl) ?_
            refine wpOpAppI (base := w.heap.size) 13 (some 30) rfl rfl rfl (.tmp 25) (.tmp 29) rfl (.slice (some ⟨(w.drewN 1).heap.size, 0, none⟩) 0 0) ([]) rfl (hA) (.slice aa ans.length ca) (ans) rfl (RdI.below HRA.out (HW0.out _ hbl)) (by simp only [List.length_nil]; omega) hbl.size fun v3 W3 happ => ?_
            have happ : AppOut w.heap.size 3 (((w.drewN 1).alloc (.cells #[] 3)).alloc (.cells #[] 48)) (.slice (some ⟨(w.drewN 1).heap.size, 0, none⟩) 0 0) ans.length (ints ans) v3 W3 := by simpa using happ
            obtain ⟨a3, k3, rfl⟩ := happ.form
            have hbl1 := happ.below hbl hA (Nat.le_refl _) hbl.size
            have hK := owns_app hK hA happ (by decide)
            have hA := happ.1
            clear happ hbl
            have hbl := hbl1
            clear hbl1
            refine ⟨.inl ((HC.out _ hbl)), ?_⟩
            try simp only [pa, pl]
            refine wpAnyEOne 19 (by kernel_rfl) ?_
            refine wpOpAppU (base := w.heap.size) 19 (some 36) rfl rfl rfl (.tmp 31) (.tmp 35) rfl (.slice (some ⟨((w.drewN 1).alloc (.cells #[] 3)).heap.size, 0, none⟩) 0 0) 0 ([]) rfl (hK) (.slice ak us.length ck) us rfl (Rd.below HK.out (HW0.out _ hbl)) (HT.out.one) (by omega) hbl.size fun v4 W4 happ => ?_
            have happ : AppOut w.heap.size 48 W3 (.slice (some ⟨((w.drewN 1).alloc (.cells #[] 3)).heap.size, 0, none⟩) 0 0) us.length us v4 W4 := by simpa using happ
            obtain ⟨a4, k4, rfl⟩ := happ.form
            have hbl1 := happ.below hbl hK (Nat.le_refl _) hbl.size
            have hA := owns_app hA hK happ (by decide)
            have hK := happ.1
            clear happ hbl
            have hbl := hbl1
            clear hbl1
            refine ⟨.inl ((HC.out _ hbl)), ?_⟩
            try simp only [pa, pl]
            refine tg 20 37 rfl rfl (.agg #[.int .i64 a, .int .i64 c, .slice a3 ans.length k3, .slice a4 us.length k4]) ((HC.out _ hbl)) ?_
            try simp only [pa, pl]
            refine wpAnyEOne 21 (by kernel_rfl) ?_
            refine wpOpRun' (v := .pointer (some ⟨W4.heap.size, 0, none⟩)) (w' := (W4.alloc (.cells #[.int .i64 a, .int .i64 c, .slice a3 ans.length k3, .slice a4 us.length k4] 105))) (some 38) rfl rfl rfl (by go_simp <;> rfl) ?_
            have hNB := NB.new (a := a) (c := c) HB.out hbl hA hK HT.out
            have hbl := hbl.alloc hbl.size (.cells #[.int .i64 a, .int .i64 c, .slice a3 ans.length k3, .slice a4 us.length k4] 105)
            refine ⟨.inl ((HC.out _ hbl)), ?_⟩
            try simp only [pa, pl]
            refine wpAnyEOne 22 (by kernel_rfl) ?_
            refine wpOpRun' (v := .pointer (some ⟨W4.heap.size, 0, none⟩)) (w' := (W4.alloc (.cells #[.int .i64 a, .int .i64 c, .slice a3 ans.length k3, .slice a4 us.length k4] 105))) (some 7) rfl rfl rfl (by rfl) ?_
            refine ⟨.inr (allUp_of (by kernel_rfl)), ?_⟩
            try simp only [pa, pl]
            refine wpAnyE_done (by kernel_rfl) ?_ _
            go_wp2_with fail
            go_meet
            exact ⟨_, _, _, rfl, hNB, hbl⟩
        · refine wpOpRun' (v := .slice (some ⟨(w.drewN 1).heap.size, 0, none⟩) 0 0) (w' := ((w.drewN 1).alloc (.cells #[] 48))) (some 31) rfl rfl rfl (by go_simp <;> rfl) ?_
          have hK := owns_block (base := w.heap.size) (Boxs.new (w.drewN 1) 48 #[]) hbl.size (xs := []) rfl (n := 0) (size := 1) rfl (by omega)
          have hbl := hbl.alloc hbl.size (.cells #[] 48)
          refine ⟨.inl ((HC.out _ hbl)), ?_⟩
          try simp only [pa, pl]
          refine wpAnyEOne 8 (by kernel_rfl) ?_
          refine wpOpRun' (v := .slice (some ⟨((w.drewN 1).alloc (.cells #[] 48)).heap.size, 0, none⟩) 0 0) (w' := (((w.drewN 1).alloc (.cells #[] 48)).alloc (.cells #[] 3))) (some 25) rfl rfl rfl (by go_simp <;> rfl) ?_
          have hA := owns_block (base := w.heap.size) (Boxs.new ((w.drewN 1).alloc (.cells #[] 48)) 3 #[]) hbl.size (xs := []) rfl (n := 0) (size := 1) rfl (by omega)
          have hK := owns_below hK (alloc_below ((w.drewN 1).alloc (.cells #[] 48)) (.cells #[] 3))
          have hbl := hbl.alloc hbl.size (.cells #[] 3)
          refine ⟨.inl ((HC.out _ hbl)), ?_⟩
          try simp only [pa, pl]
          refine wpAnyEOne 13 (by kernel_rfl) ?_
          refine wpOpAppI (base := w.heap.size) 13 (some 30) rfl rfl rfl (.tmp 25) (.tmp 29) rfl (.slice (some ⟨((w.drewN 1).alloc (.cells #[] 48)).heap.size, 0, none⟩) 0 0) ([]) rfl (hA) (.slice aa ans.length ca) (ans) rfl (RdI.below HRA.out (HW0.out _ hbl)) (by simp only [List.length_nil]; omega) hbl.size fun v3 W3 happ => ?_
          have happ : AppOut w.heap.size 3 (((w.drewN 1).alloc (.cells #[] 48)).alloc (.cells #[] 3)) (.slice (some ⟨((w.drewN 1).alloc (.cells #[] 48)).heap.size, 0, none⟩) 0 0) ans.length (ints ans) v3 W3 := by simpa using happ
          obtain ⟨a3, k3, rfl⟩ := happ.form
          have hbl1 := happ.below hbl hA (Nat.le_refl _) hbl.size
          have hK := owns_app hK hA happ (by decide)
          have hA := happ.1
          clear happ hbl
          have hbl := hbl1
          clear hbl1
          refine ⟨.inl ((HC.out _ hbl)), ?_⟩
          try simp only [pa, pl]
          refine wpAnyEOne 19 (by kernel_rfl) ?_
          refine wpOpAppU (base := w.heap.size) 19 (some 36) rfl rfl rfl (.tmp 31) (.tmp 35) rfl (.slice (some ⟨(w.drewN 1).heap.size, 0, none⟩) 0 0) 0 ([]) rfl (hK) (.slice ak us.length ck) us rfl (Rd.below HK.out (HW0.out _ hbl)) (HT.out.one) (by omega) hbl.size fun v4 W4 happ => ?_
          have happ : AppOut w.heap.size 48 W3 (.slice (some ⟨(w.drewN 1).heap.size, 0, none⟩) 0 0) us.length us v4 W4 := by simpa using happ
          obtain ⟨a4, k4, rfl⟩ := happ.form
          have hbl1 := happ.below hbl hK (Nat.le_refl _) hbl.size
          have hA := owns_app hA hK happ (by decide)
          have hK := happ.1
          clear happ hbl
          have hbl := hbl1
          clear hbl1
          refine ⟨.inl ((HC.out _ hbl)), ?_⟩
          try simp only [pa, pl]
          refine tg 20 37 rfl rfl (.agg #[.int .i64 a, .int .i64 c, .slice a3 ans.length k3, .slice a4 us.length k4]) ((HC.out _ hbl)) ?_
          try simp only [pa, pl]
          refine wpAnyEOne 21 (by kernel_rfl) ?_
          refine wpOpRun' (v := .pointer (some ⟨W4.heap.size, 0, none⟩)) (w' := (W4.alloc (.cells #[.int .i64 a, .int .i64 c, .slice a3 ans.length k3, .slice a4 us.length k4] 105))) (some 38) rfl rfl rfl (by go_simp <;> rfl) ?_
          have hNB := NB.new (a := a) (c := c) HB.out hbl hA hK HT.out
          have hbl := hbl.alloc hbl.size (.cells #[.int .i64 a, .int .i64 c, .slice a3 ans.length k3, .slice a4 us.length k4] 105)
          refine ⟨.inl ((HC.out _ hbl)), ?_⟩
          try simp only [pa, pl]
          refine wpAnyEOne 22 (by kernel_rfl) ?_
          refine wpOpRun' (v := .pointer (some ⟨W4.heap.size, 0, none⟩)) (w' := (W4.alloc (.cells #[.int .i64 a, .int .i64 c, .slice a3 ans.length k3, .slice a4 us.length k4] 105))) (some 7) rfl rfl rfl (by rfl) ?_
          refine ⟨.inr (allUp_of (by kernel_rfl)), ?_⟩
          try simp only [pa, pl]
          refine wpAnyE_done (by kernel_rfl) ?_ _
          go_wp2_with fail
          go_meet
          exact ⟨_, _, _, rfl, hNB, hbl⟩
    case rest =>
      obtain ⟨bx, va, vk, rfl, hnb, hbl⟩ := hcut
      obtain ⟨a1, k1, rfl⟩ := owns_form hnb.an
      obtain ⟨a2, k2, rfl⟩ := owns_form hnb.row
      have z0 := hnb.box.cell 0; have z1 := hnb.box.cell 1; have z2 := hnb.box.cell 2; have z3 := hnb.box.cell 3
      have zf := fun o => hnb.box.frozen o
      simp only [List.getElem?_toArray, List.getElem?_cons_zero, List.getElem?_cons_succ] at z0 z1 z2 z3
      have HNB := Lib.hid (show NB _ _ wc.drew _ _ _ _ _ _ _ _ from hnb.under (Below.dn (Below.refl _ _) 1))
      have HBL := Lib.hid (show Below w.heap.size w wc.drew from hbl.trans ((Below.dn (Below.refl _ _) 1).mono hbl.size)); have ZF := Lib.hid zf
      clear hnb hbl zf HC
      go_wp2_with fail
      go_region
      go_wp2_with fail
      obtain ⟨n, hn, hn1, hn2⟩ : ∃ n : Nat, min (us.length : Int) (ans.length : Int) = n ∧ n ≤ us.length ∧ n ≤ ans.length := ⟨min us.length ans.length, by omega, by omega, by omega⟩
      rw [hn]
      refine (around_any by_ (max (n : Int) 1) _ hb1 hb2 (by omega) (by omega)).mono ?_
      rintro e w4 ⟨rfl, rfl⟩
      obtain ⟨k, hk, hkn⟩ : ∃ k : Nat, around by_ (max (n : Int) 1) = k ∧ k < max n 1 := by
        obtain ⟨q1, q2⟩ := around_bd by_ (max (n : Int) 1) (by omega)
        exact ⟨(around by_ (max (n : Int) 1)).toNat, by omega, by omega⟩
      rw [hk]
      have z0 : wc.drew.cell? ⟨bx, 0, none⟩ = _ := z0
      have z1 : wc.drew.cell? ⟨bx, 1, none⟩ = _ := z1
      have z2 : wc.drew.cell? ⟨bx, 2, none⟩ = _ := z2
      have z3 : wc.drew.cell? ⟨bx, 3, none⟩ = _ := z3
      have ZF := Lib.hid (show ∀ o, wc.drew.frozen? ⟨bx, o, none⟩ = false from ZF.out)
      generalize wc.drew = w1 at *
      clear hn hk
      obtain ⟨t1, t2⟩ := tdiv_bd how 2 hh1 hh2 (by omega)
      obtain ⟨t3, t4⟩ := tdiv_bd by_ 2 hb1 hb2 (by omega)
      have hs1 := HBL.out.size
      go_upto_region 6 with fail
      go_cut [60] (fun s60 wx => s60 = .bool (decide (0 < n ∧ around how 2 = 0)) ∧ wx = w1)
      case first =>
        by_cases hn0 : 0 < n
        · have hn0' : (0 : Int) < (n : Int) := by omega
          go_wp2_with fail
          refine (around_any how 2 _ hh1 hh2 (by omega) (by omega)).mono ?_
          rintro e w4 ⟨rfl, rfl⟩
          by_cases hr : around how 2 = 0
          · rw [hr]
            go_wp2_with fail
            go_meet
            exact ⟨by rw [decide_eq_true ⟨hn0, hr⟩], rfl⟩
          · have hr' : (around how 2 == 0) = false := by simpa using hr
            generalize around how 2 = r2 at *
            go_wp2_with fail
            go_meet
            exact ⟨by rw [decide_eq_false (fun h => hr h.2)], rfl⟩
        · have hn0' : ¬ (0 : Int) < (n : Int) := by omega
          go_wp2_with fail
          go_meet
          exact ⟨by rw [decide_eq_false (fun h => hn0 h.1)], rfl⟩
      case rest =>
        obtain ⟨rfl, rfl⟩ := hcut
        by_cases hR : 0 < n ∧ around how 2 = 0
        · rw [decide_eq_true hR]
          go_wp2_with fail
          obtain ⟨g, cap, hva⟩ := ownsRow_some HNB.out.row (show 0 < us.length by omega)
          cases hva
          have hgl := (HNB.out.row.lt g rfl).2
          have hgn := (HNB.out.row.lt g rfl).1
          have hbxg : bx ≠ g := fun e => HNB.out.box.not_own HNB.out.row (by decide) (by rw [e]; rfl)
          obtain ⟨u, hu⟩ := elem_at (show k < us.length by omega)
          obtain ⟨kt, hkt⟩ := elem_at (show k < kids.length by rw [← HL.out]; omega)
          have hck := HNB.out.row.cellAt k (by omega)
          rw [hu] at hck
          obtain ⟨pu, rfl⟩ := (HT.out.2 k _ _ hu hkt).form
          have hku : k < us.length := by omega
          have hkui : (k : Int) < (us.length : Int) := by omega
          have hki0 : (0 : Int) ≤ (k : Int) := by omega
          have HT12 := Lib.hid (show IntKind.i64.wrap (how.tdiv 2) = how.tdiv 2 from IntWalk.i64_in _ (by omega))
          have HT34 := Lib.hid (show IntKind.i64.wrap (by_.tdiv 2) = by_.tdiv 2 from IntWalk.i64_in _ (by omega))
          have IHK := IH.out k _ _ hu hkt (smKs_mem _ _ HSM.out (List.mem_of_getElem? hkt)) (how.tdiv 2) (by_.tdiv 2) (wc.drewN 1) (HW0.out _ (HBL.out.trans ((Below.dn (Below.refl _ _) 1).mono HBL.out.size))) t1 t2 t3 t4
          go_wp2_with fail
          as_aux_lemma =>
            refine wp_region_E (fun W => W.cell? ⟨bx, 3, none⟩ = some (.slice (some ⟨g, 0, none⟩) us.length k2) ∧ W.cell? ⟨g, k, none⟩ = some (.pointer pu)) (by kernel_rfl) ?_
            have hdr : (wc).drew = { wc with drawn := (wc).drawn + 1 } := rfl
            rw [← hdr]
            clear hdr
            change wpAnyE _ _ _ _ _ _ _ _ ((wc).drewN 1)
            refine tm 0 61 rfl rfl (.pointer (some ⟨bx, 0, none⟩)) ⟨z3, hck⟩ ?_
            try simp only [pa, pl]
            refine tg 1 62 rfl rfl (.pointer (some ⟨bx, 0, none⟩)) ⟨z3, hck⟩ ?_
            try simp only [pa, pl]
            refine tg 2 63 rfl rfl (.pointer (some ⟨bx, 3, none⟩)) ⟨z3, hck⟩ ?_
            try simp only [pa, pl]
            refine tk 3 64 rfl rfl (.slice (some ⟨g, 0, none⟩) us.length k2) (fun W hW => by obtain ⟨c3, cu⟩ := hW; go_simp) ⟨z3, hck⟩ ?_
            try simp only [pa, pl]
            refine tm 4 65 rfl rfl (.int .i64 (k : Int)) ⟨z3, hck⟩ ?_
            try simp only [pa, pl]
            refine tm 5 66 rfl rfl (.pointer (some ⟨bx, 0, none⟩)) ⟨z3, hck⟩ ?_
            try simp only [pa, pl]
            refine tg 6 67 rfl rfl (.pointer (some ⟨bx, 0, none⟩)) ⟨z3, hck⟩ ?_
            try simp only [pa, pl]
            refine tg 7 68 rfl rfl (.pointer (some ⟨bx, 3, none⟩)) ⟨z3, hck⟩ ?_
            try simp only [pa, pl]
            refine tk 8 69 rfl rfl (.slice (some ⟨g, 0, none⟩) us.length k2) (fun W hW => by obtain ⟨c3, cu⟩ := hW; go_simp) ⟨z3, hck⟩ ?_
            try simp only [pa, pl]
            refine tm 9 70 rfl rfl (.int .i64 (k : Int)) ⟨z3, hck⟩ ?_
            try simp only [pa, pl]
            refine tg 10 71 rfl rfl (.pointer (some ⟨g, k, none⟩)) ⟨z3, hck⟩ ?_
            try simp only [pa, pl]
            refine tk 11 72 rfl rfl (.pointer pu) (fun W hW => by obtain ⟨c3, cu⟩ := hW; go_simp) ⟨z3, hck⟩ ?_
            try simp only [pa, pl]
            refine tm 12 73 rfl rfl (.int .i64 how) ⟨z3, hck⟩ ?_
            try simp only [pa, pl]
            refine tk 13 74 rfl rfl (.int .i64 (how.tdiv 2)) (fun _ _ => by go_simp <;> rw [HT12.out]) ⟨z3, hck⟩ ?_
            try simp only [pa, pl]
            refine tm 14 75 rfl rfl (.int .i64 by_) ⟨z3, hck⟩ ?_
            try simp only [pa, pl]
            refine tk 15 76 rfl rfl (.int .i64 (by_.tdiv 2)) (fun _ _ => by go_simp <;> rw [HT34.out]) ⟨z3, hck⟩ ?_
            try simp only [pa, pl]
            refine wpAnyEOne 16 (by kernel_rfl) ?_
            refine wpOpCall (some 77) 66 #[.pointer pu, .int .i64 (how.tdiv 2), .int .i64 (by_.tdiv 2)] rfl rfl rfl (by go_simp) (IHK) ?_
            rintro e w5 ⟨⟨pv, t2, rfl, hpt, hok⟩, hb9⟩
            obtain ⟨pp, rfl⟩ := hpt.form
            have hb59 := (Below.dn (Below.refl wc.heap.size wc) 1).trans (hb9.mono (Nat.le_refl _))
            have hNB8 := HNB.out.under hb59
            have z5 := hNB8.box.cell 3
            have hck5 := hNB8.row.cellAt k (by omega)
            rw [hu] at hck5
            have q5 := hNB8.row.frozenAt k
            have ql5 := (hNB8.row.lt g rfl).2
            simp only [List.getElem?_toArray, List.getElem?_cons_zero, List.getElem?_cons_succ] at z5
            refine ⟨_, rfl, ?_⟩
            refine ⟨.inl (⟨z5, hck5⟩), ?_⟩
            try simp only [pa, pl]
            refine tg 17 78 rfl rfl (.pointer (some ⟨g, k, none⟩)) ⟨z5, hck5⟩ ?_
            try simp only [pa, pl]
            refine wpAnyEOne 18 (by kernel_rfl) ?_
            refine wpOpSkip (w' := w5.setCell ⟨g, k, none⟩ (.pointer pp)) 18 rfl rfl rfl (by go_simp <;> rfl) ?_
            refine ⟨.inr (allUp_of (by kernel_rfl)), ?_⟩
            try simp only [pa, pl]
            refine wpAnyE_done (by kernel_rfl) ?_ _
            have hw0 := HB.out.size
            have hws := HBL.out.size
            have hu2 := hpt.mono (G := fun i => ((F i ∧ i < W0.heap.size) ∨ w.heap.size ≤ i) ∧ i ≠ bx ∧ (Value.slice a1 ans.length k1).ownBlock ≠ some i ∧ i ≠ g) fun i _ hF => by
              have hbl := HNB.out.box.lt
              have hbb := HNB.out.hb
              rcases hF with ⟨hF, hlt0⟩ | hF
              · exact ⟨.inl ⟨hF, hlt0⟩, by omega, fun he => by have := (HNB.out.an.lt i he).1; omega, by omega⟩
              · have hF' : wc.heap.size ≤ i := hF
                exact ⟨.inr (by omega), by omega, fun he => by have := (HNB.out.an.lt i he).2; omega, by omega⟩
            have hNB9 := hNB8.putK k hu2
            have hBL9 := (HBL.out.trans (hb59.mono HBL.out.size)).setCell (p := ⟨g, k, none⟩) hgn (.pointer pp)
            clear hpt hb9 hb59 z5 hck5 q5 ql5 hNB8
            go_wp2_with fail
            go_ret
            refine bent_leaf hNB9 hBL9 ?_
            have h1 := szTs_set kids k kt t2 hkt; have h2 := wdTs_set kids k t2; have h3 := depTs_set kids k t2
            have hm := List.mem_of_getElem? hkt
            have h4 := szT_mem kids kt hm; have h5 := wdTs_mem kids kt hm; have h6 := depTs_mem kids kt hm
            have h7 := hok.d; have h8 := hok.s; have h9 := hok.w
            exact ⟨by simp only [depT]; omega, by simp only [szT, List.length_set]; omega, by simp only [wdT, List.length_set]; omega, .kid hkt hok.r⟩
        · rw [decide_eq_false hR]
          go_wp2_with fail
          refine (around_any (how.tdiv 2) 8 _ t1 t2 (by omega) (by omega)).mono ?_
          rintro e w4 ⟨rfl, rfl⟩
          obtain ⟨x1, x2⟩ := around_bd (how.tdiv 2) 8 (by omega)
          generalize around (how.tdiv 2) 8 = x at *
          rcases (show x = 0 ∨ x = 1 ∨ x = 2 ∨ x = 3 ∨ x = 4 ∨ x = 5 ∨ x = 6 ∨ x = 7 by omega) with rfl | rfl | rfl | rfl | rfl | rfl | rfl | rfl
          · go_wp2_with fail
            refine (around_any by_ 8 _ hb1 hb2 (by omega) (by omega)).mono ?_
            rintro e w4 ⟨rfl, rfl⟩
            generalize around by_ 8 = y
            have zf0 := ZF.out 0
            go_wp2_with fail
            go_ret
            exact bent_leaf (HNB.out.setA _) (HBL.out.setCell (p := ⟨bx, 0, none⟩) HNB.out.hb _) (bentOk_ans (by omega))
          · go_wp2_with fail
            refine (around_any by_ 67 _ hb1 hb2 (by omega) (by omega)).mono ?_
            rintro e w4 ⟨rfl, rfl⟩
            generalize around by_ 67 = y
            have zf0 := ZF.out 1
            go_wp2_with fail
            go_ret
            exact bent_leaf (HNB.out.setC _) (HBL.out.setCell (p := ⟨bx, 1, none⟩) HNB.out.hb _) (bentOk_ans (by omega))
          · by_cases hn0 : 0 < n
            · have hn0' : (0 : Int) < (n : Int) := by omega
              obtain ⟨g, cap, hva⟩ := ownsRow_some HNB.out.an (show 0 < ans.length by omega)
              cases hva
              obtain ⟨y, hy⟩ := elem_at (show k < ans.length by omega)
              have hca := HNB.out.an.cellAt k (by omega)
              rw [show (ints ans)[k]? = some (.int .i64 y) by simp [ints, hy]] at hca
              have hfa := HNB.out.an.frozenAt k
              have hgl := (HNB.out.an.lt g rfl).2
              have hgn := (HNB.out.an.lt g rfl).1
              have hbxg : bx ≠ g := fun e => HNB.out.box.not_own HNB.out.an (by decide) (by rw [e]; rfl)
              have hka : k < ans.length := by omega
              have hkai : (k : Int) < (ans.length : Int) := by omega
              have hki0 : (0 : Int) ≤ (k : Int) := by omega
              clear hy
              go_wp2_with fail
              as_aux_lemma =>
                refine wp_region_E (fun W => W.cell? ⟨bx, 2, none⟩ = some (.slice (some ⟨g, 0, none⟩) ans.length k1) ∧ W.cell? ⟨g, k, none⟩ = some (.int .i64 y)) (by kernel_rfl) ?_
                have hdr : (wc).drew = { wc with drawn := (wc).drawn + 1 } := rfl
                rw [← hdr]
                clear hdr
                change wpAnyE _ _ _ _ _ _ _ _ ((wc).drewN 1)
                refine tm 0 112 rfl rfl (.pointer (some ⟨bx, 0, none⟩)) ⟨z2, hca⟩ ?_
                try simp only [pa, pl]
                refine tg 1 113 rfl rfl (.pointer (some ⟨bx, 0, none⟩)) ⟨z2, hca⟩ ?_
                try simp only [pa, pl]
                refine tg 2 114 rfl rfl (.pointer (some ⟨bx, 2, none⟩)) ⟨z2, hca⟩ ?_
                try simp only [pa, pl]
                refine tk 3 115 rfl rfl (.slice (some ⟨g, 0, none⟩) ans.length k1) (fun W hW => by obtain ⟨c2, cy⟩ := hW; go_simp) ⟨z2, hca⟩ ?_
                try simp only [pa, pl]
                refine tm 4 116 rfl rfl (.int .i64 (k : Int)) ⟨z2, hca⟩ ?_
                try simp only [pa, pl]
                refine tm 5 117 rfl rfl (.pointer (some ⟨bx, 0, none⟩)) ⟨z2, hca⟩ ?_
                try simp only [pa, pl]
                refine tg 6 118 rfl rfl (.pointer (some ⟨bx, 0, none⟩)) ⟨z2, hca⟩ ?_
                try simp only [pa, pl]
                refine tg 7 119 rfl rfl (.pointer (some ⟨bx, 2, none⟩)) ⟨z2, hca⟩ ?_
                try simp only [pa, pl]
                refine tk 8 120 rfl rfl (.slice (some ⟨g, 0, none⟩) ans.length k1) (fun W hW => by obtain ⟨c2, cy⟩ := hW; go_simp) ⟨z2, hca⟩ ?_
                try simp only [pa, pl]
                refine tm 9 121 rfl rfl (.int .i64 (k : Int)) ⟨z2, hca⟩ ?_
                try simp only [pa, pl]
                refine tg 10 122 rfl rfl (.pointer (some ⟨g, k, none⟩)) ⟨z2, hca⟩ ?_
                try simp only [pa, pl]
                refine tk 11 123 rfl rfl (.int .i64 y) (fun W hW => by obtain ⟨c2, cy⟩ := hW; go_simp) ⟨z2, hca⟩ ?_
                try simp only [pa, pl]
                refine tm 12 124 rfl rfl (.int .i64 by_) ⟨z2, hca⟩ ?_
                try simp only [pa, pl]
                refine wpAnyEOne 13 (by kernel_rfl) ?_
                refine wpOpCall (some 125) 22 #[.int .i64 by_, .int .i64 3] rfl rfl rfl (by go_simp) (around_any by_ 3 _ hb1 hb2 (by omega) (by omega)) ?_
                rintro e w4 ⟨rfl, rfl⟩
                generalize around by_ 3 = q
                refine ⟨_, rfl, ?_⟩
                refine ⟨.inl (⟨z2, hca⟩), ?_⟩
                try simp only [pa, pl]
                refine tg 14 126 rfl rfl (.int .i64 (IntKind.i64.wrap (y + q))) ⟨z2, hca⟩ ?_
                try simp only [pa, pl]
                refine tg 15 127 rfl rfl (.int .i64 (IntKind.i64.wrap (IntKind.i64.wrap (y + q) - 1))) ⟨z2, hca⟩ ?_
                try simp only [pa, pl]
                refine tg 16 128 rfl rfl (.pointer (some ⟨g, k, none⟩)) ⟨z2, hca⟩ ?_
                try simp only [pa, pl]
                refine wpAnyEOne 17 (by kernel_rfl) ?_
                refine wpOpSkip (w' := (wc.drewN 1).setCell ⟨g, k, none⟩ (.int .i64 (IntKind.i64.wrap (IntKind.i64.wrap (y + q) - 1)))) 17 rfl rfl rfl (by go_simp <;> rfl) ?_
                refine ⟨.inr (allUp_of (by kernel_rfl)), ?_⟩
                try simp only [pa, pl]
                refine wpAnyE_done (by kernel_rfl) ?_ _
                go_wp2_with fail
                go_ret
                exact bent_leaf ((HNB.out.under (Below.dn (Below.refl _ _) 1)).putA k _) ((HBL.out.trans ((Below.dn (Below.refl _ _) 1).mono HBL.out.size)).setCell (p := ⟨g, k, none⟩) hgn _) (bentOk_ans (by simp))
            · have hn0' : ¬ (0 : Int) < (n : Int) := by omega
              go_wp2_with fail
              go_ret
              exact bent_leaf HNB.out HBL.out (bentOk_ans (by omega))
          · go_wp2_with fail
            as_aux_lemma =>
              refine wp_region_E (fun W => W.cell? ⟨bx, 2, none⟩ = some (.slice a1 ans.length k1)) (by kernel_rfl) ?_
              have hdr : (wc).drew = { wc with drawn := (wc).drawn + 1 } := rfl
              rw [← hdr]
              clear hdr
              change wpAnyE _ _ _ _ _ _ _ _ ((wc).drewN 1)
              refine tm 0 131 rfl rfl (.pointer (some ⟨bx, 0, none⟩)) z2 ?_
              try simp only [pa, pl]
              refine tm 1 132 rfl rfl (.pointer (some ⟨bx, 0, none⟩)) z2 ?_
              try simp only [pa, pl]
              refine tg 2 133 rfl rfl (.pointer (some ⟨bx, 0, none⟩)) z2 ?_
              try simp only [pa, pl]
              refine tg 3 134 rfl rfl (.pointer (some ⟨bx, 2, none⟩)) z2 ?_
              try simp only [pa, pl]
              refine tk 4 135 rfl rfl (.slice a1 ans.length k1) (fun W hW => by obtain c2 := hW; go_simp) z2 ?_
              try simp only [pa, pl]
              refine tm 5 136 rfl rfl (.int .i64 by_) z2 ?_
              try simp only [pa, pl]
              refine wpAnyEOne 6 (by kernel_rfl) ?_
              refine wpOpCall (some 137) 22 #[.int .i64 by_, .int .i64 4] rfl rfl rfl (by go_simp) (around_any by_ 4 _ hb1 hb2 (by omega) (by omega)) ?_
              rintro e w4 ⟨rfl, rfl⟩
              have hqb := around_bd by_ 4 (by omega)
              generalize around by_ 4 = q at *
              refine ⟨_, rfl, ?_⟩
              refine ⟨.inl (z2), ?_⟩
              try simp only [pa, pl]
              refine wpAnyEOne 7 (by kernel_rfl) ?_
              refine wpOpRun' (v := .slice (some ⟨wc.heap.size, 0, none⟩) 1 1) (w' := ((wc.drewN 1).alloc (.cells #[.int .i64 q] 3))) (some 138) rfl rfl rfl (by go_simp <;> rfl) ?_
              have hb8 := (Below.dn (Below.refl wc.heap.size wc) 1).trans ((alloc_below (wc.drewN 1) (.cells #[.int .i64 q] 3)).mono (Nat.le_refl _))
              have hNB8 := HNB.out.under hb8
              have z8 := hNB8.box.cell 2
              simp only [List.getElem?_toArray, List.getElem?_cons_zero, List.getElem?_cons_succ] at z8
              refine ⟨.inl (z8), ?_⟩
              try simp only [pa, pl]
              refine wpAnyEOne 8 (by kernel_rfl) ?_
              refine wpOpAppI 8 (some 139) rfl rfl rfl (.tmp 135) (.tmp 138) rfl (.slice a1 ans.length k1) (ans) rfl (hNB8.an) (.slice (some ⟨wc.heap.size, 0, none⟩) 1 1) ([q]) rfl (Rd_fresh (wc.drewN 1) 3 #[.int .i64 q] 1 rfl (by omega)) (by simp only [List.length_cons, List.length_nil]; omega) (hNB8.sz) fun v9 w9 happ => ?_
              obtain ⟨a9, k9, rfl⟩ := happ.form
              have hbx9 := Boxs.app hNB8.box hNB8.an happ (by decide)
              have z9 := hbx9.cell 2
              have zf9 := hbx9.frozen 2
              have zl9 := hbx9.lt
              simp only [List.getElem?_toArray, List.getElem?_cons_zero, List.getElem?_cons_succ] at z9
              refine ⟨.inl (z9), ?_⟩
              try simp only [pa, pl]
              refine tg 9 140 rfl rfl (.pointer (some ⟨bx, 0, none⟩)) z9 ?_
              try simp only [pa, pl]
              refine tg 10 141 rfl rfl (.pointer (some ⟨bx, 2, none⟩)) z9 ?_
              try simp only [pa, pl]
              refine wpAnyEOne 11 (by kernel_rfl) ?_
              refine wpOpSkip (w' := w9.setCell ⟨bx, 2, none⟩ (.slice a9 (ans.length + [q].length) k9)) 11 rfl rfl rfl (by go_simp <;> rfl) ?_
              refine ⟨.inr (allUp_of (by kernel_rfl)), ?_⟩
              try simp only [pa, pl]
              refine wpAnyE_done (by kernel_rfl) ?_ _
              have happ' : AppOut w.heap.size 3 ((wc.drewN 1).alloc (.cells #[.int .i64 q] 3)) (.slice a1 ans.length k1) (ans ++ [q]).length (ints (ans ++ [q])) (.slice a9 (ans.length + [q].length) k9) w9 := by simpa using happ
              have hNB9 := hNB8.newA hNB8.an rfl happ'
              have hBL9 := (happ.below (HBL.out.trans (hb8.mono HBL.out.size)) hNB8.an (Nat.le_refl _) hNB8.sz).setCell (p := ⟨bx, 2, none⟩) HNB.out.hb (.slice a9 (ans.length + [q].length) k9)
              clear happ happ' hbx9 z9 zf9 zl9 z8 hNB8 hb8
              go_wp2_with fail
              go_ret
              exact bent_leaf hNB9 hBL9 (bentOk_ans (by simp))
          · go_wp2_with fail
            as_aux_lemma =>
              refine wp_region_E (fun W => W.cell? ⟨bx, 2, none⟩ = some (.slice a1 ans.length k1)) (by kernel_rfl) ?_
              have hdr : (wc).drew = { wc with drawn := (wc).drawn + 1 } := rfl
              rw [← hdr]
              clear hdr
              change wpAnyE _ _ _ _ _ _ _ _ ((wc).drewN 1)
              refine tm 0 144 rfl rfl (.pointer (some ⟨bx, 0, none⟩)) z2 ?_
              try simp only [pa, pl]
              refine tm 1 145 rfl rfl (.pointer (some ⟨bx, 0, none⟩)) z2 ?_
              try simp only [pa, pl]
              refine tg 2 146 rfl rfl (.pointer (some ⟨bx, 0, none⟩)) z2 ?_
              try simp only [pa, pl]
              refine tg 3 147 rfl rfl (.pointer (some ⟨bx, 2, none⟩)) z2 ?_
              try simp only [pa, pl]
              refine tk 4 148 rfl rfl (.slice a1 ans.length k1) (fun W hW => by obtain c2 := hW; go_simp) z2 ?_
              try simp only [pa, pl]
              refine tm 5 149 rfl rfl (.int .i64 by_) z2 ?_
              try simp only [pa, pl]
              refine wpAnyEOne 6 (by kernel_rfl) ?_
              refine wpOpCall (some 150) 22 #[.int .i64 by_, .int .i64 9] rfl rfl rfl (by go_simp) (around_any by_ 9 _ hb1 hb2 (by omega) (by omega)) ?_
              rintro e w4 ⟨rfl, rfl⟩
              have hqb := around_bd by_ 9 (by omega)
              generalize around by_ 9 = q at *
              refine ⟨_, rfl, ?_⟩
              refine ⟨.inl (z2), ?_⟩
              try simp only [pa, pl]
              have HW3 := Lib.hid (show IntKind.i64.wrap (3 + q) = 3 + q from IntWalk.i64_in _ (by omega))
              refine tk 7 151 rfl rfl (.int .i64 (3 + q)) (fun _ _ => by go_simp <;> rw [HW3.out]) z2 ?_
              try simp only [pa, pl]
              refine wpAnyEOne 8 (by kernel_rfl) ?_
              refine wpOpRun' (v := .slice (some ⟨wc.heap.size, 0, none⟩) 1 1) (w' := ((wc.drewN 1).alloc (.cells #[.int .i64 (3 + q)] 3))) (some 152) rfl rfl rfl (by go_simp <;> rfl) ?_
              have hb8 := (Below.dn (Below.refl wc.heap.size wc) 1).trans ((alloc_below (wc.drewN 1) (.cells #[.int .i64 (3 + q)] 3)).mono (Nat.le_refl _))
              have hNB8 := HNB.out.under hb8
              have z8 := hNB8.box.cell 2
              simp only [List.getElem?_toArray, List.getElem?_cons_zero, List.getElem?_cons_succ] at z8
              refine ⟨.inl (z8), ?_⟩
              try simp only [pa, pl]
              refine wpAnyEOne 9 (by kernel_rfl) ?_
              refine wpOpAppI 9 (some 153) rfl rfl rfl (.tmp 148) (.tmp 152) rfl (.slice a1 ans.length k1) (ans) rfl (hNB8.an) (.slice (some ⟨wc.heap.size, 0, none⟩) 1 1) ([(3 + q)]) rfl (Rd_fresh (wc.drewN 1) 3 #[.int .i64 (3 + q)] 1 rfl (by omega)) (by simp only [List.length_cons, List.length_nil]; omega) (hNB8.sz) fun v9 w9 happ => ?_
              obtain ⟨a9, k9, rfl⟩ := happ.form
              have hbx9 := Boxs.app hNB8.box hNB8.an happ (by decide)
              have z9 := hbx9.cell 2
              have zf9 := hbx9.frozen 2
              have zl9 := hbx9.lt
              simp only [List.getElem?_toArray, List.getElem?_cons_zero, List.getElem?_cons_succ] at z9
              refine ⟨.inl (z9), ?_⟩
              try simp only [pa, pl]
              refine tg 10 154 rfl rfl (.pointer (some ⟨bx, 0, none⟩)) z9 ?_
              try simp only [pa, pl]
              refine tg 11 155 rfl rfl (.pointer (some ⟨bx, 2, none⟩)) z9 ?_
              try simp only [pa, pl]
              refine wpAnyEOne 12 (by kernel_rfl) ?_
              refine wpOpSkip (w' := w9.setCell ⟨bx, 2, none⟩ (.slice a9 (ans.length + [(3 + q)].length) k9)) 12 rfl rfl rfl (by go_simp <;> rfl) ?_
              refine ⟨.inr (allUp_of (by kernel_rfl)), ?_⟩
              try simp only [pa, pl]
              refine wpAnyE_done (by kernel_rfl) ?_ _
              have happ' : AppOut w.heap.size 3 ((wc.drewN 1).alloc (.cells #[.int .i64 (3 + q)] 3)) (.slice a1 ans.length k1) (ans ++ [(3 + q)]).length (ints (ans ++ [(3 + q)])) (.slice a9 (ans.length + [(3 + q)].length) k9) w9 := by simpa using happ
              have hNB9 := hNB8.newA hNB8.an rfl happ'
              have hBL9 := (happ.below (HBL.out.trans (hb8.mono HBL.out.size)) hNB8.an (Nat.le_refl _) hNB8.sz).setCell (p := ⟨bx, 2, none⟩) HNB.out.hb (.slice a9 (ans.length + [(3 + q)].length) k9)
              clear happ happ' hbx9 z9 zf9 zl9 z8 hNB8 hb8
              have HNB9 := Lib.hid hNB9; have HBL9 := Lib.hid hBL9
              clear hNB9 hBL9 z0 z1 z2 z3 HNB HBL ZF
              generalize w9.setCell ⟨bx, 2, none⟩ (.slice a9 (ans.length + [(3 + q)].length) k9) = wd at *
              have z3 := HNB9.out.box.cell 3
              simp only [List.getElem?_toArray, List.getElem?_cons_zero, List.getElem?_cons_succ] at z3
              go_wp2_with fail
              refine wp_region_E (fun W => W.cell? ⟨bx, 3, none⟩ = some (.slice a2 us.length k2)) (by kernel_rfl) ?_
              have hdr : (wd).drew = { wd with drawn := (wd).drawn + 1 } := rfl
              rw [← hdr]
              clear hdr
              change wpAnyE _ _ _ _ _ _ _ _ ((wd).drewN 1)
              refine tm 0 156 rfl rfl (.pointer (some ⟨bx, 0, none⟩)) z3 ?_
              try simp only [pa, pl]
              refine tm 1 157 rfl rfl (.pointer (some ⟨bx, 0, none⟩)) z3 ?_
              try simp only [pa, pl]
              refine tg 2 158 rfl rfl (.pointer (some ⟨bx, 0, none⟩)) z3 ?_
              try simp only [pa, pl]
              refine tg 3 159 rfl rfl (.pointer (some ⟨bx, 3, none⟩)) z3 ?_
              try simp only [pa, pl]
              refine tk 4 160 rfl rfl (.slice a2 us.length k2) (fun W hW => by obtain c3 := hW; go_simp) z3 ?_
              try simp only [pa, pl]
              refine tm 5 161 rfl rfl (.int .i64 by_) z3 ?_
              try simp only [pa, pl]
              refine wpAnyEOne 6 (by kernel_rfl) ?_
              refine wpOpCall (some 162) 22 #[.int .i64 by_, .int .i64 5] rfl rfl rfl (by go_simp) (around_any by_ 5 _ hb1 hb2 (by omega) (by omega)) ?_
              rintro e w4 ⟨rfl, rfl⟩
              generalize around by_ 5 = p
              refine ⟨_, rfl, ?_⟩
              refine ⟨.inl (z3), ?_⟩
              try simp only [pa, pl]
              refine tg 7 163 rfl rfl (.agg #[.int .i64 (-1), .int .i64 p, .slice none 0 0, .slice none 0 0]) z3 ?_
              try simp only [pa, pl]
              refine wpAnyEOne 8 (by kernel_rfl) ?_
              refine wpOpRun' (v := .pointer (some ⟨wd.heap.size, 0, none⟩)) (w' := ((wd.drewN 1).alloc (.cells #[.int .i64 (-1), .int .i64 p, .slice none 0 0, .slice none 0 0] 105))) (some 164) rfl rfl rfl (by go_simp <;> rfl) ?_
              have hb8 := (Below.dn (Below.refl wd.heap.size wd) 1).trans ((alloc_below (wd.drewN 1) (.cells #[.int .i64 (-1), .int .i64 p, .slice none 0 0, .slice none 0 0] 105)).mono (Nat.le_refl _))
              have hNB8 := HNB9.out.under hb8
              have hbn : Boxs ((wd.drewN 1).alloc (.cells #[.int .i64 (-1), .int .i64 p, .slice none 0 0, .slice none 0 0] 105)) wd.heap.size 105 #[.int .i64 (-1), .int .i64 p, .slice none 0 0, .slice none 0 0] := Boxs.new _ _ _
              have z8 := hNB8.box.cell 3
              simp only [List.getElem?_toArray, List.getElem?_cons_zero, List.getElem?_cons_succ] at z8
              refine ⟨.inl (z8), ?_⟩
              try simp only [pa, pl]
              refine wpAnyEOne 9 (by kernel_rfl) ?_
              refine wpOpRun' (v := .slice (some ⟨wd.heap.size + 1, 0, none⟩) 1 1) (w' := (((wd.drewN 1).alloc (.cells #[.int .i64 (-1), .int .i64 p, .slice none 0 0, .slice none 0 0] 105)).alloc (.cells #[.pointer (some ⟨wd.heap.size, 0, none⟩)] 48))) (some 165) rfl rfl rfl (by go_simp <;> rfl) ?_
              have hb9 := alloc_below ((wd.drewN 1).alloc (.cells #[.int .i64 (-1), .int .i64 p, .slice none 0 0, .slice none 0 0] 105)) (.cells #[.pointer (some ⟨wd.heap.size, 0, none⟩)] 48)
              have hNB10 := hNB8.under hb9
              have hbn := Boxs.below hbn hb9
              have hrd : Rd (((wd.drewN 1).alloc (.cells #[.int .i64 (-1), .int .i64 p, .slice none 0 0, .slice none 0 0] 105)).alloc (.cells #[.pointer (some ⟨wd.heap.size, 0, none⟩)] 48)) (.slice (some ⟨wd.heap.size + 1, 0, none⟩) 1 1) [.pointer (some ⟨wd.heap.size, 0, none⟩)] := by
                have := Rd_fresh ((wd.drewN 1).alloc (.cells #[.int .i64 (-1), .int .i64 p, .slice none 0 0, .slice none 0 0] 105)) 48 #[.pointer (some ⟨wd.heap.size, 0, none⟩)] 1 rfl (by omega)
                rwa [World.size_alloc] at this
              have hT10 := hNB10.trees.snoc (u := .pointer (some ⟨wd.heap.size, 0, none⟩)) (t := .node (-1) p [] []) (TreeIn.of (ans := []) (kids := []) (us := []) ⟨HNB9.out.gn _ HNB9.out.sz, by have := HNB9.out.box.lt; omega, fun he => by have := (HNB9.out.an.lt _ he).2; omega, fun he => by have := (HNB9.out.row.lt _ he).2; omega⟩ hbn (RdIn.nil _ _) (RdIn.nil _ _) (Trees.nil _ _ _))
              have z10 := hNB10.box.cell 3
              simp only [List.getElem?_toArray, List.getElem?_cons_zero, List.getElem?_cons_succ] at z10
              refine ⟨.inl (z10), ?_⟩
              try simp only [pa, pl]
              refine wpAnyEOne 10 (by kernel_rfl) ?_
              refine wpOpAppU (base := w.heap.size) 10 (some 166) rfl rfl rfl (.tmp 160) (.tmp 165) rfl (.slice a2 us.length k2) us.length us rfl hNB10.row (.slice (some ⟨wd.heap.size + 1, 0, none⟩) 1 1) [.pointer (some ⟨wd.heap.size, 0, none⟩)] rfl hrd (by intro u hu; rw [List.mem_singleton.1 hu]; rfl) (by simp only [List.length_cons, List.length_nil]; omega) hNB10.sz fun v11 w11 happ => ?_
              obtain ⟨a11, k11, rfl⟩ := happ.form
              have hbx11 := Boxs.app hNB10.box hNB10.row happ (by decide)
              have z11 := hbx11.cell 3
              have zf11 := hbx11.frozen 3
              have zl11 := hbx11.lt
              simp only [List.getElem?_toArray, List.getElem?_cons_zero, List.getElem?_cons_succ] at z11
              refine ⟨.inl (z11), ?_⟩
              try simp only [pa, pl]
              refine tg 11 167 rfl rfl (.pointer (some ⟨bx, 0, none⟩)) z11 ?_
              try simp only [pa, pl]
              refine tg 12 168 rfl rfl (.pointer (some ⟨bx, 3, none⟩)) z11 ?_
              try simp only [pa, pl]
              refine wpAnyEOne 13 (by kernel_rfl) ?_
              refine wpOpSkip (w' := w11.setCell ⟨bx, 3, none⟩ (.slice a11 (us.length + [Value.pointer (some ⟨wd.heap.size, 0, none⟩)].length) k11)) 13 rfl rfl rfl (by go_simp <;> rfl) ?_
              refine ⟨.inr (allUp_of (by kernel_rfl)), ?_⟩
              try simp only [pa, pl]
              refine wpAnyE_done (by kernel_rfl) ?_ _
              have happ' : AppOut w.heap.size 48 (((wd.drewN 1).alloc (.cells #[.int .i64 (-1), .int .i64 p, .slice none 0 0, .slice none 0 0] 105)).alloc (.cells #[.pointer (some ⟨wd.heap.size, 0, none⟩)] 48)) (.slice a2 us.length k2) (us ++ [Value.pointer (some ⟨wd.heap.size, 0, none⟩)]).length (us ++ [Value.pointer (some ⟨wd.heap.size, 0, none⟩)]) (.slice a11 (us.length + [Value.pointer (some ⟨wd.heap.size, 0, none⟩)].length) k11) w11 := by simpa using happ
              have hNB11 := hNB10.newK hNB10.row rfl hT10 happ'
              have hb10 := hb8.trans (hb9.mono hb8.size)
              have hBL11 := (happ.below (HBL9.out.trans (hb10.mono HBL9.out.size)) hNB10.row (Nat.le_refl _) hNB10.sz).setCell (p := ⟨bx, 3, none⟩) HNB9.out.hb (.slice a11 (us.length + [Value.pointer (some ⟨wd.heap.size, 0, none⟩)].length) k11)
              clear happ happ' hbx11 z11 zf11 zl11 z8 z10 hNB8 hb8 hb9 hb10 hrd hbn hT10 hNB10
              go_wp2_with fail
              go_ret
              exact bent_leaf hNB11 hBL11 ⟨by simp [depT, depTs_app, depTs]; omega, by simp [szT, szTs_app, szTs]; omega, by simp [wdT, wdTs_app, wdTs]; omega, .small (by simp [wtTs_app, wtTs, wtT]; omega)⟩
          · by_cases hn0 : 0 < n
            · have hn0' : (0 : Int) < (n : Int) := by omega
              obtain ⟨g, cap, hva⟩ := ownsRow_some HNB.out.row (show 0 < us.length by omega)
              cases hva
              have hgl := (HNB.out.row.lt g rfl).2
              have hgn := (HNB.out.row.lt g rfl).1
              have hbxg : bx ≠ g := fun e => HNB.out.box.not_own HNB.out.row (by decide) (by rw [e]; rfl)
              obtain ⟨kt, hkt⟩ := elem_at (show k < kids.length by rw [← HL.out]; omega)
              have hfa := HNB.out.row.frozenAt k
              have hku : k < us.length := by omega
              have hkui : (k : Int) < (us.length : Int) := by omega
              have hki0 : (0 : Int) ≤ (k : Int) := by omega
              obtain ⟨uk, huk⟩ := elem_at hku
              have hck := HNB.out.row.cellAt k (by omega)
              rw [huk] at hck
              clear huk
              go_wp2_with fail
              go_ret
              refine bent_leaf (HNB.out.putK k TreeIn.nil) (HBL.out.setCell (p := ⟨g, k, none⟩) hgn _) ?_
              have h1 := szTs_set kids k kt .nil hkt; have h2 := wdTs_set kids k .nil; have h3 := depTs_set kids k .nil
              simp only [szT, wdT, depT] at h1 h2 h3
              exact ⟨by simp only [depT]; omega, by simp only [szT, List.length_set]; omega, by simp only [wdT, List.length_set]; omega, .small (by have h9 := wtTs_set kids k kt .nil hkt; simp only [wtT] at h9; omega)⟩
            · have hn0' : ¬ (0 : Int) < (n : Int) := by omega
              go_wp2_with fail
              go_ret
              exact bent_leaf HNB.out HBL.out (bentOk_ans (by omega))
          · by_cases hn0 : 0 < n
            · have hn0' : (0 : Int) < (n : Int) := by omega
              as_aux_lemma =>
                obtain ⟨g, cap, hva⟩ := ownsRow_some HNB.out.an (show 0 < ans.length by omega)
                cases hva
                have hck1 := owns_cap HNB.out.an
                have hka : k < ans.length := by omega
                have hku : k < us.length := by omega
                have hki0 : (0 : Int) ≤ (k : Int) := by omega
                have hki1 : (0 : Int) ≤ (k : Int) + 1 := by omega
                have hkal : (k : Int) + 1 ≤ (ans.length : Int) := by omega
                have hkan : ¬ (ans.length : Int) < (k : Int) + 1 := by omega
                have hkul : (k : Int) + 1 ≤ (us.length : Int) := by omega
                have hkun : ¬ (us.length : Int) < (k : Int) + 1 := by omega
                have HWK := Lib.hid (show IntKind.i64.wrap ((k : Int) + 1) = (k : Int) + 1 from IntWalk.i64_in _ (by omega))
                have hkc1 : k ≤ k1 := by omega
                have hkn1 : ¬ k1 < k := by omega
                go_wp2_with fail
                refine wp_region_E (fun W => W.cell? ⟨bx, 2, none⟩ = some (.slice (some ⟨g, 0, none⟩) ans.length k1)) (by kernel_rfl) ?_
                have hdr : (wc).drew = { wc with drawn := (wc).drawn + 1 } := rfl
                rw [← hdr]
                clear hdr
                change wpAnyE _ _ _ _ _ _ _ _ ((wc).drewN 1)
                refine tm 0 183 rfl rfl (.pointer (some ⟨bx, 0, none⟩)) z2 ?_
                try simp only [pa, pl]
                refine tm 1 184 rfl rfl (.pointer (some ⟨bx, 0, none⟩)) z2 ?_
                try simp only [pa, pl]
                refine tg 2 185 rfl rfl (.pointer (some ⟨bx, 0, none⟩)) z2 ?_
                try simp only [pa, pl]
                refine tg 3 186 rfl rfl (.pointer (some ⟨bx, 2, none⟩)) z2 ?_
                try simp only [pa, pl]
                refine tk 4 187 rfl rfl (.slice (some ⟨g, 0, none⟩) ans.length k1) (fun W hW => by obtain c2 := hW; go_simp) z2 ?_
                try simp only [pa, pl]
                refine tm 5 188 rfl rfl (.int .i64 (k : Int)) z2 ?_
                try simp only [pa, pl]
                refine tg 6 189 rfl rfl (.slice (some ⟨g, 0, none⟩) k k1) z2 ?_
                try simp only [pa, pl]
                refine tm 7 190 rfl rfl (.pointer (some ⟨bx, 0, none⟩)) z2 ?_
                try simp only [pa, pl]
                refine tg 8 191 rfl rfl (.pointer (some ⟨bx, 0, none⟩)) z2 ?_
                try simp only [pa, pl]
                refine tg 9 192 rfl rfl (.pointer (some ⟨bx, 2, none⟩)) z2 ?_
                try simp only [pa, pl]
                refine tk 10 193 rfl rfl (.slice (some ⟨g, 0, none⟩) ans.length k1) (fun W hW => by obtain c2 := hW; go_simp) z2 ?_
                try simp only [pa, pl]
                refine tm 11 194 rfl rfl (.int .i64 (k : Int)) z2 ?_
                try simp only [pa, pl]
                refine tk 12 195 rfl rfl (.int .i64 ((k : Int) + 1)) (fun _ _ => by go_simp <;> rw [HWK.out]) z2 ?_
                try simp only [pa, pl]
                refine tg 13 196 rfl rfl (.slice (if k1 = k + 1 then some ⟨g, 0, none⟩ else some ⟨g, k + 1, none⟩) (ans.length - (k + 1)) (k1 - (k + 1))) z2 ?_
                try simp only [pa, pl]
                obtain ⟨zz, hzz⟩ : ∃ z, (if k1 = k + 1 then some (⟨g, 0, none⟩ : Addr) else some ⟨g, k + 1, none⟩) = z := ⟨_, rfl⟩
                have hdn := Below.dn (Below.refl wc.heap.size wc) 1
                have hNB8 := HNB.out.under hdn
                have hown8 := owns_take hNB8.an k (by omega) (by simp)
                rw [show (ints ans).take k = ints (ans.take k) by simp [ints, List.map_take]] at hown8
                have hown9 : (wc.drewN 1).ownsRow w.heap.size 3 1 (.slice (some ⟨g, 0, none⟩) k k1) (ans.take k).length (ints (ans.take k)) := by rw [show (ans.take k).length = k by simp; omega]; exact hown8
                have hrd8 := (owns_ints hNB8.an).dropA (k := k + 1) (by omega)
                have hkk : (ans.take k).length = k := by simp; omega
                simp only [Nat.zero_add] at hrd8
                refine wpAnyEOne 14 (by kernel_rfl) ?_
                refine wpOpAppI 14 (some 197) rfl rfl rfl (.tmp 189) (.tmp 196) rfl (.slice (some ⟨g, 0, none⟩) k k1) (ans.take k) rfl (hown9) (.slice (if k1 = k + 1 then some ⟨g, 0, none⟩ else some ⟨g, k + 1, none⟩) (ans.length - (k + 1)) (k1 - (k + 1))) (ans.drop (k + 1)) rfl (hrd8) (by simp; omega) (hNB8.sz) fun v9 w9 happ => ?_
                obtain ⟨a9, k9, rfl⟩ := happ.form
                have hbx9 := Boxs.app hNB8.box hown9 happ (by decide)
                have z9 := hbx9.cell 2
                have zf9 := hbx9.frozen 2
                have zl9 := hbx9.lt
                simp only [List.getElem?_toArray, List.getElem?_cons_zero, List.getElem?_cons_succ] at z9
                refine ⟨.inl (z9), ?_⟩
                try simp only [pa, pl]
                refine tg 15 198 rfl rfl (.pointer (some ⟨bx, 0, none⟩)) z9 ?_
                try simp only [pa, pl]
                refine tg 16 199 rfl rfl (.pointer (some ⟨bx, 2, none⟩)) z9 ?_
                try simp only [pa, pl]
                refine wpAnyEOne 17 (by kernel_rfl) ?_
                refine wpOpSkip (w' := w9.setCell ⟨bx, 2, none⟩ (.slice a9 (ans.take k ++ ans.drop (k + 1)).length k9)) 17 rfl rfl rfl (by go_simp <;> rfl) ?_
                refine ⟨.inr (allUp_of (by kernel_rfl)), ?_⟩
                try simp only [pa, pl]
                refine wpAnyE_done (by kernel_rfl) ?_ _
                have happ' : AppOut w.heap.size 3 (wc.drewN 1) (.slice (some ⟨g, 0, none⟩) k k1) (ans.eraseIdx k).length (ints (ans.eraseIdx k)) (.slice a9 (ans.take k ++ ans.drop (k + 1)).length k9) w9 := by
                  rw [List.eraseIdx_eq_take_drop_succ]; exact happ
                have HNB9 := Lib.hid (hNB8.newA hown8 rfl happ')
                have HBL9 := Lib.hid ((happ.below (HBL.out.trans (hdn.mono HBL.out.size)) hown8 (Nat.le_refl _) hNB8.sz).setCell (p := ⟨bx, 2, none⟩) HNB.out.hb (.slice a9 (ans.take k ++ ans.drop (k + 1)).length k9))
                rw [hzz]
                clear hzz happ happ' hbx9 z9 zf9 zl9 hNB8 hdn hown8 hown9 hrd8 hkk z0 z1 z2 z3 HNB HBL ZF
                generalize w9.setCell ⟨bx, 2, none⟩ (.slice a9 (ans.take k ++ ans.drop (k + 1)).length k9) = wd at *
                obtain ⟨gh, cap, hva⟩ := ownsRow_some HNB9.out.row (show 0 < us.length by omega)
                cases hva
                have hck := owns_cap HNB9.out.row
                have hkc2 : k ≤ k2 := by omega
                have hkn2 : ¬ k2 < k := by omega
                have z3 := HNB9.out.box.cell 3
                simp only [List.getElem?_toArray, List.getElem?_cons_zero, List.getElem?_cons_succ] at z3
                go_wp2_with fail
                refine wp_region_E (fun W => W.cell? ⟨bx, 3, none⟩ = some (.slice (some ⟨gh, 0, none⟩) us.length k2)) (by kernel_rfl) ?_
                have hdr : (wd).drew = { wd with drawn := (wd).drawn + 1 } := rfl
                rw [← hdr]
                clear hdr
                change wpAnyE _ _ _ _ _ _ _ _ ((wd).drewN 1)
                refine tm 0 200 rfl rfl (.pointer (some ⟨bx, 0, none⟩)) z3 ?_
                try simp only [pa, pl]
                refine tm 1 201 rfl rfl (.pointer (some ⟨bx, 0, none⟩)) z3 ?_
                try simp only [pa, pl]
                refine tg 2 202 rfl rfl (.pointer (some ⟨bx, 0, none⟩)) z3 ?_
                try simp only [pa, pl]
                refine tg 3 203 rfl rfl (.pointer (some ⟨bx, 3, none⟩)) z3 ?_
                try simp only [pa, pl]
                refine tk 4 204 rfl rfl (.slice (some ⟨gh, 0, none⟩) us.length k2) (fun W hW => by obtain c3 := hW; go_simp) z3 ?_
                try simp only [pa, pl]
                refine tm 5 205 rfl rfl (.int .i64 (k : Int)) z3 ?_
                try simp only [pa, pl]
                refine tg 6 206 rfl rfl (.slice (some ⟨gh, 0, none⟩) k k2) z3 ?_
                try simp only [pa, pl]
                refine tm 7 207 rfl rfl (.pointer (some ⟨bx, 0, none⟩)) z3 ?_
                try simp only [pa, pl]
                refine tg 8 208 rfl rfl (.pointer (some ⟨bx, 0, none⟩)) z3 ?_
                try simp only [pa, pl]
                refine tg 9 209 rfl rfl (.pointer (some ⟨bx, 3, none⟩)) z3 ?_
                try simp only [pa, pl]
                refine tk 10 210 rfl rfl (.slice (some ⟨gh, 0, none⟩) us.length k2) (fun W hW => by obtain c3 := hW; go_simp) z3 ?_
                try simp only [pa, pl]
                refine tm 11 211 rfl rfl (.int .i64 (k : Int)) z3 ?_
                try simp only [pa, pl]
                refine tk 12 212 rfl rfl (.int .i64 ((k : Int) + 1)) (fun _ _ => by go_simp <;> rw [HWK.out]) z3 ?_
                try simp only [pa, pl]
                refine tg 13 213 rfl rfl (.slice (if k2 = k + 1 then some ⟨gh, 0, none⟩ else some ⟨gh, k + 1, none⟩) (us.length - (k + 1)) (k2 - (k + 1))) z3 ?_
                try simp only [pa, pl]
                obtain ⟨zz, hzz⟩ : ∃ z, (if k2 = k + 1 then some (⟨gh, 0, none⟩ : Addr) else some ⟨gh, k + 1, none⟩) = z := ⟨_, rfl⟩
                have hdn := Below.dn (Below.refl wd.heap.size wd) 1
                have hNB8 := HNB9.out.under hdn
                have hown8 := owns_take hNB8.row k (by omega) (by simp)
                have hrd8 := (Rd_of_owns hNB8.row).dropA (k := k + 1) (by omega)
                have hkk : (us.take k).length = k := by simp; omega
                simp only [Nat.zero_add] at hrd8
                refine wpAnyEOne 14 (by kernel_rfl) ?_
                refine wpOpAppU (base := w.heap.size) 14 (some 214) rfl rfl rfl (.tmp 206) (.tmp 213) rfl (.slice (some ⟨gh, 0, none⟩) k k2) k (us.take k) rfl hown8 (.slice (if k2 = k + 1 then some ⟨gh, 0, none⟩ else some ⟨gh, k + 1, none⟩) (us.length - (k + 1)) (k2 - (k + 1))) (us.drop (k + 1)) rfl hrd8 (fun u hu => HNB9.out.trees.one u (List.mem_of_mem_drop hu)) (by simp; omega) hNB8.sz fun v11 w11 happ => ?_
                obtain ⟨a11, k11, rfl⟩ := happ.form
                have hbx9 := Boxs.app hNB8.box hown8 happ (by decide)
                have z9 := hbx9.cell 3
                have zf9 := hbx9.frozen 3
                have zl9 := hbx9.lt
                simp only [List.getElem?_toArray, List.getElem?_cons_zero, List.getElem?_cons_succ] at z9
                refine ⟨.inl (z9), ?_⟩
                try simp only [pa, pl]
                refine tg 15 215 rfl rfl (.pointer (some ⟨bx, 0, none⟩)) z9 ?_
                try simp only [pa, pl]
                refine tg 16 216 rfl rfl (.pointer (some ⟨bx, 3, none⟩)) z9 ?_
                try simp only [pa, pl]
                refine wpAnyEOne 17 (by kernel_rfl) ?_
                refine wpOpSkip (w' := w11.setCell ⟨bx, 3, none⟩ (.slice a11 (k + (us.drop (k + 1)).length) k11)) 17 rfl rfl rfl (by go_simp <;> rfl) ?_
                refine ⟨.inr (allUp_of (by kernel_rfl)), ?_⟩
                try simp only [pa, pl]
                refine wpAnyE_done (by kernel_rfl) ?_ _
                have happ' : AppOut w.heap.size 48 (wd.drewN 1) (.slice (some ⟨gh, 0, none⟩) k k2) (us.eraseIdx k).length (us.eraseIdx k) (.slice a11 (k + (us.drop (k + 1)).length) k11) w11 := by
                  have := happ; rw [← List.eraseIdx_eq_take_drop_succ] at this
                  rw [show (us.eraseIdx k).length = k + (us.drop (k + 1)).length by rw [List.eraseIdx_eq_take_drop_succ, List.length_append, hkk]]; exact this
                have hNB11 := hNB8.newK hown8 rfl (hNB8.trees.del k) happ'
                have hBL11 := (happ.below (HBL9.out.trans (hdn.mono HBL9.out.size)) hown8 (Nat.le_refl _) hNB8.sz).setCell (p := ⟨bx, 3, none⟩) HNB9.out.hb (.slice a11 (k + (us.drop (k + 1)).length) k11)
                rw [hzz]
                clear hzz happ happ' hbx9 z9 zf9 zl9 hdn hown8 hrd8 hkk
                go_wp2_with fail
                go_ret
                refine bent_leaf hNB11 hBL11 ?_
                have h1 := szTs_del kids k; have h2 := wdTs_del kids k; have h3 := depTs_del kids k
                have h4 := List.length_eraseIdx_le ans k; have h5 := List.length_eraseIdx_le kids k
                exact ⟨by simp only [depT]; omega, by simp only [szT]; omega, by simp only [wdT]; omega, .small (by have := wtTs_del kids k; omega)⟩
            · have hn0' : ¬ (0 : Int) < (n : Int) := by omega
              go_wp2_with fail
              go_ret
              exact bent_leaf HNB.out HBL.out (bentOk_ans (by omega))
          · go_wp2_with fail
            refine (around_any by_ 6 _ hb1 hb2 (by omega) (by omega)).mono ?_
            rintro e w4 ⟨rfl, rfl⟩
            generalize around by_ 6 = q
            go_wp2_with fail
            go_ret
            exact bent_three (HW0.out _ HBL.out) HBL.out HB.out.size HTR.out rfl (by simp) (by simp)
end Go.Proofs.Ytmkkegigajmhkaa

