/- The reference's lost, plain. -/
import Derived.Test.YtidojiegkdchpaaAu
namespace Go.Proofs.Ytidojiegkdchpaa
open Go.RowKit Go.Maps

def zs (n : Nat) : List Int := List.replicate n 0
theorem dot_zero (ws : List Int) (n : Nat) : dotF ws (zs n) = 0 := by
  induction ws generalizing n with
  | nil => simp [dotF, prods]
  | cons x ws ih =>
    cases n with
    | zero => simp [dotF, prods, zs]
    | succ n =>
      have := ih n
      simp only [dotF, prods, zs] at this ⊢
      rw [List.replicate_succ, List.zipWith_cons_cons, List.sum_cons, this]
      simp
theorem dot_unit {ws : List Int} {a : Nat} {x : Int} (h : ws[a]? = some x) (d : Int) : dotF ws ((zs ws.length).set a d) = x * d := by
  induction ws generalizing a with
  | nil => simp at h
  | cons y ws ih =>
    cases a with
    | zero =>
      have := dot_zero ws ws.length
      simp only [dotF, prods, zs] at this ⊢
      rw [List.length_cons, List.replicate_succ, List.set_cons_zero, List.zipWith_cons_cons, List.sum_cons, this]
      simp at h
      rw [h]; omega
    | succ a =>
      have := ih (a := a) (by simpa using h)
      simp only [dotF, prods, zs] at this ⊢
      rw [List.length_cons, List.replicate_succ, List.set_cons_succ, List.zipWith_cons_cons, List.sum_cons, this]
      omega
theorem zs_at {n a : Nat} (h : a < n) : (zs n)[a]? = some 0 := by unfold zs; rw [List.getElem?_replicate, if_pos h]
theorem zs_set (n a : Nat) : (zs n).set a 0 = zs n := by
  apply List.ext_getElem?
  intro i
  unfold zs
  rw [List.getElem?_set]
  split
  · rename_i h; subst h
    rw [List.getElem?_replicate]
    simp
  · rfl
theorem zs_set2 {n a b : Nat} (hab : a ≠ b) (d : Int) : ((zs n).set a d).set b 0 = (zs n).set a d := by
  rw [List.set_comm _ _ hab, zs_set]
theorem mid_set {n a : Nat} {d : Int} (h0 : 0 ≤ d) (h1 : d ≤ 1024) : mid 1024 ((zs n).set a d) := by
  intro x hx
  rcases List.mem_or_eq_of_mem_set hx with h | h
  · unfold zs at h; rw [List.mem_replicate] at h; omega
  · omega
theorem mid_zs (n : Nat) : mid 1024 (zs n) := by
  intro x hx
  unfold zs at hx; rw [List.mem_replicate] at hx; omega
theorem ints_set (l : List Int) (a : Nat) (d : Int) : ints (l.set a d) = (ints l).set a (.int .i64 d) := by unfold ints; rw [List.map_set]
theorem ints_zs (n : Nat) : ints (zs n) = List.replicate n (.int .i64 0) := by unfold ints zs; rw [List.map_replicate]
theorem owns_full' {w' : World} {base g n : Nat} {e : TypeId} {xs : List Value} (hown : w'.ownsRow base e 1 (.slice (some ⟨g, 0, none⟩) n n) n xs) : ∃ C, Boxs w' g e C ∧ C.toList = xs := by
  rcases hown.2 with ⟨h3, _⟩ | ⟨g', cap, cur, he, _, hg, hnc, _, hcs, ht⟩
  · cases h3
  · cases he
    refine ⟨cur, hg, ?_⟩
    rw [← ht, List.take_of_length_le (by rw [Array.length_toList]; omega)]
theorem zcell {W : World} {g n a : Nat} {C : Array Value} (h : Boxs W g 3 C) (hC : C.toList = List.replicate n (.int .i64 0)) (ha : a < n) : W.cell? ⟨g, a, none⟩ = some (.int .i64 0) := by
  rw [h.cell, ← Array.getElem?_toList, hC, List.getElem?_replicate, if_pos ha]
theorem rd_of_boxs {W : World} {g n : Nat} {C : Array Value} {l : List Int} (h : Boxs W g 3 C) (hC : C.toList = ints l) (hn : l.length = n) (hm : n ≤ 9223372036854775807) : RdI W (.slice (some ⟨g, 0, none⟩) n n) l := by
  have := Rd_block (n := n) h (by rw [← Array.length_toList, hC, ints_len, hn]) hm
  rw [hC] at this
  exact this
theorem set_far {W : World} {g b : Nat} (h : g ≠ b) (o : Nat) (v : Value) (o' : Nat) : (W.setCell ⟨g, o, none⟩ v).cell? ⟨b, o', none⟩ = W.cell? ⟨b, o', none⟩ :=
  World.cell?_of_block (Below.heap_setCell _ _ _ _ (Ne.symm h))
theorem set_near {W : World} {g o o' : Nat} (h : o ≠ o') (v : Value) : (W.setCell ⟨g, o, none⟩ v).cell? ⟨g, o', none⟩ = W.cell? ⟨g, o', none⟩ := by
  simp only [World.cell?, World.setCell]
  rw [Array.getElem?_modify]
  cases hh : W.heap[g]? with
  | none => simp
  | some ob =>
    cases ob <;> simp [h]
def lostF (wa wo m d : Int) : Bool := decide ((wo * d) % m = (wa * d) % m)
theorem lost_hit {wa wo m d : Int} : lostF wa wo m d = decide (((wa - wo) * d) % m = 0) := by
  unfold lostF
  have : ((wo * d) % m = (wa * d) % m) ↔ (((wa - wo) * d) % m = 0) := by
    rw [Int.sub_mul]
    constructor
    · intro h; exact Int.emod_eq_emod_iff_emod_sub_eq_zero.1 h.symm
    · intro h; exact (Int.emod_eq_emod_iff_emod_sub_eq_zero.2 h).symm
  by_cases h : ((wa - wo) * d) % m = 0
  · rw [decide_eq_true h, decide_eq_true (this.2 h)]
  · rw [decide_eq_false h, decide_eq_false (fun e => h (this.1 e))]

set_option maxRecDepth 100000 in
set_option maxHeartbeats 4000000 in
theorem rlostA_any (v : Value) (ws : List Int) (m : Int) (a : Nat) (x : Int) (d : Nat) (w : World) (h : RdI w v ws) (hmd : mid 1024 ws) (hl : ws.length ≤ 256) (hm : 2 ≤ m) (hm' : m ≤ 1024) (ha : ws[a]? = some x) (hd : d ≤ 1024) :
    Calls Try.prog 38 #[v, .int .i64 m, .agg #[.int .i64 a, .int .i64 (-1), .int .i64 0, .int .i64 d]] w fun e w' => e = .returned (.bool (lostF x 0 m d)) ∧ Below w.heap.size w w' := by
  obtain ⟨i0, hi0, hz0, hz1, hz2⟩ := info_parts Try.info3i
  have HI := Lib.hid hi0; have HZ0 := Lib.hid hz0; have HZ1 := Lib.hid hz1; have HZ2 := Lib.hid hz2
  clear hi0 hz0 hz1 hz2
  have HR := Lib.hid h
  have ha' := (List.getElem?_eq_some_iff.1 ha).1
  have ha2 : (a : Int) < (ws.length : Int) := by omega
  have ha0 : (0 : Int) ≤ (a : Int) := by omega
  obtain ⟨ad, c, rfl, _, _⟩ := h.open
  have TA : ∀ W u, Below w.heap.size w W → RdI W u (zs ws.length) → Calls Try.prog 12 #[.slice ad ws.length c, .int .i64 m, u] W fun e w' => e = .returned (.int .i64 ((0 * (d : Int)) % m)) ∧ Below W.heap.size W w' := by
    intro W u hW hu
    have := rtotal_any _ u ws (zs ws.length) m W (HR.out.below hW) hu hm hm' hmd (mid_zs _) (by omega)
    rw [dot_zero] at this
    rwa [Int.zero_mul]
  have TB : ∀ W u, Below w.heap.size w W → RdI W u ((zs ws.length).set a (d : Int)) → Calls Try.prog 12 #[.slice ad ws.length c, .int .i64 m, u] W fun e w' => e = .returned (.int .i64 ((x * (d : Int)) % m)) ∧ Below W.heap.size W w' := by
    intro W u hW hu
    have := rtotal_any _ u ws ((zs ws.length).set a (d : Int)) m W (HR.out.below hW) hu hm hm' hmd (mid_set (by omega) (by omega)) (by omega)
    rwa [dot_unit ha] at this
  have HTA := Lib.hid TA; have HTB := Lib.hid TB
  have hres : lostF x 0 m d = decide ((0 * (d : Int)) % m = (x * (d : Int)) % m) := rfl
  have HRES := Lib.hid hres
  clear h hmd ha TA TB hres
  have B5 := Boxs.new w 38 #[.int .i64 a, .int .i64 (-1), .int .i64 0, .int .i64 d]
  have BW := (Below.refl w.heap.size w).alloc (Nat.le_refl _) (.cells #[.int .i64 a, .int .i64 (-1), .int .i64 0, .int .i64 d] 38)
  have hsz : (w.alloc (.cells #[.int .i64 a, .int .i64 (-1), .int .i64 0, .int .i64 d] 38)).heap.size = w.heap.size + 1 := by simp
  have HB5 := Lib.hid B5; have HBW := Lib.hid BW
  clear B5 BW
  go_enter Try.func38, Try.ntmps38
  go_wp2_with (first
    | (refine wpList_make_full _ rfl _ _ 22 rfl w.heap.size 3 i0 (.int .i64 0) 1 Try.underlying22 HI.out HZ0.out HZ1.out .i64 .i64 _ _ ws.length rfl rfl rfl rfl (by rw [HZ2.out]; omega) (by unfold maxLen; omega) (by rw [hsz]; omega) ?_; intro w2 hown2 hgrow2; rw [hsz] at hown2; have hs2 : w.heap.size + 2 ≤ w2.heap.size := by (have := hgrow2.size; obtain ⟨C, hC, _⟩ := owns_full' hown2; have := hC.lt; omega))
    | (refine wpList_make_full _ rfl _ _ 22 rfl w.heap.size 3 i0 (.int .i64 0) 1 Try.underlying22 HI.out HZ0.out HZ1.out .i64 .i64 _ _ ws.length rfl rfl rfl rfl (by rw [HZ2.out]; omega) (by unfold maxLen; omega) (by omega) ?_; intro w3 hown3 hgrow3; obtain ⟨C1, hC1, hC1l⟩ := owns_full' hown2; obtain ⟨C2, hC2, hC2l⟩ := owns_full' hown3; have D5 := (HB5.out.kept hgrow2 (by simp)).kept hgrow3 (by simp); have D1 := hC1.kept hgrow3 (by simp); have DB := (HBW.out.grown hgrow2 (by omega) (fun j e => by cases e)).grown hgrow3 (by omega) (fun j e => by cases e); rw [madeI] at hC1l hC2l; have k1 := zcell D1 hC1l ha'; have k2 := zcell hC2 hC2l ha'; have e0 := D5.cell 0; have e1 := D5.cell 1; have e2 := D5.cell 2; have e3 := D5.cell 3; simp at e0 e1 e2 e3; have R1 := fun (W : World) => set_far (W := W) (show w.heap.size + 1 ≠ w.heap.size from (by omega)); have R2 := fun (W : World) => set_far (W := W) (show w2.heap.size ≠ w.heap.size from (by omega)); have R3 := fun (W : World) => set_far (W := W) (show w.heap.size + 1 ≠ w2.heap.size from (by omega)); have R4 := fun (W : World) => set_far (W := W) (show w2.heap.size ≠ w.heap.size + 1 from (by omega)); have n1 := D1.frozen; have n2 := hC2.frozen; have m1 : w.heap.size ≠ w2.heap.size := (by omega); have m2 : w.heap.size + 1 ≠ w2.heap.size := (by omega); have m3 := Ne.symm m1; have m4 := Ne.symm m2; have HD1 := Lib.hid D1; have HD2 := Lib.hid hC2; have HL1 := Lib.hid hC1l; have HL2 := Lib.hid hC2l; have HDB := Lib.hid DB; clear hown2 hown3 hgrow2 hgrow3 hC1 hC2 D1 D5 DB hC1l hC2l))
  have S1 := rd_of_boxs (l := zs ws.length) (n := ws.length) ((HD1.out.put a (.int .i64 0)).setOther (show w.heap.size + 1 ≠ w2.heap.size from (by omega)) a (.int .i64 d)) (by rw [Array.toList_setIfInBounds, HL1.out, ← ints_zs, ← ints_set, zs_set]) (by simp [zs]) (by omega)
  have S2 := rd_of_boxs (l := (zs ws.length).set a (d : Int)) (n := ws.length) ((HD2.out.setOther (show w2.heap.size ≠ w.heap.size + 1 from (by omega)) a (.int .i64 0)).put a (.int .i64 d)) (by rw [Array.toList_setIfInBounds, HL2.out, ← ints_zs, ← ints_set]) (by simp [zs]) (by omega)
  have SB := ((HDB.out.setCell (p := ⟨w.heap.size + 1, a, none⟩) (show w.heap.size ≤ w.heap.size + 1 from (by omega)) (.int .i64 0)).setCell (p := ⟨w2.heap.size, a, none⟩) (show w.heap.size ≤ w2.heap.size from (by omega)) (.int .i64 d))
  have HS2 := Lib.hid S2; have HSB := Lib.hid SB
  clear R1 R2 R3 R4 n1 n2 k1 k2 e0 e1 e2 e3
  refine (HTA.out _ _ SB S1).mono ?_
  clear S1 S2 SB
  rintro e w4 ⟨rfl, hb4⟩
  have HS4 := Lib.hid (HS2.out.below hb4); have HB4 := Lib.hid (HSB.out.trans (hb4.mono HSB.out.size))
  clear hb4
  go_wp2_with fail
  refine (HTB.out _ _ HB4.out HS4.out).mono ?_
  rintro e w5 ⟨rfl, hb5⟩
  have HB5' := Lib.hid (HB4.out.trans (hb5.mono HB4.out.size))
  clear hb5
  go_wp2_with fail
  go_ret
  exact ⟨ret_bool (by rw [HRES.out, Int.zero_mul, Int.zero_emod]; rfl), HB5'.out⟩

set_option maxRecDepth 100000 in
set_option maxHeartbeats 4000000 in
theorem rlostB_any (v : Value) (ws : List Int) (m : Int) (a : Nat) (b : Nat) (x y : Int) (d : Nat) (w : World) (h : RdI w v ws) (hmd : mid 1024 ws) (hl : ws.length ≤ 256) (hm : 2 ≤ m) (hm' : m ≤ 1024) (ha : ws[a]? = some x) (hb : ws[b]? = some y) (hab : a ≠ b) (hd : d ≤ 1024) :
    Calls Try.prog 38 #[v, .int .i64 m, .agg #[.int .i64 a, .int .i64 b, .int .i64 0, .int .i64 d]] w fun e w' => e = .returned (.bool (lostF x y m d)) ∧ Below w.heap.size w w' := by
  obtain ⟨i0, hi0, hz0, hz1, hz2⟩ := info_parts Try.info3i
  have HI := Lib.hid hi0; have HZ0 := Lib.hid hz0; have HZ1 := Lib.hid hz1; have HZ2 := Lib.hid hz2
  clear hi0 hz0 hz1 hz2
  have HR := Lib.hid h
  have ha' := (List.getElem?_eq_some_iff.1 ha).1
  have ha2 : (a : Int) < (ws.length : Int) := by omega
  have ha0 : (0 : Int) ≤ (a : Int) := by omega
  obtain ⟨ad, c, rfl, _, _⟩ := h.open
  have hb' := (List.getElem?_eq_some_iff.1 hb).1
  have hbz : (0 : Int) ≤ (b : Int) := by omega
  have hb2 : (b : Int) < (ws.length : Int) := by omega
  have hba : b ≠ a := Ne.symm hab
  have TA : ∀ W u, Below w.heap.size w W → RdI W u ((zs ws.length).set b (d : Int)) → Calls Try.prog 12 #[.slice ad ws.length c, .int .i64 m, u] W fun e w' => e = .returned (.int .i64 ((y * (d : Int)) % m)) ∧ Below W.heap.size W w' := by
    intro W u hW hu
    have := rtotal_any _ u ws ((zs ws.length).set b (d : Int)) m W (HR.out.below hW) hu hm hm' hmd (mid_set (by omega) (by omega)) (by omega)
    rw [dot_unit hb] at this
    exact this
  have TB : ∀ W u, Below w.heap.size w W → RdI W u ((zs ws.length).set a (d : Int)) → Calls Try.prog 12 #[.slice ad ws.length c, .int .i64 m, u] W fun e w' => e = .returned (.int .i64 ((x * (d : Int)) % m)) ∧ Below W.heap.size W w' := by
    intro W u hW hu
    have := rtotal_any _ u ws ((zs ws.length).set a (d : Int)) m W (HR.out.below hW) hu hm hm' hmd (mid_set (by omega) (by omega)) (by omega)
    rwa [dot_unit ha] at this
  have HTA := Lib.hid TA; have HTB := Lib.hid TB
  have hres : lostF x y m d = decide ((y * (d : Int)) % m = (x * (d : Int)) % m) := rfl
  have HRES := Lib.hid hres
  clear h hmd ha TA TB hres hb
  have B5 := Boxs.new w 38 #[.int .i64 a, .int .i64 b, .int .i64 0, .int .i64 d]
  have BW := (Below.refl w.heap.size w).alloc (Nat.le_refl _) (.cells #[.int .i64 a, .int .i64 b, .int .i64 0, .int .i64 d] 38)
  have hsz : (w.alloc (.cells #[.int .i64 a, .int .i64 b, .int .i64 0, .int .i64 d] 38)).heap.size = w.heap.size + 1 := by simp
  have HB5 := Lib.hid B5; have HBW := Lib.hid BW
  clear B5 BW
  go_enter Try.func38, Try.ntmps38
  go_wp2_with (first
    | (refine wpList_make_full _ rfl _ _ 22 rfl w.heap.size 3 i0 (.int .i64 0) 1 Try.underlying22 HI.out HZ0.out HZ1.out .i64 .i64 _ _ ws.length rfl rfl rfl rfl (by rw [HZ2.out]; omega) (by unfold maxLen; omega) (by rw [hsz]; omega) ?_; intro w2 hown2 hgrow2; rw [hsz] at hown2; have hs2 : w.heap.size + 2 ≤ w2.heap.size := by (have := hgrow2.size; obtain ⟨C, hC, _⟩ := owns_full' hown2; have := hC.lt; omega))
    | (refine wpList_make_full _ rfl _ _ 22 rfl w.heap.size 3 i0 (.int .i64 0) 1 Try.underlying22 HI.out HZ0.out HZ1.out .i64 .i64 _ _ ws.length rfl rfl rfl rfl (by rw [HZ2.out]; omega) (by unfold maxLen; omega) (by omega) ?_; intro w3 hown3 hgrow3; obtain ⟨C1, hC1, hC1l⟩ := owns_full' hown2; obtain ⟨C2, hC2, hC2l⟩ := owns_full' hown3; have D5 := (HB5.out.kept hgrow2 (by simp)).kept hgrow3 (by simp); have D1 := hC1.kept hgrow3 (by simp); have DB := (HBW.out.grown hgrow2 (by omega) (fun j e => by cases e)).grown hgrow3 (by omega) (fun j e => by cases e); rw [madeI] at hC1l hC2l; have k1 := zcell D1 hC1l ha'; have k2 := zcell hC2 hC2l ha'; have k3 := zcell D1 hC1l hb'; have k4 := zcell hC2 hC2l hb'; have e0 := D5.cell 0; have e1 := D5.cell 1; have e2 := D5.cell 2; have e3 := D5.cell 3; simp at e0 e1 e2 e3; have R1 := fun (W : World) => set_far (W := W) (show w.heap.size + 1 ≠ w.heap.size from (by omega)); have R2 := fun (W : World) => set_far (W := W) (show w2.heap.size ≠ w.heap.size from (by omega)); have R3 := fun (W : World) => set_far (W := W) (show w.heap.size + 1 ≠ w2.heap.size from (by omega)); have R4 := fun (W : World) => set_far (W := W) (show w2.heap.size ≠ w.heap.size + 1 from (by omega)); have R5 := fun (W : World) (g : Nat) => set_near (W := W) (g := g) hab; have R6 := fun (W : World) (g : Nat) => set_near (W := W) (g := g) hba; have n1 := D1.frozen; have n2 := hC2.frozen; have m1 : w.heap.size ≠ w2.heap.size := (by omega); have m2 : w.heap.size + 1 ≠ w2.heap.size := (by omega); have m3 := Ne.symm m1; have m4 := Ne.symm m2; have HD1 := Lib.hid D1; have HD2 := Lib.hid hC2; have HL1 := Lib.hid hC1l; have HL2 := Lib.hid hC2l; have HDB := Lib.hid DB; clear hown2 hown3 hgrow2 hgrow3 hC1 hC2 D1 D5 DB hC1l hC2l))
  have S1 := rd_of_boxs (l := (zs ws.length).set b (d : Int)) (n := ws.length) ((((HD1.out.put a (.int .i64 0)).setOther (show w.heap.size + 1 ≠ w2.heap.size from (by omega)) a (.int .i64 d)).put b (.int .i64 d)).setOther (show w.heap.size + 1 ≠ w2.heap.size from (by omega)) b (.int .i64 0)) (by rw [Array.toList_setIfInBounds, Array.toList_setIfInBounds, HL1.out, ← ints_zs, ← ints_set, zs_set, ← ints_set]) (by simp [zs]) (by omega)
  have S2 := rd_of_boxs (l := (zs ws.length).set a (d : Int)) (n := ws.length) ((((HD2.out.setOther (show w2.heap.size ≠ w.heap.size + 1 from (by omega)) a (.int .i64 0)).put a (.int .i64 d)).setOther (show w2.heap.size ≠ w.heap.size + 1 from (by omega)) b (.int .i64 d)).put b (.int .i64 0)) (by rw [Array.toList_setIfInBounds, Array.toList_setIfInBounds, HL2.out, ← ints_zs, ← ints_set, ← ints_set, zs_set2 hab]) (by simp [zs]) (by omega)
  have SB := ((((HDB.out.setCell (p := ⟨w.heap.size + 1, a, none⟩) (show w.heap.size ≤ w.heap.size + 1 from (by omega)) (.int .i64 0)).setCell (p := ⟨w2.heap.size, a, none⟩) (show w.heap.size ≤ w2.heap.size from (by omega)) (.int .i64 d)).setCell (p := ⟨w.heap.size + 1, b, none⟩) (show w.heap.size ≤ w.heap.size + 1 from (by omega)) (.int .i64 d)).setCell (p := ⟨w2.heap.size, b, none⟩) (show w.heap.size ≤ w2.heap.size from (by omega)) (.int .i64 0))
  have HS2 := Lib.hid S2; have HSB := Lib.hid SB
  clear R1 R2 R3 R4 n1 n2 k1 k2 e0 e1 e2 e3
  refine (HTA.out _ _ SB S1).mono ?_
  clear S1 S2 SB
  rintro e w4 ⟨rfl, hb4⟩
  have HS4 := Lib.hid (HS2.out.below hb4); have HB4 := Lib.hid (HSB.out.trans (hb4.mono HSB.out.size))
  clear hb4
  go_wp2_with fail
  refine (HTB.out _ _ HB4.out HS4.out).mono ?_
  rintro e w5 ⟨rfl, hb5⟩
  have HB5' := Lib.hid (HB4.out.trans (hb5.mono HB4.out.size))
  clear hb5
  go_wp2_with fail
  go_ret
  exact ⟨ret_bool (by rw [HRES.out]; rfl), HB5'.out⟩

end Go.Proofs.Ytidojiegkdchpaa
