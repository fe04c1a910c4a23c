/- ImposeReads: the walk of the law's function: it returns true for all numbers and sheets. -/
import Derived.Test.YthldekpbjfhmcaaZk
import Derived.Test.YthldekpbjfhmcaaZl
import Derived.Test.YthldekpbjfhmcaaYg
namespace Go.Proofs.Ythldekpbjfhmcaa
open Go.RowKit

theorem tdiv3 (b : Int) (h1 : -9223372036854775808 ≤ b) (h2 : b ≤ 9223372036854775807) : -9223372036854775808 ≤ b.tdiv 3 ∧ b.tdiv 3 ≤ 9223372036854775807 := by
  by_cases h : 0 ≤ b
  · rw [Int.tdiv_eq_ediv_of_nonneg h]; omega
  · obtain ⟨c, rfl⟩ : ∃ c, b = -c := ⟨-b, by omega⟩
    rw [Int.neg_tdiv, Int.tdiv_eq_ediv_of_nonneg (by omega)]; omega

theorem RdS_nil (w : World) : RdS w (.slice none 0 0) [] := ⟨rfl, none, 0, rfl, Nat.le_refl _, by omega, .inl ⟨rfl, rfl⟩⟩

theorem list4S (W : World) (v0 v1 v2 v3 : Value) (l0 l1 l2 l3 : List Sh) (t : TypeId) (h0 : RdS W v0 l0) (h1 : RdS W v1 l1) (h2 : RdS W v2 l2) (h3 : RdS W v3 l3)
    (m0 : l0.length * 40 ≤ 140737488351232) (m1 : l1.length * 40 ≤ 140737488351232) (m2 : l2.length * 40 ≤ 140737488351232) (m3 : l3.length * 40 ≤ 140737488351232) (i : Nat) (hi : i < 4) :
    ∃ v l, (W.alloc (.cells #[v0, v1, v2, v3] t)).cell? ⟨W.heap.size, i, none⟩ = some v ∧ RdS (W.alloc (.cells #[v0, v1, v2, v3] t)) v l ∧ l.length * 40 ≤ 140737488351232 := by
  have hb : Below W.heap.size W (W.alloc (.cells #[v0, v1, v2, v3] t)) := (Below.refl _ _).alloc (Nat.le_refl _) _
  have hc : ∀ j v, (#[v0, v1, v2, v3] : Array Value)[j]? = some v → (W.alloc (.cells #[v0, v1, v2, v3] t)).cell? ⟨W.heap.size, j, none⟩ = some v := fun j v hv => by
    simp only [World.cell?, heap_alloc_new]; exact hv
  obtain rfl | rfl | rfl | rfl : i = 0 ∨ i = 1 ∨ i = 2 ∨ i = 3 := by omega
  · exact ⟨v0, l0, hc _ _ rfl, Rd.below h0 hb, m0⟩
  · exact ⟨v1, l1, hc _ _ rfl, Rd.below h1 hb, m1⟩
  · exact ⟨v2, l2, hc _ _ rfl, Rd.below h2 hb, m2⟩
  · exact ⟨v3, l3, hc _ _ rfl, Rd.below h3 hb, m3⟩

set_option maxRecDepth 100000 in
set_option maxHeartbeats 8000000 in
theorem reads_any (LV : Lives) (n m how bb also : Int) (v5 : Value) (raw : List Sh) (w : World) (hn : -9223372036854775808 ≤ n) (hn' : n ≤ 9223372036854775807) (hm : -9223372036854775808 ≤ m) (hm' : m ≤ 9223372036854775807)
    (hh : -9223372036854775808 ≤ how) (hh' : how ≤ 9223372036854775807) (hb : -9223372036854775808 ≤ bb) (hb' : bb ≤ 9223372036854775807) (hg : -9223372036854775808 ≤ also) (hg' : also ≤ 9223372036854775807)
    (R5 : RdS w v5 raw) (hraw : raw.length * 40 ≤ 140737488351232) :
    Calls Try.prog 3 #[.int .i64 n, .int .i64 m, .int .i64 how, .int .i64 bb, .int .i64 also, v5] w fun e w' => e = .returned (.bool true) ∧ Below w.heap.size w w' := by
  go_enter Try.func3, Try.ntmps3
  go_wp2_with fail
  refine (volume_any n m _ hn hn' hm hm').mono ?_
  rintro e w1 ⟨⟨p, k, rfl, p1, p2, k1, k2⟩, BB⟩
  have R5 := Rd.below R5 BB
  go_wp2_with fail
  refine (fold_any p k _ (by omega) (by omega) (by omega) (by omega)).mono ?_
  rintro e w2 ⟨v2, rfl, o2, b2⟩
  have R5 := Rd.below R5 b2
  have BB := BB.trans (b2.mono BB.size)
  have R2 : RdS w2 v2 (fold p k) := Rd_of_owns o2
  have hfl := fold_len p k
  clear o2 b2
  have HR5 := Lib.hid R5; have HR2 := Lib.hid R2; have HBB := Lib.hid BB
  clear R5 R2 BB
  go_upto_if 40 with fail
  go_cut [17, 18, 19] from 40 to 100 (fun _ _ _ w' => Below w2.heap.size w2 w')
  case first =>
    by_cases h0 : errOf p k = 0
    · obtain ⟨hp1, hp2, hk1, hk2, hk3⟩ := errOf_zero h0
      obtain ⟨r, hr, r1, r2, r3, r4, r5⟩ := read_law p k h0
      have hd : (errOf p k == 0) = true := by simpa using h0
      have HRL := Lib.hid hr; have H5 := Lib.hid r5
      clear hr r5 h0 hk3
      go_wp2_with fail
      refine (read_any _ _ _ HR2.out (by omega)).mono ?_
      rintro e w3 ⟨v3, rfl, o3, b3⟩
      rw [HRL.out] at o3 ⊢
      have R3 : RdI w3 v3 r := RdI_of_own o3
      clear o3
      obtain ⟨a3, c3, rfl, _, F⟩ := RdI.open R3
      have HF := Lib.hid F; have HB3 := Lib.hid b3
      clear F b3 R3 HRL
      have d1 : decide ((r.length : Int) < p) = false := decide_eq_false (by omega)
      have d2 : decide (p + 2 * k ≤ (r.length : Int)) = false := decide_eq_false (by omega)
      have d3 : ((r.length : Int) % (2 * k) != 0) = false := by simpa using r3
      clear r3
      go_wp2_with fail
      clear d1 d2 d3
      go_loop [19] (fun i => ∃ t : Nat, t ≤ r.length ∧ i = .int .i64 t) (fun i => r.length - (intOf i).toNat)
      case atStart => exact ⟨0, by omega, rfl⟩
      case round =>
        obtain ⟨t, ht, rfl⟩ := hrel
        by_cases hlt : t < r.length
        · obtain ⟨x, hx⟩ := elem_at hlt
          obtain ⟨b1, o1, rfl, _, g0⟩ := HF.out t x hx
          obtain ⟨q1, q2⟩ := H5.out t x hx
          clear hx
          by_cases htp : (t : Int) < p
          · have hx1 := q1 htp
            subst hx1
            have e1 : decide ((t : Int) < p) = true := decide_eq_true htp
            have e2 : decide (p ≤ (t : Int)) = false := decide_eq_false (by omega)
            have e3 : ((t : Int) + 1 != (t : Int) + 1) = false := by simp
            clear q1 q2
            go_wp2_with fail
            go_round
            case rel => exact ⟨t + 1, by omega, by go_num⟩
            case measure => simp [intOf]; omega
          · have hx1 := q2 (by omega)
            subst hx1
            have e1 : decide ((t : Int) < p) = false := decide_eq_false htp
            have e2 : decide (p ≤ (t : Int)) = true := decide_eq_true (by omega)
            clear q1 q2
            go_wp2_with fail
            go_round
            case rel => exact ⟨t + 1, by omega, by go_num⟩
            case measure => simp [intOf]; omega
        · go_wp2_with fail
          go_meet
          exact HB3.out
    · have hd : (errOf p k == 0) = false := by simpa using h0
      clear h0
      go_wp2_with fail
      go_meet
      exact Below.refl _ _
  case rest =>
    have B3 : Below w2.heap.size w2 wc := hcut
    have R5 := Rd.below HR5.out B3
    have R2 := Rd.below HR2.out B3
    have BB := HBB.out.trans (B3.mono HBB.out.size)
    clear HR5 HR2 HBB hcut B3
    obtain ⟨t1, t2⟩ := tdiv3 bb hb hb'
    go_wp2_with fail
    refine (plain_any _ _ _ R2 (by omega)).mono ?_
    rintro e x1 ⟨v102, rfl, o, c⟩
    have R102 : RdS x1 v102 (fold p k) := Rd_of_owns o
    have R5 := Rd.below R5 c
    have BB := BB.trans (c.mono BB.size)
    clear o c R2
    go_wp2_with fail
    refine (bent_any _ (fold p k) how bb _ hh hh' hb hb' R102 (by omega)).mono ?_
    rintro e x2 ⟨⟨v20, ys, rfl, R20, hyl⟩, c⟩
    have R5 := Rd.below R5 c
    have BB := BB.trans (c.mono BB.size)
    clear c R102
    obtain ⟨a20, c20, rfl, _⟩ := RdS.open R20
    go_wp2_with fail
    refine (bent_any _ ys also (bb.tdiv 3) _ hg hg' t1 t2 R20 (by omega)).mono ?_
    rintro e x3 ⟨⟨v111, zs, rfl, R111, hzl⟩, c⟩
    obtain ⟨a111, c111, rfl, _⟩ := RdS.open R111
    have R20 := Rd.below R20 c
    have R5 := Rd.below R5 c
    have BB := BB.trans (c.mono BB.size)
    clear c
    go_wp2_with fail
    refine (plain_any _ _ _ R5 hraw).mono ?_
    rintro e x4 ⟨v113, rfl, o, c⟩
    have R113 : RdS x4 v113 raw := Rd_of_owns o
    obtain ⟨a113, c113, rfl, _⟩ := RdS.open R113
    have R111 := Rd.below R111 c
    have R20 := Rd.below R20 c
    have BB := BB.trans (c.mono BB.size)
    clear o c R5
    have HL4 := Lib.hid (list4S x4 _ _ _ (.slice none 0 0) ys zs raw [] 31 R20 R111 R113 (RdS_nil x4) (by omega) (by omega) hraw (by simp))
    have HBB := Lib.hid (BB.trans (((Below.refl x4.heap.size x4).alloc (Nat.le_refl _) (.cells #[.slice a20 ys.length c20, .slice a111 zs.length c111, .slice a113 raw.length c113, .slice none 0 0] 31)).mono BB.size))
    clear R20 R111 R113 BB
    go_wp2_with fail
    have hbW : x4.heap.size < (x4.alloc (.cells #[.slice a20 ys.length c20, .slice a111 zs.length c111, .slice a113 raw.length c113, .slice none 0 0] 31)).heap.size := by simp
    generalize hW : (x4.alloc (.cells #[.slice a20 ys.length c20, .slice a111 zs.length c111, .slice a113 raw.length c113, .slice none 0 0] 31)) = W at HL4 HBB hbW ⊢
    clear hW
    generalize x4.heap.size = bW at HL4 hbW ⊢
    go_loopw [22] (fun i wr => ∃ t : Nat, t ≤ 4 ∧ i = .int .i64 t ∧ Below W.heap.size W wr) (fun i _ => 4 - (intOf i).toNat)
    case atStart => exact ⟨0, by omega, rfl, Below.refl _ _⟩
    case round =>
      obtain ⟨t, ht, rfl, hbl⟩ := hrel
      by_cases hlt : t < 4
      · obtain ⟨v, l, g0, Rv, hv⟩ := HL4.out t hlt
        have g0 := cell_bl hbl g0
        have Rv := Rd.below Rv hbl
        have hws := hbl.size
        have HB := Lib.hid hbl
        clear hbl
        go_wp2_with fail
        refine (own_any _ _ _ Rv hv).mono ?_
        rintro e y1 ⟨v126, rfl, o, c⟩
        have R126 : RdS y1 v126 l := Rd_of_owns o
        have g0 := cell_bl c g0
        have Rv := Rd.below Rv c
        have HB := Lib.hid (HB.out.trans (c.mono HB.out.size))
        clear o c
        go_wp2_with fail
        refine (read_any _ _ _ R126 hv).mono ?_
        rintro e y2 ⟨v23, rfl, o, c⟩
        have R23 : RdI y2 v23 (readL l).1 := RdI_of_own o
        have g0 := cell_bl c g0
        have Rv := Rd.below Rv c
        have HB := Lib.hid (HB.out.trans (c.mono HB.out.size))
        clear o c R126
        go_wp2_with fail
        refine (rread_any _ _ _ Rv hv).mono ?_
        rintro e y3 ⟨v25, rfl, o, c⟩
        have R25 : RdI y3 v25 (readL l).1 := RdI_of_own o
        have R23 := Rd.below R23 c
        have HB := Lib.hid (HB.out.trans (c.mono HB.out.size))
        clear o c Rv
        have hEE : ((readL l).2 != (readL l).2) = false := by simp
        go_wp2_with fail
        refine (sameInts_any _ _ (readL l).1 (readL l).1 _ R23 R25).mono ?_
        rintro e y4 ⟨rfl, c⟩
        have HB := Lib.hid (HB.out.trans (c.mono HB.out.size))
        clear c R23 R25
        rw [decide_eq_true (rfl : (readL l).1 = (readL l).1)]
        go_wp2_with fail
        go_roundw
        case rel => exact ⟨t + 1, by omega, by go_num, HB.out⟩
        case measure => simp [intOf]; omega
      · go_wp2_with fail
        refine (LV _).mono ?_
        rintro e y1 ⟨rfl, c⟩
        have BB := HBB.out.trans (hbl.mono HBB.out.size)
        have BB := BB.trans (c.mono BB.size)
        go_wp2_with fail
        go_ret
        exact ⟨rfl, BB⟩
end Go.Proofs.Ythldekpbjfhmcaa
