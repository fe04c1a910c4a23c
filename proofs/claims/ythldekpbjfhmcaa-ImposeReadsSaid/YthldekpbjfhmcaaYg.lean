/- ImposeCancels: the walk of the law's function: it returns true for all numbers and lists. -/
import Derived.Test.YthldekpbjfhmcaaYe
import Derived.Test.YthldekpbjfhmcaaYf
import Derived.Test.YthldekpbjfhmcaaYb
import Derived.Deep.CutRange
import Derived.Deep.CutBlock
namespace Go.Proofs.Ythldekpbjfhmcaa
open Go.RowKit

theorem RdI.block {w : World} {a : Option Addr} {n cap : Nat} {xs : List Int} (h : RdI w (.slice a n cap) xs) : n = xs.length := by
  obtain ⟨_, _, _, h2, _⟩ := h; cases h2; rfl

theorem own_new (w : World) (xs : List Int) (B : Nat) (hB : B ≤ w.heap.size) (hx : xs.length ≤ 100) : (w.alloc (.cells (ints xs).toArray 3)).ownsRow B 3 1 (.slice (some ⟨w.heap.size, 0, none⟩) xs.length xs.length) xs.length (ints xs) := by
  refine ⟨by simp [ints], .inr ⟨w.heap.size, xs.length, _, rfl, hB, heap_alloc_new _ _, Nat.le_refl _, by unfold maxLen; omega, by simp [ints], ?_⟩⟩
  rw [Nat.mul_one]; exact List.take_of_length_le (by simp [ints])

theorem list4 (W : World) (v0 v1 v2 v3 : Value) (l0 l1 l2 l3 : List Int) (t : TypeId) (h0 : RdI W v0 l0) (h1 : RdI W v1 l1) (h2 : RdI W v2 l2) (h3 : RdI W v3 l3) (i : Nat) (hi : i < 4) :
    ∃ v l, (W.alloc (.cells #[v0, v1, v2, v3] t)).cell? ⟨W.heap.size, i, none⟩ = some v ∧ RdI (W.alloc (.cells #[v0, v1, v2, v3] t)) v l := by
  have hb : Below W.heap.size W (W.alloc (.cells #[v0, v1, v2, v3] t)) := (Below.refl _ _).alloc (Nat.le_refl _) _
  have hc : ∀ j v, (#[v0, v1, v2, v3] : Array Value)[j]? = some v → (W.alloc (.cells #[v0, v1, v2, v3] t)).cell? ⟨W.heap.size, j, none⟩ = some v := fun j v hv => by
    simp only [World.cell?, heap_alloc_new]; exact hv
  obtain rfl | rfl | rfl | rfl : i = 0 ∨ i = 1 ∨ i = 2 ∨ i = 3 := by omega
  · exact ⟨v0, l0, hc _ _ rfl, Rd.below h0 hb⟩
  · exact ⟨v1, l1, hc _ _ rfl, Rd.below h1 hb⟩
  · exact ⟨v2, l2, hc _ _ rfl, Rd.below h2 hb⟩
  · exact ⟨v3, l3, hc _ _ rfl, Rd.below h3 hb⟩

theorem RdI_nil (w : World) : RdI w (.slice none 0 0) [] := ⟨rfl, none, 0, rfl, Nat.le_refl _, by omega, .inl ⟨rfl, rfl⟩⟩

theorem OwnI.app {w : World} {B : Nat} {v : Value} {xs ys : List Int} (h : w.ownsRow B 3 1 v (xs.length + ys.length) (ints xs ++ ints ys)) : OwnI w B v (xs ++ ys) := by
  unfold OwnI ints at *; rw [List.length_append, List.map_append]; exact h

theorem RdI.take {w : World} {a : Option Addr} {n cap : Nat} {xs : List Int} (h : RdI w (.slice a n cap) xs) (j : Nat) (hj : j ≤ xs.length) : RdI w (.slice a j cap) (xs.take j) := by
  obtain ⟨h1, a', cap', he, hcap, hcm, hd⟩ := h
  cases he
  refine ⟨by simp [ints, hj], a, cap, by rw [List.length_take, Nat.min_eq_left hj], by rw [List.length_take, Nat.min_eq_left hj]; omega, hcm, ?_⟩
  rcases hd with hd | ⟨b, off, e, hb, hc⟩
  · exact .inl hd
  · refine .inr ⟨b, off, e, hb, fun i u hu => hc i u ?_⟩
    unfold ints at hu ⊢
    rw [List.map_take] at hu
    rw [List.getElem?_take] at hu
    split at hu
    · exact hu
    · cases hu

theorem RdI.drop {w : World} {a : Option Addr} {n cap : Nat} {xs : List Int} (h : RdI w (.slice a n cap) xs) (j : Nat) (hj : j ≤ xs.length) :
    (a = none ∧ j = 0 ∧ RdI w (.slice none 0 0) (xs.drop j)) ∨ (∃ b off, a = some ⟨b, off, none⟩ ∧ RdI w (.slice (some ⟨b, off + j, none⟩) (xs.length - j) (cap - j)) (xs.drop j) ∧ (cap - j = 0 → RdI w (.slice (some ⟨b, off, none⟩) (xs.length - j) 0) (xs.drop j))) := by
  obtain ⟨h1, a', cap', he, hcap, hcm, hd⟩ := h
  cases he
  rcases hd with ⟨rfl, rfl⟩ | ⟨b, off, rfl, hb, hc⟩
  · left
    have : xs = [] := List.eq_nil_of_length_eq_zero (by omega)
    subst this
    exact ⟨rfl, by simpa using hj, by simpa using RdI_nil w⟩
  · right
    refine ⟨b, off, rfl, ⟨by simp [ints], _, _, by rw [List.length_drop], by rw [List.length_drop]; omega, by omega, .inr ⟨b, off + j, rfl, hb, fun i u hu => ?_⟩⟩, fun hz => ?_⟩
    · unfold ints at hu
      rw [List.map_drop, List.getElem?_drop] at hu
      rw [Nat.add_assoc]; exact hc (j + i) u hu
    · have hl : xs.drop j = [] := List.drop_of_length_le (by omega)
      rw [hl, show xs.length - j = 0 by omega]
      exact ⟨rfl, _, _, rfl, Nat.le_refl _, by omega, .inr ⟨b, off, rfl, hb, fun i u hu => by simp [ints] at hu⟩⟩


theorem count2 (x : Int) (w : World) (h1 : 0 ≤ x) (h2 : x ≤ 999) : Calls Try.prog 26 #[.int .i64 x, .int .i64 2] w fun e w' => (∃ z, e = .returned (.int .i64 z) ∧ 0 ≤ z ∧ z ≤ 250) ∧ w = w' :=
  (count_any x 2 w h1 h2 (by omega) (by omega)).mono fun _ _ ⟨he, hw⟩ => ⟨⟨_, he, (cnt_bd x 2 h1 h2 (by omega) (by omega)).1, (cnt_bd x 2 h1 h2 (by omega) (by omega)).2.1⟩, hw⟩

set_option maxRecDepth 100000 in
set_option maxHeartbeats 8000000 in
theorem cancels_any (LV : Lives) (n m at' : Int) (v2 v4 : Value) (ls rs : List Int) (w : World) (hn : -9223372036854775808 ≤ n) (hn' : n ≤ 9223372036854775807) (hm : -9223372036854775808 ≤ m) (hm' : m ≤ 9223372036854775807) (ha : -9223372036854775808 ≤ at') (ha' : at' ≤ 9223372036854775807)
    (R2 : RdI w v2 ls) (hls : ∀ x, x ∈ ls → -9223372036854775808 ≤ x ∧ x ≤ 9223372036854775807) (R4 : RdI w v4 rs) :
    Calls Try.prog 6 #[.int .i64 n, .int .i64 m, v2, .int .i64 at', v4] w fun e w' => e = .returned (.bool true) ∧ Below w.heap.size w w' := by
  obtain ⟨a2, c2, rfl, l2, f2⟩ := R2.open
  obtain ⟨a4, c4, rfl, l4, f4⟩ := R4.open
  clear f2 f4
  go_enter Try.func6, Try.ntmps6
  go_wp2_with fail
  refine (volume_any n m _ hn hn' hm hm').mono ?_
  rintro e w1 ⟨⟨p, k, rfl, p1, p2, k1, k2⟩, BB⟩
  have R2 := R2.below BB
  have R4 := R4.below BB
  have HR2 := Lib.hid R2; have HR4 := Lib.hid R4; have HLS := Lib.hid hls
  clear R2 R4 hls
  go_upto_region 3 with fail
  go_cut [14] from 38 to 42 (fun v14 w' => ∃ mo : Int, 0 ≤ mo ∧ mo ≤ 600 ∧ v14 = .int .i64 mo ∧ w' = w1)
  case first =>
    go_wp2_with fail
    all_goals
      refine (count2 _ _ ?_ ?_).mono ?_
      · omega
      · omega
      rintro e w2 ⟨⟨z, rfl, z1, z2⟩, rfl⟩
      go_wp2_with fail
      go_meet
      exact ⟨_, by omega, by omega, rfl, rfl⟩
  case rest =>
    obtain ⟨mo, mo0, mo1, rfl, hw⟩ := hcut
    rw [hw]
    clear hw wc
    obtain ⟨i0, hi0, hz0, hz1, hz2⟩ := info_parts Try.info3
    have HI := Lib.hid hi0; have HZ0 := Lib.hid hz0; have HZ1 := Lib.hid hz1; have HZ2 := Lib.hid hz2
    clear hi0 hz0 hz1 hz2
    have HBB := Lib.hid BB
    clear BB
    go_upto_block 0 with fail
    go_cut [13, 15] from 43 to 62 (fun v _ w' => ∃ L : List Int, L.length ≤ 9 ∧ OwnI w' w1.heap.size v L ∧ Below w1.heap.size w1 w')
    case first =>
      go_wp2_with fail
      go_loopw [13, 15] (fun v i wr => ∃ L : List Int, L.length ≤ 9 ∧ L.length ≤ ls.length ∧ i = .int .i64 L.length ∧ OwnI wr w1.heap.size v L ∧ Below w1.heap.size w1 wr) (fun _ i _ => 9 - (intOf i).toNat)
      case atStart => exact ⟨[], by simp, by simp, rfl, OwnI.nil _ _, Below.refl _ _⟩
      case round =>
        obtain ⟨L, h9, hL, rfl, hO, hb⟩ := hrel
        by_cases hlt : L.length < ls.length ∧ L.length < 9
        · obtain ⟨hlt1, hlt2⟩ := hlt
          obtain ⟨x, hx⟩ := elem_at hlt1
          obtain ⟨_, _, hv, _, g⟩ := RdI.open (Rd.below HR2.out hb)
          cases hv
          obtain ⟨b1, o1, rfl, hl, g0⟩ := g _ x hx
          obtain ⟨x1, x2⟩ := HLS.out x (List.mem_of_getElem? hx)
          have hbs := hb.size
          have HO := Lib.hid hO; have HB := Lib.hid hb
          clear g hx hO hb
          go_wp2_with fail
          refine (around_any x (mo + 2) _ x1 x2 (by omega) (by omega)).mono ?_
          rintro e w3 ⟨rfl, rfl⟩
          generalize around x (mo + 2) = y
          go_wp2_with (at_builtin; go_must (refine wpList_append_lies _ rfl _ _ _ rfl w1.heap.size 3 i0 _ 1 8 Try.underlying28 HI.out HZ0.out HZ1.out HZ2.out rfl (by omega) _ L.length (ints L) rfl (HO.out.alloc _) ⟨wr.heap.size, 0, none⟩ 1 1 [.int .i64 y] rfl rfl (cell_one_new _ _ _) (by simp [Value.oneCell']) (by omega) (by unfold maxLen; omega) (by omega) (by simp; omega) (wr.heap.size + 1) (by simp) ?_); intro gg cap w3 hown1 hgrow hat hltg)
          go_roundw
          case rel => exact ⟨L ++ [y], by simp; omega, by simp; omega, by simp, OwnI.snoc1 hown1, (HB.out.alloc hbs _).grown hgrow (by simp; omega) (fun j e => (HO.out.lt j e).1)⟩
          case measure => simp [intOf]; omega
        · have hd : decide ((L.length : Int) < (ls.length : Int)) = decide ((L.length : Int) < (ls.length : Int)) := rfl
          by_cases h1 : L.length < ls.length
          · have h2 : ¬ L.length < 9 := fun h => hlt ⟨h1, h⟩
            have HO := Lib.hid hO; have HB := Lib.hid hb
            clear hlt hO hb hd
            go_wp2_with fail
            go_meet
            exact ⟨L, h9, HO.out, HB.out⟩
          · have HO := Lib.hid hO; have HB := Lib.hid hb
            clear hlt hO hb hd
            go_wp2_with fail
            go_meet
            exact ⟨L, h9, HO.out, HB.out⟩
    case rest =>
      obtain ⟨L, h9, hO, hb⟩ := hcut
      have R13 : RdI wc _ L := RdI_of_own hO
      have R4 := Rd.below HR4.out hb
      have BB := HBB.out.trans (hb.mono HBB.out.size)
      clear hO hb HR2 HR4 HLS HBB
      obtain ⟨a13, c13, rfl, _⟩ := R13.open
      have HR13 := Lib.hid R13; have HR4 := Lib.hid R4; have HBB := Lib.hid BB
      clear R13 R4 BB
      go_wp2_with (at_builtin; go_must (refine wpList_append_rd rfl _ _ _ rfl wc.heap.size 3 i0 _ 1 8 Try.underlying28 HI.out HZ0.out HZ1.out HZ2.out rfl (by omega) (.slice (some ⟨wc.heap.size, 0, none⟩) 2 2) 2 (ints [1, 1]) rfl (own_new wc [1, 1] _ (Nat.le_refl _) (by simp)) (.slice a13 L.length c13) L.length (ints L) rfl (Rd.below HR13.out ((Below.refl _ _).alloc (Nat.le_refl _) _)) (by simp [ints, Value.oneCell']) (by unfold maxLen; omega) (by omega) (by simp) ?_); intro v6 w6 hown6 hgrow6 _; have R6 : RdI w6 v6 ([1, 1] ++ L) := RdI_of_own (OwnI.app hown6); obtain ⟨a6, c6, hv6, _⟩ := RdI.open R6; subst hv6; clear hown6)
      have B6 : Below wc.heap.size wc w6 := ((Below.refl _ _).alloc (Nat.le_refl _) _).grown hgrow6 (by simp) (fun j e => by simp [Value.ownBlock] at e; omega)
      clear hgrow6
      have R13 := Rd.below HR13.out B6
      have R4 := Rd.below HR4.out B6
      have L4 := list4 w6 _ _ _ (.slice a6 (L.length + 1 + 1) c6) _ _ _ _ 28 R13 R4 (RdI_nil w6) R6
      have B7 := B6.trans (((Below.refl w6.heap.size w6).alloc (Nat.le_refl _) (.cells #[.slice a13 L.length c13, .slice a4 rs.length c4, .slice none 0 0, .slice a6 (L.length + 1 + 1) c6] 28)).mono B6.size)
      have hb16 : w6.heap.size < (w6.alloc (.cells #[.slice a13 L.length c13, .slice a4 rs.length c4, .slice none 0 0, .slice a6 (L.length + 1 + 1) c6] 28)).heap.size := by simp
      generalize (w6.alloc (.cells #[.slice a13 L.length c13, .slice a4 rs.length c4, .slice none 0 0, .slice a6 (L.length + 1 + 1) c6] 28)) = W7 at L4 B7 hb16 ⊢
      generalize w6.heap.size = b16 at L4 hb16 ⊢
      clear R4 R6 HR4
      have HL4 := Lib.hid L4
      have BB := HBB.out.trans (B7.mono HBB.out.size)
      have R13 := Rd.below HR13.out B7
      clear HBB HR13 L4 B6 B7
      have HBB := Lib.hid BB; have HR13 := Lib.hid R13
      clear BB R13
      go_loopw [17] (fun i wr => ∃ t : Nat, t ≤ 4 ∧ i = .int .i64 t ∧ Below W7.heap.size W7 wr) (fun i _ => 4 - (intOf i).toNat)
      case atStart => exact ⟨0, by omega, rfl, Below.refl _ _⟩
      case round =>
        obtain ⟨t, ht, rfl, hb⟩ := hrel
        by_cases hlt : t < 4
        · obtain ⟨v, l, g0, Rv⟩ := HL4.out t hlt
          have g0 := cell_bl hb g0
          have Rv := Rd.below Rv hb
          obtain ⟨av, cv, rfl, lv, _⟩ := RdI.open Rv
          have hll := sheetsL_len p k l
          have C25 := fun w h => sheetsB_any p k (.slice av l.length cv) l w (by omega) (by omega) (by omega) (by omega) h
          have C27 := fun w h => rsheets_any p k (.slice av l.length cv) l w (by omega) (by omega) (by omega) (by omega) h
          generalize (sheetsL p k l).1 = A at hll C25 C27
          generalize (sheetsL p k l).2 = E at C25 C27
          have HB := Lib.hid hb
          clear hb
          go_wp2_with fail
          refine (C25 _ Rv).mono ?_
          rintro e w8 ⟨v8, rfl, o8, b8⟩
          have R8 : RdI w8 v8 A := RdI_of_own o8
          have g0 := cell_bl b8 g0
          have Rv := Rd.below Rv b8
          have BW := HB.out.trans (b8.mono HB.out.size)
          clear o8 b8 HB
          have HB := Lib.hid BW
          clear BW
          go_wp2_with fail
          refine (C27 _ Rv).mono ?_
          rintro e w9 ⟨v9, rfl, o9, b9⟩
          have R9 : RdI w9 v9 A := RdI_of_own o9
          have g0 := cell_bl b9 g0
          have R8 : RdI w9 v8 A := Rd.below R8 b9
          have BW := HB.out.trans (b9.mono HB.out.size)
          clear o9 b9 HB Rv C25 C27
          have HB := Lib.hid BW
          clear BW
          obtain ⟨a8, c8, hv8, _⟩ := RdI.open R8
          subst hv8
          have hEE : (E != E) = false := by simp
          have hlA : decide ((l.length : Int) < (A.length : Int)) = false := decide_eq_false (by omega)
          go_wp2_with fail
          refine (sameInts_any _ _ A A _ R8 R9).mono ?_
          rintro e w10 ⟨rfl, b9⟩
          have g0 := cell_bl b9 g0
          have BW := HB.out.trans (b9.mono HB.out.size)
          clear b9 HB R8 R9
          have HB := Lib.hid BW
          clear BW
          rw [decide_eq_true (rfl : A = A)]
          go_wp2_with fail
          go_roundw
          case rel => exact ⟨t + 1, by omega, by go_num, HB.out⟩
          case measure => simp [intOf]; omega
        · have R13 := Rd.below HR13.out hb
          have BB := HBB.out.trans (hb.mono HBB.out.size)
          clear HBB HR13 HL4 hb
          have HBB := Lib.hid BB; have HR13 := Lib.hid R13
          clear BB R13
          go_wp2_with fail
          refine (around_any at' (L.length + 1) _ ha ha' (by omega) (by omega)).mono ?_
          rintro e w8 ⟨rfl, rfl⟩
          obtain ⟨j, hj, hjL⟩ : ∃ j : Nat, around at' (L.length + 1) = j ∧ j ≤ L.length := by
            obtain ⟨q1, q2⟩ := around_bd at' (L.length + 1) (by omega)
            exact ⟨(around at' (L.length + 1)).toNat, by omega, by omega⟩
          rw [hj]
          clear hj
          go_upto_region 17 with fail
          go_cut [23, 24] from 119 to 127 (fun v23 v24 w' => v24 = .int .i64 (sheetsL p k (L.take j)).2 ∧ RdI w' v23 (sheetsL p k (L.take j)).1 ∧ Below wr.heap.size wr w')
          case first =>
            have R13 := HR13.out
            have RT := RdI.take R13 j hjL
            obtain ⟨_, a', cap', he, hcap, hcm, hd⟩ := R13
            cases he
            have C25 := fun v w h => sheetsB_any p k v (L.take j) w (by omega) (by omega) (by omega) (by omega) h
            rcases hd with ⟨rfl, rfl⟩ | ⟨b, off, rfl, hbl, hc⟩
            · clear HR13 HBB HI HZ0 HZ1 HZ2
              go_wp2_with fail
              refine (C25 _ _ RT).mono ?_
              rintro e w9 ⟨v9, rfl, o9, b9⟩
              go_wp2_with fail
              go_meet
              exact ⟨rfl, RdI_of_own o9, b9⟩
            · clear hc HR13 HBB HI HZ0 HZ1 HZ2
              go_wp2_with fail
              refine (C25 _ _ RT).mono ?_
              rintro e w9 ⟨v9, rfl, o9, b9⟩
              go_wp2_with fail
              go_meet
              exact ⟨rfl, RdI_of_own o9, b9⟩
          case rest =>
            obtain ⟨rfl, Ra, bb⟩ := hcut
            have R13 := Rd.below HR13.out bb
            have BB := HBB.out.trans (bb.mono HBB.out.size)
            clear HBB HR13 bb
            have HBB := Lib.hid BB; have HR13 := Lib.hid R13; have HRa := Lib.hid Ra
            clear BB R13 Ra
            obtain ⟨wp, hwp⟩ : ∃ wp, wp = wc := ⟨_, rfl⟩
            go_upto_region 18 with fail
            go_cut [25, 26] from 128 to 136 (fun v25 v26 w' => v26 = .int .i64 (sheetsL p k (L.drop j)).2 ∧ RdI w' v25 (sheetsL p k (L.drop j)).1 ∧ Below wp.heap.size wp w')
            case first =>
              subst hwp
              have R13 := HR13.out
              have RT := RdI.drop R13 j hjL
              obtain ⟨_, a', cap', he, hcap, hcm, hd⟩ := R13
              cases he
              have C25 := fun v w h => sheetsB_any p k v (L.drop j) w (by omega) (by omega) (by omega) (by omega) h
              have hc0' : a13 = none → c13 = 0 := by rintro rfl; rcases hd with ⟨_, h⟩ | ⟨b, off, h, _⟩ <;> first | exact h | cases h
              clear HR13 HBB HI HZ0 HZ1 HZ2 hd hcm
              rcases RT with ⟨rfl, rfl, RT⟩ | ⟨b, off, rfl, RT, RT0⟩
              · have hc0 : c13 = 0 := hc0' rfl
                subst hc0
                go_wp2_with fail
                refine (C25 _ _ RT).mono ?_
                rintro e w9 ⟨v9, rfl, o9, b9⟩
                go_wp2_with fail
                go_meet
                exact ⟨rfl, RdI_of_own o9, b9⟩
              · have HT := Lib.hid RT; have HT0 := Lib.hid RT0
                clear RT RT0 hc0'
                by_cases hz : c13 - j = 0
                · have RT := HT0.out hz
                  go_wp2_with fail
                  refine (C25 _ _ RT).mono ?_
                  rintro e w9 ⟨v9, rfl, o9, b9⟩
                  go_wp2_with fail
                  go_meet
                  exact ⟨rfl, RdI_of_own o9, b9⟩
                · go_wp2_with fail
                  refine (C25 _ _ HT.out).mono ?_
                  rintro e w9 ⟨v9, rfl, o9, b9⟩
                  go_wp2_with fail
                  go_meet
                  exact ⟨rfl, RdI_of_own o9, b9⟩
            case rest =>
              subst hwp
              obtain ⟨rfl, Rb, bb⟩ := hcut
              have Ra := Rd.below HRa.out bb
              have R13 := Rd.below HR13.out bb
              have BB := HBB.out.trans (bb.mono HBB.out.size)
              clear HBB HR13 HRa bb
              have C25 := fun w h => sheetsB_any p k (.slice a13 L.length c13) L w (by omega) (by omega) (by omega) (by omega) h
              have law := cancels_law p k (L.take j) (L.drop j)
              have two := sheetsL_two p k (L.take j) (L.drop j)
              rw [List.take_append_drop] at law two
              have hab : (sheetsL p k (L.take j)).1.length ≤ 1000 ∧ (sheetsL p k (L.drop j)).1.length ≤ 1000 := by
                have h1 := sheetsL_len p k (L.take j)
                have h2 := sheetsL_len p k (L.drop j)
                rw [List.length_take] at h1; rw [List.length_drop] at h2; omega
              generalize (sheetsL p k (L.take j)).1 = A at Ra law hab
              generalize (sheetsL p k (L.drop j)).1 = B at Rb law hab
              generalize (sheetsL p k L).1 = C at C25 law
              generalize (sheetsL p k (L.take j)).2 = eA at two ⊢
              generalize (sheetsL p k (L.drop j)).2 = eB at two ⊢
              generalize (sheetsL p k L).2 = eC at C25 law two
              have HBB := Lib.hid BB; have HRa := Lib.hid Ra; have HRb := Lib.hid Rb; have HLW := Lib.hid law
              clear BB Ra Rb law
              go_wp2_with fail
              refine (C25 _ R13).mono ?_
              rintro e w9 ⟨v9, rfl, o9, b9⟩
              have Rc : RdI w9 v9 C := RdI_of_own o9
              have Ra := Rd.below HRa.out b9
              have Rb := Rd.below HRb.out b9
              have BB := HBB.out.trans (b9.mono HBB.out.size)
              clear HBB HRa HRb o9 b9 R13 C25
              have HBB := Lib.hid BB
              clear BB
              by_cases hC : eC = 0
              · obtain ⟨hA, hB⟩ := two.1 hC
                subst hC hA hB
                obtain ⟨lw1, lw2, lw3⟩ := HLW.out rfl
                have HL1 := Lib.hid lw1; have HL2 := Lib.hid lw2; have HL3 := Lib.hid lw3
                clear HLW two lw1 lw2 lw3
                have hAB : A.length ≤ 1000 ∧ B.length ≤ 1000 := hab
                obtain ⟨ac, cc, rfl, lc, fc⟩ := RdI.open Rc
                have HFC := Lib.hid fc
                clear fc
                go_wp2_with fail
                go_loopw [29] (fun i wr => ∃ t : Nat, t ≤ C.length ∧ i = .int .i64 t ∧ ∃ nq, wr = w9.drewN nq) (fun i _ => C.length - (intOf i).toNat)
                case atStart => exact ⟨0, by omega, rfl, 0, rfl⟩
                case round =>
                  obtain ⟨t, ht, rfl, nq, rfl⟩ := hrel
                  by_cases htl : t < C.length
                  · obtain ⟨x, hx⟩ := elem_at htl
                    obtain ⟨b1, o1, rfl, _, g0⟩ := HFC.out t x hx
                    have HA : ∀ q, Calls Try.prog 28 #[u23, .int .i64 x] (w9.drewN (nq + q)) fun e w' => e = .returned (.bool (decide (x ∈ A))) ∧ ∃ r, w' = w9.drewN (nq + r) := fun q => (hasL_any u23 A x _ (Rd.below Ra (Below.dn (Below.refl _ _) (nq + q)))).mono fun _ _ ⟨he, hw⟩ => ⟨he, q, hw.symm⟩
                    have HB : ∀ q, Calls Try.prog 28 #[u25, .int .i64 x] (w9.drewN (nq + q)) fun e w' => e = .returned (.bool (decide (x ∈ B))) ∧ ∃ r, w' = w9.drewN (nq + r) := fun q => (hasL_any u25 B x _ (Rd.below Rb (Below.dn (Below.refl _ _) (nq + q)))).mono fun _ _ ⟨he, hw⟩ => ⟨he, q, hw.symm⟩
                    have hmem := HL1.out x (List.mem_of_getElem? hx)
                    have hRa := Lib.hid Ra; have hRb := Lib.hid Rb
                    clear Ra Rb Rc
                    rcases Nat.eq_zero_or_pos t with h0 | h0
                    · subst h0
                      rw [Nat.add_zero] at g0
                      have HX := Lib.hid hx
                      clear hx
                      by_cases hxA : x ∈ A
                      · rw [decide_eq_true hxA] at HA
                        clear HB hmem hxA
                        go_wp2_with fail
                        go_quiet (first | (go_at_call_of 28 u23; exact HA _))
                        go_wp2_with fail
                        go_roundw
                        case rel => exact ⟨1, by omega, by go_num, _, rfl⟩
                        case measure => simp [intOf]; omega
                      · have hxB : x ∈ B := hmem.resolve_left hxA
                        rw [decide_eq_false hxA] at HA
                        rw [decide_eq_true hxB] at HB
                        clear hmem hxA hxB
                        go_wp2_with fail
                        go_quiet (first | (go_at_call_of 28 u23; exact HA _) | (go_at_call_of 28 u25; exact HB _))
                        go_wp2_with fail
                        go_roundw
                        case rel => exact ⟨1, by omega, by go_num, _, rfl⟩
                        case measure => simp [intOf]; omega
                    · obtain ⟨s, rfl⟩ : ∃ s, t = s + 1 := ⟨t - 1, by omega⟩
                      obtain ⟨y, hy⟩ := elem_at (show s < C.length by omega)
                      obtain ⟨b1', o1', he, _, g1⟩ := HFC.out s y hy
                      cases he
                      have hlt := HL3.out s y x hy hx
                      have d1 : decide (x ≤ y) = false := decide_eq_false (by omega)
                      have d2 : decide ((0 : Int) < ((s : Nat) : Int) + 1) = true := decide_eq_true (by omega)
                      clear hx hy h0
                      by_cases hxA : x ∈ A
                      · rw [decide_eq_true hxA] at HA
                        clear HB hmem hxA
                        go_wp2_with fail
                        go_quiet (first | (go_at_call_of 28 u23; exact HA _))
                        go_wp2_with fail
                        go_roundw
                        case rel => exact ⟨s + 2, by omega, by go_num, _, rfl⟩
                        case measure => simp [intOf]; omega
                      · have hxB : x ∈ B := hmem.resolve_left hxA
                        rw [decide_eq_false hxA] at HA
                        rw [decide_eq_true hxB] at HB
                        clear hmem hxA hxB
                        go_wp2_with fail
                        go_quiet (first | (go_at_call_of 28 u23; exact HA _) | (go_at_call_of 28 u25; exact HB _))
                        go_wp2_with fail
                        go_roundw
                        case rel => exact ⟨s + 2, by omega, by go_num, _, rfl⟩
                        case measure => simp [intOf]; omega
                  · have hdn : Below w9.heap.size w9 (w9.drewN nq) := Below.dn (Below.refl _ _) nq
                    have Ra := Rd.below Ra hdn
                    have Rb := Rd.below Rb hdn
                    have Rc := Rd.below Rc hdn
                    have BB := HBB.out.trans (hdn.mono HBB.out.size)
                    clear HBB HL1 HL3 HFC hdn
                    generalize w9.drewN nq = W at Ra Rb Rc BB ⊢
                    have HBB := Lib.hid BB; have HRa := Lib.hid Ra; have HRb := Lib.hid Rb; have HRc := Lib.hid Rc
                    have lAB : A.length ≤ 1000 ∧ B.length ≤ 1000 := hAB
                    clear BB Ra Rb Rc
                    go_wp2_with (first
                      | (at_builtin; refine wpList_append_rd rfl _ _ _ rfl W.heap.size 3 i0 _ 1 8 Try.underlying28 HI.out HZ0.out HZ1.out HZ2.out rfl (by omega) (.slice (some ⟨W.heap.size, 0, none⟩) 0 0) 0 (ints []) rfl (own_new W [] _ (Nat.le_refl _) (by simp)) u23 A.length (ints A) rfl (Rd.below HRa.out ((Below.refl _ _).alloc (Nat.le_refl _) _)) (by simp [ints, Value.oneCell']) (by unfold maxLen; omega) (by omega) (by simp) ?_; intro v6 w6 hown6 hgrow6 _; have R6 : OwnI w6 W.heap.size v6 A := (by have := OwnI.app (xs := []) hown6; simpa using this); obtain ⟨a6, c6, hv6, _⟩ := RdI.open (RdI_of_own R6); subst hv6; have B6 : Below W.heap.size W w6 := ((Below.refl _ _).alloc (Nat.le_refl _) _).grown hgrow6 (by simp) (fun j e => by simp [Value.ownBlock] at e; omega); have H6 := Lib.hid R6; have HB6 := Lib.hid B6; have hs6 := B6.size; clear hown6 hgrow6 R6 B6)
                      | (at_builtin; refine wpList_append_rd rfl _ _ _ rfl W.heap.size 3 i0 _ 1 8 Try.underlying28 HI.out HZ0.out HZ1.out HZ2.out rfl (by omega) (.slice a6 A.length c6) A.length (ints A) rfl H6.out u25 B.length (ints B) rfl (Rd.below HRb.out HB6.out) (by simp [ints, Value.oneCell']) (by unfold maxLen; omega) (by omega) hs6 ?_; intro v7 w7 hown7 hgrow7 _; have R7 : RdI w7 v7 (A ++ B) := RdI_of_own (OwnI.app hown7); obtain ⟨a7, c7, hv7, _⟩ := RdI.open R7; subst hv7; have B7 : Below W.heap.size W w7 := HB6.out.grown hgrow7 hs6 (fun j e => (H6.out.lt j e).1); have H7 := Lib.hid R7; have HB7 := Lib.hid B7; clear hown7 hgrow7 R7 B7 H6 HB6 hs6))
                    obtain ⟨a7', c7', he7, l7, f7⟩ := RdI.open H7.out
                    cases he7
                    have F7 := Lib.hid f7
                    have Rc := Rd.below HRc.out HB7.out
                    have hD : (A ++ B).length = A.length + B.length := List.length_append
                    clear f7 H7
                    go_loop [31] (fun i => ∃ t : Nat, t ≤ A.length + B.length ∧ i = .int .i64 t) (fun i => A.length + B.length - (intOf i).toNat)
                    case atStart => exact ⟨0, by omega, rfl⟩
                    case round =>
                      obtain ⟨t, ht, rfl⟩ := hrel
                      by_cases htl : t < A.length + B.length
                      · obtain ⟨x, hx⟩ := elem_at (show t < (A ++ B).length by omega)
                        obtain ⟨b7, o7, rfl, _, g0⟩ := F7.out t x hx
                        have C28 := hasL_any _ C x w7 Rc
                        rw [decide_eq_true (HL2.out x (List.mem_of_getElem? hx))] at C28
                        clear hx hD
                        go_wp2_with fail
                        refine C28.mono ?_
                        rintro e w10 ⟨rfl, rfl⟩
                        go_wp2_with fail
                        go_round
                        case rel => exact ⟨t + 1, by omega, by go_num⟩
                        case measure => simp [intOf]; omega
                      · go_wp2_with fail
                        refine (LV _).mono ?_
                        rintro e w10 ⟨rfl, b10⟩
                        have BB := HBB.out.trans (HB7.out.mono HBB.out.size)
                        have BB := BB.trans (b10.mono BB.size)
                        go_wp2_with fail
                        go_ret
                        exact ⟨rfl, BB⟩
              · have c1 : (eC != 0) = true := by simpa using hC
                have c2 : (eC == 0) = false := by simpa using hC
                clear HLW Ra Rb Rc
                by_cases hA : eA = 0
                · have hB : ¬ eB = 0 := fun hB => hC (two.2 ⟨hA, hB⟩)
                  have c3 : (eB == 0) = false := by simpa using hB
                  subst hA
                  clear two hB hC
                  go_wp2_with fail
                  refine (LV _).mono ?_
                  rintro e w10 ⟨rfl, b10⟩
                  have BB := HBB.out.trans (b10.mono HBB.out.size)
                  go_wp2_with fail
                  go_ret
                  exact ⟨rfl, BB⟩
                · have c3 : (eA == 0) = false := by simpa using hA
                  clear two hA hC
                  go_wp2_with fail
                  refine (LV _).mono ?_
                  rintro e w10 ⟨rfl, b10⟩
                  have BB := HBB.out.trans (b10.mono HBB.out.size)
                  go_wp2_with fail
                  go_ret
                  exact ⟨rfl, BB⟩
end Go.Proofs.Ythldekpbjfhmcaa
