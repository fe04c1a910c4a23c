import Derived.Test.YthldekpbjfhmcaaWi
import Derived.RangeFuncNested
import Derived.RangeFuncBound
import Derived.RangeFuncCalls
import Derived.RangeFuncLeaves
import Derived.RangeFuncBox
import Derived.Shelf.Abstract
import Derived.Shelf.RegionOpen
import Derived.OwnWalkIn
import Derived.TacticsInMore
import Derived.LoopNIn
import Derived.LoopIn
import Derived.Deep.CutRange
namespace Go.Proofs.Ythldekpbjfhmcaa
open Go.RowKit Go.Shelf
attribute [local go_sem] Oper.semAt_some

/-- one block is as it was -/
structure KeepB (B : Nat) (W W' : World) : Prop where
  size : W.heap.size ≤ W'.heap.size
  block : W'.heap[B]? = W.heap[B]?
theorem KeepB.refl (B : Nat) (W : World) : KeepB B W W := ⟨Nat.le_refl _, rfl⟩
theorem KeepB.trans {B : Nat} {X Y Z : World} (h : KeepB B X Y) (k : KeepB B Y Z) : KeepB B X Z := ⟨Nat.le_trans h.size k.size, k.block.trans h.block⟩
theorem KeepB.of_below {B n : Nat} {X Y : World} (h : Below n X Y) (hB : B < n) : KeepB B X Y := ⟨h.size, h.block B hB⟩
theorem KeepB.cell {B : Nat} {X Y : World} (h : KeepB B X Y) (o : Nat) : Y.cell? ⟨B, o, none⟩ = X.cell? ⟨B, o, none⟩ := by simp [World.cell?, h.block]
theorem keepB_b {B : Nat} {w : World} (hB : B < w.heap.size) : ∀ (W : World) (l : Nat) (o o' : Obj), w.heap.size ≤ l → W.heap[l]? = some o → o.isCells = false → o.isWalk = false → KeepB B W (W.putObj l o') :=
  fun W l _ o' hl _ _ _ => ⟨by simp, World.putObj_heap_other (by omega)⟩

/-- a sheet with its leaves, as the walk computes it -/
def itA (k : Int) (q i : Nat) : Int := (q : Int) * k + i + 1
def it (p k : Int) (q i : Nat) : (Int × Int) × Sh :=
  ((itA k q i, conj k (itA k q i)), ⟨q, shw p (pgB (conj k (itA k q i))), shw p (pgA (itA k q i)), shw p (pgB (itA k q i)), shw p (pgA (conj k (itA k q i)))⟩)
def itRow (p k : Int) (q i : Nat) : List ((Int × Int) × Sh) := (List.range i).map (it p k q)
def itRows (p k : Int) (q : Nat) : List ((Int × Int) × Sh) := (List.range q).flatMap fun q => itRow p k q (k / 2).toNat
def items (p k : Int) : List ((Int × Int) × Sh) := itRows p k (cnt p k).toNat
theorem itRows_succ (p k : Int) (q : Nat) : itRows p k (q + 1) = itRows p k q ++ itRow p k q (k / 2).toNat := by
  unfold itRows; rw [List.range_succ]; simp
theorem itRow_succ (p k : Int) (q i : Nat) : itRow p k q (i + 1) = itRow p k q i ++ [it p k q i] := range_snoc _ _

def itEnc (x : (Int × Int) × Sh) : Array Value := #[.agg #[.int .i64 x.1.1, .int .i64 x.1.2], .agg #[.int .i64 x.2.q, .int .i64 x.2.f0, .int .i64 x.2.f1, .int .i64 x.2.b0, .int .i64 x.2.b1]]

set_option maxHeartbeats 1000000 in
theorem sheets_any (p k : Int) (w : World) :
    Calls Try.prog 38 #[.agg #[.int .i64 p, .int .i64 k]] w fun e w' => e = .returned (.func (.func 46) #[] #[.pointer (some ⟨w.heap.size, 0, none⟩)]) ∧ w' = w.alloc (.cells #[.int .i64 p, .int .i64 k] 66) := by
  go_enter Try.func38, Try.ntmps38
  go_wp2
  go_ret
  exact ⟨rfl, rfl⟩

theorem grown_of_below {W W' : World} (h : Below W.heap.size W W') : W.grownBy W' none := ⟨h.os, h.tape, h.output, h.size, fun k hk _ => h.block k hk⟩

theorem itRow_len (p k : Int) (q i : Nat) : (itRow p k q i).length = i := by simp [itRow]
theorem itRows_len (p k : Int) (q : Nat) : (itRows p k q).length = q * (k / 2).toNat := by
  induction q with
  | zero => simp [itRows]
  | succ q ih => rw [itRows_succ, List.length_append, ih, itRow_len, Nat.succ_mul]

theorem pre_lt (p k : Int) (q j : Nat) (hq : (q : Int) < cnt p k) (hj : (j : Int) < k / 2) : (itRows p k q ++ itRow p k q j).length < (items p k).length := by
  unfold items
  rw [List.length_append, itRows_len, itRow_len, itRows_len]
  have h1 : (q + 1) * (k / 2).toNat ≤ (cnt p k).toNat * (k / 2).toNat := Nat.mul_le_mul_right _ (by omega)
  rw [Nat.succ_mul] at h1
  omega

theorem itRow_pre (p k : Int) (q j : Nat) (h : j ≤ (k / 2).toNat) : itRow p k q j <+: itRow p k q (k / 2).toNat := by
  have e : itRow p k q j = (itRow p k q (k / 2).toNat).take j := by
    simp [itRow, ← List.map_take, List.take_range, Nat.min_eq_left h]
  rw [e]; exact List.take_prefix _ _

theorem itRows_pre (p k : Int) (q m : Nat) (h : q ≤ m) : itRows p k q <+: itRows p k m := by
  induction m with
  | zero => have : q = 0 := by omega
            subst this; exact List.prefix_refl _
  | succ m ih =>
    rcases Nat.lt_or_ge m q with h' | h'
    · have : q = m + 1 := by omega
      subst this; exact List.prefix_refl _
    · exact (ih h').trans (by rw [itRows_succ]; exact List.prefix_append _ _)

theorem pre_pre (p k : Int) (q j : Nat) (hq : (q : Int) < cnt p k) (hj : (j : Int) < k / 2) : (itRows p k q ++ itRow p k q j) ++ [it p k q j] <+: items p k := by
  rw [List.append_assoc, ← itRow_succ]
  refine List.IsPrefix.trans ?_ (itRows_pre p k (q + 1) _ (by omega))
  rw [itRows_succ]
  exact (List.prefix_append_right_inj _).2 (itRow_pre p k q (j + 1) (by omega))

set_option maxRecDepth 100000 in
set_option maxHeartbeats 2000000 in
theorem sheets1_gen {α : Type} (val : α → (Int × Int) × Sh) (n : Nat) (hn : 1 ≤ n) (Bn : Nat) (p k : Int) (hmk : ∀ q i : Nat, (q : Int) < cnt p k → (i : Int) < k / 2 → ∃ x, val x = it p k q i) (hp1 : 0 ≤ p) (hp2 : p ≤ 999) (hk1 : 2 ≤ k) (hk2 : k ≤ 16) (w : World) (hBn : Bn < w.heap.size)
    (hc0 : w.cell? ⟨Bn, 0, none⟩ = some (.int .i64 p)) (hc1 : w.cell? ⟨Bn, 1, none⟩ = some (.int .i64 k)) :
    SeqStopsK Fence.wide n Try.prog 46 #[.pointer (some ⟨Bn, 0, none⟩)] (fun x => itEnc (val x)) (KeepB Bn) (fun ys => ys.map val = items p k) (fun pre => pre.map val <+: items p k) (items p k).length w := fun l J Jx W hW hJ hJx hY h0 => by
  have c0 := (hW.cell (p := ⟨Bn, 0, none⟩) hBn).trans hc0
  have c1 := (hW.cell (p := ⟨Bn, 1, none⟩) hBn).trans hc1
  have hWs := hW.size
  obtain ⟨n1, n2, _, _⟩ := cnt_bd p k hp1 hp2 hk1 hk2
  obtain ⟨d1, d2, d3⟩ := halves k hk1 hk2
  have D3 := Lib.hid d3
  have HMK := Lib.hid hmk; have HJ := Lib.hid hJ; have HJx := Lib.hid hJx; have HY := Lib.hid hY; have H0 := Lib.hid h0
  clear hW hc0 hc1 d3 hJ hJx hY h0 hmk
  refine callsIn_of_wp Try.func46 rfl trivial ?_ rfl
  simp only [Try.ntmps46, List.size_toArray, List.length_cons, List.length_nil, Nat.reduceAdd, Nat.reduceSub, Array.replicate_succ, Array.replicate_zero, List.push_toArray, List.append_toArray, List.nil_append, List.cons_append]
  gi_wp2_with (refine ⟨trivial, ?_⟩; gi_at_call 44; refine (callsIn_wide.2 (quires_any p k _ hp1 hp2 hk1 hk2)).mono ?_; rintro e w2 ⟨rfl, hb2⟩; obtain ⟨bc2, bf2⟩ := bcell hb2)
  have hB : KeepB Bn W w2 := KeepB.of_below hb2 (by omega)
  have hJ2 := HJ.out [] W w2 none H0.out (grown_of_below hb2) (by simp)
  have HJ2 := Lib.hid hJ2; have HB2 := Lib.hid hB
  clear hJ2 hB hb2 bc2 bf2
  gi_loopw [12] (fun i wr => ∃ q : Nat, (q : Int) ≤ cnt p k ∧ i = .int .i64 q ∧ (∃ ys, ys.map val = itRows p k q ∧ J ys wr) ∧ KeepB Bn W wr) (fun i _ => (cnt p k).toNat - (intOf i).toNat)
  case atStart => exact ⟨0, by omega, rfl, ⟨[], rfl, HJ2.out⟩, HB2.out⟩
  case round =>
    obtain ⟨q, hq, rfl, hj, hbl⟩ := hrel
    obtain ⟨_, m1, m2⟩ := cnt_step p k q hp1 hp2 hk1 hk2 (by omega) hq
    have HJq := Lib.hid hj; have HBq := Lib.hid hbl
    have g0 := (hbl.cell 0).trans c0
    have g1 := (hbl.cell 1).trans c1
    have hsz := hbl.size
    clear hj hbl
    by_cases hlt : (q : Int) < cnt p k
    · obtain ⟨wo, rfl⟩ : ∃ wo : World, wo = wr := ⟨_, rfl⟩
      gi_wp2
      gi_loopw [18] (fun i wr => ∃ j : Nat, (j : Int) ≤ k / 2 ∧ i = .int .i64 j ∧ (∃ ys, ys.map val = itRows p k q ++ itRow p k q j ∧ J ys wr) ∧ KeepB Bn W wr) (fun i _ => (k / 2).toNat - (intOf i).toNat)
      case atStart => exact ⟨0, by omega, rfl, by obtain ⟨ys, h1, h2⟩ := HJq.out; exact ⟨ys, by simpa [itRow] using h1, h2⟩, HBq.out⟩
      case round =>
        obtain ⟨j, hj2, rfl, hj, hbl⟩ := hrel
        have HJj := Lib.hid hj; have HBj := Lib.hid hbl
        have g0' := (hbl.cell 0).trans c0
        have g1' := (hbl.cell 1).trans c1
        have hsz' := hbl.size
        clear hj hbl
        by_cases hlt2 : (j : Int) < k / 2
        · clear g0 g1 c0 c1
          gi_wp2_with (refine ⟨trivial, ?_⟩; gi_at_call 41; refine (callsIn_wide.2 (conjugate_any p k _ _ hk1 hk2 (by omega) (by omega))).mono ?_; rintro e w3 ⟨rfl, hb3⟩; obtain ⟨bc3, bf3⟩ := bcell hb3; have hs3 := hb3.size)
          have hbp : Below wr.heap.size wr (w3.alloc (.cells #[.int .i64 ((q : Int) * k + j + 1), .int .i64 (conj k ((q : Int) * k + j + 1))] 72)) := hb3.alloc hs3 _
          have e0 : (w3.alloc (.cells #[.int .i64 ((q : Int) * k + j + 1), .int .i64 (conj k ((q : Int) * k + j + 1))] 72)).cell? ⟨w3.heap.size, 0, none⟩ = some (.int .i64 ((q : Int) * k + j + 1)) := by simp
          have e1 : (w3.alloc (.cells #[.int .i64 ((q : Int) * k + j + 1), .int .i64 (conj k ((q : Int) * k + j + 1))] 72)).cell? ⟨w3.heap.size, 1, none⟩ = some (.int .i64 (conj k ((q : Int) * k + j + 1))) := by simp
          have eL : w3.heap.size < (w3.alloc (.cells #[.int .i64 ((q : Int) * k + j + 1), .int .i64 (conj k ((q : Int) * k + j + 1))] 72)).heap.size := by simp
          generalize hWp : w3.alloc (.cells #[.int .i64 ((q : Int) * k + j + 1), .int .i64 (conj k ((q : Int) * k + j + 1))] 72) = Wp at *
          generalize hB6 : w3.heap.size = B6 at *
          clear hWp hB6 bc3 bf3 hb3
          have HBp := Lib.hid hbp; clear hbp
          refine wpIn_wide.2 ?_
          go_cut [7, 8] from 33 to 38 (fun v7 v8 w' => ∃ b7 b8 : Nat, v7 = .pointer (some ⟨b7, 0, none⟩) ∧ v8 = .pointer (some ⟨b8, 0, none⟩) ∧ w'.cell? ⟨b7, 0, none⟩ = some (.int .i64 (pgA ((q : Int) * k + j + 1))) ∧ w'.cell? ⟨b7, 1, none⟩ = some (.int .i64 (pgB ((q : Int) * k + j + 1)))
            ∧ w'.cell? ⟨b8, 0, none⟩ = some (.int .i64 (pgA (conj k ((q : Int) * k + j + 1)))) ∧ w'.cell? ⟨b8, 1, none⟩ = some (.int .i64 (pgB (conj k ((q : Int) * k + j + 1)))) ∧ Below Wp.heap.size Wp w')
          case first =>
            go_region_held3 (fun w' => w'.cell? ⟨B6, 0, none⟩ = some (.int .i64 ((q : Int) * k + j + 1)) ∧ w'.cell? ⟨B6, 1, none⟩ = some (.int .i64 (conj k ((q : Int) * k + j + 1)))) (((try dsimp only); repeat' (first | assumption | refine And.intro ?_ ?_ | refine cell_al _ ?_ | refine cell_dr ?_)))
              (first | (go_at_call 21; refine (pages_at _ _).mono ?_; rintro e w4 ⟨rfl, rfl⟩))
            all_goals (go_wp2_with fail; go_meet)
            all_goals exact ⟨_, _, rfl, rfl, by simp [go_sem], by simp [go_sem], by simp [go_sem], by simp [go_sem], by go_grown⟩
          case rest =>
            obtain ⟨b7, b8, rfl, rfl, s70, s71, s80, s81, hb8⟩ := hcut
            have r0 := cell_bl hb8 (cell_bl HBp.out g0')
            have r1 := cell_bl hb8 (cell_bl HBp.out g1')
            have r6 := cell_bl hb8 e0
            have r7 := cell_bl hb8 e1
            have HB8 := Lib.hid hb8
            clear hb8 g0' g1' e0 e1
            gi_wp2_with fail
            refine wpIn_wide.2 ?_
            go_cut [9] from 39 to 58 (fun v9 w' => ∃ b9 : Nat, v9 = .pointer (some ⟨b9, 0, none⟩) ∧ w'.cell? ⟨b9, 0, none⟩ = some (.int .i64 q) ∧ w'.cell? ⟨b9, 1, none⟩ = some (.int .i64 (shw p (pgB (conj k ((q : Int) * k + j + 1))))) ∧ w'.cell? ⟨b9, 2, none⟩ = some (.int .i64 (shw p (pgA ((q : Int) * k + j + 1)))) ∧ w'.cell? ⟨b9, 3, none⟩ = some (.int .i64 (shw p (pgB ((q : Int) * k + j + 1)))) ∧ w'.cell? ⟨b9, 4, none⟩ = some (.int .i64 (shw p (pgA (conj k ((q : Int) * k + j + 1))))) ∧ w'.cell? ⟨B6, 0, none⟩ = some (.int .i64 ((q : Int) * k + j + 1)) ∧ w'.cell? ⟨B6, 1, none⟩ = some (.int .i64 (conj k ((q : Int) * k + j + 1))) ∧ Below wc.heap.size wc w')
            case first =>
              go_region_held3 (fun w' => w'.cell? ⟨Bn, 0, none⟩ = some (.int .i64 p) ∧ w'.cell? ⟨Bn, 1, none⟩ = some (.int .i64 k) ∧ w'.cell? ⟨b7, 0, none⟩ = some (.int .i64 (pgA ((q : Int) * k + j + 1))) ∧ w'.cell? ⟨b7, 1, none⟩ = some (.int .i64 (pgB ((q : Int) * k + j + 1))) ∧ w'.cell? ⟨b8, 0, none⟩ = some (.int .i64 (pgA (conj k ((q : Int) * k + j + 1)))) ∧ w'.cell? ⟨b8, 1, none⟩ = some (.int .i64 (pgB (conj k ((q : Int) * k + j + 1))))) (((try dsimp only); repeat' (first | assumption | refine And.intro ?_ ?_ | refine cell_al _ ?_ | refine cell_dr ?_)))
                (first | (go_at_call 47; refine (page_at _ _ _ _).mono ?_; rintro e w4 ⟨rfl, rfl⟩))
              all_goals (go_wp2_with fail; go_meet)
              all_goals exact ⟨_, rfl, by simp [go_sem], by simp [go_sem], by simp [go_sem], by simp [go_sem], by simp [go_sem], by repeat (first | assumption | refine cell_al _ ?_ | refine cell_dr ?_), by repeat (first | assumption | refine cell_al _ ?_ | refine cell_dr ?_), by go_grown⟩
            case rest =>
              obtain ⟨b9, rfl, s90, s91, s92, s93, s94, t60, t61, hb9⟩ := hcut
              have hbl := (HBp.out.trans (HB8.out.mono HBp.out.size)).trans (hb9.mono (Nat.le_trans HBp.out.size HB8.out.size))
              obtain ⟨ys, hys, hJys⟩ := HJj.out
              have hJc := HJ.out _ wr _ none hJys (grown_of_below hbl) (by simp)
              obtain ⟨x, hx⟩ := HMK.out q j hlt hlt2
              have hpl : ys.length < (items p k).length := by have := pre_lt p k q j hlt hlt2; rwa [← hys, List.length_map] at this
              obtain ⟨fn, tmps, assign, body, hy, hR⟩ := HY.out ys x _ hJc hpl
              rw [hx] at hy
              simp only [itEnc, it, itA] at hy
              have hsn : (ys ++ [x]).map val = itRows p k q ++ itRow p k q (j + 1) := by rw [List.map_append, hys, itRow_succ, List.append_assoc]; simp [hx]
              have HSN := Lib.hid hsn
              clear hys hJys hx hpl hsn
              have HBL := Lib.hid hbl; have HR := Lib.hid hR
              clear hbl hJc hR hb9
              gi_wp2_with fail
              refine HR.out.mono ?_
              rintro e W3 (⟨rfl, hJ3, hk3⟩ | ⟨rfl, hJx3⟩)
              · have HJ3 := Lib.hid hJ3; have HK3 := Lib.hid hk3
                clear hJ3 hk3 s90 s91 s92 s93 s94 t60 t61 hy
                gi_wp2_with fail
                go_roundw
                case rel => exact ⟨j + 1, by omega, by go_num, ⟨_, HSN.out, HJ3.out⟩, (HBj.out.trans (KeepB.of_below HBL.out (by omega))).trans HK3.out⟩
                case measure => simp [intOf]; omega
              · have HJx3 := Lib.hid hJx3
                clear hJx3 s90 s91 s92 s93 s94 t60 t61 hy
                gi_wp2_with fail
                refine bodyPost_ret (results_none rfl _ _ _) rfl ?_
                exact ⟨⟨_, rfl⟩, .inr ⟨_, by rw [HSN.out, itRow_succ, ← List.append_assoc]; exact pre_pre p k q j hlt hlt2, HJx3.out⟩⟩
        · have hjj : j = (k / 2).toNat := by omega
          have HJJ := Lib.hid hjj; clear hjj
          gi_wp2
          go_roundw
          case rel => exact ⟨q + 1, by omega, by go_num, by obtain ⟨ys, h1, h2⟩ := HJj.out; exact ⟨ys, by rw [itRows_succ, ← HJJ.out]; exact h1, h2⟩, HBj.out⟩
          case measure => simp [intOf]; omega
    · have he : q = (cnt p k).toNat := by omega
      have HE := Lib.hid he; clear he
      gi_wp2
      go_end0
      exact ⟨⟨_, rfl⟩, .inl (by obtain ⟨ys, h1, h2⟩ := HJq.out; exact ⟨ys, by rw [h1, HE.out]; rfl, h2⟩)⟩

theorem sheets1_stops (n : Nat) (hn : 1 ≤ n) (Bn : Nat) (p k : Int) (hp1 : 0 ≤ p) (hp2 : p ≤ 999) (hk1 : 2 ≤ k) (hk2 : k ≤ 16) (w : World) (hBn : Bn < w.heap.size)
    (hc0 : w.cell? ⟨Bn, 0, none⟩ = some (.int .i64 p)) (hc1 : w.cell? ⟨Bn, 1, none⟩ = some (.int .i64 k)) :
    SeqStopsK Fence.wide n Try.prog 46 #[.pointer (some ⟨Bn, 0, none⟩)] itEnc (KeepB Bn) (fun ys => ys = items p k) (fun pre => pre <+: items p k) (items p k).length w := by
  have h := sheets1_gen (fun x : (Int × Int) × Sh => x) n hn Bn p k (fun q i _ _ => ⟨it p k q i, rfl⟩) hp1 hp2 hk1 hk2 w hBn hc0 hc1
  simpa using h

end Go.Proofs.Ythldekpbjfhmcaa
