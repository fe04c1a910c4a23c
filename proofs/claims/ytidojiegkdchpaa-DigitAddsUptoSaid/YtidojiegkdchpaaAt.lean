/- The slips of a scheme: what they are (plain law), the iterator. -/
import Derived.Test.YtidojiegkdchpaaAs
namespace Go.Proofs.Ytidojiegkdchpaa
open Go.RowKit Go.Shelf Go.Maps
attribute [local go_sem] Oper.semAt_some

abbrev Slip := Nat × Int × Int
def spA (ws : List Int) (k : Nat) : List Slip := match ws[k]? with | some x => [(k, -1, x)] | none => []
def spB (ws : List Int) (k : Nat) : List Slip := match ws[k]?, ws[k + 1]? with | some x, some y => [(k, (k : Int) + 1, x - y)] | _, _ => []
def spN (ws : List Int) (k : Nat) : List Slip := (List.range k).flatMap fun k => spA ws k ++ spB ws k
def spL (ws : List Int) : List Slip := spN ws ws.length
theorem spN_succ (ws : List Int) (k : Nat) : spN ws (k + 1) = spN ws k ++ (spA ws k ++ spB ws k) := by unfold spN; rw [List.range_succ, List.flatMap_append]; simp
theorem spA_at {ws : List Int} {k : Nat} {x : Int} (h : ws[k]? = some x) : spA ws k = [(k, -1, x)] := by unfold spA; rw [h]
theorem spB_at {ws : List Int} {k : Nat} {x y : Int} (h : ws[k]? = some x) (h2 : ws[k + 1]? = some y) : spB ws k = [(k, (k : Int) + 1, x - y)] := by unfold spB; rw [h, h2]
theorem spB_no {ws : List Int} {k : Nat} (h : ws.length ≤ k + 1) : spB ws k = [] := by
  unfold spB
  rw [List.getElem?_eq_none h]
  cases ws[k]? <;> rfl
theorem spA_len (ws : List Int) (k : Nat) : (spA ws k).length ≤ 1 := by unfold spA; split <;> simp
theorem spB_len (ws : List Int) (k : Nat) : (spB ws k).length ≤ 1 := by unfold spB; split <;> simp
theorem spN_len (ws : List Int) (k : Nat) : (spN ws k).length ≤ 2 * k := by
  induction k with
  | zero => simp [spN]
  | succ k ih =>
    rw [spN_succ, List.length_append, List.length_append]
    have := spA_len ws k
    have := spB_len ws k
    omega
theorem spN_pre {ws : List Int} {k j : Nat} (h : k ≤ j) : spN ws k <+: spN ws j := by
  induction j with
  | zero => rw [show k = 0 by omega]; exact List.prefix_rfl
  | succ j ih =>
    rcases Nat.lt_or_ge k (j + 1) with h1 | h1
    · rw [spN_succ]; exact (ih (by omega)).trans (List.prefix_append _ _)
    · rw [show k = j + 1 by omega]; exact List.prefix_rfl
def slipOk (x : Slip) : Prop := x.1 ≤ 300 ∧ -1 ≤ x.2.1 ∧ x.2.1 ≤ 300 ∧ -1024 ≤ x.2.2 ∧ x.2.2 ≤ 1024
abbrev SlipT := { x : Slip // slipOk x }
def sEnc (x : SlipT) : Array Value := #[.agg #[.int .i64 x.1.1, .int .i64 x.1.2.1, .int .i64 0, .int .i64 0], .int .i64 x.1.2.2]

set_option maxHeartbeats 1000000 in
theorem slips_any (a : Option Addr) (n c : Nat) (w : World) :
    Calls Try.prog 37 #[.slice a n c] w fun e w' => e = .returned (.func (.func 49) #[] #[.pointer (some ⟨w.heap.size, 0, none⟩)]) ∧ w' = w.alloc (.cells #[.slice a n c] 22) := by
  go_enter Try.func37, Try.ntmps37
  go_wp2
  go_ret
  exact ⟨rfl, rfl⟩

set_option maxRecDepth 100000 in
set_option maxHeartbeats 2000000 in
theorem slips1_stops (n : Nat) (hn : 1 ≤ n) (Bn n0 cap : Nat) (ad : Option Addr) (ws : List Int) (hl : ws.length ≤ 256) (hb : mid 1024 ws) (w : World) (hBn : Bn < w.heap.size) (hn0 : n0 ≤ w.heap.size)
    (hc : w.cell? ⟨Bn, 0, none⟩ = some (.slice ad ws.length cap))
    (hel : ∀ k y, ws[k]? = some y → ∃ b off, ad = some ⟨b, off, none⟩ ∧ b < n0 ∧ w.cell? ⟨b, off + k, none⟩ = some (.int .i64 y)) :
    SeqStopsK Fence.wide n Try.prog 49 #[.pointer (some ⟨Bn, 0, none⟩)] sEnc (fun W W' => KeepB Bn W W' ∧ Below n0 W W') (fun ys => ys.map (·.1) = spL ws) (fun pre => pre.map (·.1) <+: spL ws) 600 w := fun l J Jx W hW _ _ hY h0 => by
  have c0 := (hW.cell (p := ⟨Bn, 0, none⟩) hBn).trans hc
  have HEL := Lib.hid hel; have HBD := Lib.hid hb
  have HY := Lib.hid hY; have H0 := Lib.hid h0; have HW := Lib.hid hW
  clear hc hel hW hY h0 hb
  refine callsIn_of_wp Try.func49 rfl trivial ?_ rfl
  simp only [Try.ntmps49, List.size_toArray, List.length_cons, List.length_nil, Nat.reduceAdd, Nat.reduceSub, Array.replicate_succ, Array.replicate_zero, List.push_toArray, List.append_toArray, List.nil_append, List.cons_append]
  gi_wp2
  gi_loopw [7] (fun i wr => ∃ (pre : List SlipT) (k : Nat), k ≤ ws.length ∧ i = .int .i64 k ∧ pre.map (·.1) = spN ws k ∧ J pre wr ∧ KeepB Bn W wr ∧ Below n0 W wr) (fun i _ => ws.length - (intOf i).toNat)
  case atStart => exact ⟨[], 0, by omega, rfl, rfl, H0.out, KeepB.refl _ _, Below.refl _ _⟩
  case round =>
    obtain ⟨pre, k, hk, rfl, hpre, hj, hk1, hk2⟩ := hrel
    have HP := Lib.hid hpre; have HJ := Lib.hid hj; have HK1 := Lib.hid hk1; have HK2 := Lib.hid hk2
    have d0 := (hk1.cell 0).trans c0
    have hpl : pre.length ≤ 2 * k := by have := congrArg List.length hpre; rw [List.length_map] at this; have := spN_len ws k; omega
    clear hpre hj
    by_cases hlt : k < ws.length
    · obtain ⟨x, hx⟩ := elem_at hlt
      obtain ⟨b, off, rfl, hb, y0⟩ := HEL.out k x hx
      have z0 := (hk2.cell (p := ⟨b, off + k, none⟩) hb).trans ((HW.out.cell (p := ⟨b, off + k, none⟩) (by show b < w.heap.size; omega)).trans y0)
      have hxb := HBD.out x (List.mem_of_getElem? hx)
      have q1 : (k : Int) < (ws.length : Int) := by omega
      have hok : slipOk (k, -1, x) := ⟨by show k ≤ 300; omega, by show (-1 : Int) ≤ -1; omega, by show (-1 : Int) ≤ 300; omega, by show -1024 ≤ x; omega, by show x ≤ 1024; omega⟩
      obtain ⟨fn, tmps, assign, body, hyr, hR⟩ := HY.out pre ⟨(k, -1, x), hok⟩ wr HJ.out (by omega)
      simp only [sEnc] at hyr
      have HR := Lib.hid hR
      have HX := Lib.hid hx
      have hmapA : (pre ++ [(⟨(k, -1, x), hok⟩ : SlipT)]).map (·.1) = spN ws k ++ spA ws k := by rw [List.map_append, HP.out, spA_at hx]; rfl
      have HMA := Lib.hid hmapA
      have hpreA : spN ws k ++ spA ws k <+: spL ws := by
        have := spN_pre (ws := ws) (k := k + 1) (j := ws.length) hlt
        rw [spN_succ, ← List.append_assoc] at this
        exact (List.prefix_append _ _).trans this
      have HPA := Lib.hid hpreA
      clear hk1 hk2 y0 hR hx hmapA hpreA
      gi_wp2_with fail
      refine HR.out.mono ?_
      rintro e W3 (⟨rfl, hJ3, hk3, hk4⟩ | ⟨rfl, hJx3⟩)
      · have HJ3 := Lib.hid hJ3; have HK3 := Lib.hid hk3; have HK4 := Lib.hid hk4
        have g0 := (hk3.cell 0).trans d0
        have z1 := (hk4.cell (p := ⟨b, off + k, none⟩) hb).trans z0
        clear hJ3 hyr
        by_cases hnx : k + 1 < ws.length
        · obtain ⟨y, hy⟩ := elem_at hnx
          obtain ⟨b', off', hb'e, hb', y0'⟩ := HEL.out (k + 1) y hy
          have hbb : b' = b ∧ off' = off := by cases hb'e; exact ⟨rfl, rfl⟩
          obtain ⟨rfl, rfl⟩ := hbb
          have z2 := (hk4.cell (p := ⟨b', off' + (k + 1), none⟩) hb').trans ((HK2.out.cell (p := ⟨b', off' + (k + 1), none⟩) hb').trans ((HW.out.cell (p := ⟨b', off' + (k + 1), none⟩) (by show b' < w.heap.size; omega)).trans y0'))
          have hyb := HBD.out y (List.mem_of_getElem? hy)
          have q2 : (k : Int) + 1 < (ws.length : Int) := by omega
          have hokB : slipOk (k, (k : Int) + 1, x - y) := ⟨by show k ≤ 300; omega, by show (-1 : Int) ≤ (k : Int) + 1; omega, by show (k : Int) + 1 ≤ 300; omega, by show -1024 ≤ x - y; omega, by show x - y ≤ 1024; omega⟩
          obtain ⟨fn2, tmps2, assign2, body2, hyr2, hR2⟩ := HY.out (pre ++ [⟨(k, -1, x), hok⟩]) ⟨(k, (k : Int) + 1, x - y), hokB⟩ W3 HJ3.out (by rw [List.length_append]; simp only [List.length_cons, List.length_nil]; omega)
          simp only [sEnc] at hyr2
          have HR2 := Lib.hid hR2
          have hmapB : ((pre ++ [(⟨(k, -1, x), hok⟩ : SlipT)]) ++ [(⟨(k, (k : Int) + 1, x - y), hokB⟩ : SlipT)]).map (·.1) = spN ws (k + 1) := by rw [List.map_append, HMA.out, spN_succ, List.append_assoc, spB_at HX.out hy]; rfl
          have HMB := Lib.hid hmapB
          have hpreB := spN_pre (ws := ws) (k := k + 1) (j := ws.length) hlt
          have HPB := Lib.hid hpreB
          obtain ⟨k1, hk1⟩ : ∃ k1 : Nat, k1 = k + 1 := ⟨_, rfl⟩
          rw [← hk1] at z2
          have hkk : (k : Int) + 1 = (k1 : Int) := by omega
          rw [hkk] at hyr2 q2
          have HK1E := Lib.hid hk1
          clear y0' hR2 hmapB hpreB hk3 hk4 hy hk1 z0 d0
          gi_wp2_with fail
          refine HR2.out.mono ?_
          rintro e W4 (⟨rfl, hJ4, hk5, hk6⟩ | ⟨rfl, hJx4⟩)
          · have HJ4 := Lib.hid hJ4; have HK5 := Lib.hid hk5; have HK6 := Lib.hid hk6
            clear hJ4 hk5 hk6 z1 z2 g0 hyr2
            gi_wp2_with fail
            go_roundw
            case rel => exact ⟨_, k + 1, by omega, by go_num, HMB.out, HJ4.out, (HK1.out.trans HK3.out).trans HK5.out, (HK2.out.trans HK4.out).trans HK6.out⟩
            case measure => simp [intOf]; omega
          · have HJx4 := Lib.hid hJx4
            clear hJx4 z1 z2 g0 hyr2
            gi_wp2_with fail
            refine bodyPost_ret (results_none rfl _ _ _) rfl ?_
            exact ⟨⟨_, rfl⟩, .inr ⟨_, by rw [HMB.out]; exact HPB.out, HJx4.out⟩⟩
        · have q2 : ¬ (k : Int) + 1 < (ws.length : Int) := by omega
          have hmapB : (pre ++ [(⟨(k, -1, x), hok⟩ : SlipT)]).map (·.1) = spN ws (k + 1) := by rw [HMA.out, spN_succ, spB_no (by omega), List.append_nil]
          have HMB := Lib.hid hmapB
          clear hk3 hk4 z0 z1 d0 hmapB
          gi_wp2_with fail
          refine ⟨fun f h => (by cases h), ?_⟩
          gi_wp2_with fail
          go_roundw
          case rel => exact ⟨_, k + 1, by omega, by go_num, HMB.out, HJ3.out, HK1.out.trans HK3.out, HK2.out.trans HK4.out⟩
          case measure => simp [intOf]; omega
      · have HJx3 := Lib.hid hJx3
        clear hJx3 z0 hyr d0
        gi_wp2_with fail
        refine bodyPost_ret (results_none rfl _ _ _) rfl ?_
        exact ⟨⟨_, rfl⟩, .inr ⟨_, by rw [HMA.out]; exact HPA.out, HJx3.out⟩⟩
    · obtain rfl : k = ws.length := by omega
      have q1 : ¬ (ws.length : Int) < (ws.length : Int) := by omega
      clear hk1 hk2
      gi_wp2
      go_end0
      exact ⟨⟨_, rfl⟩, .inl ⟨pre, HP.out, HJ.out⟩⟩
end Go.Proofs.Ytidojiegkdchpaa
