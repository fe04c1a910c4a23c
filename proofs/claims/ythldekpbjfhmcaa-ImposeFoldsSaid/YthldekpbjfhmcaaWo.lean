import Derived.Test.YthldekpbjfhmcaaWk
import Derived.Test.YthldekpbjfhmcaaWm
namespace Go.Proofs.Ythldekpbjfhmcaa
open Go.RowKit Go.Shelf
attribute [local go_sem] Oper.semAt_some

/-- what 'slices.Backward' yields of the first m elements -/
def bwI (g : List Sh) : Nat → List (Nat × Sh)
  | 0 => []
  | m + 1 => (m, g.getD m ⟨0, 0, 0, 0, 0⟩) :: bwI g m
theorem bwI_len (g : List Sh) (m : Nat) : (bwI g m).length = m := by induction m with | zero => rfl | succ m ih => simp [bwI, ih]
theorem bwI_snd (g : List Sh) (m : Nat) (h : m ≤ g.length) : (bwI g m).map (·.2) = (g.take m).reverse := by
  induction m with
  | zero => simp [bwI]
  | succ m ih =>
    have hx : g[m]? = some (g.getD m ⟨0, 0, 0, 0, 0⟩) := by rw [List.getD_eq_getElem?_getD, List.getElem?_eq_getElem (by omega)]; rfl
    rw [bwI, List.map_cons, ih (by omega), List.take_add_one, hx]; simp

def bEnc (x : Nat × Sh) : Array Value := #[.int .i64 x.1, .agg #[.int .i64 x.2.q, .int .i64 x.2.f0, .int .i64 x.2.f1, .int .i64 x.2.b0, .int .i64 x.2.b1]]

set_option maxHeartbeats 1000000 in
theorem back_any (a : Option Addr) (n c : Nat) (w : World) :
    Calls Try.prog 39 #[.slice a n c] w fun e w' => e = .returned (.func (.func 48) #[] #[.pointer (some ⟨w.heap.size, 0, none⟩)]) ∧ w' = w.alloc (.cells #[.slice a n c] 22) := by
  go_enter Try.func39, Try.ntmps39
  go_wp2
  go_ret
  exact ⟨rfl, rfl⟩

set_option maxRecDepth 100000 in
set_option maxHeartbeats 2000000 in
theorem back1_stops (n : Nat) (hn : 1 ≤ n) (Bn bs off len cap : Nat) (g : List Sh) (hlen : g.length = len) (h63 : len ≤ 9223372036854775807) (w : World) (hBn : Bn < w.heap.size) (hbs : bs < w.heap.size)
    (hc : w.cell? ⟨Bn, 0, none⟩ = some (.slice (some ⟨bs, off, none⟩) len cap))
    (hel : ∀ k y, g[k]? = some y → w.cell? ⟨bs, off + k * 5, none⟩ = some (.int .i64 y.q) ∧ w.cell? ⟨bs, off + k * 5 + 1, none⟩ = some (.int .i64 y.f0) ∧ w.cell? ⟨bs, off + k * 5 + 2, none⟩ = some (.int .i64 y.f1) ∧ w.cell? ⟨bs, off + k * 5 + 3, none⟩ = some (.int .i64 y.b0) ∧ w.cell? ⟨bs, off + k * 5 + 4, none⟩ = some (.int .i64 y.b1)) :
    SeqStopsK Fence.wide n Try.prog 48 #[.pointer (some ⟨Bn, 0, none⟩)] bEnc (fun W W' => KeepB Bn W W' ∧ KeepB bs W W') (fun ys => ys = bwI g len) (fun pre => pre <+: bwI g len) len w := fun l J Jx W hW _ _ hY h0 => by
  have c0 := (hW.cell (p := ⟨Bn, 0, none⟩) hBn).trans hc
  have HEL := Lib.hid hel; have HL := Lib.hid hlen
  have HY := Lib.hid hY; have H0 := Lib.hid h0; have HW := Lib.hid hW
  clear hc hel hlen hW hY h0
  refine callsIn_of_wp Try.func48 rfl trivial ?_ rfl
  simp only [Try.ntmps48, List.size_toArray, List.length_cons, List.length_nil, Nat.reduceAdd, Nat.reduceSub, Array.replicate_succ, Array.replicate_zero, List.push_toArray, List.append_toArray, List.nil_append, List.cons_append]
  gi_wp2
  gi_loopw [3] (fun i wr => ∃ (pre : List (Nat × Sh)) (m : Nat), m ≤ len ∧ i = .int .i64 ((m : Int) - 1) ∧ bwI g len = pre ++ bwI g m ∧ J pre wr ∧ KeepB Bn W wr ∧ KeepB bs W wr) (fun i _ => (intOf i + 1).toNat)
  case atStart => exact ⟨[], len, by omega, rfl, rfl, H0.out, KeepB.refl _ _, KeepB.refl _ _⟩
  case round =>
    obtain ⟨pre, m, hm, rfl, hpre, hj, hk1, hk2⟩ := hrel
    have HP := Lib.hid hpre; have HJ := Lib.hid hj; have HK1 := Lib.hid hk1; have HK2 := Lib.hid hk2
    have d0 := (hk1.cell 0).trans c0
    clear hpre hj
    by_cases hlt : 0 < m
    · obtain ⟨m, rfl⟩ : ∃ m', m = m' + 1 := ⟨m - 1, by omega⟩
      rw [show (((m + 1 : Nat) : Int) - 1) = (m : Int) by omega]
      obtain ⟨y, hy⟩ := elem_at (l := g) (k := m) (by rw [HL.out]; omega)
      obtain ⟨y0, y1, y2, y3, y4⟩ := HEL.out m y hy
      have z0 := (hk2.cell (off + m * 5)).trans ((HW.out.cell (p := ⟨bs, off + m * 5, none⟩) hbs).trans y0)
      have z1 := (hk2.cell (off + m * 5 + 1)).trans ((HW.out.cell (p := ⟨bs, off + m * 5 + 1, none⟩) hbs).trans y1)
      have z2 := (hk2.cell (off + m * 5 + 2)).trans ((HW.out.cell (p := ⟨bs, off + m * 5 + 2, none⟩) hbs).trans y2)
      have z3 := (hk2.cell (off + m * 5 + 3)).trans ((HW.out.cell (p := ⟨bs, off + m * 5 + 3, none⟩) hbs).trans y3)
      have z4 := (hk2.cell (off + m * 5 + 4)).trans ((HW.out.cell (p := ⟨bs, off + m * 5 + 4, none⟩) hbs).trans y4)
      have hgd : g.getD m ⟨0, 0, 0, 0, 0⟩ = y := by rw [List.getD_eq_getElem?_getD, hy]; rfl
      have hpl : pre.length < len := by have := congrArg List.length HP.out; rw [bwI_len, List.length_append, bwI_len] at this; omega
      have hpre2 : bwI g len = (pre ++ [(m, y)]) ++ bwI g m := by rw [HP.out, bwI, hgd]; simp
      have HP2 := Lib.hid hpre2
      obtain ⟨fn, tmps, assign, body, hyr, hR⟩ := HY.out pre (m, y) wr HJ.out hpl
      simp only [bEnc] at hyr
      have HR := Lib.hid hR
      clear hk1 hk2 y0 y1 y2 y3 y4 hgd hpl hpre2 hR hy c0
      gi_wp2_with fail
      refine HR.out.mono ?_
      rintro e W3 (⟨rfl, hJ3, hk3, hk4⟩ | ⟨rfl, hJx3⟩)
      · have HJ3 := Lib.hid hJ3; have HK3 := Lib.hid hk3; have HK4 := Lib.hid hk4
        clear hJ3 hk3 hk4 z0 z1 z2 z3 z4 hyr d0
        gi_wp2_with fail
        go_roundw
        case rel => exact ⟨pre ++ [(m, y)], m, by omega, rfl, HP2.out, HJ3.out, HK1.out.trans HK3.out, HK2.out.trans HK4.out⟩
        case measure => simp [intOf]
      · have HJx3 := Lib.hid hJx3
        clear hJx3 z0 z1 z2 z3 z4 hyr d0
        gi_wp2_with fail
        refine bodyPost_ret (results_none rfl _ _ _) rfl ?_
        exact ⟨⟨_, rfl⟩, .inr ⟨_, ⟨bwI g m, HP2.out.symm⟩, HJx3.out⟩⟩
    · obtain rfl : m = 0 := by omega
      have hfull : pre = bwI g len := by rw [HP.out]; simp [bwI]
      have HFU := Lib.hid hfull
      clear hfull hk1 hk2
      gi_wp2
      go_end0
      exact ⟨⟨_, rfl⟩, .inl ⟨pre, HFU.out, HJ.out⟩⟩
end Go.Proofs.Ythldekpbjfhmcaa
