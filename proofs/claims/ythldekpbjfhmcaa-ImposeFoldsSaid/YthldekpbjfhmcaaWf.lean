import Derived.Test.YthldekpbjfhmcaaWe
namespace Go.Proofs.Ythldekpbjfhmcaa
open Go.RowKit

structure Sh where
  q : Int
  f0 : Int
  f1 : Int
  b0 : Int
  b1 : Int
  deriving DecidableEq

def sh (s : Sh) : List Value := [.int .i64 s.q, .int .i64 s.f0, .int .i64 s.f1, .int .i64 s.b0, .int .i64 s.b1]
def shs (xs : List Sh) : List Value := xs.flatMap sh
def RdS (w : World) (v : Value) (xs : List Sh) : Prop := Rd w 5 v xs.length (shs xs)

theorem RdS.open {w : World} {v : Value} {xs : List Sh} (h : RdS w v xs) : ∃ a cap, v = .slice a xs.length cap ∧ xs.length ≤ 9223372036854775807 ∧
    (∀ k x, xs[k]? = some x → ∃ b off, a = some ⟨b, off, none⟩ ∧ b < w.heap.size ∧ w.cell? ⟨b, off + k * 5, none⟩ = some (.int .i64 x.q) ∧ w.cell? ⟨b, off + k * 5 + 1, none⟩ = some (.int .i64 x.f0)
      ∧ w.cell? ⟨b, off + k * 5 + 2, none⟩ = some (.int .i64 x.f1) ∧ w.cell? ⟨b, off + k * 5 + 3, none⟩ = some (.int .i64 x.b0) ∧ w.cell? ⟨b, off + k * 5 + 4, none⟩ = some (.int .i64 x.b1)) := by
  obtain ⟨h1, a, cap, h2, h3, h4, h5⟩ := h
  refine ⟨a, cap, h2, by omega, fun k x hk => ?_⟩
  rcases h5 with ⟨h5, h6⟩ | ⟨b, off, h5, h6, h7⟩
  · have := (List.getElem?_eq_some_iff.1 hk).1; omega
  · refine ⟨b, off, h5, h6, ?_, ?_, ?_, ?_, ?_⟩
    · have := h7 (k * 5 + 0) _ (flat_at sh 5 (fun _ => rfl) xs k 0 x hk (by omega)); exact this
    · have := h7 (k * 5 + 1) _ (flat_at sh 5 (fun _ => rfl) xs k 1 x hk (by omega)); exact this
    · have := h7 (k * 5 + 2) _ (flat_at sh 5 (fun _ => rfl) xs k 2 x hk (by omega)); exact this
    · have := h7 (k * 5 + 3) _ (flat_at sh 5 (fun _ => rfl) xs k 3 x hk (by omega)); exact this
    · have := h7 (k * 5 + 4) _ (flat_at sh 5 (fun _ => rfl) xs k 4 x hk (by omega)); exact this

def eqS (x y : Sh) : Bool := decide (x = y)
theorem eqS_self (x : Sh) : eqS x x = true := by simp [eqS]
theorem eqS_ne {x y : Sh} (h : x ≠ y) : eqS x y = false := by simp [eqS, h]
theorem eqS_iff (x y : Sh) : eqS x y = (x.q == y.q && (eqP (x.f0, x.f1) (y.f0, y.f1) && eqP (x.b0, x.b1) (y.b0, y.b1))) := by
  rw [Bool.eq_iff_iff]; cases x; cases y; simp [eqS, eqP, and_assoc]

theorem Try.eqIn76a (w : World) (d : Nat) (x y : Sh) : (Op.equalIn (d + 4) 76 (.agg #[.int .i64 x.q, .int .i64 x.f0, .int .i64 x.f1, .int .i64 x.b0, .int .i64 x.b1]) (.agg #[.int .i64 y.q, .int .i64 y.f0, .int .i64 y.f1, .int .i64 y.b0, .int .i64 y.b1])).run Try.prog w = .ok (eqS x y) w := by
  rw [eqS_iff, run_equalIn_agg w (d + 3) 76 _ _ (by kernel_rfl) (by kernel_rfl)]
  go_simp
  by_cases h : x.q = y.q <;> cases eqP (x.f0, x.f1) (y.f0, y.f1) <;> cases eqP (x.b0, x.b1) (y.b0, y.b1) <;> simp [h]

@[go_sem high] theorem Try.neq76 (w : World) (a b c d e a' b' c' d' e' : Int) : (binOp .neq 76 (.agg #[.int .i64 a, .int .i64 b, .int .i64 c, .int .i64 d, .int .i64 e]) (.agg #[.int .i64 a', .int .i64 b', .int .i64 c', .int .i64 d', .int .i64 e'])).run Try.prog w = .ok (.bool (!eqS ⟨a, b, c, d, e⟩ ⟨a', b', c', d', e'⟩)) w := by
  rw [run_neq_struct, Try.eqIn76a w 9996 ⟨a, b, c, d, e⟩ ⟨a', b', c', d', e'⟩]; rfl

set_option maxHeartbeats 400000 in
theorem sameSheets_any (v1 v2 : Value) (xs ys : List Sh) (w : World) (h1 : RdS w v1 xs) (h2 : RdS w v2 ys) :
    Calls Try.prog 34 #[v1, v2] w fun e w' => e = .returned (.bool (decide (xs = ys))) ∧ Below w.heap.size w w' := by
  obtain ⟨a1, c1, rfl, l1, f1⟩ := h1.open
  obtain ⟨a2, c2, rfl, l2, f2⟩ := h2.open
  clear h1 h2
  by_cases hl : xs.length = ys.length
  · have hl' : (((xs.length : Nat) : Int) != ((ys.length : Nat) : Int)) = false := by rw [hl]; simp
    have HL := Lib.hid hl; clear hl
    have F1 := Lib.hid f1; have F2 := Lib.hid f2; clear f1 f2
    go_enter Try.func34, Try.ntmps34
    go_wp2
    go_loopw [5] (fun i wr => ∃ k : Nat, k ≤ xs.length ∧ i = .int .i64 k ∧ xs.take k = ys.take k ∧ ∃ nq, wr = w.drewN nq) (fun i _ => xs.length - (intOf i).toNat)
    case atStart => exact ⟨0, Nat.zero_le _, rfl, by simp, 0, rfl⟩
    case round =>
      obtain ⟨k, hk, rfl, he, nq, rfl⟩ := hrel
      have HE := Lib.hid he; clear he
      by_cases hlt : k < xs.length
      · obtain ⟨(⟨x0, x1, x2, x3, x4⟩ : Sh), hx⟩ := elem_at hlt
        obtain ⟨(⟨y0, y1, y2, y3, y4⟩ : Sh), hy⟩ := elem_at (show k < ys.length by rw [← HL.out]; exact hlt)
        obtain ⟨b1, o1, rfl, _, g1a, g1b, g1c, g1d, g1e⟩ := F1.out k _ hx
        obtain ⟨b2, o2, rfl, _, g2a, g2b, g2c, g2d, g2e⟩ := F2.out k _ hy
        have hlt2 : k < ys.length := by rw [← HL.out]; exact hlt
        have HX := Lib.hid hx; have HY := Lib.hid hy; clear hx hy
        by_cases hxy : (⟨x0, x1, x2, x3, x4⟩ : Sh) = (⟨y0, y1, y2, y3, y4⟩ : Sh)
        · cases hxy
          have hs := eqS_self (⟨x0, x1, x2, x3, x4⟩ : Sh)
          go_wp2
          go_quiet (fail)
          go_wp2
          go_roundw
          case rel => exact ⟨k + 1, by omega, by go_num, take_same HE.out HX.out HY.out, _, rfl⟩
          case measure => simp [intOf]; omega
        · have hxy' := eqS_ne hxy
          have hr : decide (xs = ys) = false := decide_eq_false (ne_at HX.out HY.out hxy)
          have HR := Lib.hid hr; clear hr hxy
          go_wp2
          go_quiet (fail)
          go_wp2
          go_ret
          exact ⟨ret_bool (by rw [HR.out]), by repeat (first | exact Below.refl _ _ | refine Below.dn ?_ _)⟩
      · have hr : decide (xs = ys) = true := decide_eq_true (take_all HE.out (by omega) (by rw [← HL.out]; omega))
        have HR := Lib.hid hr; clear hr
        go_wp2
        go_ret
        exact ⟨ret_bool (by rw [HR.out]), by repeat (first | exact Below.refl _ _ | refine Below.dn ?_ _)⟩
  · have hl' : (((xs.length : Nat) : Int) != ((ys.length : Nat) : Int)) = true := by simp; omega
    have hr : decide (xs = ys) = false := decide_eq_false (fun e => hl (by rw [e]))
    have HR := Lib.hid hr; clear hr
    clear hl f1 f2
    go_enter Try.func34, Try.ntmps34
    go_wp2
    go_ret
    exact ⟨ret_bool (by rw [HR.out]), by repeat (first | exact Below.refl _ _ | refine Below.dn ?_ _)⟩


end Go.Proofs.Ythldekpbjfhmcaa
