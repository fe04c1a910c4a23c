import Derived.Test.YthldekpbjfhmcaaWd
namespace Go.Proofs.Ythldekpbjfhmcaa
open Go.RowKit

theorem run_equalIn_arr2 {P : Program} (w : World) (d : Nat) (t e : TypeId) (k : IntKind) (a b c f : Int) (i : TypeInfo) (ht : P.underlying t = some (.array 2 e)) (he : P.underlying e = some (.int k)) (hi : P.info? e = some i) (hs : i.size = 1) :
    (Op.equalIn (d + 2) t (.agg #[.int k a, .int k b]) (.agg #[.int k c, .int k f])).run P w = .ok (a == c && b == f) w := by
  have h1 : (Op.equalIn (d + 1) e (.int k a) (.int k c)).run P w = .ok (a == c) w := run_equalIn_int w d e k k a c he
  have h2 : (Op.equalIn (d + 1) e (.int k b) (.int k f)).run P w = .ok (b == f) w := run_equalIn_int w d e k k b f he
  rw [Op.equalIn]
  have hA : ∀ w : World, Sem.run P (isAgg e) w = .ok false w := fun w => by simp [isAgg, run_underlying he]
  simp [run_underlying ht, sizeOf, typeInfo, hi, hs, part, h1, h2, hA, List.range', List.forIn_cons]
  by_cases ha : a = c <;> by_cases hb : b = f <;> simp [ha, hb]



theorem Try.info3 : (Try.prog.info? 3).map (fun i => (i.zero, i.size, i.bytes)) = some (some (.int .i64 0), 1, 8) := by kernel_rfl

/-- equality of pairs, hidden from the walk -/
def eqP (x y : Int × Int) : Bool := decide (x = y)
theorem eqP_self (x : Int × Int) : eqP x x = true := by simp [eqP]
theorem eqP_ne {x y : Int × Int} (h : x ≠ y) : eqP x y = false := by simp [eqP, h]

@[go_sem] theorem Try.eqIn43 (w : World) (d : Nat) (a b c f : Int) : (Op.equalIn (d + 2) 43 (.agg #[.int .i64 a, .int .i64 b]) (.agg #[.int .i64 c, .int .i64 f])).run Try.prog w = .ok (eqP (a, b) (c, f)) w := by
  obtain ⟨i0, hi, hz0, hz1, hz2⟩ := info_parts Try.info3
  rw [run_equalIn_arr2 w d 43 3 .i64 a b c f i0 Try.underlying43 Try.underlying3 hi hz1]
  congr 1
  rw [Bool.eq_iff_iff]; simp [eqP]

def pr (p : Int × Int) : List Value := [.int .i64 p.1, .int .i64 p.2]
def prs (xs : List (Int × Int)) : List Value := xs.flatMap pr
def RdP (w : World) (v : Value) (xs : List (Int × Int)) : Prop := Rd w 2 v xs.length (prs xs)

theorem flat_at {α β : Type} (f : α → List β) (n : Nat) (hf : ∀ a, (f a).length = n) (xs : List α) (k j : Nat) (x : α) (hk : xs[k]? = some x) (hj : j < n) : (xs.flatMap f)[k * n + j]? = (f x)[j]? := by
  induction xs generalizing k with
  | nil => simp at hk
  | cons a r ih =>
    cases k with
    | zero =>
      simp at hk; subst hk
      rw [List.flatMap_cons, List.getElem?_append_left (by rw [hf]; omega)]; simp
    | succ k =>
      simp at hk
      rw [List.flatMap_cons, List.getElem?_append_right (by rw [hf, Nat.succ_mul]; omega), hf]
      have := ih k hk
      rw [← this]; congr 1; rw [Nat.succ_mul]; omega

theorem flat_len {α β : Type} (f : α → List β) (n : Nat) (hf : ∀ a, (f a).length = n) (xs : List α) : (xs.flatMap f).length = xs.length * n := by
  induction xs with
  | nil => simp
  | cons a r ih => rw [List.flatMap_cons, List.length_append, ih, hf, List.length_cons, Nat.succ_mul]; omega

theorem RdP.open {w : World} {v : Value} {xs : List (Int × Int)} (h : RdP w v xs) : ∃ a cap, v = .slice a xs.length cap ∧ xs.length ≤ 9223372036854775807 ∧
    (∀ k x, xs[k]? = some x → ∃ b off, a = some ⟨b, off, none⟩ ∧ b < w.heap.size ∧ w.cell? ⟨b, off + k * 2, none⟩ = some (.int .i64 x.1) ∧ w.cell? ⟨b, off + k * 2 + 1, none⟩ = some (.int .i64 x.2)) := by
  obtain ⟨h1, a, cap, h2, h3, h4, h5⟩ := h
  refine ⟨a, cap, h2, by omega, fun k x hk => ?_⟩
  rcases h5 with ⟨h5, h6⟩ | ⟨b, off, h5, h6, h7⟩
  · have := (List.getElem?_eq_some_iff.1 hk).1; omega
  · refine ⟨b, off, h5, h6, ?_, ?_⟩
    · have := h7 (k * 2 + 0) _ (flat_at pr 2 (fun _ => rfl) xs k 0 x hk (by omega)); exact this
    · have := h7 (k * 2 + 1) _ (flat_at pr 2 (fun _ => rfl) xs k 1 x hk (by omega)); exact this

set_option maxHeartbeats 400000 in
theorem samePairs_any (v1 v2 : Value) (xs ys : List (Int × Int)) (w : World) (h1 : RdP w v1 xs) (h2 : RdP w v2 ys) :
    Calls Try.prog 33 #[v1, v2] w fun e w' => e = .returned (.bool (decide (xs = ys))) ∧ Below w.heap.size w w' := by
  obtain ⟨a1, c1, rfl, l1, f1⟩ := h1.open
  obtain ⟨a2, c2, rfl, l2, f2⟩ := h2.open
  clear h1 h2
  by_cases hl : xs.length = ys.length
  · have hl' : (((xs.length : Nat) : Int) != ((ys.length : Nat) : Int)) = false := by rw [hl]; simp
    have HL := Lib.hid hl; clear hl
    have F1 := Lib.hid f1; have F2 := Lib.hid f2; clear f1 f2
    go_enter Try.func33, Try.ntmps33
    go_wp2
    go_loopw [5] (fun i wr => ∃ k : Nat, k ≤ xs.length ∧ i = .int .i64 k ∧ xs.take k = ys.take k ∧ ∃ nq, wr = w.drewN nq) (fun i _ => xs.length - (intOf i).toNat)
    case atStart => exact ⟨0, Nat.zero_le _, rfl, by simp, 0, rfl⟩
    case round =>
      obtain ⟨k, hk, rfl, he, nq, rfl⟩ := hrel
      have HE := Lib.hid he; clear he
      by_cases hlt : k < xs.length
      · obtain ⟨⟨x, x'⟩, hx⟩ := elem_at hlt
        obtain ⟨⟨y, y'⟩, hy⟩ := elem_at (show k < ys.length by rw [← HL.out]; exact hlt)
        obtain ⟨b1, o1, rfl, _, g1, g1'⟩ := F1.out k _ hx
        obtain ⟨b2, o2, rfl, _, g2, g2'⟩ := F2.out k _ hy
        have hlt2 : k < ys.length := by rw [← HL.out]; exact hlt
        have HX := Lib.hid hx; have HY := Lib.hid hy; clear hx hy
        by_cases hxy : (x, x') = (y, y')
        · cases hxy
          have hs := eqP_self (x, x')
          go_wp2
          go_quiet (fail)
          go_wp2
          go_roundw
          case rel => exact ⟨k + 1, by omega, by go_num, take_same HE.out HX.out HY.out, _, rfl⟩
          case measure => simp [intOf]; omega
        · have hxy' := eqP_ne hxy
          have hr : decide (xs = ys) = false := decide_eq_false (ne_at HX.out HY.out hxy)
          have HR := Lib.hid hr; clear hr hxy
          go_wp2
          go_quiet (fail)
          go_wp2
          go_ret
          exact ⟨ret_bool (by rw [HR.out]), by repeat (first | exact Below.refl _ _ | refine Below.dn ?_ _)⟩
      · have hr : decide (xs = ys) = true := decide_eq_true (take_all HE.out (by omega) (by rw [← HL.out]; omega))
        have HR := Lib.hid hr; clear hr
        go_wp2
        go_ret
        exact ⟨ret_bool (by rw [HR.out]), by repeat (first | exact Below.refl _ _ | refine Below.dn ?_ _)⟩
  · have hl' : (((xs.length : Nat) : Int) != ((ys.length : Nat) : Int)) = true := by simp; omega
    have hr : decide (xs = ys) = false := decide_eq_false (fun e => hl (by rw [e]))
    have HR := Lib.hid hr; clear hr
    clear hl f1 f2
    go_enter Try.func33, Try.ntmps33
    go_wp2
    go_ret
    exact ⟨ret_bool (by rw [HR.out]), by repeat (first | exact Below.refl _ _ | refine Below.dn ?_ _)⟩
end Go.Proofs.Ythldekpbjfhmcaa
