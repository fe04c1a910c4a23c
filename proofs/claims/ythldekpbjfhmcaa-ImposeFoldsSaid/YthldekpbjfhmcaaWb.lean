import Derived.Test.YthldekpbjfhmcaaWa
namespace Go.Proofs.Ythldekpbjfhmcaa
open Go.RowKit

theorem ret_pair {a b : Int} {c d : Bool} (h : a = b) (h' : c = d) : Ending.returned (.tuple #[.int .i64 a, .bool c]) = .returned (.tuple #[.int .i64 b, .bool d]) := by rw [h, h']

/-- the number of quires -/
def cnt (p k : Int) : Int := (p + 2 * k - 1) / (2 * k)

set_option maxHeartbeats 400000 in
theorem quires_any (p k : Int) (w : World) (hp : 0 ≤ p) (hp' : p ≤ 999) (hk : 2 ≤ k) (hk' : k ≤ 16) :
    Calls Try.prog 44 #[.agg #[.int .i64 p, .int .i64 k]] w fun e w' => e = .returned (.int .i64 (cnt p k)) ∧ Below w.heap.size w w' := by
  unfold cnt
  go_enter Try.func44, Try.ntmps44
  go_wp2
  go_ret
  exact ⟨ret_int rfl, by go_grown⟩

/-- a page, or 0 behind the last one -/
def shw (p n : Int) : Int := if p < n then 0 else n

set_option maxHeartbeats 400000 in
theorem page_at (p k n : Int) (w : World) :
    Calls Try.prog 47 #[.agg #[.int .i64 p, .int .i64 k], .int .i64 n] w fun e w' => e = .returned (.int .i64 (shw p n)) ∧ w' = w.alloc (.cells #[.int .i64 p, .int .i64 k] 66) := by
  by_cases h : p < n
  · have H := Lib.hid (show shw p n = 0 from by unfold shw; simp [h])
    go_enter Try.func47, Try.ntmps47
    go_wp2
    go_ret
    exact ⟨ret_int H.out.symm, rfl⟩
  · have H := Lib.hid (show shw p n = n from by unfold shw; simp [h])
    go_enter Try.func47, Try.ntmps47
    go_wp2
    go_ret
    exact ⟨ret_int H.out.symm, rfl⟩

theorem page_any (p k n : Int) (w : World) :
    Calls Try.prog 47 #[.agg #[.int .i64 p, .int .i64 k], .int .i64 n] w fun e w' => e = .returned (.int .i64 (shw p n)) ∧ Below w.heap.size w w' :=
  (page_at p k n w).mono fun _ _ ⟨he, hw⟩ => ⟨he, by rw [hw]; exact (Below.refl _ _).alloc (Nat.le_refl _) _⟩

set_option maxHeartbeats 400000 in
theorem shown_any (p n : Int) (w : World) :
    Calls Try.prog 45 #[.int .i64 p, .int .i64 n] w fun e w' => e = .returned (.int .i64 (shw p n)) ∧ w = w' := by
  by_cases h : p < n
  · have H := Lib.hid (show shw p n = 0 from by unfold shw; simp [h])
    go_enter Try.func45, Try.ntmps45
    go_wp2
    go_ret
    exact ⟨ret_int H.out.symm, rfl⟩
  · have H := Lib.hid (show shw p n = n from by unfold shw; simp [h])
    go_enter Try.func45, Try.ntmps45
    go_wp2
    go_ret
    exact ⟨ret_int H.out.symm, rfl⟩

def leafOf (x : Int) : Int := if x < 1 ∨ 1024 < x then 0 else (x + 1) / 2
def frontOf (x : Int) : Bool := if x < 1 ∨ 1024 < x then false else (x % 2 == 1)

set_option maxHeartbeats 400000 in
theorem leaf_any (x : Int) (w : World) :
    Calls Try.prog 19 #[.int .i64 x] w fun e w' => e = .returned (.tuple #[.int .i64 (leafOf x), .bool (frontOf x)]) ∧ w = w' := by
  by_cases h : x < 1 ∨ 1024 < x
  · have h1 : leafOf x = 0 := by unfold leafOf; rw [if_pos h]
    have h2 : frontOf x = false := by unfold frontOf; rw [if_pos h]
    have H1 := Lib.hid h1; have H2 := Lib.hid h2; clear h1 h2
    rcases h with h | h
    all_goals
      go_enter Try.func19, Try.ntmps19
      go_wp2
      all_goals
        go_ret2
        exact ⟨ret_pair (by rw [H1.out]) (by rw [H2.out]), rfl⟩
  · have h1 : leafOf x = (x + 1) / 2 := by unfold leafOf; rw [if_neg h]
    have h2 : frontOf x = (x % 2 == 1) := by unfold frontOf; rw [if_neg h]
    have H1 := Lib.hid h1; have H2 := Lib.hid h2; clear h1 h2
    have ha : 1 ≤ x := by omega
    have hb : x ≤ 1024 := by omega
    clear h
    go_enter Try.func19, Try.ntmps19
    go_wp2
    all_goals
      go_ret2
      exact ⟨ret_pair (by rw [H1.out]) (by rw [H2.out]), rfl⟩

set_option maxHeartbeats 400000 in
theorem rleaf_any (x : Int) (w : World) :
    Calls Try.prog 20 #[.int .i64 x] w fun e w' => e = .returned (.tuple #[.int .i64 (leafOf x), .bool (frontOf x)]) ∧ w = w' := by
  by_cases h : x < 1 ∨ 1024 < x
  · have h1 : leafOf x = 0 := by unfold leafOf; rw [if_pos h]
    have h2 : frontOf x = false := by unfold frontOf; rw [if_pos h]
    have H1 := Lib.hid h1; have H2 := Lib.hid h2; clear h1 h2
    rcases h with h | h
    all_goals
      go_enter Try.func20, Try.ntmps20
      go_wp2
      all_goals
        go_ret2
        exact ⟨ret_pair (by rw [H1.out]) (by rw [H2.out]), rfl⟩
  · have h1 : leafOf x = x / 2 + x % 2 := by unfold leafOf; rw [if_neg h]; omega
    have h2 : frontOf x = (x % 2 == 1) := by unfold frontOf; rw [if_neg h]
    have H1 := Lib.hid h1; have H2 := Lib.hid h2; clear h1 h2
    have ha : 1 ≤ x := by omega
    have hb : x ≤ 1024 := by omega
    clear h
    go_enter Try.func20, Try.ntmps20
    go_wp2
    all_goals
      go_ret2
      exact ⟨ret_pair (by rw [H1.out]) (by rw [H2.out]), rfl⟩

theorem ret_two {a b c d : Int} (h : a = b) (h' : c = d) : Ending.returned (.agg #[.int .i64 a, .int .i64 c]) = .returned (.agg #[.int .i64 b, .int .i64 d]) := by rw [h, h']

def pgA (x : Int) : Int := if x < 1 ∨ 512 < x then 0 else 2 * x - 1
def pgB (x : Int) : Int := if x < 1 ∨ 512 < x then 0 else 2 * x

set_option maxHeartbeats 400000 in
theorem pages_at (x : Int) (w : World) :
    Calls Try.prog 21 #[.int .i64 x] w fun e w' => e = .returned (.agg #[.int .i64 (pgA x), .int .i64 (pgB x)]) ∧ w' = w.alloc (.cells #[.int .i64 (pgA x), .int .i64 (pgB x)] 43) := by
  by_cases h : x < 1 ∨ 512 < x
  · have h1 : pgA x = 0 := by unfold pgA; rw [if_pos h]
    have h2 : pgB x = 0 := by unfold pgB; rw [if_pos h]
    have H1 := Lib.hid h1; have H2 := Lib.hid h2; clear h1 h2
    rcases h with h | h
    all_goals
      go_enter Try.func21, Try.ntmps21
      go_wp2
      all_goals
        go_returns
        exact ⟨ret_two (by rw [H1.out]) (by rw [H2.out]), by rw [H1.out, H2.out]⟩
  · have h1 : pgA x = 2 * x - 1 := by unfold pgA; rw [if_neg h]
    have h2 : pgB x = 2 * x := by unfold pgB; rw [if_neg h]
    have H1 := Lib.hid h1; have H2 := Lib.hid h2; clear h1 h2
    have ha : 1 ≤ x := by omega
    have hb : x ≤ 512 := by omega
    clear h
    go_enter Try.func21, Try.ntmps21
    go_wp2
    all_goals
      go_returns
      exact ⟨ret_two (by rw [H1.out]) (by rw [H2.out]), by rw [H1.out, H2.out]⟩

theorem pages_any (x : Int) (w : World) :
    Calls Try.prog 21 #[.int .i64 x] w fun e w' => e = .returned (.agg #[.int .i64 (pgA x), .int .i64 (pgB x)]) ∧ Below w.heap.size w w' :=
  (pages_at x w).mono fun _ _ ⟨he, hw⟩ => ⟨he, by rw [hw]; exact (Below.refl _ _).alloc (Nat.le_refl _) _⟩

set_option maxHeartbeats 400000 in
theorem rpages_any (x : Int) (w : World) :
    Calls Try.prog 22 #[.int .i64 x] w fun e w' => e = .returned (.agg #[.int .i64 (pgA x), .int .i64 (pgB x)]) ∧ Below w.heap.size w w' := by
  by_cases h : x < 1 ∨ 512 < x
  · have h1 : pgA x = 0 := by unfold pgA; rw [if_pos h]
    have h2 : pgB x = 0 := by unfold pgB; rw [if_pos h]
    have H1 := Lib.hid h1; have H2 := Lib.hid h2; clear h1 h2
    rcases h with h | h
    all_goals
      go_enter Try.func22, Try.ntmps22
      go_wp2
      all_goals
        go_returns
        exact ⟨ret_two (by rw [H1.out]) (by rw [H2.out]), by go_grown⟩
  · have h1 : pgA x = x + x - 1 := by unfold pgA; rw [if_neg h]; omega
    have h2 : pgB x = x + x := by unfold pgB; rw [if_neg h]; omega
    have H1 := Lib.hid h1; have H2 := Lib.hid h2; clear h1 h2
    have ha : 1 ≤ x := by omega
    have hb : x ≤ 512 := by omega
    clear h
    go_enter Try.func22, Try.ntmps22
    go_wp2
    all_goals
      go_returns
      exact ⟨ret_two (by rw [H1.out]) (by rw [H2.out]), by go_grown⟩

end Go.Proofs.Ythldekpbjfhmcaa
