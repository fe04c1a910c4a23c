/- the reference's Bent: it returns some sheets, one more than came in at most -/
import Derived.Test.YthldekpbjfhmcaaZc
import Derived.Test.YthldekpbjfhmcaaZd
import Derived.Test.YthldekpbjfhmcaaZe
import Derived.Test.YthldekpbjfhmcaaZf
namespace Go.Proofs.Ythldekpbjfhmcaa
open Go.RowKit

theorem bent_any (v1 : Value) (xs : List Sh) (how bb : Int) (w : World) (hw1 : -9223372036854775808 ≤ how) (hw2 : how ≤ 9223372036854775807) (hb1 : -9223372036854775808 ≤ bb) (hb2 : bb ≤ 9223372036854775807) (R : RdS w v1 xs) (hx2 : xs.length ≤ 100000) :
    Calls Try.prog 12 #[v1, .int .i64 how, .int .i64 bb] w fun e w' => (∃ v ys, e = .returned v ∧ RdS w' v ys ∧ ys.length ≤ xs.length + 1) ∧ Below w.heap.size w w' := by
  rcases Nat.eq_zero_or_pos xs.length with h | h
  · have hx : xs = [] := List.eq_nil_of_length_eq_zero h
    subst hx
    exact (bent_nil v1 how bb w hb1 hb2 R).mono fun _ _ h => h
  · obtain ⟨s1, s2⟩ := around_bd how 7 (by omega)
    obtain hs | hs | hs | hs | hs | hs | hs : around how 7 = 0 ∨ around how 7 = 1 ∨ around how 7 = 2 ∨ around how 7 = 3 ∨ around how 7 = 4 ∨ around how 7 = 5 ∨ around how 7 = 6 := by omega
    · exact bent_c0 v1 xs how bb w hw1 hw2 hb1 hb2 R h hx2 hs
    · exact bent_c1 v1 xs how bb w hw1 hw2 hb1 hb2 R h hx2 hs
    · exact bent_c2 v1 xs how bb w hw1 hw2 hb1 hb2 R h hx2 hs
    · exact bent_c3 v1 xs how bb w hw1 hw2 hb1 hb2 R h hx2 hs
    · exact bent_c4 v1 xs how bb w hw1 hw2 hb1 hb2 R h hx2 hs
    · exact bent_c5 v1 xs how bb w hw1 hw2 hb1 hb2 R h hx2 hs
    · exact bent_c6 v1 xs how bb w hw1 hw2 hb1 hb2 R h hx2 hs
end Go.Proofs.Ythldekpbjfhmcaa
