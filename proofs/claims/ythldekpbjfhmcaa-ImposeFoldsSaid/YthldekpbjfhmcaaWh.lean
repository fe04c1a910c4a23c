import Derived.Test.YthldekpbjfhmcaaWg
namespace Go.Proofs.Ythldekpbjfhmcaa
open Go.RowKit

def qp (k : Int) (q : Nat) : Int × Int := ((q : Int) * k + 1, (q : Int) * k + k)
def quires (p k : Int) : List (Int × Int) := if errOf p k = 0 then (List.range (cnt p k).toNat).map (qp k) else []

theorem ret_vpair {v : Value} {k : IntKind} {a b : Int} (h : a = b) : Ending.returned (.tuple #[v, .int k a]) = .returned (.tuple #[v, .int k b]) := by rw [h]

theorem range_snoc {α : Type} (f : Nat → α) (k : Nat) : (List.range (k + 1)).map f = (List.range k).map f ++ [f k] := by
  rw [List.range_succ]; simp

theorem errOf_zero {p k : Int} (h : errOf p k = 0) : 0 ≤ p ∧ p ≤ 999 ∧ 2 ≤ k ∧ k ≤ 16 ∧ k % 2 = 0 := by
  rcases errOf_cases p k with h' | h' | h' | h' | h' | h' <;> omega

theorem Try.info43 : (Try.prog.info? 43).map (fun i => (i.zero, i.size, i.bytes)) = some (some (.agg #[.int .i64 0, .int .i64 0]), 2, 16) := by kernel_rfl

set_option maxRecDepth 100000 in
set_option maxHeartbeats 1000000 in
theorem quiresL_any (p k : Int) (w : World) (hp : -9223372036854775808 ≤ p) (hp' : p ≤ 9223372036854775807) (hk : -9223372036854775808 ≤ k) (hk' : k ≤ 9223372036854775807) :
    Calls Try.prog 30 #[.int .i64 p, .int .i64 k] w fun e w' => ∃ v, e = .returned (.tuple #[v, .int .i64 (errOf p k)]) ∧ w'.ownsRow w.heap.size 43 2 v (quires p k).length (prs (quires p k)) ∧ Below w.heap.size w w' := by
  by_cases h0 : errOf p k = 0
  · obtain ⟨hp1, hp2, hk1, hk2, hk3⟩ := errOf_zero h0
    have hq : quires p k = (List.range (cnt p k).toNat).map (qp k) := by unfold quires; rw [if_pos h0]
    have HQ := Lib.hid hq; clear hq
    have H0 := Lib.hid h0
    obtain ⟨c1, c2, _, _⟩ := cnt_bd p k hp1 hp2 hk1 hk2
    obtain ⟨i0, hi0, hz0, hz1, hz2⟩ := info_parts Try.info43
    have HI := Lib.hid hi0; have HZ0 := Lib.hid hz0; have HZ1 := Lib.hid hz1; have HZ2 := Lib.hid hz2
    clear hi0 hz0 hz1 hz2 hk3 h0
    go_enter Try.func30, Try.ntmps30
    go_wp2_with (first | (go_at_call 37; refine (valid_any p k _ hp hp' hk hk').mono ?_; rintro e w1 ⟨rfl, hb1⟩; obtain ⟨bc1, bf1⟩ := bcell hb1; have hs1 := hb1.size; rw [H0.out]) | (go_at_call 44; refine (quires_any p k _ hp1 hp2 hk1 hk2).mono ?_; rintro e w2 ⟨rfl, hb2⟩; obtain ⟨bc2, bf2⟩ := bcell hb2))
    have hB : Below w.heap.size w w2 := (((Below.refl _ _).alloc (Nat.le_refl _) _).trans (hb1.mono (by simp))).trans (hb2.mono (by simp at hs1; omega))
    have HB2 := Lib.hid hB
    have hs2 := hB.size
    clear hB hb1 bc1 bf1 hs1 hb2 bc2 bf2
    go_loopw [8, 20] (fun v i wr => ∃ q : Nat, (q : Int) ≤ cnt p k ∧ i = .int .i64 q ∧ wr.ownsRow w.heap.size 43 2 v q (prs ((List.range q).map (qp k))) ∧ Below w.heap.size w wr) (fun _ i _ => (cnt p k).toNat - (intOf i).toNat)
    case atStart => exact ⟨0, by omega, rfl, by simpa [prs] using World.ownsRow_nil _ _ _ _, HB2.out⟩
    case round =>
      obtain ⟨q, hq, rfl, hown, hbl⟩ := hrel
      obtain ⟨_, m1, m2⟩ := cnt_step p k q hp1 hp2 hk1 hk2 (by omega) hq
      have HO := Lib.hid hown; have HB := Lib.hid hbl
      have hbs := hbl.size
      clear hown hbl
      by_cases hlt : (q : Int) < cnt p k
      · have hT : prs ((List.range (q + 1)).map (qp k)) = prs ((List.range q).map (qp k)) ++ [.int .i64 ((q : Int) * k + 1), .int .i64 ((q : Int) * k + k)] := by
          rw [range_snoc]; simp [prs, pr, qp]
        have HT := Lib.hid hT; clear hT
        go_wp2_with (at_builtin; go_must (refine wpList_append_lies _ rfl _ _ _ rfl w.heap.size 43 i0 _ 2 16 Try.underlying55 HI.out HZ0.out HZ1.out HZ2.out rfl (by omega) _ q _ rfl (HO.out.alloc _) ⟨wr.heap.size, 0, none⟩ 1 1 [.int .i64 ((q : Int) * k + 1), .int .i64 ((q : Int) * k + k)] rfl rfl (World.news_of_block (cs := #[.int .i64 ((q : Int) * k + 1), .int .i64 ((q : Int) * k + k)]) (t := 43) (fr := (0, 0)) (heap_alloc_new wr _)) (by simp [Value.oneCell']) (by omega) (by unfold maxLen; omega) (by omega) (by simp; omega) (wr.heap.size + 1) (by simp) ?_); intro gg cap w3 hown1 hgrow hat hltg)
        go_roundw
        case rel => exact ⟨q + 1, by omega, by go_num, by rw [HT.out]; exact hown1, (HB.out.alloc hbs _).grown hgrow (by simp; omega) (fun j e => (HO.out.lt j e).1)⟩
        case measure => simp [intOf]; omega
      · have he : q = (cnt p k).toNat := by omega
        have hL : (quires p k).length = q := by rw [HQ.out]; simp [he]
        have HL := Lib.hid hL; have HE := Lib.hid he
        clear hL he
        go_wp2
        go_ret2
        refine ⟨_, ret_vpair H0.out.symm, ?_, HB.out⟩
        rw [HL.out, HQ.out, ← HE.out]; exact HO.out
  · have hq : quires p k = [] := by unfold quires; rw [if_neg h0]
    have HQ := Lib.hid hq; clear hq
    have h0' : (errOf p k != 0) = true := by simpa using h0
    go_enter Try.func30, Try.ntmps30
    go_wp2_with (first | (go_at_call 37; refine (valid_any p k _ hp hp' hk hk').mono ?_; rintro e w1 ⟨rfl, hb1⟩; obtain ⟨bc1, bf1⟩ := bcell hb1; have hs1 := hb1.size))
    go_ret2
    refine ⟨_, rfl, ?_, ((Below.refl _ _).alloc (Nat.le_refl _) _).trans (hb1.mono (by simp))⟩
    rw [HQ.out]; exact World.ownsRow_nil _ _ _ _
end Go.Proofs.Ythldekpbjfhmcaa
