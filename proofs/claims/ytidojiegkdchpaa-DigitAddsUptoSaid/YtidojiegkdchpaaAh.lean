/- Scheme. -/
import Derived.Test.YtidojiegkdchpaaAg
namespace Go.Proofs.Ytidojiegkdchpaa
open Go.RowKit Go.Maps

set_option maxRecDepth 100000 in
set_option maxHeartbeats 2000000 in
theorem scheme_any (v : Value) (l : List Int) (n : Int) (w : World) (h : RdI w v l) (hi : inI l) (hn : -9223372036854775808 ≤ n) (hn' : n ≤ 9223372036854775807) :
    Calls Try.prog 9 #[v, .int .i64 n] w fun e w' => ∃ u, e = .returned (.tuple #[u, .int .i64 (modF n)]) ∧ RdI w' u (schF l n) ∧ Below w.heap.size w w' := by
  obtain ⟨i0, hi0, hz0, hz1, hz2⟩ := info_parts Try.info3i
  have HI0 := Lib.hid hi0; have HZ0 := Lib.hid hz0; have HZ1 := Lib.hid hz1; have HZ2 := Lib.hid hz2
  clear hi0 hz0 hz1 hz2
  obtain ⟨a1, c1, rfl, l1, f1⟩ := h.open
  have F1 := Lib.hid f1; clear f1 h
  have HI := Lib.hid hi; clear hi
  have MB := modF_bd n
  have AR := fun W => around_any n 8 W hn hn' (by omega) (by omega)
  obtain ⟨r0, r1⟩ := around_bd n 8 (by omega)
  have hmf : modF n = tblM.getD (around n 8).toNat 0 := rfl
  obtain ⟨j, hj⟩ : ∃ j : Nat, around n 8 = j := ⟨(around n 8).toNat, by omega⟩
  rw [hj] at AR hmf r0 r1
  have hrs : schF l n = (l.take 8).map fun x => around x (modF n) := rfl
  have HRS := Lib.hid hrs
  clear hrs hj
  generalize modF n = m at *
  have hcell : (w.alloc (.cells #[.int .i64 10, .int .i64 11, .int .i64 31, .int .i64 2, .int .i64 12, .int .i64 97, .int .i64 30, .int .i64 1024] 3)).cell? ⟨w.heap.size, j, none⟩ = some (.int .i64 m) := by
    rw [(Boxs.new w 3 _).cell, hmf]
    have : ∀ j : Fin 8, (#[Value.int .i64 10, .int .i64 11, .int .i64 31, .int .i64 2, .int .i64 12, .int .i64 97, .int .i64 30, .int .i64 1024])[j.val]? = some (.int .i64 (tblM.getD j.val 0)) := by
      intro j; match j with
      | 0 => rfl | 1 => rfl | 2 => rfl | 3 => rfl | 4 => rfl | 5 => rfl | 6 => rfl | 7 => rfl
    exact this ⟨j, by omega⟩
  clear hmf
  have HB0 := Lib.hid ((Below.refl w.heap.size w).alloc (Nat.le_refl _) (.cells #[.int .i64 10, .int .i64 11, .int .i64 31, .int .i64 2, .int .i64 12, .int .i64 97, .int .i64 30, .int .i64 1024] 3))
  go_enter Try.func9, Try.ntmps9
  go_wp2_with fail
  refine (AR _).mono ?_
  rintro e w1 ⟨rfl, rfl⟩
  clear AR
  go_wp2_with fail
  clear hcell
  generalize (w.alloc (.cells #[.int .i64 10, .int .i64 11, .int .i64 31, .int .i64 2, .int .i64 12, .int .i64 97, .int .i64 30, .int .i64 1024] 3)) = w1 at *
  go_loopw [7, 8] (fun s i wr => ∃ k : Nat, k ≤ l.length ∧ k ≤ 8 ∧ i = .int .i64 k ∧ wr.ownsRow w.heap.size 3 1 s k (ints ((l.take k).map fun x => around x m)) ∧ Below w.heap.size w wr) (fun _ i _ => 8 - (intOf i).toNat)
  case atStart => exact ⟨0, Nat.zero_le _, Nat.zero_le _, rfl, by simpa [ints] using World.ownsRow_nil _ _ _ _, HB0.out⟩
  case round =>
    obtain ⟨k, hk1, hk2, rfl, hown, hbl⟩ := hrel
    have HO := Lib.hid hown; have HB := Lib.hid hbl
    have hbs := hbl.size
    by_cases hlt : k < l.length
    · have q1 : (k : Int) < (l.length : Int) := by omega
      by_cases hlt2 : k < 8
      · have q2 : (k : Int) < 8 := by omega
        obtain ⟨x, hx⟩ := elem_at hlt
        obtain ⟨b, o, rfl, hbw, g⟩ := F1.out k x hx
        have gr := (hbl.cell (p := ⟨b, o + k, none⟩) hbw).trans g
        have hxb := HI.out x (List.mem_of_getElem? hx)
        have AR := around_any x m wr hxb.1 hxb.2 (by omega) (by omega)
        obtain ⟨r0, r1⟩ := around_bd x m (by omega)
        have hsn : ints ((l.take (k + 1)).map fun x => around x m) = ints ((l.take k).map fun x => around x m) ++ [.int .i64 (around x m)] := by rw [take_succ_at hx]; simp [ints]
        have HS := Lib.hid hsn
        have hll : (ints ((l.take k).map fun x => around x m)).length = k := by simp [ints]; omega
        clear hsn hx hxb hown hbl g
        generalize around x m = z at *
        generalize ints ((l.take k).map fun x => around x m) = L at *
        go_wp2_with fail
        refine AR.mono ?_
        rintro e w2 ⟨rfl, rfl⟩
        clear AR
        go_wp2_with (at_builtin; refine wpList_append_lies _ rfl _ _ _ rfl w.heap.size 3 i0 _ 1 8 Try.underlying22 HI0.out HZ0.out HZ1.out HZ2.out rfl (by omega) _ k L rfl (HO.out.alloc _) ⟨wr.heap.size, 0, none⟩ 1 1 [.int .i64 z] rfl rfl (cell_one_new _ _ _) (by simp [Value.oneCell']) (by omega) (by unfold maxLen; omega) (by omega) (by simp; omega) (wr.heap.size + 1) (by simp) ?_; intro gg cap w3 hown1 hgrow hat hltg)
        have HO2 := Lib.hid hown1
        clear hown1
        go_roundw
        case rel => exact ⟨k + 1, by omega, by omega, by go_num, by rw [HS.out]; exact HO2.out, (HB.out.alloc hbs _).grown hgrow (by simp; omega) (fun j e => (HO.out.lt j e).1)⟩
        case measure => simp [intOf]; omega
      · have q2 : ¬ (k : Int) < 8 := by omega
        clear hown hbl
        go_wp2_with fail
        all_goals first | (go_quiet (fail); go_wp2_with fail) | skip
        go_ret2
        refine ⟨_, rfl, ?_, HB.out⟩
        have := Rd_of_owns HO.out
        rw [HRS.out]
        rw [show k = 8 by omega] at this
        exact this
    · have q1 : ¬ (k : Int) < (l.length : Int) := by omega
      clear hown hbl
      go_wp2_with fail
      all_goals first | (go_quiet (fail); go_wp2_with fail) | skip
      go_ret2
      refine ⟨_, rfl, ?_, HB.out⟩
      have := Rd_of_owns HO.out
      rw [HRS.out]
      rw [List.take_of_length_le (by omega)] at this
      rw [List.take_of_length_le (by omega)]
      exact this
end Go.Proofs.Ytidojiegkdchpaa
