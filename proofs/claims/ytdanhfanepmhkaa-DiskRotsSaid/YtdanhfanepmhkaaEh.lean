/- The reference disk: New. -/
import Derived.Test.YtdanhfanepmhkaaEg
import Derived.OwnWalk
namespace Go.Proofs.Ytdanhfanepmhkaa
open Go.RowKit Go.Maps Go.Sort Go.Shelf

theorem wpAnyOne' {P : Program} {md : Region.Mode} {ops : Array Oper} {Q : Exit → Act → World → Prop} {fuel : Nat} {listed : Array Bool} {a : Act} {w w' : World} (i : Nat) (d : Option Nat) {o : Oper} {v : Value} (hr : Region.ready md ops listed = [i]) (ho : ops[i]? = some o) (hd : o.dst = d)
    (hw : Region.wanted o (yielded ops a.tmps) = true) (hrun : (execOp a.eval o).run P w = .ok (.value v) w')
    (h : wpAny P md ops Q fuel (listed.setIfInBounds i true) (a.put d v) w') : wpAny P md ops Q (fuel + 1) listed a w :=
  wpAny_all hr (by simp) fun j hj => by
    rw [List.mem_singleton.1 hj]
    subst hd
    exact wpOpRun ho hw hrun h
theorem wpAnyTwo {P : Program} {md : Region.Mode} {ops : Array Oper} {Q : Exit → Act → World → Prop} {fuel : Nat} {listed : Array Bool} {a : Act} {w w1 w2 : World} (i : Nat) (d : Option Nat) (i2 : Nat) (d2 : Option Nat) {o o2 : Oper} {v v2 : Value} (hr : Region.ready md ops listed = [i, i2]) (ho : ops[i]? = some o) (hd : o.dst = d)
    (hw : Region.wanted o (yielded ops a.tmps) = true) (hrun : (execOp a.eval o).run P w = .ok (.value v) w1) (ho2 : ops[i2]? = some o2) (hd2 : o2.dst = d2) (hw2 : Region.wanted o2 (yielded ops a.tmps) = true) (hrun2 : (execOp a.eval o2).run P w = .ok (.value v2) w2)
    (h : wpAny P md ops Q fuel (listed.setIfInBounds i true) (a.put d v) w1) (h2 : wpAny P md ops Q fuel (listed.setIfInBounds i2 true) (a.put d2 v2) w2) : wpAny P md ops Q (fuel + 1) listed a w :=
  wpAny_all hr (by simp) fun j hj => by
    subst hd hd2
    rcases List.mem_cons.1 hj with rfl | hj
    · exact wpOpRun ho hw hrun h
    · rw [List.mem_singleton.1 hj]
      exact wpOpRun ho2 hw2 hrun2 h2
theorem wpAnyOp {P : Program} {md : Region.Mode} {ops : Array Oper} {Q : Exit → Act → World → Prop} {fuel : Nat} {listed : Array Bool} {a : Act} {w : World} (i : Nat) (d : Option Nat) {o : Oper} (hr : Region.ready md ops listed = [i]) (ho : ops[i]? = some o) (hd : o.dst = d)
    (h : ∀ K' : Act → World → Prop, (∀ v w', wpAny P md ops Q fuel (listed.setIfInBounds i true) (a.put d v) w' → K' (a.put o.dst v) w') → if Region.wanted o (yielded ops a.tmps) = true then Oper.wp P o a w K' Q else K' (a.put o.dst undef) w) :
    wpAny P md ops Q (fuel + 1) listed a w :=
  wpAny_all hr (by simp) fun j hj => by
    rw [List.mem_singleton.1 hj]
    exact wpOp_step ho fun K' hK => h K' fun v w' hn => hK _ _ (by rw [hd]; exact hn)
theorem wpAnySkip {P : Program} {md : Region.Mode} {ops : Array Oper} {Q : Exit → Act → World → Prop} {fuel : Nat} {listed : Array Bool} {a : Act} {w w' : World} (i : Nat) (d : Option Nat) {o : Oper} (hr : Region.ready md ops listed = [i]) (ho : ops[i]? = some o) (hd : o.dst = d)
    (hw : Region.wanted o (yielded ops a.tmps) = true) (hrun : (execOp a.eval o).run P w = .ok .skip w')
    (h : wpAny P md ops Q fuel (listed.setIfInBounds i true) (a.put d undef) w') : wpAny P md ops Q (fuel + 1) listed a w :=
  wpAny_all hr (by simp) fun j hj => by
    rw [List.mem_singleton.1 hj]
    subst hd
    exact wpOp_step ho fun K' hK => by
      rw [if_pos hw]
      unfold Oper.wp
      rw [hrun]
      exact hK _ _ h
theorem wpAnyTake {P : Program} {md : Region.Mode} {ops : Array Oper} {Q : Exit → Act → World → Prop} {fuel : Nat} {listed : Array Bool} {a : Act} {w : World} (i : Nat) (d : Option Nat) {o : Oper} (v : Value) (hi : ops[i]? = some o) (hd : o.dst = d)
    (hs : Region.noSelect ops = true) (hf : Region.free md ops listed i = true) (hr : (Region.ready md ops listed).contains i = true)
    (hQ : ∀ c a w, Q (.panic c) (a.put d v) w → Q (.panic c) a w) (hw : Region.wanted o (yielded ops a.tmps) = true) (hy : ∀ w, (execOp a.eval o).run P w = .ok (.value v) w)
    (h : wpAny P md ops Q fuel (listed.setIfInBounds i true) (a.put d v) w) : wpAny P md ops Q (fuel + 1) listed a w := by
  subst hd
  exact wpAny_take hi hs hf hr hQ (.inl ⟨hw, hy⟩) h

theorem ownsRow_keeps {w w' : World} {B : Nat} {e : TypeId} {sz n : Nat} {v : Value} {xs : List Value} (h : w.ownsRow B e sz v n xs) (hk : Keeps (fun _ => False) w w') : w'.ownsRow B e sz v n xs := by
  refine ⟨h.1, ?_⟩
  rcases h.2 with h | ⟨g, cap, cur, h1, h2, h3, h4⟩
  · exact .inl h
  · exact .inr ⟨g, cap, cur, h1, h2, (hk.block g (Array.getElem?_eq_some_iff.1 h3).1 (fun h => h)).trans h3, h4⟩
theorem ownsRow_keepsF {F : Nat → Prop} {w w' : World} {B : Nat} {e : TypeId} {sz n : Nat} {v : Value} {xs : List Value} (h : w.ownsRow B e sz v n xs) (hk : Keeps F w w') (hF : ∀ b, B ≤ b → ¬ F b) : w'.ownsRow B e sz v n xs := by
  refine ⟨h.1, ?_⟩
  rcases h.2 with h | ⟨g, cap, cur, h1, h2, h3, h4⟩
  · exact .inl h
  · exact .inr ⟨g, cap, cur, h1, h2, (hk.block g (Array.getElem?_eq_some_iff.1 h3).1 (hF g h2)).trans h3, h4⟩

def zeroSc : Sc := ⟨zero64, ⟨#[]⟩, false, false⟩
theorem rows_new (n : Nat) : rows (newD n) = List.replicate n zeroSc := by
  refine List.ext_getElem? fun k => ?_
  have hl : (newD n).S.length = n := by simp [newD]
  rcases Nat.lt_or_ge k n with h | h
  · rw [rows_at _ (by rw [hl]; exact h), List.getElem?_replicate, if_pos h]
    unfold row newD zeroSc
    simp [h]
  · rw [List.getElem?_eq_none (by rw [rows_len, hl]; exact h), List.getElem?_eq_none (by simpa using h)]
theorem newD_ok {n : Nat} (h1 : 1 ≤ n) (h2 : n ≤ 4096) : (newD n).ok := by
  have hl : (newD n).S.length = n := by simp [newD]
  refine ⟨by omega, by omega, fun k s hs => ?_, fun k s hs => (by cases hs), by show _ ≤ (-1 : Int); omega, by show (-1 : Int) ≤ _; omega⟩
  have : s ∈ (newD n).S := List.mem_of_getElem? hs
  rw [(List.mem_replicate.1 this).2]
  exact zero64_size

set_option maxRecDepth 100000 in
set_option maxHeartbeats 4000000 in
theorem rnew_any (n : Nat) (w : World) (h1 : 1 ≤ n) (h2 : n ≤ 4096) :
    Calls Try.prog 32 #[.int .i64 n] w fun e w' => ∃ B : RAt, e = .returned (.tuple #[.pointer (some ⟨B.d, 0, none⟩), .int .i64 0]) ∧ RefAt w' B (newD n) ∧ (∀ b, B.F b → w.heap.size ≤ b) ∧ Below w.heap.size w w' := by
  obtain ⟨i0, hi0, hz0, hz1, hz2⟩ := info_parts Try.info54i
  have HI := Lib.hid hi0; have HZ0 := Lib.hid hz0; have HZ1 := Lib.hid hz1; have HZ2 := Lib.hid hz2
  obtain ⟨i5, hi5, hy0, hy1, hy2⟩ := info_parts Try.info5i
  have HI5 := Lib.hid hi5; have HY0 := Lib.hid hy0; have HY1 := Lib.hid hy1; have HY2 := Lib.hid hy2
  clear hi0 hz0 hz1 hz2 hi5 hy0 hy1 hy2
  go_enter Try.func32, Try.ntmps32
  go_wp2_with fail
  go_loopw [5] (fun i wr => ∃ (j : Nat) (v : Value), j ≤ n ∧ i = .int .i64 j ∧ Boxs wr w.heap.size 57 #[v, .bool false, .int .i64 (-1)] ∧ wr.ownsRow (w.heap.size + 1) 54 4 v j ((List.replicate j zeroSc).flatMap sc) ∧ Below w.heap.size w wr) (fun i _ => n - (intOf i).toNat)
  case atStart => exact ⟨0, .slice none 0 0, Nat.zero_le _, rfl, Boxs.new _ _ _, by simpa using World.ownsRow_nil _ _ _ _, (Below.refl _ _).alloc (Nat.le_refl _) _⟩
  case round =>
    obtain ⟨j, v, hj, rfl, hbox, hown, hbl⟩ := hrel
    by_cases hlt : j < n
    · have hbs := hbl.size
      have hj1 : (j : Int) < (n : Int) := by omega
      have HBX := Lib.hid hbox; have HO := Lib.hid hown; have HB := Lib.hid hbl
      clear hbox hown hbl
      go_wp2_with fail
      refine wp_region_any (by kernel_rfl) ?_
      have hdr : wr.drew = { wr with drawn := wr.drawn + 1 } := rfl
      rw [← hdr]
      clear hdr
      obtain ⟨W1, hmk, hown1, hgr1⟩ := run_make_full (P := Try.prog) wr.drew wr.heap.size 72 5 i5 (.int .u8 0) 1 Try.underlying72 HI5.out HY0.out HY1.out .i64 .i64 64 (by rw [HY2.out]; omega) (by unfold maxLen; omega) (Nat.le_refl _)
      have hmk' : (Instr.makeSlice 72 (.int .i64 64) (.int .i64 64)).run Try.prog wr.drew = .ok (.slice (some ⟨wr.heap.size, 0, none⟩) 64 64) W1 := hmk
      have hb1 : Lib.Bytes W1 wr.heap.size 0 zero64 := by
        rcases hown1.2 with ⟨e1, _⟩ | ⟨g, cap, cur, e1, hbg, hg, hn, hc, hs, ht⟩
        · cases e1
        · cases e1
          intro i hi
          rw [madeB] at ht
          have hi' : i < 64 := by rw [zero64_size] at hi; exact hi
          have hsz : cur.size = 64 := by rw [hs]
          rw [List.take_of_length_le (by rw [Array.length_toList]; omega)] at ht
          have hx : Boxs W1 wr.heap.size 5 cur := hg
          rw [hx.cell, Nat.zero_add, ← Array.getElem?_toList, ht, List.getElem?_replicate, if_pos hi']
          simp [zero64, ByteArray.getElem_eq_getElem_data]
      have hcv := conv_blk zero64_size hb1
      have k1 : Keeps (fun _ => False) wr.drew W1 := Keeps.of_grown hgr1 (fun i e => by cases e)
      have k2 : Keeps (fun _ => False) W1 (W1.alloc (.cells #[.string zero64, .string ⟨#[]⟩, .bool false, .bool false] 54)) := (Keeps.refl _ _).alloc _
      have bA : Boxs wr.drew w.heap.size 57 #[v, .bool false, .int .i64 (-1)] := HBX.out
      have bB := bA.keeps k1 (fun h => h)
      have bC := bB.keeps k2 (fun h => h)
      have cA := bA.cell 0
      have cB := bB.cell 0
      have cC := bC.cell 0
      simp at cA cB
      have cC' : (W1.alloc (.cells #[.string zero64, .string ⟨#[]⟩, .bool false, .bool false] 54)).cell? ⟨w.heap.size, 0, none⟩ = some v := by simpa using cC
      clear cC
      have HOC := Lib.hid (ownsRow_keeps (ownsRow_keeps HO.out (Keeps.refl _ wr).drew) (k1.trans k2))
      have HBB := Lib.hid bC
      have HKK := Lib.hid (k1.trans k2)
      have hs1 : wr.heap.size ≤ W1.heap.size := k1.size
      have hs0 : w.heap.size < wr.heap.size := HBX.out.lt
      clear hmk hown1 hgr1 hb1 k1 k2 bA bB bC
      refine wpAnyTake 0 (some 19) (.pointer (some ⟨w.heap.size, 0, none⟩)) rfl rfl (by kernel_rfl) (by kernel_rfl) (by kernel_rfl) (fun _ _ _ h => h) (by rfl) (fun _ => by rfl) ?_
      simp only [Act.put, List.setIfInBounds_toArray, List.set_cons_zero, List.set_cons_succ]
      refine wpAnyTake 1 (some 20) (.pointer (some ⟨w.heap.size, 0, none⟩)) rfl rfl (by kernel_rfl) (by kernel_rfl) (by kernel_rfl) (fun _ _ _ h => h) (by rfl) (fun _ => by rfl) ?_
      simp only [Act.put, List.setIfInBounds_toArray, List.set_cons_zero, List.set_cons_succ]
      refine wpAnyTake 2 (some 21) (.pointer (some ⟨w.heap.size, 0, none⟩)) rfl rfl (by kernel_rfl) (by kernel_rfl) (by kernel_rfl) (fun _ _ _ h => h) (by rfl) (fun _ => by rfl) ?_
      simp only [Act.put, List.setIfInBounds_toArray, List.set_cons_zero, List.set_cons_succ]
      refine wpAnyTake 3 (some 22) (.pointer (some ⟨w.heap.size, 0, none⟩)) rfl rfl (by kernel_rfl) (by kernel_rfl) (by kernel_rfl) (fun _ _ _ h => h) (by rfl) (fun _ => by rfl) ?_
      simp only [Act.put, List.setIfInBounds_toArray, List.set_cons_zero, List.set_cons_succ]
      refine wpAnyTwo 4 (some 23) 5 (some 24) (w1 := wr.drew) (w2 := W1) (v := v) (v2 := .slice (some ⟨wr.heap.size, 0, none⟩) 64 64) (by kernel_rfl) rfl rfl (by rfl) (by go_simp) rfl rfl (by rfl) (by go_simp) ?_ ?_
      · simp only [Act.put, List.setIfInBounds_toArray, List.set_cons_zero, List.set_cons_succ]
        refine wpAnyOne' 5 (some 24) (w' := W1) (v := .slice (some ⟨wr.heap.size, 0, none⟩) 64 64) (by kernel_rfl) rfl rfl (by rfl) (by go_simp) ?_
        simp only [Act.put, List.setIfInBounds_toArray, List.set_cons_zero, List.set_cons_succ]
        refine wpAnyOne' 6 (some 25) (w' := W1) (v := .string zero64) (by kernel_rfl) rfl rfl (by rfl) (by go_simp) ?_
        simp only [Act.put, List.setIfInBounds_toArray, List.set_cons_zero, List.set_cons_succ]
        refine wpAnyOne' 7 (some 26) (w' := W1) (v := .agg #[.string zero64, .string ⟨#[]⟩, .bool false, .bool false]) (by kernel_rfl) rfl rfl (by rfl) (by go_simp) ?_
        simp only [Act.put, List.setIfInBounds_toArray, List.set_cons_zero, List.set_cons_succ]
        refine wpAnyOne' 8 (some 27) (w' := (W1.alloc (.cells #[.string zero64, .string ⟨#[]⟩, .bool false, .bool false] 54))) (v := .slice (some ⟨W1.heap.size, 0, none⟩) 1 1) (by kernel_rfl) rfl rfl (by rfl) (by go_simp) ?_
        simp only [Act.put, List.setIfInBounds_toArray, List.set_cons_zero, List.set_cons_succ]
        refine wpAnyOp 9 (some 28) (by kernel_rfl) rfl rfl fun K' hK => ?_
        refine step_append_lies _ rfl _ _ _ rfl (w.heap.size + 1) 54 i0 _ 4 40 Try.underlying55 HI.out HZ0.out HZ1.out HZ2.out rfl (by omega) v j ((List.replicate j zeroSc).flatMap sc) rfl HOC.out
          ⟨W1.heap.size, 0, none⟩ 1 1 (sc zeroSc) rfl rfl (World.news_of_block (cs := (sc zeroSc).toArray) (t := 54) (fr := (0, 0)) (heap_alloc_new W1 _)) (by simp [sc, Value.oneCell']) (by omega) (by unfold maxLen; omega) (by omega) (by simp; omega) (W1.heap.size + 1) (by simp) ?_
        intro g cap w3 hown3 hgrow hat hltg
        refine hK _ _ ?_
        clear hK
        simp only [Act.put, List.setIfInBounds_toArray, List.set_cons_zero, List.set_cons_succ]
        have k3 : Keeps (fun b => w.heap.size + 1 ≤ b) (W1.alloc (.cells #[.string zero64, .string ⟨#[]⟩, .bool false, .bool false] 54)) w3 := Keeps.of_grown hgrow (fun i e => (HOC.out.lt i e).1)
        have bD := HBB.out.keeps k3 (by omega)
        have cD := bD.cell 0
        have fD := bD.frozen 0
        simp at cD
        have HBD := Lib.hid bD; have HK3 := Lib.hid k3; have HO3 := Lib.hid hown3
        clear bD k3 hown3 hgrow hat hltg
        refine wpAnyOne' 10 (some 29) (w' := w3) (v := .pointer (some ⟨w.heap.size, 0, none⟩)) (by kernel_rfl) rfl rfl (by rfl) (by go_simp) ?_
        simp only [Act.put, List.setIfInBounds_toArray, List.set_cons_zero, List.set_cons_succ]
        refine wpAnyOne' 11 (some 30) (w' := w3) (v := .pointer (some ⟨w.heap.size, 0, none⟩)) (by kernel_rfl) rfl rfl (by rfl) (by go_simp) ?_
        simp only [Act.put, List.setIfInBounds_toArray, List.set_cons_zero, List.set_cons_succ]
        refine wpAnySkip 12 none (w' := w3.setCell ⟨w.heap.size, 0, none⟩ (.slice (some ⟨g, 0, none⟩) (j + 1) cap)) (by kernel_rfl) rfl rfl (by rfl) (by go_simp) ?_
        refine wpAny_done (by kernel_rfl) ?_ _
        rename_i K hK
        refine hK _ _ ?_
        clear hK
        simp only [Act.put]
        go_wp2_with fail
        go_roundw
        case rel =>
          refine ⟨j + 1, _, by omega, by go_num, HBD.out.put 0 _, ?_, ?_⟩
          · rw [List.replicate_succ', List.flatMap_append]
            have := ownsRow_keepsF HO3.out (Keeps.setCell (F := fun b => b = w.heap.size) (p := ⟨w.heap.size, 0, none⟩) (Keeps.refl _ w3) rfl (.slice (some ⟨g, 0, none⟩) (j + 1) cap)) (fun b hb e => by omega)
            simpa using this
          · exact HB.out.trans (((((Keeps.refl (fun b => w.heap.size ≤ b) wr).drew.trans (HKK.out.mono (fun _ _ h => h.elim))).trans (HK3.out.mono (fun b _ h => by omega))).setCell (p := ⟨w.heap.size, 0, none⟩) (Nat.le_refl _) _).below (by omega) (fun _ _ h => h))
        case measure => simp [intOf]; omega
      · simp only [Act.put, List.setIfInBounds_toArray, List.set_cons_zero, List.set_cons_succ]
        refine wpAnyTwo 4 (some 23) 6 (some 25) (w1 := W1) (w2 := W1) (v := v) (v2 := .string zero64) (by kernel_rfl) rfl rfl (by rfl) (by go_simp) rfl rfl (by rfl) (by go_simp) ?_ ?_
        · simp only [Act.put, List.setIfInBounds_toArray, List.set_cons_zero, List.set_cons_succ]
          refine wpAnyOne' 6 (some 25) (w' := W1) (v := .string zero64) (by kernel_rfl) rfl rfl (by rfl) (by go_simp) ?_
          simp only [Act.put, List.setIfInBounds_toArray, List.set_cons_zero, List.set_cons_succ]
          refine wpAnyOne' 7 (some 26) (w' := W1) (v := .agg #[.string zero64, .string ⟨#[]⟩, .bool false, .bool false]) (by kernel_rfl) rfl rfl (by rfl) (by go_simp) ?_
          simp only [Act.put, List.setIfInBounds_toArray, List.set_cons_zero, List.set_cons_succ]
          refine wpAnyOne' 8 (some 27) (w' := (W1.alloc (.cells #[.string zero64, .string ⟨#[]⟩, .bool false, .bool false] 54))) (v := .slice (some ⟨W1.heap.size, 0, none⟩) 1 1) (by kernel_rfl) rfl rfl (by rfl) (by go_simp) ?_
          simp only [Act.put, List.setIfInBounds_toArray, List.set_cons_zero, List.set_cons_succ]
          refine wpAnyOp 9 (some 28) (by kernel_rfl) rfl rfl fun K' hK => ?_
          refine step_append_lies _ rfl _ _ _ rfl (w.heap.size + 1) 54 i0 _ 4 40 Try.underlying55 HI.out HZ0.out HZ1.out HZ2.out rfl (by omega) v j ((List.replicate j zeroSc).flatMap sc) rfl HOC.out
            ⟨W1.heap.size, 0, none⟩ 1 1 (sc zeroSc) rfl rfl (World.news_of_block (cs := (sc zeroSc).toArray) (t := 54) (fr := (0, 0)) (heap_alloc_new W1 _)) (by simp [sc, Value.oneCell']) (by omega) (by unfold maxLen; omega) (by omega) (by simp; omega) (W1.heap.size + 1) (by simp) ?_
          intro g cap w3 hown3 hgrow hat hltg
          refine hK _ _ ?_
          clear hK
          simp only [Act.put, List.setIfInBounds_toArray, List.set_cons_zero, List.set_cons_succ]
          have k3 : Keeps (fun b => w.heap.size + 1 ≤ b) (W1.alloc (.cells #[.string zero64, .string ⟨#[]⟩, .bool false, .bool false] 54)) w3 := Keeps.of_grown hgrow (fun i e => (HOC.out.lt i e).1)
          have bD := HBB.out.keeps k3 (by omega)
          have cD := bD.cell 0
          have fD := bD.frozen 0
          simp at cD
          have HBD := Lib.hid bD; have HK3 := Lib.hid k3; have HO3 := Lib.hid hown3
          clear bD k3 hown3 hgrow hat hltg
          refine wpAnyOne' 10 (some 29) (w' := w3) (v := .pointer (some ⟨w.heap.size, 0, none⟩)) (by kernel_rfl) rfl rfl (by rfl) (by go_simp) ?_
          simp only [Act.put, List.setIfInBounds_toArray, List.set_cons_zero, List.set_cons_succ]
          refine wpAnyOne' 11 (some 30) (w' := w3) (v := .pointer (some ⟨w.heap.size, 0, none⟩)) (by kernel_rfl) rfl rfl (by rfl) (by go_simp) ?_
          simp only [Act.put, List.setIfInBounds_toArray, List.set_cons_zero, List.set_cons_succ]
          refine wpAnySkip 12 none (w' := w3.setCell ⟨w.heap.size, 0, none⟩ (.slice (some ⟨g, 0, none⟩) (j + 1) cap)) (by kernel_rfl) rfl rfl (by rfl) (by go_simp) ?_
          refine wpAny_done (by kernel_rfl) ?_ _
          rename_i K hK
          refine hK _ _ ?_
          clear hK
          simp only [Act.put]
          go_wp2_with fail
          go_roundw
          case rel =>
            refine ⟨j + 1, _, by omega, by go_num, HBD.out.put 0 _, ?_, ?_⟩
            · rw [List.replicate_succ', List.flatMap_append]
              have := ownsRow_keepsF HO3.out (Keeps.setCell (F := fun b => b = w.heap.size) (p := ⟨w.heap.size, 0, none⟩) (Keeps.refl _ w3) rfl (.slice (some ⟨g, 0, none⟩) (j + 1) cap)) (fun b hb e => by omega)
              simpa using this
            · exact HB.out.trans (((((Keeps.refl (fun b => w.heap.size ≤ b) wr).drew.trans (HKK.out.mono (fun _ _ h => h.elim))).trans (HK3.out.mono (fun b _ h => by omega))).setCell (p := ⟨w.heap.size, 0, none⟩) (Nat.le_refl _) _).below (by omega) (fun _ _ h => h))
          case measure => simp [intOf]; omega
        · simp only [Act.put, List.setIfInBounds_toArray, List.set_cons_zero, List.set_cons_succ]
          refine wpAnyTwo 4 (some 23) 7 (some 26) (w1 := W1) (w2 := W1) (v := v) (v2 := .agg #[.string zero64, .string ⟨#[]⟩, .bool false, .bool false]) (by kernel_rfl) rfl rfl (by rfl) (by go_simp) rfl rfl (by rfl) (by go_simp) ?_ ?_
          · simp only [Act.put, List.setIfInBounds_toArray, List.set_cons_zero, List.set_cons_succ]
            refine wpAnyOne' 7 (some 26) (w' := W1) (v := .agg #[.string zero64, .string ⟨#[]⟩, .bool false, .bool false]) (by kernel_rfl) rfl rfl (by rfl) (by go_simp) ?_
            simp only [Act.put, List.setIfInBounds_toArray, List.set_cons_zero, List.set_cons_succ]
            refine wpAnyOne' 8 (some 27) (w' := (W1.alloc (.cells #[.string zero64, .string ⟨#[]⟩, .bool false, .bool false] 54))) (v := .slice (some ⟨W1.heap.size, 0, none⟩) 1 1) (by kernel_rfl) rfl rfl (by rfl) (by go_simp) ?_
            simp only [Act.put, List.setIfInBounds_toArray, List.set_cons_zero, List.set_cons_succ]
            refine wpAnyOp 9 (some 28) (by kernel_rfl) rfl rfl fun K' hK => ?_
            refine step_append_lies _ rfl _ _ _ rfl (w.heap.size + 1) 54 i0 _ 4 40 Try.underlying55 HI.out HZ0.out HZ1.out HZ2.out rfl (by omega) v j ((List.replicate j zeroSc).flatMap sc) rfl HOC.out
              ⟨W1.heap.size, 0, none⟩ 1 1 (sc zeroSc) rfl rfl (World.news_of_block (cs := (sc zeroSc).toArray) (t := 54) (fr := (0, 0)) (heap_alloc_new W1 _)) (by simp [sc, Value.oneCell']) (by omega) (by unfold maxLen; omega) (by omega) (by simp; omega) (W1.heap.size + 1) (by simp) ?_
            intro g cap w3 hown3 hgrow hat hltg
            refine hK _ _ ?_
            clear hK
            simp only [Act.put, List.setIfInBounds_toArray, List.set_cons_zero, List.set_cons_succ]
            have k3 : Keeps (fun b => w.heap.size + 1 ≤ b) (W1.alloc (.cells #[.string zero64, .string ⟨#[]⟩, .bool false, .bool false] 54)) w3 := Keeps.of_grown hgrow (fun i e => (HOC.out.lt i e).1)
            have bD := HBB.out.keeps k3 (by omega)
            have cD := bD.cell 0
            have fD := bD.frozen 0
            simp at cD
            have HBD := Lib.hid bD; have HK3 := Lib.hid k3; have HO3 := Lib.hid hown3
            clear bD k3 hown3 hgrow hat hltg
            refine wpAnyOne' 10 (some 29) (w' := w3) (v := .pointer (some ⟨w.heap.size, 0, none⟩)) (by kernel_rfl) rfl rfl (by rfl) (by go_simp) ?_
            simp only [Act.put, List.setIfInBounds_toArray, List.set_cons_zero, List.set_cons_succ]
            refine wpAnyOne' 11 (some 30) (w' := w3) (v := .pointer (some ⟨w.heap.size, 0, none⟩)) (by kernel_rfl) rfl rfl (by rfl) (by go_simp) ?_
            simp only [Act.put, List.setIfInBounds_toArray, List.set_cons_zero, List.set_cons_succ]
            refine wpAnySkip 12 none (w' := w3.setCell ⟨w.heap.size, 0, none⟩ (.slice (some ⟨g, 0, none⟩) (j + 1) cap)) (by kernel_rfl) rfl rfl (by rfl) (by go_simp) ?_
            refine wpAny_done (by kernel_rfl) ?_ _
            rename_i K hK
            refine hK _ _ ?_
            clear hK
            simp only [Act.put]
            go_wp2_with fail
            go_roundw
            case rel =>
              refine ⟨j + 1, _, by omega, by go_num, HBD.out.put 0 _, ?_, ?_⟩
              · rw [List.replicate_succ', List.flatMap_append]
                have := ownsRow_keepsF HO3.out (Keeps.setCell (F := fun b => b = w.heap.size) (p := ⟨w.heap.size, 0, none⟩) (Keeps.refl _ w3) rfl (.slice (some ⟨g, 0, none⟩) (j + 1) cap)) (fun b hb e => by omega)
                simpa using this
              · exact HB.out.trans (((((Keeps.refl (fun b => w.heap.size ≤ b) wr).drew.trans (HKK.out.mono (fun _ _ h => h.elim))).trans (HK3.out.mono (fun b _ h => by omega))).setCell (p := ⟨w.heap.size, 0, none⟩) (Nat.le_refl _) _).below (by omega) (fun _ _ h => h))
            case measure => simp [intOf]; omega
          · simp only [Act.put, List.setIfInBounds_toArray, List.set_cons_zero, List.set_cons_succ]
            refine wpAnyTwo 4 (some 23) 8 (some 27) (w1 := W1) (w2 := (W1.alloc (.cells #[.string zero64, .string ⟨#[]⟩, .bool false, .bool false] 54))) (v := v) (v2 := .slice (some ⟨W1.heap.size, 0, none⟩) 1 1) (by kernel_rfl) rfl rfl (by rfl) (by go_simp) rfl rfl (by rfl) (by go_simp) ?_ ?_
            · simp only [Act.put, List.setIfInBounds_toArray, List.set_cons_zero, List.set_cons_succ]
              refine wpAnyOne' 8 (some 27) (w' := (W1.alloc (.cells #[.string zero64, .string ⟨#[]⟩, .bool false, .bool false] 54))) (v := .slice (some ⟨W1.heap.size, 0, none⟩) 1 1) (by kernel_rfl) rfl rfl (by rfl) (by go_simp) ?_
              simp only [Act.put, List.setIfInBounds_toArray, List.set_cons_zero, List.set_cons_succ]
              refine wpAnyOp 9 (some 28) (by kernel_rfl) rfl rfl fun K' hK => ?_
              refine step_append_lies _ rfl _ _ _ rfl (w.heap.size + 1) 54 i0 _ 4 40 Try.underlying55 HI.out HZ0.out HZ1.out HZ2.out rfl (by omega) v j ((List.replicate j zeroSc).flatMap sc) rfl HOC.out
                ⟨W1.heap.size, 0, none⟩ 1 1 (sc zeroSc) rfl rfl (World.news_of_block (cs := (sc zeroSc).toArray) (t := 54) (fr := (0, 0)) (heap_alloc_new W1 _)) (by simp [sc, Value.oneCell']) (by omega) (by unfold maxLen; omega) (by omega) (by simp; omega) (W1.heap.size + 1) (by simp) ?_
              intro g cap w3 hown3 hgrow hat hltg
              refine hK _ _ ?_
              clear hK
              simp only [Act.put, List.setIfInBounds_toArray, List.set_cons_zero, List.set_cons_succ]
              have k3 : Keeps (fun b => w.heap.size + 1 ≤ b) (W1.alloc (.cells #[.string zero64, .string ⟨#[]⟩, .bool false, .bool false] 54)) w3 := Keeps.of_grown hgrow (fun i e => (HOC.out.lt i e).1)
              have bD := HBB.out.keeps k3 (by omega)
              have cD := bD.cell 0
              have fD := bD.frozen 0
              simp at cD
              have HBD := Lib.hid bD; have HK3 := Lib.hid k3; have HO3 := Lib.hid hown3
              clear bD k3 hown3 hgrow hat hltg
              refine wpAnyOne' 10 (some 29) (w' := w3) (v := .pointer (some ⟨w.heap.size, 0, none⟩)) (by kernel_rfl) rfl rfl (by rfl) (by go_simp) ?_
              simp only [Act.put, List.setIfInBounds_toArray, List.set_cons_zero, List.set_cons_succ]
              refine wpAnyOne' 11 (some 30) (w' := w3) (v := .pointer (some ⟨w.heap.size, 0, none⟩)) (by kernel_rfl) rfl rfl (by rfl) (by go_simp) ?_
              simp only [Act.put, List.setIfInBounds_toArray, List.set_cons_zero, List.set_cons_succ]
              refine wpAnySkip 12 none (w' := w3.setCell ⟨w.heap.size, 0, none⟩ (.slice (some ⟨g, 0, none⟩) (j + 1) cap)) (by kernel_rfl) rfl rfl (by rfl) (by go_simp) ?_
              refine wpAny_done (by kernel_rfl) ?_ _
              rename_i K hK
              refine hK _ _ ?_
              clear hK
              simp only [Act.put]
              go_wp2_with fail
              go_roundw
              case rel =>
                refine ⟨j + 1, _, by omega, by go_num, HBD.out.put 0 _, ?_, ?_⟩
                · rw [List.replicate_succ', List.flatMap_append]
                  have := ownsRow_keepsF HO3.out (Keeps.setCell (F := fun b => b = w.heap.size) (p := ⟨w.heap.size, 0, none⟩) (Keeps.refl _ w3) rfl (.slice (some ⟨g, 0, none⟩) (j + 1) cap)) (fun b hb e => by omega)
                  simpa using this
                · exact HB.out.trans (((((Keeps.refl (fun b => w.heap.size ≤ b) wr).drew.trans (HKK.out.mono (fun _ _ h => h.elim))).trans (HK3.out.mono (fun b _ h => by omega))).setCell (p := ⟨w.heap.size, 0, none⟩) (Nat.le_refl _) _).below (by omega) (fun _ _ h => h))
              case measure => simp [intOf]; omega
            · simp only [Act.put, List.setIfInBounds_toArray, List.set_cons_zero, List.set_cons_succ]
              refine wpAnyOne' 4 (some 23) (w' := (W1.alloc (.cells #[.string zero64, .string ⟨#[]⟩, .bool false, .bool false] 54))) (v := v) (by kernel_rfl) rfl rfl (by rfl) (by go_simp) ?_
              simp only [Act.put, List.setIfInBounds_toArray, List.set_cons_zero, List.set_cons_succ]
              refine wpAnyOp 9 (some 28) (by kernel_rfl) rfl rfl fun K' hK => ?_
              refine step_append_lies _ rfl _ _ _ rfl (w.heap.size + 1) 54 i0 _ 4 40 Try.underlying55 HI.out HZ0.out HZ1.out HZ2.out rfl (by omega) v j ((List.replicate j zeroSc).flatMap sc) rfl HOC.out
                ⟨W1.heap.size, 0, none⟩ 1 1 (sc zeroSc) rfl rfl (World.news_of_block (cs := (sc zeroSc).toArray) (t := 54) (fr := (0, 0)) (heap_alloc_new W1 _)) (by simp [sc, Value.oneCell']) (by omega) (by unfold maxLen; omega) (by omega) (by simp; omega) (W1.heap.size + 1) (by simp) ?_
              intro g cap w3 hown3 hgrow hat hltg
              refine hK _ _ ?_
              clear hK
              simp only [Act.put, List.setIfInBounds_toArray, List.set_cons_zero, List.set_cons_succ]
              have k3 : Keeps (fun b => w.heap.size + 1 ≤ b) (W1.alloc (.cells #[.string zero64, .string ⟨#[]⟩, .bool false, .bool false] 54)) w3 := Keeps.of_grown hgrow (fun i e => (HOC.out.lt i e).1)
              have bD := HBB.out.keeps k3 (by omega)
              have cD := bD.cell 0
              have fD := bD.frozen 0
              simp at cD
              have HBD := Lib.hid bD; have HK3 := Lib.hid k3; have HO3 := Lib.hid hown3
              clear bD k3 hown3 hgrow hat hltg
              refine wpAnyOne' 10 (some 29) (w' := w3) (v := .pointer (some ⟨w.heap.size, 0, none⟩)) (by kernel_rfl) rfl rfl (by rfl) (by go_simp) ?_
              simp only [Act.put, List.setIfInBounds_toArray, List.set_cons_zero, List.set_cons_succ]
              refine wpAnyOne' 11 (some 30) (w' := w3) (v := .pointer (some ⟨w.heap.size, 0, none⟩)) (by kernel_rfl) rfl rfl (by rfl) (by go_simp) ?_
              simp only [Act.put, List.setIfInBounds_toArray, List.set_cons_zero, List.set_cons_succ]
              refine wpAnySkip 12 none (w' := w3.setCell ⟨w.heap.size, 0, none⟩ (.slice (some ⟨g, 0, none⟩) (j + 1) cap)) (by kernel_rfl) rfl rfl (by rfl) (by go_simp) ?_
              refine wpAny_done (by kernel_rfl) ?_ _
              rename_i K hK
              refine hK _ _ ?_
              clear hK
              simp only [Act.put]
              go_wp2_with fail
              go_roundw
              case rel =>
                refine ⟨j + 1, _, by omega, by go_num, HBD.out.put 0 _, ?_, ?_⟩
                · rw [List.replicate_succ', List.flatMap_append]
                  have := ownsRow_keepsF HO3.out (Keeps.setCell (F := fun b => b = w.heap.size) (p := ⟨w.heap.size, 0, none⟩) (Keeps.refl _ w3) rfl (.slice (some ⟨g, 0, none⟩) (j + 1) cap)) (fun b hb e => by omega)
                  simpa using this
                · exact HB.out.trans (((((Keeps.refl (fun b => w.heap.size ≤ b) wr).drew.trans (HKK.out.mono (fun _ _ h => h.elim))).trans (HK3.out.mono (fun b _ h => by omega))).setCell (p := ⟨w.heap.size, 0, none⟩) (Nat.le_refl _) _).below (by omega) (fun _ _ h => h))
              case measure => simp [intOf]; omega
    · have he : j = n := by omega
      subst he
      have HBX := Lib.hid hbox; have HO := Lib.hid hown; have HB := Lib.hid hbl
      clear hbox hown hbl
      go_wp2_with fail
      go_ret2
      rcases HO.out.2 with ⟨e1, e2⟩ | ⟨g, cap, cur, e1, hbg, hg, hn, hc, hs, ht⟩
      · omega
      · subst e1
        have hl : (newD j).S.length = j := by simp [newD]
        refine ⟨⟨w.heap.size, g, cap⟩, rfl, ⟨⟨?_, cur, hg, cur.toList.drop (j * 4), ?_⟩, newD_ok h1 h2⟩, ?_, HB.out⟩
        · rw [rows_len, hl]; exact HBX.out
        · have e3 := List.take_append_drop (j * 4) cur.toList
          rw [ht, ← rows_new] at e3
          exact e3.symm
        · rintro b (rfl | rfl)
          · exact Nat.le_refl _
          · exact Nat.le_trans (Nat.le_succ _) hbg
end Go.Proofs.Ytdanhfanepmhkaa
