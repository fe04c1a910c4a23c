/- The disk: Write. -/
import Derived.Test.YtdanhfanepmhkaaDe
import Derived.RegionTactic
import Derived.BigRegion
import Derived.Lib.ConvBytes
import Derived.Laws.Cover3
import Derived.Laws.Cells
import Derived.StillTailTactics
import Derived.Deep.MidRow
namespace Go.Proofs.Ytdanhfanepmhkaa
open Go.RowKit Go.Maps

theorem map_upd {R : Value → Option (DataW Unit × List MemPlace)} {w : World} {b N : Nat} {f : Nat → Option (DataW Unit)} {t e : TypeId} (ht : Try.prog.underlying t = some (.map 3 e)) (hown : MapIs R w b N f) (hN : N ≤ 100000) {k : Nat} (hk : k < N) {val : Value} {d : DataW Unit} {ps : List MemPlace} (hR : R val = some (d, ps)) :
    ∃ w', (Instr.mapUpdate t (.map (some b)) (.int .i64 (k : Int)) val).run Try.prog w = .ok () w' ∧ MapIs R w' b N (fun j => if j = k then some d else f j) ∧ w.grownBy w' (some b) := by
  obtain ⟨D, g1, g2, g3⟩ := hown.keys
  obtain ⟨D', ⟨n, h1⟩, h2, h3⟩ := hown
  have hDD : D' = D := by
    obtain ⟨es, clock, e1, _, _, e4⟩ := g1
    obtain ⟨es', clock', e1', _, _, e4'⟩ := h1
    rw [e1] at e1'
    cases e1'
    rw [e4, e4']
  subst hDD
  obtain ⟨w', r1, r2, r3⟩ := g1.update law3 ht (by unfold maxLen; omega) (keyN (k := k) (by omega)) hR
  exact ⟨w', r1, MapIs.put r2 h1.isMap hk h2 h3, r3⟩

theorem pendD_put (P : Nat → Option ByteArray) (k : Nat) (s : ByteArray) : (fun j => if j = k then some (.lit (.string s.data.toList) : DataW Unit) else pendD P j) = pendD (fun j => if j = k then some s else P j) := by
  funext j
  unfold pendD
  by_cases h : j = k <;> simp [h]

theorem range_bytes {w : World} {b o : Nat} {s : ByteArray} (h : Lib.Bytes w b o s) : w.rangeAt b o (bytesV s) := by
  intro j v hv
  unfold bytesV at hv
  rw [List.getElem?_map] at hv
  obtain ⟨x, hx, rfl⟩ := Option.map_eq_some_iff.1 hv
  obtain ⟨hj, hx⟩ := List.getElem?_eq_some_iff.1 hx
  have hj' : j < s.size := by simpa using hj
  rw [h j hj']
  rw [← hx]
  simp [ByteArray.getElem_eq_getElem_data]

theorem load_blk {w : World} {b o : Nat} {s : ByteArray} (hs : s.size = 64) (h : Lib.Bytes w b o s) : (Instr.loadAt 74 (.pointer (some ⟨b, o, none⟩))).run Try.prog w = .ok (blkV s) w :=
  run_loadAt_mid w b o 74 (bytesV s) _ (range_bytes h) Try.underlying74 rfl (by rw [bytesV_len, hs]; exact size74)

theorem load_cells {w : World} {b o : Nat} {s : ByteArray} (hs : s.size = 64) (h : Lib.Bytes w b o s) : (loadCellsFrom ⟨b, o, none⟩ 0 64 #[]).run Try.prog w = .ok (bytesV s).toArray w := by
  have := run_loadCells_list (P := Try.prog) (w := w) ⟨b, o, none⟩ (bytesV s) (fun j v hv => by rw [Addr.add_mid]; exact range_bytes h j v hv)
  rw [bytesV_len, hs] at this
  exact this

theorem bytesW_bytes (w : World) (e : TypeId) (s : ByteArray) : Lib.Bytes (Lib.bytesWorld w e s) w.heap.size 0 s := by
  intro j hj
  rw [Nat.zero_add, Lib.bytesWorld_cell w e s j hj]
  have hj' : s.data[j]? = some s.data[j] := Array.getElem?_eq_getElem hj
  simp [List.getD, ByteArray.getElem_eq_getElem_data, hj']

theorem bytesW_below (w : World) (e : TypeId) (s : ByteArray) : Below w.heap.size w (Lib.bytesWorld w e s) :=
  ⟨rfl, rfl, rfl, by rw [Lib.bytesWorld_size]; omega, fun k hk => Lib.bytesWorld_at_old w e s k hk⟩

def Dk.writeE (D : Dk) (i : Int) (s : ByteArray) : Int := if D.chk i ≠ 0 then D.chk i else if s.size ≠ 64 then 1 else D.stepE
def Dk.writeD (D : Dk) (i : Int) (s : ByteArray) : Dk := if D.chk i ≠ 0 then D else if s.size ≠ 64 then D else if D.stepE ≠ 0 then D.stepD else { D.stepD with P := fun j => if j = i.toNat then some s else D.P j }

theorem stepD_S (D : Dk) : D.stepD.S = D.S ∧ D.stepD.P = D.P ∧ D.stepD.W = D.W := by
  unfold Dk.stepD
  split
  · exact ⟨rfl, rfl, rfl⟩
  · split <;> exact ⟨rfl, rfl, rfl⟩

theorem wpOpRun {P : Program} {ops : Array Oper} {Q : Exit → Act → World → Prop} {i : Nat} {o : Oper} {K : Act → World → Prop} {a : Act} {w w' : World} {v : Value} (ho : ops[i]? = some o)
    (hw : Region.wanted o (yielded ops a.tmps) = true) (hr : (execOp a.eval o).run P w = .ok (.value v) w') (h : K (a.put o.dst v) w') : wpOp P ops Q i K a w :=
  wpOp_step ho fun K' hK => by
    rw [if_pos hw]
    unfold Oper.wp
    rw [hr]
    exact hK _ _ h
/-- one operation alone may come up -/
theorem wpAnyHOne {P : Program} {md : Region.Mode} {ops : Array Oper} {Q : Exit → Act → World → Prop} {S : World → Prop} {fuel : Nat} {listed : Array Bool} {a : Act} {w w' : World} (i : Nat) (d : Option Nat) {o : Oper} {v : Value} (hr : Region.ready md ops listed = [i]) (ho : ops[i]? = some o) (hd : o.dst = d)
    (hw : Region.wanted o (yielded ops a.tmps) = true) (hrun : (execOp a.eval o).run P w = .ok (.value v) w') (hS : S w')
    (h : wpAnyH P md ops Q S fuel (listed.setIfInBounds i true) (a.put d v) w') : wpAnyH P md ops Q S (fuel + 1) listed a w :=
  wpAnyH_all hr (by simp) fun j hj => by
    rw [List.mem_singleton.1 hj]
    subst hd
    exact wpOpRun ho hw hrun ⟨hS, h⟩
theorem wpAnyHSkip {P : Program} {md : Region.Mode} {ops : Array Oper} {Q : Exit → Act → World → Prop} {S : World → Prop} {fuel : Nat} {listed : Array Bool} {a : Act} {w w' : World} (i : Nat) (d : Option Nat) {o : Oper} (hr : Region.ready md ops listed = [i]) (ho : ops[i]? = some o) (hd : o.dst = d)
    (hw : Region.wanted o (yielded ops a.tmps) = true) (hrun : (execOp a.eval o).run P w = .ok .skip w') (hS : S w')
    (h : wpAnyH P md ops Q S fuel (listed.setIfInBounds i true) (a.put d undef) w') : wpAnyH P md ops Q S (fuel + 1) listed a w :=
  wpAnyH_all hr (by simp) fun j hj => by
    rw [List.mem_singleton.1 hj]
    subst hd
    exact wpOp_step ho fun K' hK => by
      rw [if_pos hw]
      unfold Oper.wp
      rw [hrun]
      exact hK _ _ ⟨hS, h⟩
/-- an operation that only looks is taken first -/
theorem wpAnyHTake {P : Program} {md : Region.Mode} {ops : Array Oper} {Q : Exit → Act → World → Prop} {S : World → Prop} {fuel : Nat} {listed : Array Bool} {a : Act} {w : World} (i : Nat) (d : Option Nat) {o : Oper} (v : Value) (hi : ops[i]? = some o) (hd : o.dst = d)
    (hs : Region.noSelect ops = true) (hf : Region.free md ops listed i = true) (hr : (Region.ready md ops listed).contains i = true)
    (hQ : ∀ c a w, Q (.panic c) (a.put d v) w → Q (.panic c) a w) (hw : Region.wanted o (yielded ops a.tmps) = true) (hy : ∀ w, S w → (execOp a.eval o).run P w = .ok (.value v) w) (hS : S w)
    (h : wpAnyH P md ops Q S fuel (listed.setIfInBounds i true) (a.put d v) w) : wpAnyH P md ops Q S (fuel + 1) listed a w := by
  subst hd
  exact wpAnyH_take hi hs hf hr hQ (.inl ⟨hw, hy⟩) hS h
theorem execOp_load_mid {ρ : Operand → Value} {o : Oper} (ty : TypeId) (x : Operand) (ho : o.op = .load ty x) {w : World} {b n : Nat} (hx : ρ x = .pointer (some ⟨b, n, none⟩)) {v : Value} (h : (Instr.loadAt ty (.pointer (some ⟨b, n, none⟩))).run Try.prog w = .ok v w) :
    (execOp ρ o).run Try.prog w = .ok (.value v) w := by
  simp only [Instr.loadAt, Instr.sureAddr, Sem.run_bind, Sem.run_pure, Result.andThen_ok] at h
  unfold execOp
  simp only [ho, hx, Instr.loadAt, Instr.sureAddr, Sem.run_bind, Sem.run_pure, Result.andThen_ok, h]

set_option maxRecDepth 100000 in
set_option maxHeartbeats 1000000 in
theorem write_any (A : At) (D : Dk) (i : Int) (s : ByteArray) (w : World) (h : DskAt w A D) :
    Calls Try.prog 17 #[.pointer (some ⟨A.d, 0, none⟩), .int .i64 i, .string s] w fun e w' => e = .returned (.int .i64 (D.writeE i s)) ∧ DskAt w' A (D.writeD i s) ∧ Keeps A.F w w' := by
  have CH := check_any A D i w h
  by_cases hc : D.chk i = 0
  · obtain ⟨h1, h2, h3⟩ := chk_zero hc
    obtain ⟨k, rfl⟩ : ∃ k : Nat, i = k := ⟨i.toNat, by omega⟩
    have hk : k < D.S.length := by omega
    rw [hc] at CH
    by_cases hz : s.size = 64
    · have hzb : ((s.size : Int) != 64) = false := by rw [hz]; rfl
      have ST := step_any A D w h
      by_cases hst : D.stepE = 0
      · have hr : D.writeE k s = 0 := by unfold Dk.writeE; rw [if_neg (by simp [hc]), if_neg (by simp [hz]), hst]
        have hr2 : D.writeD k s = { D.stepD with P := fun j => if j = k then some s else D.P j } := by unfold Dk.writeD; rw [if_neg (by simp [hc]), if_neg (by simp [hz]), if_neg (by simp [hst])]; rfl
        rw [hst] at ST
        have HR := Lib.hid hr; have HR2 := Lib.hid hr2; have HZ := Lib.hid hz
        have hlen := h.len
        have hP := h.psz
        have HP := Lib.hid hP
        clear hr hr2 hc hst hz h h1 h2 h3 hP
        go_enter Try.func17, Try.ntmps17
        go_wp2_with fail
        refine (CH).mono ?_
        rintro e w1 ⟨rfl, rfl⟩
        go_wp2_with fail
        refine (ST).mono ?_
        rintro e w1 ⟨rfl, hD, hK⟩
        clear CH ST
        obtain ⟨e1, e2, e3⟩ := stepD_S D
        have hL : D.stepD.S.length = D.S.length := by rw [e1]
        have c1 := hD.box.cell 1
        simp at c1
        have hcv := fun W : World => Lib.run_convert_string_bytes (P := Try.prog) W 9 72 5 s Try.underlying9 Try.underlying72 Try.underlying5
        have hat := fun (W : World) (c : Nat) => run_arrayAt (P := Try.prog) (w := W) 74 5 64 (some ⟨w1.heap.size, 0, none⟩) s.size c Try.underlying74 (by rw [HZ.out]; omega)
        have hlc : (loadCellsFrom ⟨w1.heap.size, 0, none⟩ 0 64 #[]).run Try.prog (Lib.bytesWorld w1.drew 5 s) = .ok (bytesV s).toArray (Lib.bytesWorld w1.drew 5 s) := load_cells HZ.out (bytesW_bytes w1.drew 5 s)
        have hbw := bytesW_below w1.drew 5 s
        have c1' := cell_bl hbw (cell_dr c1)
        have hpb : MapIs Rb (Lib.bytesWorld w1.drew 5 s) A.p D.stepD.S.length (pendD D.stepD.P) := hD.pend.keeps ((Keeps.refl (fun _ => False) w1).drew.trans (Keeps.of_below hbw)) (fun h => h)
        obtain ⟨w2, hup, hm, hg⟩ := map_upd Try.underlying68 hpb (by rw [hL]; omega) (k := k) (by rw [hL]; exact hk) (Rb_mk s)
        unfold blkV at hup
        have c2 : w2.cell? ⟨A.d, 1, none⟩ = some (.map (some A.p)) := (World.cell?_of_block (hg.block _ (World.block_lt_of_cell? _ _ c1') (fun e => hD.dp (Option.some.inj e)))).trans c1'
        have HD := Lib.hid hD; have HK := Lib.hid hK; have HM := Lib.hid hm; have HG := Lib.hid hg; have HBW := Lib.hid hbw
        clear hD hK hm hg hbw e1 e2 e3 hL hpb
        go_wp2_with fail
        refine wp_region_held (S := fun W => W.cell? ⟨A.d, 1, none⟩ = some (.map (some A.p))) (by kernel_rfl) ?_
        refine wpAnyHTake 0 (some 23) (.pointer (some ⟨A.d, 0, none⟩)) rfl rfl (by kernel_rfl) (by kernel_rfl) (by kernel_rfl) (fun _ _ _ h => h) (by rfl) (fun _ _ => by rfl) (cell_dr c1) ?_
        refine wpAnyHTake 1 (some 24) (.pointer (some ⟨A.d, 0, none⟩)) rfl rfl (by kernel_rfl) (by kernel_rfl) (by kernel_rfl) (fun _ _ _ h => h) (by rfl) (fun _ _ => by rfl) (cell_dr c1) ?_
        refine wpAnyHTake 2 (some 25) (.pointer (some ⟨A.d, 1, none⟩)) rfl rfl (by kernel_rfl) (by kernel_rfl) (by kernel_rfl) (fun _ _ _ h => h) (by rfl) (fun _ _ => by rfl) (cell_dr c1) ?_
        simp only [Act.put, List.setIfInBounds_toArray, List.set_cons_zero, List.set_cons_succ]
        refine wpAnyHTake 3 (some 26) (.map (some A.p)) rfl rfl (by kernel_rfl) (by kernel_rfl) (by kernel_rfl) (fun _ _ _ h => h) (by rfl) (fun W hW => by go_simp) (cell_dr c1) ?_
        refine wpAnyHTake 4 (some 27) (.int .i64 k) rfl rfl (by kernel_rfl) (by kernel_rfl) (by kernel_rfl) (fun _ _ _ h => h) (by rfl) (fun _ _ => by rfl) (cell_dr c1) ?_
        refine wpAnyHTake 5 (some 28) (.string s) rfl rfl (by kernel_rfl) (by kernel_rfl) (by kernel_rfl) (fun _ _ _ h => h) (by rfl) (fun _ _ => by rfl) (cell_dr c1) ?_
        simp only [Act.put, List.setIfInBounds_toArray, List.set_cons_zero, List.set_cons_succ]
        refine wpAnyHOne 6 (some 29) (w' := Lib.bytesWorld w1.drew 5 s) (v := .slice (some ⟨w1.heap.size, 0, none⟩) s.size (grownCap w1.drew s.size 0 5)) (by kernel_rfl) rfl rfl (by rfl) (by go_simp) c1' ?_
        simp only [Act.put, List.setIfInBounds_toArray, List.set_cons_zero, List.set_cons_succ]
        refine wpAnyHOne 7 (some 30) (w' := Lib.bytesWorld w1.drew 5 s) (v := .pointer (some ⟨w1.heap.size, 0, none⟩)) (by kernel_rfl) rfl rfl (by rfl) (by go_simp) c1' ?_
        simp only [Act.put, List.setIfInBounds_toArray, List.set_cons_zero, List.set_cons_succ]
        refine wpAnyHOne 8 (some 31) (w' := Lib.bytesWorld w1.drew 5 s) (v := .agg (bytesV s).toArray) (by kernel_rfl) rfl rfl (by rfl) (execOp_load_mid _ _ rfl rfl (load_blk HZ.out (bytesW_bytes w1.drew 5 s))) c1' ?_
        simp only [Act.put, List.setIfInBounds_toArray, List.set_cons_zero, List.set_cons_succ]
        refine wpAnyHSkip 9 none (w' := w2) (by kernel_rfl) rfl rfl (by rfl) (by go_simp) c2 ?_
        refine wpAnyH_done (by kernel_rfl) ?_ _
        rename_i K hK
        refine hK _ _ ?_
        simp only [Act.put]
        go_wp2_with fail
        go_ret
        have hm := HM.out
        rw [pendD_put] at hm
        have hk1 : Keeps (fun _ => False) w1 (Lib.bytesWorld w1.drew 5 s) := (Keeps.refl _ w1).drew.trans (Keeps.of_below HBW.out)
        refine ⟨ret_int HR.out.symm, ?_, HK.out.trans ((hk1.mono (fun _ _ h => h.elim)).trans (Keeps.mapP HG.out))⟩
        rw [HR2.out, ← (stepD_S D).2.1]
        refine (HD.out.keeps hk1 (fun _ _ h => h)).setPend hm HG.out ?_
        intro j t ht
        rw [(stepD_S D).2.1] at ht
        by_cases hj : j = k
        · rw [if_pos hj] at ht; cases ht; exact HZ.out
        · rw [if_neg hj] at ht; exact HP.out j t ht
      · have hr : D.writeE k s = D.stepE := by unfold Dk.writeE; rw [if_neg (by simp [hc]), if_neg (by simp [hz])]
        have hr2 : D.writeD k s = D.stepD := by unfold Dk.writeD; rw [if_neg (by simp [hc]), if_neg (by simp [hz]), if_pos hst]
        have hb : (D.stepE != 0) = true := by simpa using hst
        have HR := Lib.hid hr; have HR2 := Lib.hid hr2
        clear hr hr2 hc hst hz h h1 h2 h3
        go_enter Try.func17, Try.ntmps17
        go_wp2_with fail
        refine (CH).mono ?_
        rintro e w1 ⟨rfl, rfl⟩
        go_wp2_with fail
        refine (ST).mono ?_
        rintro e w1 ⟨rfl, hD, hK⟩
        go_wp2_with fail
        go_ret
        exact ⟨ret_int HR.out.symm, by rw [HR2.out]; exact hD, hK⟩
    · have hzb : ((s.size : Int) != 64) = true := by simpa using (show ¬ (s.size : Int) = 64 by omega)
      have hr : D.writeE k s = 1 := by unfold Dk.writeE; rw [if_neg (by simp [hc]), if_pos hz]
      have hr2 : D.writeD k s = D := by unfold Dk.writeD; rw [if_neg (by simp [hc]), if_pos hz]
      have HR := Lib.hid hr; have HR2 := Lib.hid hr2; have H := Lib.hid h
      clear hr hr2 hc hz h h1 h2 h3
      go_enter Try.func17, Try.ntmps17
      go_wp2_with fail
      refine (CH).mono ?_
      rintro e w1 ⟨rfl, rfl⟩
      go_wp2_with fail
      go_ret
      exact ⟨ret_int HR.out.symm, by rw [HR2.out]; exact H.out, Keeps.refl _ _⟩
  · have hr : D.writeE i s = D.chk i := by unfold Dk.writeE; rw [if_pos hc]
    have hr2 : D.writeD i s = D := by unfold Dk.writeD; rw [if_pos hc]
    have hb : (D.chk i != 0) = true := by simpa using hc
    have HR := Lib.hid hr; have HR2 := Lib.hid hr2; have H := Lib.hid h
    clear hr hr2 hc h
    go_enter Try.func17, Try.ntmps17
    go_wp2_with fail
    refine (CH).mono ?_
    rintro e w1 ⟨rfl, rfl⟩
    go_wp2_with fail
    go_ret
    exact ⟨ret_int HR.out.symm, by rw [HR2.out]; exact H.out, Keeps.refl _ _⟩
end Go.Proofs.Ytdanhfanepmhkaa
