/- The disk: Clone. -/
import Derived.Test.YtdanhfanepmhkaaDl
namespace Go.Proofs.Ytdanhfanepmhkaa
open Go.RowKit Go.Maps Go.Sort

/-- a Go function is called, alone -/
theorem wpAnyHCall {P : Program} {md : Region.Mode} {ops : Array Oper} {Q : Exit → Act → World → Prop} {S : World → Prop} {fuel : Nat} {listed : Array Bool} {a : Act} {w : World} {R : Ending → World → Prop} (i : Nat) (d : Option Nat) (f : Nat) (args : Array Value) {o : Oper}
    (hr : Region.ready md ops listed = [i]) (ho : ops[i]? = some o) (hd : o.dst = d) (hw : Region.wanted o (yielded ops a.tmps) = true) (hrun : (execOp a.eval o).run P w = .ok (.enter f args) w) (hc : Calls P f args w R)
    (h : ∀ e w', R e w' → ∃ v, e = .returned v ∧ S w' ∧ wpAnyH P md ops Q S fuel (listed.setIfInBounds i true) (a.put d v) w') : wpAnyH P md ops Q S (fuel + 1) listed a w :=
  wpAnyH_all hr (by simp) fun j hj => by
    rw [List.mem_singleton.1 hj]
    subst hd
    refine wpOp_step ho fun K' hK => ?_
    rw [if_pos hw]
    unfold Oper.wp
    rw [hrun]
    refine Calls.mono hc fun e w' he => ?_
    obtain ⟨v, rfl, hS, hn⟩ := h e w' he
    exact hK _ _ ⟨hS, hn⟩

theorem MapIs.clonedP {w : World} {b N : Nat} {f : Nat → Option (DataW Unit)} (h : MapIs Rb w b N f) :
    Calls Try.prog 53 #[.map (some b)] w fun e w' => e = .returned (.map (some w.heap.size)) ∧ MapIs Rb w' w.heap.size N f ∧ Below w.heap.size w w' := by
  obtain ⟨D, ⟨n, h1⟩, h2⟩ := h
  have := AnyW.maps_Clone_owns Try.cloneP 3 Rb b n D w h1
  exact this.mono fun e w' ⟨e1, e2, _, e4⟩ => ⟨e1, ⟨D, ⟨n, e2⟩, h2⟩, e4⟩
theorem MapIs.clonedW {w : World} {b N : Nat} {f : Nat → Option (DataW Unit)} (h : MapIs (plainElem Try.prog 4) w b N f) :
    Calls Try.prog 54 #[.map (some b)] w fun e w' => e = .returned (.map (some w.heap.size)) ∧ MapIs (plainElem Try.prog 4) w' w.heap.size N f ∧ Below w.heap.size w w' := by
  obtain ⟨D, ⟨n, h1⟩, h2⟩ := h
  have := AnyW.maps_Clone_owns Try.cloneW 3 (plainElem Try.prog 4) b n D w h1
  exact this.mono fun e w' ⟨e1, e2, _, e4⟩ => ⟨e1, ⟨D, ⟨n, e2⟩, h2⟩, e4⟩

theorem flat_len (S : List ByteArray) (hS : ∀ s, s ∈ S → s.size = 64) : (S.flatMap bytesV).length = S.length * 64 := by
  induction S with
  | nil => rfl
  | cons a r ih => rw [List.flatMap_cons, List.length_append, ih (fun s hs => hS s (by simp [hs])), bytesV_len, hS a (by simp), List.length_cons]; omega

theorem Blk.cloned {w : World} {g : Nat} {S : List ByteArray} (h : Blk w g S) (hS : S.length ≤ 4096) (c : Nat) :
    Calls Try.prog 52 #[.slice (some ⟨g, 0, none⟩) S.length c] w fun e w' => ∃ g' c', e = .returned (.slice (some ⟨g', 0, none⟩) S.length c') ∧ Blk w' g' S ∧ w.heap.size ≤ g' ∧ Below w.heap.size w w' := by
  obtain ⟨i0, hi0, hz0, hz1, hz2⟩ := info_parts Try.info74i
  obtain ⟨C, h1, ⟨R, h2⟩, h3⟩ := h
  have hl := flat_len S h3
  have hcs : (blkV zero64).cells.size = 64 := by decide
  have := AnyE.slices_Clone Try.cloneS i0 (blkV zero64) 64 64 hi0 hz0 hz1 hz2 hcs (by omega) (fun w => Try.sizeOf74 w) g 0 S.length c (S.flatMap bytesV) w hl (by unfold maxLen; omega) (by omega)
    (fun j u hj => by
      rw [h1.cell, Nat.zero_add, ← Array.getElem?_toList, h2, List.getElem?_append_left (List.getElem?_eq_some_iff.1 hj).1]
      exact hj)
    (fun u hu => by
      obtain ⟨s, _, hs⟩ := List.mem_flatMap.1 hu
      exact bytesV_one s u hs)
  refine this.mono ?_
  rintro e w' ⟨v, rfl, hrow, hne, hb⟩
  rcases hrow.2 with ⟨e1, _⟩ | ⟨g', cap, cur, rfl, hbg, hg, hn, hc, hs, ht⟩
  · exact absurd e1 hne
  · refine ⟨g', cap, rfl, ⟨cur, hg, ⟨cur.toList.drop (S.length * 64), ?_⟩, h3⟩, hbg, hb⟩
    have e3 := List.take_append_drop (S.length * 64) cur.toList
    rw [ht] at e3
    exact e3.symm

set_option maxRecDepth 100000 in
set_option maxHeartbeats 4000000 in
theorem clone_any (A : At) (D : Dk) (w : World) (h : DskAt w A D) :
    Calls Try.prog 28 #[.pointer (some ⟨A.d, 0, none⟩)] w fun e w' => ∃ A' : At, e = .returned (.pointer (some ⟨A'.d, 0, none⟩)) ∧ DskAt w' A' D ∧ (∀ b, A'.F b → w.heap.size ≤ b) ∧ Below w.heap.size w w' := by
  have c0 := h.box.cell 0
  have c1 := h.box.cell 1
  have c2 := h.box.cell 2
  have c3 := h.box.cell 3
  have c4 := h.box.cell 4
  simp at c0 c1 c2 c3 c4
  have hlen := h.len
  have hd := h.ltd
  have H := Lib.hid h
  clear h
  go_enter Try.func28, Try.ntmps28
  go_wp2_with fail
  have hcell : ∀ W : World, (w.drew.heap.size ≤ W.heap.size ∧ W.heap[A.d]? = w.drew.heap[A.d]?) → ∀ o, W.cell? ⟨A.d, o, none⟩ = w.cell? ⟨A.d, o, none⟩ := fun W hW o => World.cell?_of_block hW.2
  have HC := Lib.hid hcell
  have S0 : w.drew.heap.size ≤ w.drew.heap.size ∧ w.drew.heap[A.d]? = w.drew.heap[A.d]? := ⟨Nat.le_refl _, rfl⟩
  refine wp_region_held (S := fun W => w.drew.heap.size ≤ W.heap.size ∧ W.heap[A.d]? = w.drew.heap[A.d]?) (by kernel_rfl) ?_
  have hdr : w.drew = { w with drawn := w.drawn + 1 } := rfl
  rw [← hdr]
  clear hdr hcell
  refine wpAnyHTake 0 (some 3) (.pointer (some ⟨A.d, 0, none⟩)) rfl rfl (by kernel_rfl) (by kernel_rfl) (by kernel_rfl) (fun _ _ _ h => h) (by rfl) (fun _ _ => by rfl) (S0) ?_
  simp only [Act.put, List.setIfInBounds_toArray, List.set_cons_zero, List.set_cons_succ]
  refine wpAnyHTake 1 (some 4) (.pointer (some ⟨A.d, 0, none⟩)) rfl rfl (by kernel_rfl) (by kernel_rfl) (by kernel_rfl) (fun _ _ _ h => h) (by rfl) (fun _ _ => by rfl) (S0) ?_
  simp only [Act.put, List.setIfInBounds_toArray, List.set_cons_zero, List.set_cons_succ]
  refine wpAnyHTake 2 (some 5) (.pointer (some ⟨A.d, 0, none⟩)) rfl rfl (by kernel_rfl) (by kernel_rfl) (by kernel_rfl) (fun _ _ _ h => h) (by rfl) (fun _ _ => by rfl) (S0) ?_
  simp only [Act.put, List.setIfInBounds_toArray, List.set_cons_zero, List.set_cons_succ]
  refine wpAnyHTake 3 (some 6) (.slice (some ⟨A.g, 0, none⟩) D.S.length A.c) rfl rfl (by kernel_rfl) (by kernel_rfl) (by kernel_rfl) (fun _ _ _ h => h) (by rfl) (fun W hW => by have e := HC.out W hW 0; rw [c0] at e; clear hW; go_simp) (S0) ?_
  simp only [Act.put, List.setIfInBounds_toArray, List.set_cons_zero, List.set_cons_succ]
  refine wpAnyHTake 5 (some 8) (.pointer (some ⟨A.d, 0, none⟩)) rfl rfl (by kernel_rfl) (by kernel_rfl) (by kernel_rfl) (fun _ _ _ h => h) (by rfl) (fun _ _ => by rfl) (S0) ?_
  simp only [Act.put, List.setIfInBounds_toArray, List.set_cons_zero, List.set_cons_succ]
  refine wpAnyHTake 6 (some 9) (.pointer (some ⟨A.d, 0, none⟩)) rfl rfl (by kernel_rfl) (by kernel_rfl) (by kernel_rfl) (fun _ _ _ h => h) (by rfl) (fun _ _ => by rfl) (S0) ?_
  simp only [Act.put, List.setIfInBounds_toArray, List.set_cons_zero, List.set_cons_succ]
  refine wpAnyHTake 7 (some 10) (.pointer (some ⟨A.d, 1, none⟩)) rfl rfl (by kernel_rfl) (by kernel_rfl) (by kernel_rfl) (fun _ _ _ h => h) (by rfl) (fun _ _ => by rfl) (S0) ?_
  simp only [Act.put, List.setIfInBounds_toArray, List.set_cons_zero, List.set_cons_succ]
  refine wpAnyHTake 8 (some 11) (.map (some A.p)) rfl rfl (by kernel_rfl) (by kernel_rfl) (by kernel_rfl) (fun _ _ _ h => h) (by rfl) (fun W hW => by have e := HC.out W hW 1; rw [c1] at e; clear hW; go_simp) (S0) ?_
  simp only [Act.put, List.setIfInBounds_toArray, List.set_cons_zero, List.set_cons_succ]
  refine wpAnyHTake 10 (some 13) (.pointer (some ⟨A.d, 0, none⟩)) rfl rfl (by kernel_rfl) (by kernel_rfl) (by kernel_rfl) (fun _ _ _ h => h) (by rfl) (fun _ _ => by rfl) (S0) ?_
  simp only [Act.put, List.setIfInBounds_toArray, List.set_cons_zero, List.set_cons_succ]
  refine wpAnyHTake 11 (some 14) (.pointer (some ⟨A.d, 0, none⟩)) rfl rfl (by kernel_rfl) (by kernel_rfl) (by kernel_rfl) (fun _ _ _ h => h) (by rfl) (fun _ _ => by rfl) (S0) ?_
  simp only [Act.put, List.setIfInBounds_toArray, List.set_cons_zero, List.set_cons_succ]
  refine wpAnyHTake 12 (some 15) (.pointer (some ⟨A.d, 2, none⟩)) rfl rfl (by kernel_rfl) (by kernel_rfl) (by kernel_rfl) (fun _ _ _ h => h) (by rfl) (fun _ _ => by rfl) (S0) ?_
  simp only [Act.put, List.setIfInBounds_toArray, List.set_cons_zero, List.set_cons_succ]
  refine wpAnyHTake 13 (some 16) (.map (some A.w)) rfl rfl (by kernel_rfl) (by kernel_rfl) (by kernel_rfl) (fun _ _ _ h => h) (by rfl) (fun W hW => by have e := HC.out W hW 2; rw [c2] at e; clear hW; go_simp) (S0) ?_
  simp only [Act.put, List.setIfInBounds_toArray, List.set_cons_zero, List.set_cons_succ]
  refine wpAnyHTake 15 (some 18) (.pointer (some ⟨A.d, 0, none⟩)) rfl rfl (by kernel_rfl) (by kernel_rfl) (by kernel_rfl) (fun _ _ _ h => h) (by rfl) (fun _ _ => by rfl) (S0) ?_
  simp only [Act.put, List.setIfInBounds_toArray, List.set_cons_zero, List.set_cons_succ]
  refine wpAnyHTake 16 (some 19) (.pointer (some ⟨A.d, 0, none⟩)) rfl rfl (by kernel_rfl) (by kernel_rfl) (by kernel_rfl) (fun _ _ _ h => h) (by rfl) (fun _ _ => by rfl) (S0) ?_
  simp only [Act.put, List.setIfInBounds_toArray, List.set_cons_zero, List.set_cons_succ]
  refine wpAnyHTake 17 (some 20) (.pointer (some ⟨A.d, 3, none⟩)) rfl rfl (by kernel_rfl) (by kernel_rfl) (by kernel_rfl) (fun _ _ _ h => h) (by rfl) (fun _ _ => by rfl) (S0) ?_
  simp only [Act.put, List.setIfInBounds_toArray, List.set_cons_zero, List.set_cons_succ]
  refine wpAnyHTake 18 (some 21) (.bool D.off) rfl rfl (by kernel_rfl) (by kernel_rfl) (by kernel_rfl) (fun _ _ _ h => h) (by rfl) (fun W hW => by have e := HC.out W hW 3; rw [c3] at e; clear hW; go_simp) (S0) ?_
  simp only [Act.put, List.setIfInBounds_toArray, List.set_cons_zero, List.set_cons_succ]
  refine wpAnyHTake 19 (some 22) (.pointer (some ⟨A.d, 0, none⟩)) rfl rfl (by kernel_rfl) (by kernel_rfl) (by kernel_rfl) (fun _ _ _ h => h) (by rfl) (fun _ _ => by rfl) (S0) ?_
  simp only [Act.put, List.setIfInBounds_toArray, List.set_cons_zero, List.set_cons_succ]
  refine wpAnyHTake 20 (some 23) (.pointer (some ⟨A.d, 0, none⟩)) rfl rfl (by kernel_rfl) (by kernel_rfl) (by kernel_rfl) (fun _ _ _ h => h) (by rfl) (fun _ _ => by rfl) (S0) ?_
  simp only [Act.put, List.setIfInBounds_toArray, List.set_cons_zero, List.set_cons_succ]
  refine wpAnyHTake 21 (some 24) (.pointer (some ⟨A.d, 4, none⟩)) rfl rfl (by kernel_rfl) (by kernel_rfl) (by kernel_rfl) (fun _ _ _ h => h) (by rfl) (fun _ _ => by rfl) (S0) ?_
  simp only [Act.put, List.setIfInBounds_toArray, List.set_cons_zero, List.set_cons_succ]
  refine wpAnyHTake 22 (some 25) (.int .i64 D.left) rfl rfl (by kernel_rfl) (by kernel_rfl) (by kernel_rfl) (fun _ _ _ h => h) (by rfl) (fun W hW => by have e := HC.out W hW 4; rw [c4] at e; clear hW; go_simp) (S0) ?_
  simp only [Act.put, List.setIfInBounds_toArray, List.set_cons_zero, List.set_cons_succ]
  have h0 := H.out.keeps (Keeps.refl (fun _ => False) w).drew (fun _ _ h => h)
  refine wpAnyHCall 4 (some 7) 52 #[.slice (some ⟨A.g, 0, none⟩) D.S.length A.c] (by kernel_rfl) rfl rfl (by rfl) (by go_simp) (Blk.cloned h0.blk hlen A.c) ?_
  rintro e w1 ⟨g', c', rfl, hb1, hg1, hB1⟩
  have k1 : Keeps (fun _ => False) w.drew w1 := Keeps.of_below hB1
  have h1 := h0.keeps k1 (fun _ _ h => h)
  have S1 : w.drew.heap.size ≤ w1.heap.size ∧ w1.heap[A.d]? = w.drew.heap[A.d]? := ⟨k1.size, k1.block _ hd (fun h => h)⟩
  refine ⟨_, rfl, S1, ?_⟩
  simp only [Act.put, List.setIfInBounds_toArray, List.set_cons_zero, List.set_cons_succ]
  refine wpAnyHCall 9 (some 12) 53 #[.map (some A.p)] (by kernel_rfl) rfl rfl (by rfl) (by go_simp) (MapIs.clonedP h1.pend) ?_
  rintro e w2 ⟨rfl, hm2, hB2⟩
  have k2 : Keeps (fun _ => False) w1 w2 := Keeps.of_below hB2
  have h2 := h1.keeps k2 (fun _ _ h => h)
  have S2 : w.drew.heap.size ≤ w2.heap.size ∧ w2.heap[A.d]? = w.drew.heap[A.d]? := ⟨(k1.trans k2).size, (k1.trans k2).block _ hd (fun h => h)⟩
  refine ⟨_, rfl, S2, ?_⟩
  simp only [Act.put, List.setIfInBounds_toArray, List.set_cons_zero, List.set_cons_succ]
  refine wpAnyHCall 14 (some 17) 54 #[.map (some A.w)] (by kernel_rfl) rfl rfl (by rfl) (by go_simp) (MapIs.clonedW h2.worn) ?_
  rintro e w3 ⟨rfl, hm3, hB3⟩
  have k3 : Keeps (fun _ => False) w2 w3 := Keeps.of_below hB3
  have S3 : w.drew.heap.size ≤ w3.heap.size ∧ w3.heap[A.d]? = w.drew.heap[A.d]? := ⟨((k1.trans k2).trans k3).size, ((k1.trans k2).trans k3).block _ hd (fun h => h)⟩
  refine ⟨_, rfl, S3, ?_⟩
  simp only [Act.put, List.setIfInBounds_toArray, List.set_cons_zero, List.set_cons_succ]
  have HH := Lib.hid (And.intro hb1 (And.intro hm2 (And.intro hm3 (And.intro k1 (And.intro k2 k3)))))
  have HL := Lib.hid (And.intro hg1 (And.intro hB1 (And.intro hB2 hB3)))
  have hd3 : A.d < w3.heap.size := Nat.lt_of_lt_of_le hd ((k1.trans k2).trans k3).size
  clear hb1 hm2 hm3 k1 k2 k3 hg1 hB1 hB2 hB3 h0 h1 h2
  refine wpAnyHTake 23 (some 26) (.agg #[.slice (some ⟨g', 0, none⟩) D.S.length c', .map (some w1.heap.size), .map (some w2.heap.size), .bool D.off, .int .i64 D.left]) rfl rfl (by kernel_rfl) (by kernel_rfl) (by kernel_rfl) (fun _ _ _ h => h) (by rfl) (fun W hW => by clear hW S3; go_simp) S3 ?_
  simp only [Act.put, List.setIfInBounds_toArray, List.set_cons_zero, List.set_cons_succ]
  have S4 : w.drew.heap.size ≤ (w3.alloc (.cells #[.slice (some ⟨g', 0, none⟩) D.S.length c', .map (some w1.heap.size), .map (some w2.heap.size), .bool D.off, .int .i64 D.left] 71)).heap.size ∧ (w3.alloc (.cells #[.slice (some ⟨g', 0, none⟩) D.S.length c', .map (some w1.heap.size), .map (some w2.heap.size), .bool D.off, .int .i64 D.left] 71)).heap[A.d]? = w.drew.heap[A.d]? := ⟨by have := S3.1; simp at this ⊢; omega, (Below.heap_alloc _ _ _ hd3).trans S3.2⟩
  refine wpAnyHOne 24 (some 27) (w' := w3.alloc (.cells #[.slice (some ⟨g', 0, none⟩) D.S.length c', .map (some w1.heap.size), .map (some w2.heap.size), .bool D.off, .int .i64 D.left] 71)) (v := .pointer (some ⟨w3.heap.size, 0, none⟩)) (by kernel_rfl) rfl rfl (by rfl) (by clear S3 S4; go_simp) S4 ?_
  simp only [Act.put, List.setIfInBounds_toArray, List.set_cons_zero, List.set_cons_succ]
  refine wpAnyHTake 25 (some 2) (.pointer (some ⟨w3.heap.size, 0, none⟩)) rfl rfl (by kernel_rfl) (by kernel_rfl) (by kernel_rfl) (fun _ _ _ h => h) (by rfl) (fun _ _ => by rfl) S4 ?_
  simp only [Act.put, List.setIfInBounds_toArray, List.set_cons_zero, List.set_cons_succ]
  refine wpAnyH_done (by kernel_rfl) ?_ _
  rename_i K hK
  refine hK _ _ ?_
  clear hK
  go_wp2_with fail
  go_ret
  obtain ⟨hb1, hm2, hm3, k1, k2, k3⟩ := HH.out
  obtain ⟨hg1, hB1, hB2, hB3⟩ := HL.out
  have hsz0 : w.heap.size ≤ w1.heap.size := k1.size
  have hsz1 := k2.size
  have hsz2 := k3.size
  have hlt := hm2.lt
  have ka := (Keeps.refl (fun _ => False) w3).alloc (.cells #[.slice (some ⟨g', 0, none⟩) D.S.length c', .map (some w1.heap.size), .map (some w2.heap.size), .bool D.off, .int .i64 D.left] 71)
  refine ⟨⟨w3.heap.size, g', w1.heap.size, w2.heap.size, c'⟩, rfl, ⟨?_, ?_, ?_, ?_, ?_, ?_, ?_, ?_, ?_, ?_⟩, ?_, ?_⟩
  · exact Boxs.new w3 71 _
  · exact hb1.keeps ((k2.trans k3).trans ka) (fun h => h)
  · exact hm2.keeps (k3.trans ka) (fun h => h)
  · exact hm3.keeps ka (fun h => h)
  · show w1.heap.size ≠ w2.heap.size; omega
  · exact H.out.len
  · exact H.out.pos
  · exact H.out.psz
  · exact H.out.lo
  · exact H.out.hi
  · rintro b (rfl | rfl | rfl | rfl)
    · show _ ≤ w3.heap.size; omega
    · exact hg1
    · exact hsz0
    · show _ ≤ w2.heap.size; omega
  · exact ((Keeps.refl (fun _ => False) w).drew.trans (((k1.trans k2).trans k3).trans ka)).below (Nat.le_refl _) (fun _ _ h => h.elim)
end Go.Proofs.Ytdanhfanepmhkaa
