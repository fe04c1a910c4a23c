/- The reference disk: Clone. -/
import Derived.Test.YtdanhfanepmhkaaEf
namespace Go.Proofs.Ytdanhfanepmhkaa
open Go.RowKit Go.Maps Go.Sort Go.Shelf

/-- one operation alone may come up: by a law on it -/
theorem wpAnyHOp {P : Program} {md : Region.Mode} {ops : Array Oper} {Q : Exit → Act → World → Prop} {S : World → Prop} {fuel : Nat} {listed : Array Bool} {a : Act} {w : World} (i : Nat) (d : Option Nat) {o : Oper} (hr : Region.ready md ops listed = [i]) (ho : ops[i]? = some o) (hd : o.dst = d)
    (h : ∀ K' : Act → World → Prop, (∀ v w', S w' → wpAnyH P md ops Q S fuel (listed.setIfInBounds i true) (a.put d v) w' → K' (a.put o.dst v) w') → if Region.wanted o (yielded ops a.tmps) = true then Oper.wp P o a w K' Q else K' (a.put o.dst undef) w) :
    wpAnyH P md ops Q S (fuel + 1) listed a w :=
  wpAnyH_all hr (by simp) fun j hj => by
    rw [List.mem_singleton.1 hj]
    exact wpOp_step ho fun K' hK => h K' fun v w' hS hn => hK _ _ ⟨hS, by rw [hd]; exact hn⟩

theorem Try.info54i : (Try.prog.info? 54).map (fun i => (i.zero, i.size, i.bytes)) = some (some (.agg #[.string ⟨#[]⟩, .string ⟨#[]⟩, .bool false, .bool false]), 4, 40) := by kernel_rfl
theorem sc_one (L : List Sc) : ∀ u, u ∈ L.flatMap sc → u.oneCell' = true := by
  intro u hu
  obtain ⟨s, _, hs⟩ := List.mem_flatMap.1 hu
  simp only [sc, List.mem_cons, List.not_mem_nil, or_false] at hs
  rcases hs with rfl | rfl | rfl | rfl <;> rfl

set_option maxRecDepth 100000 in
set_option maxHeartbeats 4000000 in
theorem rclone_any (B : RAt) (D : Dk) (w : World) (h : RefAt w B D) :
    Calls Try.prog 29 #[.pointer (some ⟨B.d, 0, none⟩)] w fun e w' => ∃ B' : RAt, e = .returned (.pointer (some ⟨B'.d, 0, none⟩)) ∧ RefAt w' B' D ∧ (∀ b, B'.F b → w.heap.size ≤ b) ∧ Below w.heap.size w w' := by
  obtain ⟨i0, hi0, hz0, hz1, hz2⟩ := info_parts Try.info54i
  have HI := Lib.hid hi0; have HZ0 := Lib.hid hz0; have HZ1 := Lib.hid hz1; have HZ2 := Lib.hid hz2
  clear hi0 hz0 hz1 hz2
  have c0 := h.box0
  have c1 := h.box1
  have c2 := h.l.box.cell 2
  simp at c2
  have hlen := h.ok.len
  have hpos := h.ok.pos
  have hd := h.l.ltF B.fd
  have H := Lib.hid h
  clear h
  go_enter Try.func29, Try.ntmps29
  go_wp2_with fail
  have hcell : ∀ W : World, (w.drew.heap.size ≤ W.heap.size ∧ W.heap[B.d]? = w.drew.heap[B.d]?) → ∀ o, W.cell? ⟨B.d, o, none⟩ = w.cell? ⟨B.d, o, none⟩ := fun W hW o => World.cell?_of_block hW.2
  have HC := Lib.hid hcell
  have S0 : w.drew.heap.size ≤ w.drew.heap.size ∧ w.drew.heap[B.d]? = w.drew.heap[B.d]? := ⟨Nat.le_refl _, rfl⟩
  refine wp_region_held (S := fun W => w.drew.heap.size ≤ W.heap.size ∧ W.heap[B.d]? = w.drew.heap[B.d]?) (by kernel_rfl) ?_
  have hdr : w.drew = { w with drawn := w.drawn + 1 } := rfl
  rw [← hdr]
  clear hdr hcell
  refine wpAnyHTake 1 (some 4) (.pointer (some ⟨B.d, 0, none⟩)) rfl rfl (by kernel_rfl) (by kernel_rfl) (by kernel_rfl) (fun _ _ _ h => h) (by rfl) (fun _ _ => by rfl) (S0) ?_
  simp only [Act.put, List.setIfInBounds_toArray, List.set_cons_zero, List.set_cons_succ]
  refine wpAnyHTake 2 (some 5) (.pointer (some ⟨B.d, 0, none⟩)) rfl rfl (by kernel_rfl) (by kernel_rfl) (by kernel_rfl) (fun _ _ _ h => h) (by rfl) (fun _ _ => by rfl) (S0) ?_
  simp only [Act.put, List.setIfInBounds_toArray, List.set_cons_zero, List.set_cons_succ]
  refine wpAnyHTake 3 (some 6) (.pointer (some ⟨B.d, 0, none⟩)) rfl rfl (by kernel_rfl) (by kernel_rfl) (by kernel_rfl) (fun _ _ _ h => h) (by rfl) (fun _ _ => by rfl) (S0) ?_
  simp only [Act.put, List.setIfInBounds_toArray, List.set_cons_zero, List.set_cons_succ]
  refine wpAnyHTake 4 (some 7) (.slice (some ⟨B.g, 0, none⟩) D.S.length B.c) rfl rfl (by kernel_rfl) (by kernel_rfl) (by kernel_rfl) (fun _ _ _ h => h) (by rfl) (fun W hW => by have e := HC.out W hW 0; rw [c0] at e; clear hW; go_simp) (S0) ?_
  simp only [Act.put, List.setIfInBounds_toArray, List.set_cons_zero, List.set_cons_succ]
  refine wpAnyHTake 6 (some 9) (.pointer (some ⟨B.d, 0, none⟩)) rfl rfl (by kernel_rfl) (by kernel_rfl) (by kernel_rfl) (fun _ _ _ h => h) (by rfl) (fun _ _ => by rfl) (S0) ?_
  simp only [Act.put, List.setIfInBounds_toArray, List.set_cons_zero, List.set_cons_succ]
  refine wpAnyHTake 7 (some 10) (.pointer (some ⟨B.d, 0, none⟩)) rfl rfl (by kernel_rfl) (by kernel_rfl) (by kernel_rfl) (fun _ _ _ h => h) (by rfl) (fun _ _ => by rfl) (S0) ?_
  simp only [Act.put, List.setIfInBounds_toArray, List.set_cons_zero, List.set_cons_succ]
  refine wpAnyHTake 8 (some 11) (.pointer (some ⟨B.d, 1, none⟩)) rfl rfl (by kernel_rfl) (by kernel_rfl) (by kernel_rfl) (fun _ _ _ h => h) (by rfl) (fun _ _ => by rfl) (S0) ?_
  simp only [Act.put, List.setIfInBounds_toArray, List.set_cons_zero, List.set_cons_succ]
  refine wpAnyHTake 9 (some 12) (.bool D.off) rfl rfl (by kernel_rfl) (by kernel_rfl) (by kernel_rfl) (fun _ _ _ h => h) (by rfl) (fun W hW => by have e := HC.out W hW 1; rw [c1] at e; clear hW; go_simp) (S0) ?_
  simp only [Act.put, List.setIfInBounds_toArray, List.set_cons_zero, List.set_cons_succ]
  refine wpAnyHTake 10 (some 13) (.pointer (some ⟨B.d, 0, none⟩)) rfl rfl (by kernel_rfl) (by kernel_rfl) (by kernel_rfl) (fun _ _ _ h => h) (by rfl) (fun _ _ => by rfl) (S0) ?_
  simp only [Act.put, List.setIfInBounds_toArray, List.set_cons_zero, List.set_cons_succ]
  refine wpAnyHTake 11 (some 14) (.pointer (some ⟨B.d, 0, none⟩)) rfl rfl (by kernel_rfl) (by kernel_rfl) (by kernel_rfl) (fun _ _ _ h => h) (by rfl) (fun _ _ => by rfl) (S0) ?_
  simp only [Act.put, List.setIfInBounds_toArray, List.set_cons_zero, List.set_cons_succ]
  refine wpAnyHTake 12 (some 15) (.pointer (some ⟨B.d, 2, none⟩)) rfl rfl (by kernel_rfl) (by kernel_rfl) (by kernel_rfl) (fun _ _ _ h => h) (by rfl) (fun _ _ => by rfl) (S0) ?_
  simp only [Act.put, List.setIfInBounds_toArray, List.set_cons_zero, List.set_cons_succ]
  refine wpAnyHTake 13 (some 16) (.int .i64 (max (-1) D.left)) rfl rfl (by kernel_rfl) (by kernel_rfl) (by kernel_rfl) (fun _ _ _ h => h) (by rfl) (fun W hW => by have e := HC.out W hW 2; rw [c2] at e; clear hW; go_simp) (S0) ?_
  simp only [Act.put, List.setIfInBounds_toArray, List.set_cons_zero, List.set_cons_succ]
  have h0 := H.out.keeps (Keeps.refl (fun _ => False) w).drew (fun _ _ h => h)
  have k1 : Keeps (fun _ => False) w.drew (w.drew.alloc (.cells #[] 54)) := (Keeps.refl _ _).alloc _
  have S1 : w.drew.heap.size ≤ (w.drew.alloc (.cells #[] 54)).heap.size ∧ (w.drew.alloc (.cells #[] 54)).heap[B.d]? = w.drew.heap[B.d]? := ⟨k1.size, k1.block _ hd (fun h => h)⟩
  refine wpAnyHOne 0 (some 3) (w' := w.drew.alloc (.cells #[] 54)) (v := .slice (some ⟨w.heap.size, 0, none⟩) 0 0) (by kernel_rfl) rfl rfl (by rfl) (by clear S0 S1 k1; go_simp) S1 ?_
  simp only [Act.put, List.setIfInBounds_toArray, List.set_cons_zero, List.set_cons_succ]
  have h1 := h0.keeps k1 (fun _ _ h => h)
  have hrl := flatN_len sc 4 (fun _ => rfl) (rows D)
  have hre := rows_len D
  have hn0 : ∀ j u, ((rows D).flatMap sc)[j]? = some u → (w.drew.alloc (.cells #[] 54)).cell? ((⟨B.g, 0, none⟩ : Addr).add j) = some u := fun j u hu => by
    obtain ⟨C, hC, T, hT⟩ := h1.l.blk
    rw [Addr.add_mid, hC.cell, Nat.zero_add, ← Array.getElem?_toList, hT, List.getElem?_append_left (List.getElem?_eq_some_iff.1 hu).1]
    exact hu
  refine wpAnyHOp 5 (some 8) (by kernel_rfl) rfl rfl fun K' hK => ?_
  refine step_append_lies _ rfl _ _ _ rfl w.heap.size 54 i0 _ 4 40 Try.underlying55 HI.out HZ0.out HZ1.out HZ2.out rfl (by omega) (.slice (some ⟨w.heap.size, 0, none⟩) 0 0) 0 [] rfl (World.ownsRow_made w.drew #[] 0 (Nat.le_refl _) (Nat.zero_le _) (by simp))
    ⟨B.g, 0, none⟩ D.S.length B.c ((rows D).flatMap sc) rfl (by rw [hrl, hre]) hn0 (sc_one _) (by omega) (by unfold maxLen; omega) (by omega) (by simp) (w.heap.size + 1) (by simp) ?_
  intro g cap w3 hown hgrow hat hltg
  rw [Nat.zero_add, List.nil_append] at hown
  rw [Nat.zero_add]
  have k3 : Keeps (fun b => b = w.heap.size) (w.drew.alloc (.cells #[] 54)) w3 := Keeps.of_grown hgrow (fun i e => by simp [Value.ownBlock] at e; exact e.symm)
  have S3 : w.drew.heap.size ≤ w3.heap.size ∧ w3.heap[B.d]? = w.drew.heap[B.d]? := ⟨Nat.le_trans S1.1 k3.size, (k3.block _ (by simp; omega) (by omega)).trans S1.2⟩
  have hd3 : B.d < w3.heap.size := Nat.lt_of_lt_of_le hd S3.1
  refine hK _ _ S3 ?_
  clear hK
  have kk := Lib.hid (k1.fresh (F := fun b => b = w.heap.size) (fun _ _ h => h) |>.trans k3)
  have HO := Lib.hid hown
  clear h0 h1 k1 k3 hgrow hown hn0 hat
  simp only [Act.put, List.setIfInBounds_toArray, List.set_cons_zero, List.set_cons_succ]
  refine wpAnyHTake 14 (some 17) (.agg #[.slice (some ⟨g, 0, none⟩) D.S.length cap, .bool D.off, .int .i64 (max (-1) D.left)]) rfl rfl (by kernel_rfl) (by kernel_rfl) (by kernel_rfl) (fun _ _ _ h => h) (by rfl) (fun W hW => by clear hW S3 S1 S0; go_simp) S3 ?_
  simp only [Act.put, List.setIfInBounds_toArray, List.set_cons_zero, List.set_cons_succ]
  have S4 : w.drew.heap.size ≤ (w3.alloc (.cells #[.slice (some ⟨g, 0, none⟩) D.S.length cap, .bool D.off, .int .i64 (max (-1) D.left)] 57)).heap.size ∧ (w3.alloc (.cells #[.slice (some ⟨g, 0, none⟩) D.S.length cap, .bool D.off, .int .i64 (max (-1) D.left)] 57)).heap[B.d]? = w.drew.heap[B.d]? := ⟨by have := S3.1; simp at this ⊢; omega, (Below.heap_alloc _ _ _ hd3).trans S3.2⟩
  refine wpAnyHOne 15 (some 18) (w' := w3.alloc (.cells #[.slice (some ⟨g, 0, none⟩) D.S.length cap, .bool D.off, .int .i64 (max (-1) D.left)] 57)) (v := .pointer (some ⟨w3.heap.size, 0, none⟩)) (by kernel_rfl) rfl rfl (by rfl) (by clear S3 S4 S1 S0; go_simp) S4 ?_
  simp only [Act.put, List.setIfInBounds_toArray, List.set_cons_zero, List.set_cons_succ]
  refine wpAnyHTake 16 (some 2) (.pointer (some ⟨w3.heap.size, 0, none⟩)) rfl rfl (by kernel_rfl) (by kernel_rfl) (by kernel_rfl) (fun _ _ _ h => h) (by rfl) (fun _ _ => by rfl) S4 ?_
  simp only [Act.put, List.setIfInBounds_toArray, List.set_cons_zero, List.set_cons_succ]
  refine wpAnyH_done (by kernel_rfl) ?_ _
  rename_i K hK
  refine hK _ _ ?_
  clear hK
  go_wp2_with fail
  go_ret
  have ka := (Keeps.refl (fun _ => False) w3).alloc (.cells #[.slice (some ⟨g, 0, none⟩) D.S.length cap, .bool D.off, .int .i64 (max (-1) D.left)] 57)
  rcases HO.out.2 with ⟨e1, _⟩ | ⟨g', cap', cur, e1, hbg, hg, hn, hc, hs, ht⟩
  · cases e1
  · cases e1
    have hsz := kk.out.size
    have hsz2 : w.heap.size ≤ w3.heap.size := hsz
    refine ⟨⟨w3.heap.size, g, cap⟩, rfl, ⟨⟨?_, cur, ?_, cur.toList.drop (D.S.length * 4), ?_⟩, H.out.ok⟩, ?_, ?_⟩
    · rw [hre]; exact Boxs.new w3 57 _
    · exact Boxs.keeps (W := w3) (show Boxs w3 g 54 cur from hg) ka (fun h => h)
    · have e3 := List.take_append_drop (D.S.length * 4) cur.toList
      rw [ht] at e3
      exact e3.symm
    · rintro b (rfl | rfl)
      · exact hsz2
      · exact hbg
    · exact ((((Keeps.refl _ w).drew.trans kk.out).trans (ka.mono (fun _ _ h => h.elim)))).below (Nat.le_refl _) (fun i hi e => by omega)
end Go.Proofs.Ytdanhfanepmhkaa
