/- The walk of DigitNear. -/
import Derived.Test.YtidojiegkdchpaaAy
namespace Go.Proofs.Ytidojiegkdchpaa
open Go.RowKit Go.Maps

theorem nearL_mem {s y : ByteArray} (h : y ∈ nearL s) : goodB s y = true ∧ y.size = s.size := by
  unfold nearL nlF at h
  obtain ⟨k, hk, hy⟩ := List.mem_flatMap.1 h
  have hks : k < s.size := List.mem_range.1 hk
  rcases List.mem_append.1 hy with e | e
  · unfold rowF at e
    obtain ⟨e1, e2⟩ := List.mem_filter.1 e
    obtain ⟨c, _, rfl⟩ := List.mem_map.1 e1
    exact ⟨e2, chF_size hks⟩
  · unfold exgF at e
    split at e
    · rename_i hc
      rw [List.mem_singleton.1 e]
      exact ⟨hc.2, exF_size hc.1⟩
    · cases e
theorem nearF_mem {s y : ByteArray} (h : y ∈ nearF s) : goodB s y = true ∧ y.size = s.size ∧ s.size ≤ 64 := by
  unfold nearF at h
  split at h
  · rename_i hc
    rw [putsB_mem] at h
    obtain ⟨a, b⟩ := nearL_mem h
    unfold nearOk at hc
    simp only [Bool.and_eq_true, decide_eq_true_eq] at hc
    exact ⟨a, b, hc.2⟩
  · cases h
theorem nearF_strict (s : ByteArray) : strict (nearF s) := by
  unfold nearF
  split
  · exact putsB_strict _
  · exact List.Pairwise.nil
theorem good_check {s y : ByteArray} (h : goodB s y = true) : checkF y = 0 := by
  unfold goodB at h
  simp only [Bool.and_eq_true, decide_eq_true_eq] at h
  exact h.2
theorem strict_at {l : List ByteArray} (h : strict l) {k : Nat} {x y : ByteArray} (hx : l[k]? = some x) (hy : l[k + 1]? = some y) : ltB x y = true := by
  obtain ⟨h1, rfl⟩ := List.getElem?_eq_some_iff.1 hx
  obtain ⟨h2, rfl⟩ := List.getElem?_eq_some_iff.1 hy
  exact List.pairwise_iff_getElem.1 h k (k + 1) h1 h2 (by omega)
theorem textF_size (l : List Int) : (textF l).size ≤ 12 := by
  unfold textF textL
  rw [bs_size]; simp; omega
theorem shortF_size (s : ByteArray) : (shortF s 70).size ≤ 70 := by
  unfold shortF
  split
  · rw [ByteArray.size_extract]; omega
  · omega

set_option maxRecDepth 100000 in
set_option maxHeartbeats 4000000 in
theorem digitNear_any (v1 v3 : Value) (l m : List Int) (raw : ByteArray) (w : World) (h1 : RdI w v1 l) (h3 : RdI w v3 m) (i1 : inI l) (i3 : inI m) :
    Calls Try.prog 8 #[v1, .string raw, v3] w fun e w' => e = .returned (.bool true) ∧ Below w.heap.size w w' := by
  have T1 := text_any v1 l w h1 i1
  have T3 := text_any v3 m w h3 i3
  have SH := short_any raw 70 (by omega) w
  have LV := Lib.hid lives_any
  have sz1 := textF_size l
  have sz3 := textF_size m
  have szr := shortF_size raw
  obtain ⟨LS, hLS⟩ : ∃ LS : List ByteArray, LS = [textF l, shortF raw 70, textF m ++ textF l, ⟨#[]⟩, ⟨#[48]⟩] := ⟨_, rfl⟩
  have hsz : ∀ s, s ∈ LS → s.size ≤ 70 := by
    rw [hLS]
    intro s hs
    simp only [List.mem_cons, List.not_mem_nil, or_false] at hs
    rcases hs with rfl | rfl | rfl | rfl | rfl
    · omega
    · exact szr
    · rw [ByteArray.size_append]; omega
    · decide
    · decide
  have hlen : LS.length = 5 := by rw [hLS]; rfl
  have hcells : (strs LS).toArray = #[.string (textF l), .string (shortF raw 70), .string (textF m ++ textF l), .string ⟨#[]⟩, .string ⟨#[48]⟩] := by rw [hLS]; rfl
  have hrd := rdS_new w LS (by omega)
  rw [hcells, hlen] at hrd
  have HSZ := Lib.hid hsz
  obtain ⟨a1, c1, rfl, _, _⟩ := h1.open
  obtain ⟨a3, c3, rfl, _, _⟩ := h3.open
  clear h1 h3 hLS hcells hsz szr
  have HRD := Lib.hid hrd
  clear hrd
  generalize textF l = tl at *
  generalize textF m = tm at *
  generalize shortF raw 70 = sr at *
  have HB0 := Lib.hid ((Below.refl w.heap.size w).alloc (Nat.le_refl _) (.cells #[.string tl, .string sr, .string (tm ++ tl), .string ⟨#[]⟩, .string ⟨#[48]⟩] 9))
  go_enter Try.func8, Try.ntmps8
  go_wp2_with fail
  refine T1.mono ?_
  rintro e w1 ⟨rfl, rfl⟩
  go_wp2_with fail
  refine SH.mono ?_
  rintro e w1 ⟨rfl, rfl⟩
  go_wp2_with fail
  refine T3.mono ?_
  rintro e w1 ⟨rfl, rfl⟩
  go_wp2_with fail
  refine T1.mono ?_
  rintro e w1 ⟨rfl, rfl⟩
  clear T1 T3 SH
  go_wp2_with fail
  generalize w.alloc (.cells #[.string tl, .string sr, .string (tm ++ tl), .string ⟨#[]⟩, .string ⟨#[48]⟩] 9) = w1 at *
  go_loopw [8] (fun i wr => ∃ k : Nat, k ≤ 5 ∧ i = .int .i64 k ∧ Below w.heap.size w wr ∧ Below w1.heap.size w1 wr) (fun i _ => 5 - (intOf i).toNat)
  case atStart => exact ⟨0, Nat.zero_le _, rfl, HB0.out, Below.refl _ _⟩
  case round =>
    obtain ⟨k, hk, rfl, hbl, hbl1⟩ := hrel
    by_cases hlt : k < 5
    · have q1 : (k : Int) < 5 := by omega
      obtain ⟨s, hs⟩ := elem_at (l := LS) (k := k) (by omega)
      have hss := HSZ.out s (List.mem_of_getElem? hs)
      have R0 := RdS.below HRD.out hbl1
      obtain ⟨a, c, he, _, f⟩ := R0.open
      rw [hlen] at he
      cases he
      obtain ⟨b, o, hbo, hbw, g⟩ := f k s hs
      cases hbo
      rw [Nat.zero_add] at g
      have HBL := Lib.hid hbl; have HBL1 := Lib.hid hbl1
      have NA := near_any s (by omega) wr
      clear f R0 hs hbl hbl1
      go_wp2_with fail
      refine NA.mono ?_
      rintro e w2 ⟨u, rfl, hru, hb2⟩
      have g2 := (hb2.cell (p := ⟨w.heap.size, k, none⟩) hbw).trans g
      have HB2 := Lib.hid (HBL.out.trans (hb2.mono HBL.out.size)); have HB21 := Lib.hid (HBL1.out.trans (hb2.mono HBL1.out.size))
      have HRU := Lib.hid hru
      have RN := rnear_any s (by omega) w2
      clear hru hb2 g NA
      go_wp2_with fail
      refine RN.mono ?_
      rintro e w3 ⟨u2, rfl, hru2, hb3⟩
      have hru3 := RdS.below HRU.out hb3
      have HB3 := Lib.hid (HB2.out.trans (hb3.mono HB2.out.size)); have HB31 := Lib.hid (HB21.out.trans (hb3.mono HB21.out.size))
      have CT := sameTexts_any u u2 (nearF s) (nearF s) w3 hru3 hru2
      rw [decide_eq_true (rfl : nearF s = nearF s)] at CT
      have HRU3 := Lib.hid hru3
      clear hru2 hb3 RN g2 hru3
      go_wp2_with fail
      refine CT.mono ?_
      rintro e w4 ⟨rfl, hb4⟩
      have hru4 := RdS.below HRU3.out hb4
      have HB4 := Lib.hid (HB3.out.trans (hb4.mono HB3.out.size)); have HB41 := Lib.hid (HB31.out.trans (hb4.mono HB31.out.size))
      have HNS := Lib.hid (nearF_strict s)
      have hmem : ∀ y, y ∈ nearF s → checkF y = 0 ∧ y.size ≤ 64 := fun y hy => by
        obtain ⟨e1, e2, e3⟩ := nearF_mem hy
        exact ⟨good_check e1, by omega⟩
      have HMEM := Lib.hid hmem
      have HRU4 := Lib.hid hru4
      obtain ⟨ua, uc, rfl, _, _⟩ := hru4.open
      clear hb4 CT hru4 hmem
      generalize nearF s = L at *
      go_wp2_with fail
      go_loopw [10] (fun i wr => ∃ j : Nat, j ≤ L.length ∧ i = .int .i64 j ∧ Below w.heap.size w wr ∧ Below w1.heap.size w1 wr ∧ Below w4.heap.size w4 wr) (fun i _ => L.length - (intOf i).toNat)
      case atStart => exact ⟨0, Nat.zero_le _, rfl, HB4.out, HB41.out, Below.refl _ _⟩
      case round =>
        obtain ⟨j, hj, rfl, hbl, hbl1, hbl4⟩ := hrel
        by_cases hlj : j < L.length
        · have p1 : (j : Int) < (L.length : Int) := by omega
          obtain ⟨y, hy⟩ := elem_at hlj
          have RU := RdS.below HRU4.out hbl4
          obtain ⟨a', c', he', _, f⟩ := RU.open
          cases he'
          obtain ⟨b, o, rfl, hbw, g⟩ := f j y hy
          obtain ⟨y1, y2⟩ := HMEM.out y (List.mem_of_getElem? hy)
          have CK := check_any y (by omega) (wr.drewN 1)
          rw [y1] at CK
          have HBL5 := Lib.hid (Below.dn hbl 1); have HBL51 := Lib.hid (Below.dn hbl1 1); have HBL54 := Lib.hid (Below.dn hbl4 1)
          have gV : (wr.drewN 1).cell? ⟨b, o + j, none⟩ = some (.string y) := g
          have hbV : b < (wr.drewN 1).heap.size := hbw
          by_cases hj0 : j = 0
          · subst hj0
            rw [Nat.add_zero] at gV
            clear hbl hbl1 hbl4 RU f g hbw hy y1
            go_wp2_with fail
            refine wp_region_held (S := fun W => W.cell? ⟨b, o, none⟩ = some (.string y)) (by kernel_rfl) ?_
            have hdr : (wr).drew = { wr with drawn := (wr).drawn + 1 } := rfl
            rw [← hdr]
            clear hdr
            change wpAnyH _ _ _ _ _ _ _ _ (wr.drewN 1)
            generalize wr.drewN 1 = V at gV CK HBL5 HBL51 HBL54 hbV ⊢
            refine wpAnyHTake 0 (some 46) (.slice (some ⟨b, o, none⟩) L.length uc) rfl rfl (by kernel_rfl) (by kernel_rfl) (by kernel_rfl) (fun _ _ _ h => h) (by rfl) (fun _ _ => by rfl) (gV) ?_
            simp only [Act.put, List.setIfInBounds_toArray, List.set_cons_zero, List.set_cons_succ]
            refine wpAnyHTake 1 (some 47) (.int .i64 0) rfl rfl (by kernel_rfl) (by kernel_rfl) (by kernel_rfl) (fun _ _ _ h => h) (by rfl) (fun _ _ => by rfl) (gV) ?_
            simp only [Act.put, List.setIfInBounds_toArray, List.set_cons_zero, List.set_cons_succ]
            refine wpAnyHTake 2 (some 48) (.pointer (some ⟨b, o, none⟩)) rfl rfl (by kernel_rfl) (by kernel_rfl) (by kernel_rfl) (fun _ _ _ h => h) (by rfl) (fun _ _ => by go_simp) (gV) ?_
            simp only [Act.put, List.setIfInBounds_toArray, List.set_cons_zero, List.set_cons_succ]
            refine wpAnyHTake 3 (some 49) (.string y) rfl rfl (by kernel_rfl) (by kernel_rfl) (by kernel_rfl) (fun _ _ _ h => h) (by rfl) (fun W hW => by have e := hW; clear hW; go_simp) (gV) ?_
            simp only [Act.put, List.setIfInBounds_toArray, List.set_cons_zero, List.set_cons_succ]
            refine wpAnyHCall 4 (some 50) 26 #[.string y] (by kernel_rfl) rfl rfl (by rfl) (by go_simp) (CK) ?_
            rintro e w6 ⟨rfl, hb6⟩
            have gV' := (hb6.cell (p := ⟨b, o, none⟩) hbV).trans gV
            have HBL6 := Lib.hid (HBL5.out.trans (hb6.mono HBL5.out.size)); have HBL61 := Lib.hid (HBL51.out.trans (hb6.mono HBL51.out.size)); have HBL64 := Lib.hid (HBL54.out.trans (hb6.mono HBL54.out.size))
            clear hb6 CK
            refine ⟨_, rfl, gV', ?_⟩
            simp only [Act.put, List.setIfInBounds_toArray, List.set_cons_zero, List.set_cons_succ]
            refine wpAnyHTake 5 (some 51) (.bool false) rfl rfl (by kernel_rfl) (by kernel_rfl) (by kernel_rfl) (fun _ _ _ h => h) (by rfl) (fun _ _ => by go_simp) (gV') ?_
            simp only [Act.put, List.setIfInBounds_toArray, List.set_cons_zero, List.set_cons_succ]
            refine wpAnyHTake 6 (some 52) (.bool false) rfl rfl (by kernel_rfl) (by kernel_rfl) (by kernel_rfl) (fun _ _ _ h => h) (by rfl) (fun _ _ => by rfl) (gV') ?_
            simp only [Act.put, List.setIfInBounds_toArray, List.set_cons_zero, List.set_cons_succ]
            refine wpAnyHTake 7 (some 53) (.int .i64 0) rfl rfl (by kernel_rfl) (by kernel_rfl) (by kernel_rfl) (fun _ _ _ h => h) (by rfl) (fun _ _ => by rfl) (gV') ?_
            simp only [Act.put, List.setIfInBounds_toArray, List.set_cons_zero, List.set_cons_succ]
            refine wpAnyHTake 8 (some 54) (.bool false) rfl rfl (by kernel_rfl) (by kernel_rfl) (by kernel_rfl) (fun _ _ _ h => h) (by rfl) (fun _ _ => by go_simp) (gV') ?_
            simp only [Act.put, List.setIfInBounds_toArray, List.set_cons_zero, List.set_cons_succ]
            refine wpAnyHTake 9 (some 55) (.bool false) rfl rfl (by kernel_rfl) (by kernel_rfl) (by kernel_rfl) (fun _ _ _ h => h) (by rfl) (fun _ _ => by rfl) (gV') ?_
            simp only [Act.put, List.setIfInBounds_toArray, List.set_cons_zero, List.set_cons_succ]
            refine wpAnyHPass 10 (some 56) rfl rfl (by kernel_rfl) (by kernel_rfl) (by kernel_rfl) (fun _ _ _ h => h) (by rfl) (gV') ?_
            simp only [Act.put, List.setIfInBounds_toArray, List.set_cons_zero, List.set_cons_succ]
            refine wpAnyHPass 11 (some 57) rfl rfl (by kernel_rfl) (by kernel_rfl) (by kernel_rfl) (fun _ _ _ h => h) (by rfl) (gV') ?_
            simp only [Act.put, List.setIfInBounds_toArray, List.set_cons_zero, List.set_cons_succ]
            refine wpAnyHPass 12 (some 58) rfl rfl (by kernel_rfl) (by kernel_rfl) (by kernel_rfl) (fun _ _ _ h => h) (by rfl) (gV') ?_
            simp only [Act.put, List.setIfInBounds_toArray, List.set_cons_zero, List.set_cons_succ]
            refine wpAnyHPass 13 (some 59) rfl rfl (by kernel_rfl) (by kernel_rfl) (by kernel_rfl) (fun _ _ _ h => h) (by rfl) (gV') ?_
            simp only [Act.put, List.setIfInBounds_toArray, List.set_cons_zero, List.set_cons_succ]
            refine wpAnyHPass 14 (some 60) rfl rfl (by kernel_rfl) (by kernel_rfl) (by kernel_rfl) (fun _ _ _ h => h) (by rfl) (gV') ?_
            simp only [Act.put, List.setIfInBounds_toArray, List.set_cons_zero, List.set_cons_succ]
            refine wpAnyHPass 15 (some 61) rfl rfl (by kernel_rfl) (by kernel_rfl) (by kernel_rfl) (fun _ _ _ h => h) (by rfl) (gV') ?_
            simp only [Act.put, List.setIfInBounds_toArray, List.set_cons_zero, List.set_cons_succ]
            refine wpAnyHPass 16 (some 62) rfl rfl (by kernel_rfl) (by kernel_rfl) (by kernel_rfl) (fun _ _ _ h => h) (by rfl) (gV') ?_
            simp only [Act.put, List.setIfInBounds_toArray, List.set_cons_zero, List.set_cons_succ]
            refine wpAnyHPass 17 (some 63) rfl rfl (by kernel_rfl) (by kernel_rfl) (by kernel_rfl) (fun _ _ _ h => h) (by rfl) (gV') ?_
            simp only [Act.put, List.setIfInBounds_toArray, List.set_cons_zero, List.set_cons_succ]
            refine wpAnyHPass 18 (some 64) rfl rfl (by kernel_rfl) (by kernel_rfl) (by kernel_rfl) (fun _ _ _ h => h) (by rfl) (gV') ?_
            simp only [Act.put, List.setIfInBounds_toArray, List.set_cons_zero, List.set_cons_succ]
            refine wpAnyHPass 19 (some 65) rfl rfl (by kernel_rfl) (by kernel_rfl) (by kernel_rfl) (fun _ _ _ h => h) (by rfl) (gV') ?_
            simp only [Act.put, List.setIfInBounds_toArray, List.set_cons_zero, List.set_cons_succ]
            refine wpAnyHPass 20 (some 66) rfl rfl (by kernel_rfl) (by kernel_rfl) (by kernel_rfl) (fun _ _ _ h => h) (by rfl) (gV') ?_
            simp only [Act.put, List.setIfInBounds_toArray, List.set_cons_zero, List.set_cons_succ]
            refine wpAnyHTake 21 (some 67) (.bool false) rfl rfl (by kernel_rfl) (by kernel_rfl) (by kernel_rfl) (fun _ _ _ h => h) (by rfl) (fun _ _ => by go_simp) (gV') ?_
            simp only [Act.put, List.setIfInBounds_toArray, List.set_cons_zero, List.set_cons_succ]
            refine wpAnyHTake 22 (some 68) (.bool false) rfl rfl (by kernel_rfl) (by kernel_rfl) (by kernel_rfl) (fun _ _ _ h => h) (by rfl) (fun _ _ => by go_simp) (gV') ?_
            simp only [Act.put, List.setIfInBounds_toArray, List.set_cons_zero, List.set_cons_succ]
            refine wpAnyH_done (by kernel_rfl) ?_ _
            rename_i K hK
            refine hK _ _ ?_
            clear hK
            go_wp2_with fail
            go_roundw
            case rel => exact ⟨1, by omega, by first | rfl | go_num, HBL6.out, HBL61.out, HBL64.out⟩
            case measure => simp [intOf]; omega
          · obtain ⟨i, rfl⟩ : ∃ i, j = i + 1 := ⟨j - 1, by omega⟩
            obtain ⟨x, hx⟩ := elem_at (l := L) (k := i) (by omega)
            have hxy := strict_at HNS.out hx hy
            have e2 : Op.bytesLess x.toList y.toList = true := by rw [bless]; exact hxy
            obtain ⟨b', o', hb'e, _, gx⟩ := f i x hx
            cases hb'e
            have gxV : (wr.drewN 1).cell? ⟨b, o + i, none⟩ = some (.string x) := gx
            obtain ⟨j1, hj1⟩ : ∃ j1 : Nat, j1 = i + 1 := ⟨_, rfl⟩
            rw [← hj1] at gV p1 hlj ⊢
            have hjk : (j1 : Int) - 1 = (i : Int) := by omega
            have hjp : (0 : Int) < (j1 : Int) := by omega
            have hwi : IntKind.i64.wrap (i : Int) = (i : Int) := by rw [IntKind.wrap_i64]; omega
            have hmx : max (i : Int) 0 = (i : Int) := by omega
            have hi0 : (0 : Int) ≤ (i : Int) := by omega
            have hi1 : (i : Int) < (L.length : Int) := by omega
            have hj0' : (0 : Int) ≤ (j1 : Int) := by omega
            have HJ1 := Lib.hid hj1
            clear hbl hbl1 hbl4 RU f g gx hbw hy y1 hx hxy hj0 hj1
            go_wp2_with fail
            refine wp_region_held (S := fun W => W.cell? ⟨b, o + j1, none⟩ = some (.string y) ∧ W.cell? ⟨b, o + i, none⟩ = some (.string x)) (by kernel_rfl) ?_
            have hdr : (wr).drew = { wr with drawn := (wr).drawn + 1 } := rfl
            rw [← hdr]
            clear hdr
            change wpAnyH _ _ _ _ _ _ _ _ (wr.drewN 1)
            generalize wr.drewN 1 = V at gV gxV CK HBL5 HBL51 HBL54 hbV ⊢
            refine wpAnyHTake 0 (some 46) (.slice (some ⟨b, o, none⟩) L.length uc) rfl rfl (by kernel_rfl) (by kernel_rfl) (by kernel_rfl) (fun _ _ _ h => h) (by rfl) (fun _ _ => by rfl) (⟨gV, gxV⟩) ?_
            simp only [Act.put, List.setIfInBounds_toArray, List.set_cons_zero, List.set_cons_succ]
            refine wpAnyHTake 1 (some 47) (.int .i64 j1) rfl rfl (by kernel_rfl) (by kernel_rfl) (by kernel_rfl) (fun _ _ _ h => h) (by rfl) (fun _ _ => by rfl) (⟨gV, gxV⟩) ?_
            simp only [Act.put, List.setIfInBounds_toArray, List.set_cons_zero, List.set_cons_succ]
            refine wpAnyHTake 2 (some 48) (.pointer (some ⟨b, o + j1, none⟩)) rfl rfl (by kernel_rfl) (by kernel_rfl) (by kernel_rfl) (fun _ _ _ h => h) (by rfl) (fun _ _ => by go_simp) (⟨gV, gxV⟩) ?_
            simp only [Act.put, List.setIfInBounds_toArray, List.set_cons_zero, List.set_cons_succ]
            refine wpAnyHTake 3 (some 49) (.string y) rfl rfl (by kernel_rfl) (by kernel_rfl) (by kernel_rfl) (fun _ _ _ h => h) (by rfl) (fun W hW => by have e := hW.1; clear hW; go_simp) (⟨gV, gxV⟩) ?_
            simp only [Act.put, List.setIfInBounds_toArray, List.set_cons_zero, List.set_cons_succ]
            refine wpAnyHCall 4 (some 50) 26 #[.string y] (by kernel_rfl) rfl rfl (by rfl) (by go_simp) (CK) ?_
            rintro e w6 ⟨rfl, hb6⟩
            have gV' := (hb6.cell (p := ⟨b, o + j1, none⟩) hbV).trans gV
            have gxV' := (hb6.cell (p := ⟨b, o + i, none⟩) hbV).trans gxV
            have HBL6 := Lib.hid (HBL5.out.trans (hb6.mono HBL5.out.size)); have HBL61 := Lib.hid (HBL51.out.trans (hb6.mono HBL51.out.size)); have HBL64 := Lib.hid (HBL54.out.trans (hb6.mono HBL54.out.size))
            clear hb6 CK
            refine ⟨_, rfl, ⟨gV', gxV'⟩, ?_⟩
            simp only [Act.put, List.setIfInBounds_toArray, List.set_cons_zero, List.set_cons_succ]
            refine wpAnyHTake 5 (some 51) (.bool false) rfl rfl (by kernel_rfl) (by kernel_rfl) (by kernel_rfl) (fun _ _ _ h => h) (by rfl) (fun _ _ => by go_simp) (⟨gV', gxV'⟩) ?_
            simp only [Act.put, List.setIfInBounds_toArray, List.set_cons_zero, List.set_cons_succ]
            refine wpAnyHTake 6 (some 52) (.bool false) rfl rfl (by kernel_rfl) (by kernel_rfl) (by kernel_rfl) (fun _ _ _ h => h) (by rfl) (fun _ _ => by rfl) (⟨gV', gxV'⟩) ?_
            simp only [Act.put, List.setIfInBounds_toArray, List.set_cons_zero, List.set_cons_succ]
            refine wpAnyHTake 7 (some 53) (.int .i64 j1) rfl rfl (by kernel_rfl) (by kernel_rfl) (by kernel_rfl) (fun _ _ _ h => h) (by rfl) (fun _ _ => by rfl) (⟨gV', gxV'⟩) ?_
            simp only [Act.put, List.setIfInBounds_toArray, List.set_cons_zero, List.set_cons_succ]
            refine wpAnyHTake 8 (some 54) (.bool true) rfl rfl (by kernel_rfl) (by kernel_rfl) (by kernel_rfl) (fun _ _ _ h => h) (by rfl) (fun _ _ => by go_simp <;> omega) (⟨gV', gxV'⟩) ?_
            simp only [Act.put, List.setIfInBounds_toArray, List.set_cons_zero, List.set_cons_succ]
            refine wpAnyHTake 9 (some 55) (.bool true) rfl rfl (by kernel_rfl) (by kernel_rfl) (by kernel_rfl) (fun _ _ _ h => h) (by rfl) (fun _ _ => by rfl) (⟨gV', gxV'⟩) ?_
            simp only [Act.put, List.setIfInBounds_toArray, List.set_cons_zero, List.set_cons_succ]
            refine wpAnyHTake 10 (some 56) (.slice (some ⟨b, o, none⟩) L.length uc) rfl rfl (by kernel_rfl) (by kernel_rfl) (by kernel_rfl) (fun _ _ _ h => h) (by rfl) (fun _ _ => by rfl) (⟨gV', gxV'⟩) ?_
            simp only [Act.put, List.setIfInBounds_toArray, List.set_cons_zero, List.set_cons_succ]
            refine wpAnyHTake 11 (some 57) (.int .i64 j1) rfl rfl (by kernel_rfl) (by kernel_rfl) (by kernel_rfl) (fun _ _ _ h => h) (by rfl) (fun _ _ => by rfl) (⟨gV', gxV'⟩) ?_
            simp only [Act.put, List.setIfInBounds_toArray, List.set_cons_zero, List.set_cons_succ]
            refine wpAnyHTake 12 (some 58) (.int .i64 i) rfl rfl (by kernel_rfl) (by kernel_rfl) (by kernel_rfl) (fun _ _ _ h => h) (by rfl) (fun _ _ => by go_simp) (⟨gV', gxV'⟩) ?_
            simp only [Act.put, List.setIfInBounds_toArray, List.set_cons_zero, List.set_cons_succ]
            refine wpAnyHTake 13 (some 59) (.int .i64 i) rfl rfl (by kernel_rfl) (by kernel_rfl) (by kernel_rfl) (fun _ _ _ h => h) (by rfl) (fun _ _ => by go_simp) (⟨gV', gxV'⟩) ?_
            simp only [Act.put, List.setIfInBounds_toArray, List.set_cons_zero, List.set_cons_succ]
            refine wpAnyHTake 14 (some 60) (.pointer (some ⟨b, o + i, none⟩)) rfl rfl (by kernel_rfl) (by kernel_rfl) (by kernel_rfl) (fun _ _ _ h => h) (by rfl) (fun _ _ => by go_simp) (⟨gV', gxV'⟩) ?_
            simp only [Act.put, List.setIfInBounds_toArray, List.set_cons_zero, List.set_cons_succ]
            refine wpAnyHTake 15 (some 61) (.string x) rfl rfl (by kernel_rfl) (by kernel_rfl) (by kernel_rfl) (fun _ _ _ h => h) (by rfl) (fun W hW => by have e := hW.2; clear hW; go_simp) (⟨gV', gxV'⟩) ?_
            simp only [Act.put, List.setIfInBounds_toArray, List.set_cons_zero, List.set_cons_succ]
            refine wpAnyHTake 16 (some 62) (.slice (some ⟨b, o, none⟩) L.length uc) rfl rfl (by kernel_rfl) (by kernel_rfl) (by kernel_rfl) (fun _ _ _ h => h) (by rfl) (fun _ _ => by rfl) (⟨gV', gxV'⟩) ?_
            simp only [Act.put, List.setIfInBounds_toArray, List.set_cons_zero, List.set_cons_succ]
            refine wpAnyHTake 17 (some 63) (.int .i64 j1) rfl rfl (by kernel_rfl) (by kernel_rfl) (by kernel_rfl) (fun _ _ _ h => h) (by rfl) (fun _ _ => by rfl) (⟨gV', gxV'⟩) ?_
            simp only [Act.put, List.setIfInBounds_toArray, List.set_cons_zero, List.set_cons_succ]
            refine wpAnyHTake 18 (some 64) (.pointer (some ⟨b, o + j1, none⟩)) rfl rfl (by kernel_rfl) (by kernel_rfl) (by kernel_rfl) (fun _ _ _ h => h) (by rfl) (fun _ _ => by go_simp) (⟨gV', gxV'⟩) ?_
            simp only [Act.put, List.setIfInBounds_toArray, List.set_cons_zero, List.set_cons_succ]
            refine wpAnyHTake 19 (some 65) (.string y) rfl rfl (by kernel_rfl) (by kernel_rfl) (by kernel_rfl) (fun _ _ _ h => h) (by rfl) (fun W hW => by have e := hW.1; clear hW; go_simp) (⟨gV', gxV'⟩) ?_
            simp only [Act.put, List.setIfInBounds_toArray, List.set_cons_zero, List.set_cons_succ]
            refine wpAnyHTake 20 (some 66) (.bool false) rfl rfl (by kernel_rfl) (by kernel_rfl) (by kernel_rfl) (fun _ _ _ h => h) (by rfl) (fun _ _ => by go_simp) (⟨gV', gxV'⟩) ?_
            simp only [Act.put, List.setIfInBounds_toArray, List.set_cons_zero, List.set_cons_succ]
            refine wpAnyHTake 21 (some 67) (.bool false) rfl rfl (by kernel_rfl) (by kernel_rfl) (by kernel_rfl) (fun _ _ _ h => h) (by rfl) (fun _ _ => by go_simp) (⟨gV', gxV'⟩) ?_
            simp only [Act.put, List.setIfInBounds_toArray, List.set_cons_zero, List.set_cons_succ]
            refine wpAnyHTake 22 (some 68) (.bool false) rfl rfl (by kernel_rfl) (by kernel_rfl) (by kernel_rfl) (fun _ _ _ h => h) (by rfl) (fun _ _ => by go_simp) (⟨gV', gxV'⟩) ?_
            simp only [Act.put, List.setIfInBounds_toArray, List.set_cons_zero, List.set_cons_succ]
            refine wpAnyH_done (by kernel_rfl) ?_ _
            rename_i K hK
            refine hK _ _ ?_
            clear hK
            go_wp2_with fail
            go_roundw
            case rel => exact ⟨j1 + 1, by omega, by first | rfl | go_num, HBL6.out, HBL61.out, HBL64.out⟩
            case measure => simp [intOf]; omega
        · have p1 : ¬ (j : Int) < (L.length : Int) := by omega
          have HBL5 := Lib.hid hbl; have HBL51 := Lib.hid hbl1
          clear hbl hbl1 hbl4
          go_wp2_with fail
          go_roundw
          case rel => exact ⟨k + 1, by omega, by go_num, HBL5.out, HBL51.out⟩
          case measure => simp [intOf]; omega
    · have q1 : ¬ (k : Int) < 5 := by omega
      have HBL := Lib.hid hbl
      clear hbl hbl1
      go_wp2_with fail
      refine (LV.out _).mono ?_
      rintro e w5 ⟨rfl, hb5⟩
      go_wp2_with fail
      go_ret
      exact ⟨rfl, HBL.out.trans (hb5.mono HBL.out.size)⟩
end Go.Proofs.Ytidojiegkdchpaa
