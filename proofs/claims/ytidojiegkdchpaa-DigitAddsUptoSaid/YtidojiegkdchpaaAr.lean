/- The program's Near. -/
import Derived.Test.YtidojiegkdchpaaAq
namespace Go.Proofs.Ytidojiegkdchpaa
open Go.RowKit Go.Maps

/-- the string and the list under way, in their boxes -/
structure NS (bS bO : Nat) (s : ByteArray) (L : List ByteArray) (W : World) : Prop where
  str : Boxs W bS 9 #[.string s]
  lt : bS < bO
  out : ∃ v, Boxs W bO 49 #[v] ∧ W.ownsRow (bO + 1) 9 1 v L.length (strs L)
theorem NS.below {bS bO : Nat} {s : ByteArray} {L : List ByteArray} {W W' : World} (h : NS bS bO s L W) (hb : Below W.heap.size W W') : NS bS bO s L W' := by
  obtain ⟨v, h1, h2⟩ := h.out
  exact ⟨(hb.block _ h.str.lt).trans h.str, h.lt, v, (hb.block _ h1.lt).trans h1, owns_below h2 hb⟩
def putIf (s t : ByteArray) (L : List ByteArray) : List ByteArray := L ++ if goodB s t = true then [t] else []

set_option maxRecDepth 100000 in
set_option maxHeartbeats 2000000 in
theorem nput_any (bS bO : Nat) (s t : ByteArray) (L : List ByteArray) (w : World) (h : NS bS bO s L w) (ht : t.size ≤ 1099511627776) (hl : L.length ≤ 1000000) :
    Calls Try.prog 43 #[.string t, .pointer (some ⟨bS, 0, none⟩), .pointer (some ⟨bO, 0, none⟩)] w fun e w' => e = .returned (.tuple #[]) ∧ NS bS bO s (putIf s t L) w' ∧ Below bO w w' := by
  obtain ⟨i0, hi0, hz0, hz1, hz2⟩ := info_parts Try.info9i
  have HI := Lib.hid hi0; have HZ0 := Lib.hid hz0; have HZ1 := Lib.hid hz1; have HZ2 := Lib.hid hz2
  clear hi0 hz0 hz1 hz2
  have c1 := h.str.cell 0
  simp at c1
  have H := Lib.hid h
  by_cases hts : t = s
  · have hg : putIf s t L = L := by unfold putIf goodB; simp [hts]
    have HG := Lib.hid hg
    subst hts
    have hb1 := bytes_eq t
    clear hg h
    go_enter Try.func43, Try.ntmps43
    go_wp2_with fail
    go_end0
    exact ⟨rfl, by rw [HG.out]; exact H.out, Below.refl _ _⟩
  · have hb1 := bytes_ne hts
    have CC := check_any t ht w
    by_cases hck : checkF t = 0
    · have hg : putIf s t L = L ++ [t] := by unfold putIf goodB; simp [hts, hck]
      have HG := Lib.hid hg
      rw [hck] at CC
      have hlt := h.lt
      clear hg hts hck h
      go_enter Try.func43, Try.ntmps43
      go_wp2_with fail
      refine CC.mono ?_
      rintro e w1 ⟨rfl, hb⟩
      have h1 := H.out.below hb
      obtain ⟨v, hv1, hv2⟩ := h1.out
      have c2 := hv1.cell 0
      have f2 := hv1.frozen 0
      simp at c2
      have hbo := hv1.lt
      have hbs := h1.str.lt
      have HB := Lib.hid hb; have H1 := Lib.hid h1; have HV1 := Lib.hid hv1; have HO := Lib.hid hv2
      have hbl : w.heap.size ≤ w1.heap.size := hb.size
      have c3 := (World.cell?_alloc_lt w1 (.cells #[.string t] 9) ⟨bO, 0, none⟩ hbo).trans c2
      clear hb h1 hv1 hv2 CC c1
      go_wp2_with (at_builtin; refine wpList_append_lies _ rfl _ _ _ rfl (bO + 1) 9 i0 _ 1 16 Try.underlying49 HI.out HZ0.out HZ1.out HZ2.out rfl (by omega) _ L.length (strs L) rfl (HO.out.alloc _) ⟨w1.heap.size, 0, none⟩ 1 1 [.string t] rfl rfl (cell_one_new _ _ _) (by simp [Value.oneCell']) (by omega) (by unfold maxLen; omega) (by omega) (by simp; omega) (w1.heap.size + 1) (by simp) ?_; intro gg cap w3 hown1 hgrow hat hltg; have HV3 := Lib.hid ((HV1.out.alloc (.cells #[.string t] 9)).kept hgrow (fun e => by have := (HO.out.lt bO e.symm).1; omega)); have c4 := HV3.out.cell 0; have f4 := HV3.out.frozen 0; simp at c4)
      go_end0
      have hk3 : Below bO w w3 := (((HB.out.mono (by have := H.out.out; obtain ⟨_, x, _⟩ := this; exact Nat.le_of_lt x.lt)).alloc (by omega) _)).grown hgrow (by simp; omega) (fun j e => by have := (HO.out.lt j e).1; omega)
      refine ⟨rfl, ⟨?_, hlt, ?_⟩, hk3.setCell (p := ⟨bO, 0, none⟩) (Nat.le_refl _) _⟩
      · exact (((H1.out.str.alloc _).kept hgrow (fun e => by have := (HO.out.lt bS e.symm).1; omega))).setOther (by omega) 0 _
      · refine ⟨_, HV3.out.put 0 _, ?_⟩
        rw [HG.out, List.length_append, strs_app]
        exact hown1.kept (grownBy_setCell' _ bO _) (by right; intro e; have := hown1.lt bO e; omega)
    · have hg : putIf s t L = L := by unfold putIf goodB; simp [hck]
      have HG := Lib.hid hg
      have hz : (checkF t == 0) = false := by simpa using hck
      clear hg hts hck h
      generalize checkF t = z at *
      go_enter Try.func43, Try.ntmps43
      go_wp2_with fail
      refine CC.mono ?_
      rintro e w1 ⟨rfl, hb⟩
      go_wp2_with fail
      go_end0
      exact ⟨rfl, by rw [HG.out]; exact H.out.below hb, hb.mono (by have := H.out.out; obtain ⟨_, x, _⟩ := this; exact Nat.le_of_lt x.lt)⟩
end Go.Proofs.Ytidojiegkdchpaa
