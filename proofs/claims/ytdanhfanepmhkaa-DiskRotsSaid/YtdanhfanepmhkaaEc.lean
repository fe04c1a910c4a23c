/- The reference disk: settle. -/
import Derived.Test.YtdanhfanepmhkaaEb
import Derived.BigRegion
namespace Go.Proofs.Ytdanhfanepmhkaa
open Go.RowKit Go.Maps Go.Sort

theorem settle_row {D : Dk} {k : Nat} (hk : k < D.S.length) {u t : ByteArray} (hP : D.P k = some u) (ht : D.S[k]? = some t) (n : Int) :
    rows (D.settle k n) = (rows D).set k ⟨if D.W k = true then t else mix (max 0 (min n 64)).toNat u t, ⟨#[]⟩, false, D.W k⟩ := by
  refine rows_set hk (settle_len D k n) (fun j _ hj => ?_) ?_
  · unfold row Dk.settle
    dsimp only
    rw [if_neg hj]
    split
    · rfl
    · rw [List.getElem?_set_ne (Ne.symm hj)]
  · unfold row Dk.settle
    dsimp only
    rw [if_pos rfl]
    have hat : D.at k = u := by unfold Dk.at; rw [hP]; rfl
    split
    · rw [ht]; rfl
    · rw [List.getElem?_set_self hk, ht, hat]; rfl

theorem RefL.put4 {w : World} {B : RAt} {L : List Sc} {off : Bool} {left : Int} (h : RefL w B L off left) {k : Nat} {s : Sc} (hk : L[k]? = some s) (u : Sc) :
    RefL ((((w.setCell ⟨B.g, k * 4, none⟩ (.string u.t)).setCell ⟨B.g, k * 4 + 1, none⟩ (.string u.x)).setCell ⟨B.g, k * 4 + 2, none⟩ (.bool u.d)).setCell ⟨B.g, k * 4 + 3, none⟩ (.bool u.w)) B (L.set k u) off left := by
  have hkl := (List.getElem?_eq_some_iff.1 hk).1
  have at' : ∀ (x : Sc), (L.set k x)[k]? = some x := fun x => by rw [List.getElem?_set, if_pos rfl, if_pos hkl]
  have g0 := h.put hk 0 (by omega) (.string u.t) (u := { s with t := u.t }) rfl
  have g1 := g0.put (at' _) 1 (by omega) (.string u.x) (u := { s with t := u.t, x := u.x }) rfl
  rw [List.set_set] at g1
  have g2 := g1.put (at' _) 2 (by omega) (.bool u.d) (u := { s with t := u.t, x := u.x, d := u.d }) rfl
  rw [List.set_set] at g2
  have g3 := g2.put (at' _) 3 (by omega) (.bool u.w) (u := u) rfl
  rw [List.set_set] at g3
  exact g3
theorem Keeps.put4 {w w' : World} {F : Nat → Prop} {g : Nat} (h : Keeps F w w') (hg : F g) (o : Nat) (a b c d : Value) :
    Keeps F w ((((w'.setCell ⟨g, o, none⟩ a).setCell ⟨g, o + 1, none⟩ b).setCell ⟨g, o + 2, none⟩ c).setCell ⟨g, o + 3, none⟩ d) :=
  (((h.setCell (p := ⟨g, o, none⟩) hg a).setCell (p := ⟨g, o + 1, none⟩) hg b).setCell (p := ⟨g, o + 2, none⟩) hg c).setCell (p := ⟨g, o + 3, none⟩) hg d
theorem mix_extract {u t : ByteArray} {m : Nat} (ht : t.size = 64) : u.extract 0 m ++ t.extract m 64 = mix m u t := by
  have ht' : t.data.size = 64 := ht
  apply ByteArray.ext
  apply Array.ext'
  unfold mix
  simp [ByteArray.data_extract, List.extract]
  rw [List.take_of_length_le (by simp; omega)]
theorem Dk.ok.settle {D : Dk} (h : D.ok) {k : Nat} (hk : k < D.S.length) {u : ByteArray} (hP : D.P k = some u) (n : Int) : (D.settle k n).ok := by
  obtain ⟨t, ht⟩ := elem_at hk
  have hat : D.at k = u := by unfold Dk.at; rw [hP]; rfl
  refine ⟨by rw [settle_len]; exact h.len, by rw [settle_len]; exact h.pos, fun j s hj => ?_, fun j s hj => ?_, h.lo, h.hi⟩
  · unfold Dk.settle at hj
    dsimp only at hj
    split at hj
    · exact h.ssz j s hj
    · rw [List.getElem?_set] at hj
      split at hj
      · cases hj
        rw [hat, ht]
        exact mix_size (h.psz k u hP) (h.ssz k t ht) (by omega)
      · exact h.ssz j s hj
  · unfold Dk.settle at hj
    dsimp only at hj
    split at hj
    · cases hj
    · exact h.psz j s hj

set_option maxRecDepth 100000 in
set_option maxHeartbeats 1600000 in
theorem rsettle_any (B : RAt) (D : Dk) (k : Nat) (n : Int) (w : World) (h : RefAt w B D) (hk : k < D.S.length) {u : ByteArray} (hP : D.P k = some u) :
    Calls Try.prog 57 #[.pointer (some ⟨B.d, 0, none⟩), .int .i64 (k : Int), .int .i64 n] w fun e w' => e = .returned (.tuple #[]) ∧ RefAt w' B (D.settle k n) ∧ Keeps B.F w w' := by
  obtain ⟨t, ht⟩ := elem_at hk
  have hu := h.ok.psz k u hP
  have htz := h.ok.ssz k t ht
  have hlen := h.ok.len
  have hbd := h.l.ltF B.fd
  have hbg := h.l.ltF B.fg
  have hne := h.l.ne
  have c0 := h.box0
  have q0 := h.row hk 0 (by omega)
  have q1 := h.row hk 1 (by omega)
  have q2 := h.row hk 2 (by omega)
  have q3 := h.row hk 3 (by omega)
  have er : row D k = ⟨t, u, true, D.W k⟩ := by unfold row; rw [ht, hP]; rfl
  rw [er] at q0 q1 q2 q3
  simp [sc] at q0 q1 q2 q3
  have f0 := h.l.frozen (k * 4)
  have f1 := h.l.frozen (k * 4 + 1)
  have f2 := h.l.frozen (k * 4 + 2)
  have f3 := h.l.frozen (k * 4 + 3)
  obtain ⟨m, hm⟩ : ∃ m : Nat, (m : Int) = max 0 (min n 64) := ⟨(max 0 (min n 64)).toNat, by omega⟩
  have hm64 : m ≤ 64 := by omega
  have HM := Lib.hid hm
  clear hm
  have hmz : (m : Int) ≤ 64 := by omega
  have hmu : (m : Int) ≤ (u.size : Int) := by omega
  have hmt : (m : Int) ≤ (t.size : Int) := by omega
  have hm0 : (0 : Int) ≤ (m : Int) := by omega
  have H := Lib.hid h; have HT := Lib.hid ht; have HP := Lib.hid hP
  clear h ht hP er
  cases hW : D.W k
  · rw [hW] at q3
    go_enter Try.func57, Try.ntmps57
    go_wp2_with fail
    rw [← HM.out]
    go_region
    generalize hx : u.extract 0 m ++ t.extract m 64 = x
    go_wp2_with fail
    go_region
    subst hx
    go_end0
    refine ⟨rfl, ⟨?_, H.out.ok.settle hk HP.out n⟩, (((Keeps.refl _ _).put4 B.fg _ _ _ _ _).alloc _).drew.drew⟩
    rw [settle_row hk HP.out HT.out n, ← HM.out, Int.toNat_natCast, if_neg (by rw [hW]; simp), ← mix_extract htz, hW]
    have g := H.out.l.put4 (rows_at D hk) ⟨u.extract 0 m ++ t.extract m 64, ⟨#[]⟩, false, D.W k⟩
    rw [hW] at g
    exact (g.keeps (F := fun _ => False) ((Keeps.refl _ _).alloc _) (fun _ _ h => h)).keeps (F := fun _ => False) (Keeps.refl _ _).drew.drew (fun _ _ h => h)
  · rw [hW] at q3
    go_enter Try.func57, Try.ntmps57
    go_wp2_with fail
    rw [← HM.out]
    go_region
    go_wp2_with fail
    go_end0
    refine ⟨rfl, ⟨?_, H.out.ok.settle hk HP.out n⟩, (((Keeps.refl _ _).put4 B.fg _ _ _ _ _).alloc _).drew⟩
    rw [settle_row hk HP.out HT.out n, ← HM.out, Int.toNat_natCast, if_pos hW, hW]
    have g := H.out.l.put4 (rows_at D hk) ⟨t, ⟨#[]⟩, false, D.W k⟩
    rw [hW] at g
    exact (g.keeps (F := fun _ => False) ((Keeps.refl _ _).alloc _) (fun _ _ h => h)).keeps (F := fun _ => False) (Keeps.refl _ _).drew (fun _ _ h => h)
end Go.Proofs.Ytdanhfanepmhkaa
