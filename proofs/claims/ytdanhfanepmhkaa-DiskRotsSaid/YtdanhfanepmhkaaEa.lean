/- The reference disk in memory; Len, Up, Trip, is, step. -/
import Derived.Test.YtdanhfanepmhkaaDn
import Derived.BigQuiet
namespace Go.Proofs.Ytdanhfanepmhkaa
open Go.RowKit Go.Maps Go.Sort

/-- a sector of the reference -/
structure Sc where
  t : ByteArray
  x : ByteArray
  d : Bool
  w : Bool
def sc (s : Sc) : List Value := [.string s.t, .string s.x, .bool s.d, .bool s.w]

theorem flatN_at {α : Type} (f : α → List Value) (m : Nat) (hf : ∀ a, (f a).length = m) (S : List α) (i j : Nat) (s : α) (hi : S[i]? = some s) (hj : j < m) : (S.flatMap f)[i * m + j]? = (f s)[j]? := by
  induction S generalizing i with
  | nil => simp at hi
  | cons a r ih =>
    have ha := hf a
    cases i with
    | zero =>
      simp at hi; subst hi
      rw [List.flatMap_cons, List.getElem?_append_left (by omega)]; simp
    | succ i =>
      simp at hi
      have e : (i + 1) * m = i * m + m := Nat.succ_mul i m
      rw [List.flatMap_cons, List.getElem?_append_right (by omega), ha, ← ih i hi]
      congr 1; omega
theorem flatN_len {α : Type} (f : α → List Value) (m : Nat) (hf : ∀ a, (f a).length = m) (S : List α) : (S.flatMap f).length = S.length * m := by
  induction S with
  | nil => simp
  | cons a r ih => rw [List.flatMap_cons, List.length_append, ih, hf, List.length_cons, Nat.succ_mul]; omega
theorem flatN_set {α : Type} (f : α → List Value) (m : Nat) (hf : ∀ a, (f a).length = m) (S : List α) (k j : Nat) (hj : j < m) (s u : α) (v : Value) (hk : S[k]? = some s) (hu : f u = (f s).set j v) :
    (S.set k u).flatMap f = (S.flatMap f).set (k * m + j) v := by
  induction S generalizing k with
  | nil => simp at hk
  | cons a r ih =>
    have ha := hf a
    cases k with
    | zero =>
      simp at hk; subst hk
      simp only [List.set_cons_zero, List.flatMap_cons, Nat.zero_mul, Nat.zero_add, hu]
      rw [List.set_append_left _ _ (by omega)]
    | succ k =>
      simp at hk
      have e : (k + 1) * m = k * m + m := Nat.succ_mul k m
      simp only [List.set_cons_succ, List.flatMap_cons]
      rw [ih k hk, List.set_append_right _ _ (by omega), ha]
      congr 2; omega

/-- where a reference disk lies -/
structure RAt where
  d : Nat
  g : Nat
  c : Nat
def RAt.F (B : RAt) (b : Nat) : Prop := b = B.d ∨ b = B.g

structure RefL (w : World) (B : RAt) (L : List Sc) (off : Bool) (left : Int) : Prop where
  box : Boxs w B.d 57 #[.slice (some ⟨B.g, 0, none⟩) L.length B.c, .bool off, .int .i64 left]
  blk : ∃ C, Boxs w B.g 54 C ∧ ∃ T, C.toList = L.flatMap sc ++ T
theorem RefL.ne {w : World} {B : RAt} {L : List Sc} {off : Bool} {left : Int} (h : RefL w B L off left) : B.d ≠ B.g := fun e => by
  obtain ⟨C, h1, _⟩ := h.blk
  have := h.box; unfold Boxs at this h1
  rw [e, h1] at this; cases this
theorem RefL.keeps {w w' : World} {F : Nat → Prop} {B : RAt} {L : List Sc} {off : Bool} {left : Int} (h : RefL w B L off left) (hk : Keeps F w w') (hF : ∀ b, B.F b → ¬ F b) : RefL w' B L off left := by
  obtain ⟨C, h1, h2⟩ := h.blk
  exact ⟨h.box.keeps hk (hF _ (.inl rfl)), C, h1.keeps hk (hF _ (.inr rfl)), h2⟩
theorem RefL.ltF {w : World} {B : RAt} {L : List Sc} {off : Bool} {left : Int} (h : RefL w B L off left) {b : Nat} (hb : B.F b) : b < w.heap.size := by
  obtain ⟨C, h1, h2⟩ := h.blk
  rcases hb with rfl | rfl
  · exact h.box.lt
  · exact h1.lt
theorem RefL.cell {w : World} {B : RAt} {L : List Sc} {off : Bool} {left : Int} (h : RefL w B L off left) {k : Nat} {s : Sc} (hk : L[k]? = some s) (j : Nat) (hj : j < 4) : w.cell? ⟨B.g, k * 4 + j, none⟩ = (sc s)[j]? := by
  obtain ⟨C, h1, T, h2⟩ := h.blk
  have hf := flatN_at sc 4 (fun _ => rfl) L k j s hk hj
  have hl := flatN_len sc 4 (fun _ => rfl) L
  have hkl := (List.getElem?_eq_some_iff.1 hk).1
  rw [h1.cell, ← Array.getElem?_toList, h2, List.getElem?_append_left (by omega), hf]
theorem RefL.frozen {w : World} {B : RAt} {L : List Sc} {off : Bool} {left : Int} (h : RefL w B L off left) (o : Nat) : w.frozen? ⟨B.g, o, none⟩ = false := by
  obtain ⟨C, h1, _⟩ := h.blk
  exact h1.frozen o
theorem RefL.put {w : World} {B : RAt} {L : List Sc} {off : Bool} {left : Int} (h : RefL w B L off left) {k : Nat} {s u : Sc} (hk : L[k]? = some s) (j : Nat) (hj : j < 4) (v : Value) (hu : sc u = (sc s).set j v) :
    RefL (w.setCell ⟨B.g, k * 4 + j, none⟩ v) B (L.set k u) off left := by
  have hne := h.ne
  obtain ⟨C, h1, T, h2⟩ := h.blk
  have hl := flatN_len sc 4 (fun _ => rfl) L
  have hkl := (List.getElem?_eq_some_iff.1 hk).1
  refine ⟨?_, _, h1.put _ _, T, ?_⟩
  · rw [List.length_set]
    exact h.box.keeps (Keeps.setCell (F := fun b => b = B.g) (p := ⟨B.g, k * 4 + j, none⟩) (Keeps.refl _ w) rfl v) hne
  · rw [Array.toList_setIfInBounds, h2, List.set_append_left _ _ (by omega), flatN_set sc 4 (fun _ => rfl) L k j hj s u v hk hu]
theorem RefL.setOff {w : World} {B : RAt} {L : List Sc} {off : Bool} {left : Int} (h : RefL w B L off left) (x : Bool) : RefL (w.setCell ⟨B.d, 1, none⟩ (.bool x)) B L x left := by
  have hne := h.ne
  obtain ⟨C, h1, h2⟩ := h.blk
  refine ⟨?_, C, h1.keeps (Keeps.setCell (F := fun b => b = B.d) (p := ⟨B.d, 1, none⟩) (Keeps.refl _ w) rfl _) (Ne.symm hne), h2⟩
  have := h.box.put 1 (.bool x)
  simpa using this
theorem RefL.setLeft {w : World} {B : RAt} {L : List Sc} {off : Bool} {left : Int} (h : RefL w B L off left) (x : Int) : RefL (w.setCell ⟨B.d, 2, none⟩ (.int .i64 x)) B L off x := by
  have hne := h.ne
  obtain ⟨C, h1, h2⟩ := h.blk
  refine ⟨?_, C, h1.keeps (Keeps.setCell (F := fun b => b = B.d) (p := ⟨B.d, 2, none⟩) (Keeps.refl _ w) rfl _) (Ne.symm hne), h2⟩
  have := h.box.put 2 (.int .i64 x)
  simpa using this

def row (D : Dk) (k : Nat) : Sc := ⟨(D.S[k]?).getD zero64, (D.P k).getD ⟨#[]⟩, (D.P k).isSome, D.W k⟩
def rows (D : Dk) : List Sc := (List.range D.S.length).map (row D)
theorem rows_len (D : Dk) : (rows D).length = D.S.length := by unfold rows; simp
theorem rows_at (D : Dk) {k : Nat} (hk : k < D.S.length) : (rows D)[k]? = some (row D k) := by
  unfold rows
  rw [List.getElem?_map, List.getElem?_range hk]; rfl
theorem rows_set {D D' : Dk} {k : Nat} {r : Sc} (hk : k < D.S.length) (hl : D'.S.length = D.S.length) (h : ∀ j, j < D.S.length → j ≠ k → row D' j = row D j) (hr : row D' k = r) : rows D' = (rows D).set k r := by
  refine List.ext_getElem? fun j => ?_
  rw [List.getElem?_set]
  rcases Nat.lt_or_ge j D.S.length with hj | hj
  · rw [rows_at D' (by omega)]
    by_cases e : k = j
    · subst e
      rw [if_pos rfl, if_pos (by rw [rows_len]; exact hk), hr]
    · rw [if_neg e, rows_at D hj, h j hj (Ne.symm e)]
  · rw [List.getElem?_eq_none (by rw [rows_len]; omega), if_neg (by omega), List.getElem?_eq_none (by rw [rows_len]; omega)]
theorem rows_same {D D' : Dk} (hS : D'.S = D.S) (hP : D'.P = D.P) (hW : D'.W = D.W) : rows D' = rows D := by
  unfold rows row; rw [hS, hP, hW]

structure Dk.ok (D : Dk) : Prop where
  len : D.S.length ≤ 4096
  pos : 1 ≤ D.S.length
  ssz : ∀ (k : Nat) (s : ByteArray), D.S[k]? = some s → s.size = 64
  psz : ∀ k s, D.P k = some s → s.size = 64
  lo : -9223372036854775808 ≤ D.left
  hi : D.left ≤ 9223372036854775807
theorem DskAt.ok {w : World} {A : At} {D : Dk} (h : DskAt w A D) : D.ok := ⟨h.len, h.pos, fun _ _ hk => Dk.byte_lt h.blk hk, h.psz, h.lo, h.hi⟩

structure RefAt (w : World) (B : RAt) (D : Dk) : Prop where
  l : RefL w B (rows D) D.off (max (-1) D.left)
  ok : D.ok
theorem RefAt.keeps {w w' : World} {F : Nat → Prop} {B : RAt} {D : Dk} (h : RefAt w B D) (hk : Keeps F w w') (hF : ∀ b, B.F b → ¬ F b) : RefAt w' B D := ⟨h.l.keeps hk hF, h.ok⟩
theorem RAt.fd (B : RAt) : B.F B.d := .inl rfl
theorem RAt.fg (B : RAt) : B.F B.g := .inr rfl

set_option maxHeartbeats 400000 in
theorem rlen_any (B : RAt) (D : Dk) (w : World) (h : RefAt w B D) :
    Calls Try.prog 44 #[.pointer (some ⟨B.d, 0, none⟩)] w fun e w' => e = .returned (.int .i64 (D.S.length : Int)) ∧ w = w' := by
  have c0 := h.l.box.cell 0
  simp [rows_len] at c0
  clear h
  go_enter Try.func44, Try.ntmps44
  go_wp2
  go_ret
  exact ⟨rfl, rfl⟩

set_option maxHeartbeats 400000 in
theorem rup_any (B : RAt) (D : Dk) (w : World) (h : RefAt w B D) :
    Calls Try.prog 45 #[.pointer (some ⟨B.d, 0, none⟩)] w fun e w' => e = .returned (.bool (!D.off)) ∧ w = w' := by
  have c3 := h.l.box.cell 1
  simp at c3
  clear h
  go_enter Try.func45, Try.ntmps45
  go_wp2
  go_ret
  exact ⟨rfl, rfl⟩

set_option maxHeartbeats 400000 in
theorem rtrip_any (B : RAt) (D : Dk) (n : Int) (w : World) (h : RefAt w B D) (h1 : -9223372036854775808 ≤ n) (h2 : n ≤ 9223372036854775807) :
    Calls Try.prog 36 #[.pointer (some ⟨B.d, 0, none⟩), .int .i64 n] w fun e w' => e = .returned (.tuple #[]) ∧ RefAt w' B { D with left := n } ∧ Keeps B.F w w' := by
  have c4 := h.l.box.cell 2
  have f4 := h.l.box.frozen 2
  simp at c4
  have H := Lib.hid h
  clear h
  go_enter Try.func36, Try.ntmps36
  go_wp2
  go_end0
  exact ⟨rfl, ⟨by rw [rows_same (D := D) (D' := { D with left := n }) rfl rfl rfl]; exact H.out.l.setLeft _, ⟨H.out.ok.len, H.out.ok.pos, H.out.ok.ssz, H.out.ok.psz, h1, h2⟩⟩, (Keeps.refl _ _).setCell (.inl rfl) _⟩

set_option maxHeartbeats 400000 in
theorem ris_any (B : RAt) (D : Dk) (i : Int) (w : World) (h : RefAt w B D) :
    Calls Try.prog 55 #[.pointer (some ⟨B.d, 0, none⟩), .int .i64 i] w fun e w' => e = .returned (.bool (D.inB i)) ∧ w = w' := by
  have c0 := h.l.box.cell 0
  simp [rows_len] at c0
  have hlen := h.ok.len
  clear h
  by_cases h1 : 0 ≤ i
  · by_cases h2 : i < D.S.length
    · have hr : D.inB i = true := inB_iff.2 ⟨h1, h2⟩
      have HR := Lib.hid hr; clear hr
      go_enter Try.func55, Try.ntmps55
      go_wp2
      go_ret
      exact ⟨ret_bool HR.out.symm, rfl⟩
    · have hr : D.inB i = false := by
        have := mt (inB_iff (D := D) (i := i)).1 (fun h => h2 h.2); simpa using this
      have HR := Lib.hid hr; clear hr
      go_enter Try.func55, Try.ntmps55
      go_wp2
      go_ret
      exact ⟨ret_bool HR.out.symm, rfl⟩
  · have hr : D.inB i = false := by
      have := mt (inB_iff (D := D) (i := i)).1 (fun h => h1 h.1); simpa using this
    have HR := Lib.hid hr; clear hr
    go_enter Try.func55, Try.ntmps55
    go_wp2
    go_ret
    exact ⟨ret_bool HR.out.symm, rfl⟩

theorem Dk.ok.step {D : Dk} (h : D.ok) : D.stepD.ok := by
  obtain ⟨e1, e2, e3⟩ := stepD_S D
  have hl := h.lo; have hh := h.hi
  refine ⟨by rw [e1]; exact h.len, by rw [e1]; exact h.pos, by rw [e1]; exact h.ssz, by rw [e2]; exact h.psz, ?_, ?_⟩
  · unfold Dk.stepD; split
    · exact hl
    · split
      · dsimp only; omega
      · exact hl
  · unfold Dk.stepD; split
    · exact hh
    · split
      · dsimp only; omega
      · exact hh

set_option maxHeartbeats 400000 in
theorem rstep_any (B : RAt) (D : Dk) (w : World) (h : RefAt w B D) :
    Calls Try.prog 56 #[.pointer (some ⟨B.d, 0, none⟩)] w fun e w' => e = .returned (.int .i64 D.stepE) ∧ RefAt w' B D.stepD ∧ Keeps B.F w w' := by
  have c1 := h.l.box.cell 1
  have c2 := h.l.box.cell 2
  have f1 := h.l.box.frozen 1
  have f2 := h.l.box.frozen 2
  simp at c1 c2
  have hlo := h.ok.lo
  have hhi := h.ok.hi
  have H := Lib.hid h
  obtain ⟨e1, e2, e3⟩ := stepD_S D
  have hrows : rows D.stepD = rows D := rows_same e1 e2 e3
  have HRW := Lib.hid hrows
  clear e1 e2 e3 hrows
  by_cases h0 : D.left = 0
  · have hr : D.stepE = 23 := by unfold Dk.stepE; rw [if_pos h0]
    have hr2 : D.stepD = { D with off := true } := by unfold Dk.stepD; rw [if_pos h0]
    have HR := Lib.hid hr; have HR2 := Lib.hid hr2; have HZ := Lib.hid h0; clear hr hr2 h
    rw [show max (-1) D.left = 0 by omega] at c2
    clear h0
    go_enter Try.func56, Try.ntmps56
    go_wp2
    go_ret
    refine ⟨ret_int HR.out.symm, ⟨?_, H.out.ok.step⟩, (Keeps.refl _ _).setCell (.inl rfl) _⟩
    rw [HRW.out, HR2.out]
    exact H.out.l.setOff true
  · have hr : D.stepE = 0 := by unfold Dk.stepE; rw [if_neg h0]
    by_cases h1 : 0 < D.left
    · have hr2 : D.stepD = { D with left := D.left - 1 } := by unfold Dk.stepD; rw [if_neg h0, if_pos h1]
      have HR := Lib.hid hr; have HR2 := Lib.hid hr2; clear hr hr2 h
      have hmx : max (-1) D.left = D.left := by omega
      have HMX := Lib.hid hmx
      rw [hmx] at c2
      have hb : (D.left == 0) = false := by simpa using h0
      clear hmx h0
      go_enter Try.func56, Try.ntmps56
      go_wp2
      go_ret
      refine ⟨ret_int HR.out.symm, ⟨?_, H.out.ok.step⟩, (Keeps.refl _ _).setCell (.inl rfl) _⟩
      rw [HRW.out, HR2.out]
      have := H.out.l.setLeft (D.left - 1)
      rw [show max (-1) (D.left - 1) = D.left - 1 by omega]
      exact this
    · have hr2 : D.stepD = D := by unfold Dk.stepD; rw [if_neg h0, if_neg h1]
      have HR := Lib.hid hr; have HR2 := Lib.hid hr2; clear hr hr2 h
      rw [show max (-1) D.left = -1 by omega] at c2
      clear h0
      go_enter Try.func56, Try.ntmps56
      go_wp2
      go_ret
      exact ⟨ret_int HR.out.symm, by rw [HR2.out]; exact H.out, Keeps.refl _ _⟩
end Go.Proofs.Ytdanhfanepmhkaa
