/- The disk in memory. -/
import Derived.Test.YtdanhfanepmhkaaDa
namespace Go.Proofs.Ytdanhfanepmhkaa
open Go.RowKit Go.Maps

/-- a disk -/
structure Dk where
  S : List ByteArray
  P : Nat → Option ByteArray
  W : Nat → Bool
  off : Bool
  left : Int

/-- a block of cells -/
def Boxs (W : World) (B : Nat) (t : TypeId) (cs : Array Value) : Prop := W.heap[B]? = some (.cells cs t (0, 0))
theorem Boxs.lt {W : World} {B : Nat} {t : TypeId} {cs : Array Value} (h : Boxs W B t cs) : B < W.heap.size := (Array.getElem?_eq_some_iff.1 h).1
theorem Boxs.cell {W : World} {B : Nat} {t : TypeId} {cs : Array Value} (h : Boxs W B t cs) (o : Nat) : W.cell? ⟨B, o, none⟩ = cs[o]? := by simp [World.cell?, show W.heap[B]? = _ from h]
theorem Boxs.frozen {W : World} {B : Nat} {t : TypeId} {cs : Array Value} (h : Boxs W B t cs) (o : Nat) : W.frozen? ⟨B, o, none⟩ = false := by simp [World.frozen?, show W.heap[B]? = _ from h]
theorem Boxs.new (W : World) (t : TypeId) (cs : Array Value) : Boxs (W.alloc (.cells cs t)) W.heap.size t cs := heap_alloc_new W _
theorem Boxs.keeps {W W' : World} {F : Nat → Prop} {B : Nat} {t : TypeId} {cs : Array Value} (h : Boxs W B t cs) (hk : Keeps F W W') (hB : ¬ F B) : Boxs W' B t cs := (hk.block B h.lt hB).trans h
theorem Boxs.put {W : World} {B : Nat} {t : TypeId} {cs : Array Value} (h : Boxs W B t cs) (o : Nat) (u : Value) : Boxs (W.setCell ⟨B, o, none⟩ u) B t (cs.setIfInBounds o u) := by
  unfold Boxs at h ⊢
  simp [World.setCell, Array.getElem?_modify, h]

/-- the sectors, one behind the other, in a block -/
def Blk (w : World) (g : Nat) (S : List ByteArray) : Prop := ∃ C : Array Value, Boxs w g 74 C ∧ (∃ R, C.toList = S.flatMap bytesV ++ R) ∧ ∀ s, s ∈ S → s.size = 64
theorem Blk.lt {w : World} {g : Nat} {S : List ByteArray} (h : Blk w g S) : g < w.heap.size := by obtain ⟨C, h1, _⟩ := h; exact h1.lt
theorem Blk.keeps {W W' : World} {F : Nat → Prop} {g : Nat} {S : List ByteArray} (h : Blk W g S) (hk : Keeps F W W') (hB : ¬ F g) : Blk W' g S := by
  obtain ⟨C, h1, h2⟩ := h; exact ⟨C, h1.keeps hk hB, h2⟩

theorem flat64 (S : List ByteArray) (hS : ∀ s, s ∈ S → s.size = 64) (i j : Nat) (s : ByteArray) (hi : S[i]? = some s) (hj : j < 64) : (S.flatMap bytesV)[i * 64 + j]? = (bytesV s)[j]? := by
  induction S generalizing i with
  | nil => simp at hi
  | cons a r ih =>
    have ha : (bytesV a).length = 64 := by rw [bytesV_len]; exact hS a (by simp)
    cases i with
    | zero =>
      simp at hi; subst hi
      rw [List.flatMap_cons, List.getElem?_append_left (by omega)]; simp
    | succ i =>
      simp at hi
      rw [List.flatMap_cons, List.getElem?_append_right (by omega), ha]
      rw [← ih (fun s hs => hS s (by simp [hs])) i hi]
      congr 1; omega

theorem Blk.bytes {w : World} {g : Nat} {S : List ByteArray} (h : Blk w g S) {i : Nat} {s : ByteArray} (hi : S[i]? = some s) : Lib.Bytes w g (i * 64) s := by
  obtain ⟨C, h1, ⟨R, h2⟩, h3⟩ := h
  have hs := h3 s (List.mem_of_getElem? hi)
  intro j hj
  have hf := flat64 S h3 i j s hi (by omega)
  have hlt : i * 64 + j < (S.flatMap bytesV).length := by
    rcases Nat.lt_or_ge (i * 64 + j) (S.flatMap bytesV).length with h | h
    · exact h
    · rw [List.getElem?_eq_none h, List.getElem?_eq_getElem (by rw [bytesV_len]; exact hj)] at hf; cases hf
  rw [h1.cell, ← Array.getElem?_toList, h2, List.getElem?_append_left hlt, hf]
  unfold bytesV
  rw [List.getElem?_map, List.getElem?_eq_getElem (by simpa using hj)]
  simp [ByteArray.getElem_eq_getElem_data]

/-- where a disk lies: the struct, the sectors, the two maps -/
structure At where
  d : Nat
  g : Nat
  p : Nat
  w : Nat
  c : Nat
def At.F (A : At) (b : Nat) : Prop := b = A.d ∨ b = A.g ∨ b = A.p ∨ b = A.w
def pendD (P : Nat → Option ByteArray) (k : Nat) : Option (DataW Unit) := (P k).map fun s => .lit (.string s.data.toList)
def wornD (W : Nat → Bool) (k : Nat) : Option (DataW Unit) := if W k then some (.lit (.bool true)) else none

structure DskAt (w : World) (A : At) (D : Dk) : Prop where
  box : Boxs w A.d 71 #[.slice (some ⟨A.g, 0, none⟩) D.S.length A.c, .map (some A.p), .map (some A.w), .bool D.off, .int .i64 D.left]
  blk : Blk w A.g D.S
  pend : MapIs Rb w A.p D.S.length (pendD D.P)
  worn : MapIs (plainElem Try.prog 4) w A.w D.S.length (wornD D.W)
  pw : A.p ≠ A.w
  len : D.S.length ≤ 4096
  pos : 1 ≤ D.S.length
  psz : ∀ k s, D.P k = some s → s.size = 64
  lo : -9223372036854775808 ≤ D.left
  hi : D.left ≤ 9223372036854775807

theorem DskAt.dg {w : World} {A : At} {D : Dk} (h : DskAt w A D) : A.d ≠ A.g := fun e => by
  obtain ⟨C, h1, _⟩ := h.blk
  have := h.box; unfold Boxs at this h1
  rw [e, h1] at this; cases this
theorem heap_map {R : Value → Option (DataW Unit × List MemPlace)} {w : World} {b N : Nat} {f : Nat → Option (DataW Unit)} (h : MapIs R w b N f) {c : Nat} {t : TypeId} {cs : Array Value} (hc : Boxs w c t cs) : c ≠ b := fun e => by
  obtain ⟨D, ⟨n, es, clock, h1, _⟩, _⟩ := h
  unfold Boxs at hc
  rw [e, h1] at hc; cases hc
theorem DskAt.dp {w : World} {A : At} {D : Dk} (h : DskAt w A D) : A.d ≠ A.p := heap_map h.pend h.box
theorem DskAt.dw {w : World} {A : At} {D : Dk} (h : DskAt w A D) : A.d ≠ A.w := heap_map h.worn h.box
theorem DskAt.gp {w : World} {A : At} {D : Dk} (h : DskAt w A D) : A.g ≠ A.p := by obtain ⟨C, h1, _⟩ := h.blk; exact heap_map h.pend h1
theorem DskAt.gw {w : World} {A : At} {D : Dk} (h : DskAt w A D) : A.g ≠ A.w := by obtain ⟨C, h1, _⟩ := h.blk; exact heap_map h.worn h1
theorem DskAt.ltd {w : World} {A : At} {D : Dk} (h : DskAt w A D) : A.d < w.heap.size := h.box.lt
theorem DskAt.keeps {w w' : World} {F : Nat → Prop} {A : At} {D : Dk} (h : DskAt w A D) (hk : Keeps F w w') (hF : ∀ b, A.F b → ¬ F b) : DskAt w' A D :=
  ⟨h.box.keeps hk (hF _ (.inl rfl)), h.blk.keeps hk (hF _ (.inr (.inl rfl))), h.pend.keeps hk (hF _ (.inr (.inr (.inl rfl)))), h.worn.keeps hk (hF _ (.inr (.inr (.inr rfl)))), h.pw, h.len, h.pos, h.psz, h.lo, h.hi⟩

/-- what check answers -/
def Dk.chk (D : Dk) (i : Int) : Int := if D.off then 23 else if i < 0 ∨ (D.S.length : Int) ≤ i then 1 else 0
def Dk.stepE (D : Dk) : Int := if D.left = 0 then 23 else 0
def Dk.stepD (D : Dk) : Dk := if D.left = 0 then { D with off := true } else if 0 < D.left then { D with left := D.left - 1 } else D

set_option maxHeartbeats 400000 in
theorem check_any (A : At) (D : Dk) (i : Int) (w : World) (h : DskAt w A D) :
    Calls Try.prog 46 #[.pointer (some ⟨A.d, 0, none⟩), .int .i64 i] w fun e w' => e = .returned (.int .i64 (D.chk i)) ∧ w = w' := by
  have c0 := h.box.cell 0
  have c3 := h.box.cell 3
  have hl := h.len
  simp at c0 c3
  clear h
  cases ho : D.off
  · rw [ho] at c3
    by_cases h1 : i < 0
    · have hr : D.chk i = 1 := by unfold Dk.chk; rw [ho]; simp [h1]
      have HR := Lib.hid hr; clear hr ho
      go_enter Try.func46, Try.ntmps46
      go_wp2
      go_ret
      exact ⟨ret_int HR.out.symm, rfl⟩
    · by_cases h2 : (D.S.length : Int) ≤ i
      · have hr : D.chk i = 1 := by unfold Dk.chk; rw [ho]; simp [h2]
        have HR := Lib.hid hr; clear hr ho
        go_enter Try.func46, Try.ntmps46
        go_wp2
        go_ret
        exact ⟨ret_int HR.out.symm, rfl⟩
      · have hr : D.chk i = 0 := by unfold Dk.chk; rw [ho]; simp [h1, h2]
        have HR := Lib.hid hr; clear hr ho
        go_enter Try.func46, Try.ntmps46
        go_wp2
        go_ret
        exact ⟨ret_int HR.out.symm, rfl⟩
  · rw [ho] at c3
    have hr : D.chk i = 23 := by unfold Dk.chk; rw [ho]; simp
    have HR := Lib.hid hr; clear hr ho
    go_enter Try.func46, Try.ntmps46
    go_wp2
    go_ret
    exact ⟨ret_int HR.out.symm, rfl⟩

theorem DskAt.setOff {w : World} {A : At} {D : Dk} (h : DskAt w A D) (x : Bool) : DskAt (w.setCell ⟨A.d, 3, none⟩ (.bool x)) A { D with off := x } := by
  have hk : Keeps (fun b => b = A.d) w (w.setCell ⟨A.d, 3, none⟩ (.bool x)) := Keeps.setCell (F := fun b => b = A.d) (p := ⟨A.d, 3, none⟩) (Keeps.refl _ w) rfl _
  refine ⟨?_, h.blk.keeps hk (fun e => h.dg e.symm), h.pend.keeps hk (fun e => h.dp e.symm), h.worn.keeps hk (fun e => h.dw e.symm), h.pw, h.len, h.pos, h.psz, h.lo, h.hi⟩
  have := h.box.put 3 (.bool x)
  simpa using this
theorem DskAt.setLeft {w : World} {A : At} {D : Dk} (h : DskAt w A D) (x : Int) (h1 : -9223372036854775808 ≤ x) (h2 : x ≤ 9223372036854775807) : DskAt (w.setCell ⟨A.d, 4, none⟩ (.int .i64 x)) A { D with left := x } := by
  have hk : Keeps (fun b => b = A.d) w (w.setCell ⟨A.d, 4, none⟩ (.int .i64 x)) := Keeps.setCell (F := fun b => b = A.d) (p := ⟨A.d, 4, none⟩) (Keeps.refl _ w) rfl _
  refine ⟨?_, h.blk.keeps hk (fun e => h.dg e.symm), h.pend.keeps hk (fun e => h.dp e.symm), h.worn.keeps hk (fun e => h.dw e.symm), h.pw, h.len, h.pos, h.psz, h1, h2⟩
  have := h.box.put 4 (.int .i64 x)
  simpa using this

set_option maxHeartbeats 400000 in
theorem step_any (A : At) (D : Dk) (w : World) (h : DskAt w A D) :
    Calls Try.prog 47 #[.pointer (some ⟨A.d, 0, none⟩)] w fun e w' => e = .returned (.int .i64 D.stepE) ∧ DskAt w' A D.stepD ∧ Keeps A.F w w' := by
  have c3 := h.box.cell 3
  have c4 := h.box.cell 4
  have f3 := h.box.frozen 3
  have f4 := h.box.frozen 4
  simp at c3 c4
  have hlo := h.lo
  have hhi := h.hi
  have H := Lib.hid h
  by_cases h0 : D.left = 0
  · have hr : D.stepE = 23 := by unfold Dk.stepE; rw [if_pos h0]
    have hr2 : D.stepD = { D with off := true } := by unfold Dk.stepD; rw [if_pos h0]
    have HR := Lib.hid hr; have HR2 := Lib.hid hr2; clear hr hr2 h
    rw [h0] at c4
    clear h0
    go_enter Try.func47, Try.ntmps47
    go_wp2
    go_ret
    exact ⟨ret_int HR.out.symm, by rw [HR2.out]; exact H.out.setOff true, (Keeps.refl _ _).setCell (.inl rfl) _⟩
  · have hr : D.stepE = 0 := by unfold Dk.stepE; rw [if_neg h0]
    have hb : (D.left == 0) = false := by simpa using h0
    by_cases h1 : 0 < D.left
    · have hr2 : D.stepD = { D with left := D.left - 1 } := by unfold Dk.stepD; rw [if_neg h0, if_pos h1]
      have HR := Lib.hid hr; have HR2 := Lib.hid hr2; clear hr hr2 h h0
      go_enter Try.func47, Try.ntmps47
      go_wp2
      go_ret
      exact ⟨ret_int HR.out.symm, by rw [HR2.out]; exact H.out.setLeft _ (by omega) (by omega), (Keeps.refl _ _).setCell (.inl rfl) _⟩
    · have hr2 : D.stepD = D := by unfold Dk.stepD; rw [if_neg h0, if_neg h1]
      have HR := Lib.hid hr; have HR2 := Lib.hid hr2; clear hr hr2 h h0
      go_enter Try.func47, Try.ntmps47
      go_wp2
      go_ret
      exact ⟨ret_int HR.out.symm, by rw [HR2.out]; exact H.out, Keeps.refl _ _⟩
end Go.Proofs.Ytdanhfanepmhkaa
