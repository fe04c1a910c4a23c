/- The disk: Len, Up, Trip, Wear. -/
import Derived.Test.YtdanhfanepmhkaaDd
namespace Go.Proofs.Ytdanhfanepmhkaa
open Go.RowKit Go.Maps

set_option maxHeartbeats 400000 in
theorem len_any (A : At) (D : Dk) (w : World) (h : DskAt w A D) :
    Calls Try.prog 31 #[.pointer (some ⟨A.d, 0, none⟩)] w fun e w' => e = .returned (.int .i64 (D.S.length : Int)) ∧ w = w' := by
  have c0 := h.box.cell 0
  simp at c0
  clear h
  go_enter Try.func31, Try.ntmps31
  go_wp2
  go_ret
  exact ⟨rfl, rfl⟩

set_option maxHeartbeats 400000 in
theorem up_any (A : At) (D : Dk) (w : World) (h : DskAt w A D) :
    Calls Try.prog 27 #[.pointer (some ⟨A.d, 0, none⟩)] w fun e w' => e = .returned (.bool (!D.off)) ∧ w = w' := by
  have c3 := h.box.cell 3
  simp at c3
  clear h
  go_enter Try.func27, Try.ntmps27
  go_wp2
  go_ret
  exact ⟨rfl, rfl⟩

theorem At.fd (A : At) : A.F A.d := .inl rfl

set_option maxHeartbeats 400000 in
theorem trip_any (A : At) (D : Dk) (n : Int) (w : World) (h : DskAt w A D) (h1 : -9223372036854775808 ≤ n) (h2 : n ≤ 9223372036854775807) :
    Calls Try.prog 30 #[.pointer (some ⟨A.d, 0, none⟩), .int .i64 n] w fun e w' => e = .returned (.tuple #[]) ∧ DskAt w' A { D with left := n } ∧ Keeps A.F w w' := by
  have c4 := h.box.cell 4
  have f4 := h.box.frozen 4
  simp at c4
  have H := Lib.hid h
  clear h
  go_enter Try.func30, Try.ntmps30
  go_wp2
  go_end0
  exact ⟨rfl, H.out.setLeft _ h1 h2, (Keeps.refl _ _).setCell (.inl rfl) _⟩

theorem DskAt.setWorn {w w' : World} {A : At} {D : Dk} (h : DskAt w A D) {W : Nat → Bool} (hm : MapIs (plainElem Try.prog 4) w' A.w D.S.length (wornD W)) (hg : w.grownBy w' (some A.w)) : DskAt w' A { D with W := W } := by
  have hk : Keeps (fun b => b = A.w) w w' := Keeps.of_grown hg (fun i e => by cases e; rfl)
  exact ⟨h.box.keeps hk h.dw, h.blk.keeps hk h.gw, h.pend.keeps hk h.pw, hm, h.pw, h.len, h.pos, h.psz, h.lo, h.hi⟩
theorem DskAt.setPend {w w' : World} {A : At} {D : Dk} (h : DskAt w A D) {P : Nat → Option ByteArray} (hm : MapIs Rb w' A.p D.S.length (pendD P)) (hg : w.grownBy w' (some A.p)) (hP : ∀ k s, P k = some s → s.size = 64) : DskAt w' A { D with P := P } := by
  have hk : Keeps (fun b => b = A.p) w w' := Keeps.of_grown hg (fun i e => by cases e; rfl)
  exact ⟨h.box.keeps hk h.dp, h.blk.keeps hk h.gp, hm, h.worn.keeps hk (fun e => h.pw e.symm), h.pw, h.len, h.pos, hP, h.lo, h.hi⟩
theorem Keeps.mapW {A : At} {w w' : World} (hg : w.grownBy w' (some A.w)) : Keeps A.F w w' := Keeps.of_grown hg (fun i e => by cases e; exact .inr (.inr (.inr rfl)))
theorem Keeps.mapP {A : At} {w w' : World} (hg : w.grownBy w' (some A.p)) : Keeps A.F w w' := Keeps.of_grown hg (fun i e => by cases e; exact .inr (.inr (.inl rfl)))

def Dk.inB (D : Dk) (i : Int) : Bool := decide (0 ≤ i) && decide (i < D.S.length)
theorem inB_iff {D : Dk} {i : Int} : D.inB i = true ↔ 0 ≤ i ∧ i < D.S.length := by simp [Dk.inB]
def Dk.wear (D : Dk) (i : Int) : Dk := if D.inB i = true then { D with W := fun j => if j = i.toNat then true else D.W j } else D
def Dk.argE (D : Dk) (i : Int) : Int := if D.inB i = true then 0 else 1

theorem wornD_put (W : Nat → Bool) (k : Nat) : (fun j => if j = k then some (.lit (.bool true) : DataW Unit) else wornD W j) = wornD (fun j => if j = k then true else W j) := by
  funext j
  unfold wornD
  by_cases h : j = k <;> simp [h]

set_option maxHeartbeats 400000 in
theorem wear_any (A : At) (D : Dk) (i : Int) (w : World) (h : DskAt w A D) :
    Calls Try.prog 20 #[.pointer (some ⟨A.d, 0, none⟩), .int .i64 i] w fun e w' => e = .returned (.int .i64 (D.argE i)) ∧ DskAt w' A (D.wear i) ∧ Keeps A.F w w' := by
  have c0 := h.box.cell 0
  have c2 := h.box.cell 2
  simp at c0 c2
  have hlen := h.len
  have H := Lib.hid h
  by_cases hb : D.inB i = true
  · obtain ⟨h1, h2⟩ := inB_iff.1 hb
    obtain ⟨k, rfl⟩ : ∃ k : Nat, i = k := ⟨i.toNat, by omega⟩
    have hr : D.argE k = 0 := by unfold Dk.argE; rw [if_pos hb]
    have hr2 : D.wear k = { D with W := fun j => if j = k then true else D.W j } := by unfold Dk.wear; rw [if_pos hb]; rfl
    have HR := Lib.hid hr; have HR2 := Lib.hid hr2
    have hk : k < D.S.length := by omega
    clear hr hr2 hb h
    go_enter Try.func20, Try.ntmps20
    go_wp2_with (at_mapUpdate; refine wpMap_store _ Try.underlying69 rfl _ _ _ rfl A.w D.S.length (wornD D.W) rfl H.out.worn (by omega) k hk rfl (.bool true) rfl (.lit (.bool true)) [] (plainElem_bool Try.underlying4 true) ?_; intro w1 hm hg)
    go_ret
    rw [wornD_put] at hm
    exact ⟨ret_int HR.out.symm, by rw [HR2.out]; exact H.out.setWorn hm hg, Keeps.mapW hg⟩
  · have hr : D.argE i = 1 := by unfold Dk.argE; rw [if_neg hb]
    have hr2 : D.wear i = D := by unfold Dk.wear; rw [if_neg hb]
    have hb' : i < 0 ∨ (D.S.length : Int) ≤ i := by
      have := mt inB_iff.2 hb; omega
    have HR := Lib.hid hr; have HR2 := Lib.hid hr2
    clear hr hr2 hb h
    rcases hb' with h1 | h1
    · go_enter Try.func20, Try.ntmps20
      go_wp2
      go_ret
      exact ⟨ret_int HR.out.symm, by rw [HR2.out]; exact H.out, Keeps.refl _ _⟩
    · have h2 : ¬ i < 0 := by omega
      go_enter Try.func20, Try.ntmps20
      go_wp2
      go_ret
      exact ⟨ret_int HR.out.symm, by rw [HR2.out]; exact H.out, Keeps.refl _ _⟩
end Go.Proofs.Ytdanhfanepmhkaa
