/- Sums of lists (plain law); three lists that are appended to in turn. -/
import Derived.Test.YtidojiegkdchpaaBd
namespace Go.Proofs.Ytidojiegkdchpaa
open Go.RowKit Go.Maps

def lsF (f : Nat → Int) (n : Nat) : List Int := (List.range n).map f
theorem lsF_len (f : Nat → Int) (n : Nat) : (lsF f n).length = n := by simp [lsF]
theorem lsF_succ (f : Nat → Int) (n : Nat) : lsF f (n + 1) = lsF f n ++ [f n] := by simp [lsF, List.range_succ]
theorem lsF_at (f : Nat → Int) {n k : Nat} (h : k < n) : (lsF f n)[k]? = some (f k) := by simp [lsF, h]
theorem lsF_mem {f : Nat → Int} {n : Nat} {x : Int} (h : x ∈ lsF f n) : ∃ k, k < n ∧ f k = x := by
  obtain ⟨k, hk, e⟩ := List.mem_map.1 h
  exact ⟨k, List.mem_range.1 hk, e⟩
theorem lsF_zip (f g : Nat → Int) (h : Int → Int → Int) (n : Nat) : lsF (fun k => h (f k) (g k)) n = List.zipWith h (lsF f n) (lsF g n) := by
  unfold lsF
  induction n with
  | zero => rfl
  | succ n ih => rw [List.range_succ, List.map_append, List.map_append, List.map_append, List.zipWith_append (by simp), ← ih]; rfl
theorem dotF_nil (vs : List Int) : dotF [] vs = 0 := by simp [dotF, prods]
theorem dotF_cons (x y : Int) (ws vs : List Int) : dotF (x :: ws) (y :: vs) = x * y + dotF ws vs := by simp [dotF, prods]
theorem dotF_add (m : Int) : ∀ ws us bs : List Int, us.length = ws.length → bs.length = ws.length → dotF ws (List.zipWith (fun a b => (a + b) % m) us bs) % m = (dotF ws us + dotF ws bs) % m
  | [], us, bs, _, _ => by simp [dotF_nil]
  | x :: ws, [], bs, h, _ => by simp at h
  | x :: ws, a :: us, [], _, h => by simp at h
  | x :: ws, a :: us, b :: bs, h1, h2 => by
    have ih := dotF_add m ws us bs (by simpa using h1) (by simpa using h2)
    have e : x * ((a + b) % m) % m = x * (a + b) % m := by rw [Int.mul_emod, Int.emod_emod, ← Int.mul_emod]
    rw [List.zipWith_cons_cons, dotF_cons, dotF_cons, dotF_cons, Int.add_emod, ih, e, ← Int.add_emod]
    congr 1
    rw [Int.mul_add]; omega
theorem errF_sch (l : List Int) (n : Int) : errF (schF l n) (modF n) = 0 := by
  have h1 := schF_len l n
  have h2 := modF_bd n
  unfold errF
  rw [if_neg (by omega), if_neg (by omega), if_neg]
  rw [Bool.not_eq_true, List.any_eq_false]
  intro x hx
  have := schF_bd l n x hx
  unfold badW
  simp; omega
theorem sum_good {ws vs : List Int} {m : Int} (h : errF ws m = 0) (hl : vs.length = ws.length) (hb : ∀ x, x ∈ vs → 0 ≤ x ∧ x < m) : sumV ws m vs = dotF ws vs % m ∧ sumE ws m vs = 0 := by
  have hb' : vs.any (badW m) = false := by
    rw [List.any_eq_false]
    intro x hx
    have := hb x hx
    unfold badW
    simp; omega
  unfold sumV sumE
  rw [h, hb']
  simp [hl]
theorem atF_bd (l : List Int) (i m : Int) (hm : 0 < m) : 0 ≤ atF l i m ∧ atF l i m < m := by
  unfold atF
  split
  · omega
  · split
    · exact around_bd _ _ hm
    · omega
theorem tmod_mod {a m : Int} (h : 0 ≤ a) : Int.tmod a m = a % m := Int.tmod_eq_emod_of_nonneg h

/-- three owned lists of ints, in different blocks -/
structure Own3 (base : Nat) (W : World) (va vb vc : Value) (na nb nc : Nat) (A B C : List Int) : Prop where
  a : W.ownsRow base 3 1 va na (ints A)
  b : W.ownsRow base 3 1 vb nb (ints B)
  c : W.ownsRow base 3 1 vc nc (ints C)
  ab : ∀ g, va.ownBlock = some g → vb.ownBlock ≠ some g
  ac : ∀ g, va.ownBlock = some g → vc.ownBlock ≠ some g
  bc : ∀ g, vb.ownBlock = some g → vc.ownBlock ≠ some g
theorem Own3.rot {base : Nat} {W : World} {va vb vc : Value} {na nb nc : Nat} {A B C : List Int} (h : Own3 base W va vb vc na nb nc A B C) : Own3 base W vb vc va nb nc na B C A :=
  ⟨h.b, h.c, h.a, h.bc, fun g e f => h.ab g f e, fun g e f => h.ac g f e⟩
theorem Own3.below {base : Nat} {W W' : World} {va vb vc : Value} {na nb nc : Nat} {A B C : List Int} (h : Own3 base W va vb vc na nb nc A B C) (hb : Below W.heap.size W W') : Own3 base W' va vb vc na nb nc A B C :=
  ⟨owns_below h.a hb, owns_below h.b hb, owns_below h.c hb, h.ab, h.ac, h.bc⟩
theorem owns_grown {base : Nat} {W W' : World} {e : TypeId} {s : Nat} {v : Value} {n : Nat} {xs : List Value} {row : Option Nat} (h : W.ownsRow base e s v n xs) (hg : W.grownBy W' row) (hd : ∀ g, v.ownBlock = some g → row ≠ some g) : W'.ownsRow base e s v n xs := by
  obtain ⟨h1, h2⟩ := h
  refine ⟨h1, ?_⟩
  rcases h2 with h2 | ⟨g, cap, cur, rfl, hb, hh, r⟩
  · exact .inl h2
  · refine .inr ⟨g, cap, cur, rfl, hb, ?_, r⟩
    have hlt : g < W.heap.size := (Array.getElem?_eq_some_iff.1 hh).1
    rw [hg.block g hlt (fun e => hd g rfl e.symm)]
    exact hh
theorem Own3.step {base : Nat} {W W1 W' : World} {va vb vc : Value} {na nb nc : Nat} {A B C : List Int} (h : Own3 base W va vb vc na nb nc A B C) (h1 : Below W.heap.size W W1) {g n cap : Nat} {z : Int}
    (ho : W'.ownsRow base 3 1 (.slice (some ⟨g, 0, none⟩) n cap) n (ints A ++ [.int .i64 z])) (hg : W1.grownBy W' va.ownBlock) (hat : va.ownBlock = some g ∨ g = W1.heap.size) :
    Own3 base W' (.slice (some ⟨g, 0, none⟩) n cap) vb vc n nb nc (A ++ [z]) B C := by
  have hk := h.below h1
  have fb : ∀ v : Value, (∀ g, va.ownBlock = some g → v.ownBlock ≠ some g) → (∀ j, v.ownBlock = some j → base ≤ j ∧ j < W1.heap.size) → ∀ g', (Value.slice (some ⟨g, 0, none⟩) n cap).ownBlock = some g' → v.ownBlock ≠ some g' := by
    intro v hv hl g' e f
    simp [Value.ownBlock] at e
    subst e
    rcases hat with e | e
    · exact hv g e f
    · have := (hl g f).2; omega
  refine ⟨?_, owns_grown hk.b hg (fun g e f => h.ab g f e), owns_grown hk.c hg (fun g e f => h.ac g f e), fb vb h.ab hk.b.lt, fb vc h.ac hk.c.lt, h.bc⟩
  have : ints (A ++ [z]) = ints A ++ [.int .i64 z] := by simp [ints]
  rw [this]; exact ho
theorem own_cell {base : Nat} {W : World} {L : List Int} {n g c k : Nat} {x : Int} (h : W.ownsRow base 3 1 (.slice (some ⟨g, 0, none⟩) n c) n (ints L)) (hx : L[k]? = some x) : W.cell? ⟨g, k, none⟩ = some (.int .i64 x) := by
  have := World.ownsRow.cells h (g := g) rfl k (.int .i64 x) (by unfold ints; rw [List.getElem?_map, hx]; rfl)
  have hadd : (⟨g, 0, none⟩ : Addr).add k = ⟨g, k, none⟩ := by unfold Addr.add; split <;> simp_all
  rw [hadd] at this
  exact this
theorem own_cells {base : Nat} {W : World} {fA fB : Nat → Int} {k ga gb ca cb : Nat} (h1 : W.ownsRow base 3 1 (.slice (some ⟨ga, 0, none⟩) (k + 1) ca) (k + 1) (ints (lsF fA (k + 1)))) (h2 : W.ownsRow base 3 1 (.slice (some ⟨gb, 0, none⟩) (k + 1) cb) (k + 1) (ints (lsF fB (k + 1)))) :
    W.cell? ⟨ga, k, none⟩ = some (.int .i64 (fA k)) ∧ W.cell? ⟨gb, k, none⟩ = some (.int .i64 (fB k)) :=
  ⟨own_cell h1 (lsF_at fA (Nat.lt_succ_self k)), own_cell h2 (lsF_at fB (Nat.lt_succ_self k))⟩
theorem Own3.stepF {base : Nat} {W W1 W' : World} {va vb vc : Value} {k nb nc : Nat} {f : Nat → Int} {B C : List Int} (h : Own3 base W va vb vc k nb nc (lsF f k) B C) (h1 : Below W.heap.size W W1) {g n cap : Nat} {z : Int} (hz : z = f k)
    (ho : W'.ownsRow base 3 1 (.slice (some ⟨g, 0, none⟩) n cap) n (ints (lsF f k) ++ [.int .i64 z])) (hg : W1.grownBy W' va.ownBlock) (hat : va.ownBlock = some g ∨ g = W1.heap.size) :
    Own3 base W' (.slice (some ⟨g, 0, none⟩) n cap) vb vc n nb nc (lsF f (k + 1)) B C := by
  have := h.step h1 ho hg hat
  rw [hz, ← lsF_succ] at this
  exact this
/-- a slice of ints that can be read -/
def IsL (W : World) (v : Value) : Prop := ∃ (p : Option Addr) (c : Nat) (L : List Int), v = .slice p L.length c ∧ RdI W v L
theorem IsL.below {W W' : World} {v : Value} (h : IsL W v) (hb : Below W.heap.size W W') : IsL W' v := by
  obtain ⟨p, c, L, e, r⟩ := h
  exact ⟨p, c, L, e, r.below hb⟩
theorem IsL.of {W : World} {v : Value} {L : List Int} (h : RdI W v L) : IsL W v := by
  obtain ⟨p, c, rfl, _⟩ := h.open
  exact ⟨p, c, L, rfl, h⟩
/-- four of them in one block -/
def Ls4 (W : World) (b : Nat) : Prop := b < W.heap.size ∧ ∀ k : Nat, k < 4 → ∃ v, W.cell? ⟨b, k, none⟩ = some v ∧ IsL W v
theorem Ls4.below {W W' : World} {b : Nat} (h : Ls4 W b) (hb : Below W.heap.size W W') : Ls4 W' b := by
  refine ⟨Nat.lt_of_lt_of_le h.1 hb.size, fun k hk => ?_⟩
  obtain ⟨v, hv, hl⟩ := h.2 k hk
  exact ⟨v, (hb.cell (p := ⟨b, k, none⟩) h.1).trans hv, hl.below hb⟩
theorem ls4_new {W : World} {v0 v1 v2 v3 : Value} (h0 : IsL W v0) (h1 : IsL W v1) (h2 : IsL W v2) (h3 : IsL W v3) : Ls4 (W.alloc (.cells #[v0, v1, v2, v3] 22)) W.heap.size := by
  have hb := (Below.refl W.heap.size W).alloc (Nat.le_refl _) (.cells #[v0, v1, v2, v3] 22)
  have B := Boxs.new W 22 #[v0, v1, v2, v3]
  refine ⟨B.lt, fun k hk => ?_⟩
  rcases k with _ | _ | _ | _ | k
  · exact ⟨v0, B.cell 0, h0.below hb⟩
  · exact ⟨v1, B.cell 1, h1.below hb⟩
  · exact ⟨v2, B.cell 2, h2.below hb⟩
  · exact ⟨v3, B.cell 3, h3.below hb⟩
  · omega
theorem isL_make (W : World) {Z : List Int} {n : Nat} (hz : Z.length = n) (hn : n ≤ 1000) : IsL (W.alloc (.cells (ints Z).toArray 3)) (.slice (some ⟨W.heap.size, 0, none⟩) n n) := by
  subst hz
  exact .of (rdI_new W Z hn)
theorem makes256 : ∃ Z : List Int, Z.length = 256 ∧ ∀ w : World, (Instr.makeSlice 22 (.int .i64 256) (.int .i64 256)).run Try.prog w = .ok (.slice (some ⟨w.heap.size, 0, none⟩) 256 256) (w.alloc (.cells (ints Z).toArray 3)) :=
  ⟨List.replicate 256 0, List.length_replicate, fun w => makeZ 22 Try.underlying22 256 (by omega) w⟩
theorem makes257 : ∃ Z : List Int, Z.length = 257 ∧ ∀ w : World, (Instr.makeSlice 22 (.int .i64 257) (.int .i64 257)).run Try.prog w = .ok (.slice (some ⟨w.heap.size, 0, none⟩) 257 257) (w.alloc (.cells (ints Z).toArray 3)) :=
  ⟨List.replicate 257 0, List.length_replicate, fun w => makeZ 22 Try.underlying22 257 (by omega) w⟩
def Is6 (W : World) (b : Nat) : Prop := b < W.heap.size ∧ ∀ k : Nat, k < 6 → ∃ m : Int, W.cell? ⟨b, k, none⟩ = some (.int .i64 m)
theorem Is6.below {W W' : World} {b : Nat} (h : Is6 W b) (hb : Below W.heap.size W W') : Is6 W' b := by
  refine ⟨Nat.lt_of_lt_of_le h.1 hb.size, fun k hk => ?_⟩
  obtain ⟨v, hv⟩ := h.2 k hk
  exact ⟨v, (hb.cell (p := ⟨b, k, none⟩) h.1).trans hv⟩
theorem is6_new (W : World) (m0 m1 m2 m3 m4 m5 : Int) : Is6 (W.alloc (.cells #[.int .i64 m0, .int .i64 m1, .int .i64 m2, .int .i64 m3, .int .i64 m4, .int .i64 m5] 3)) W.heap.size := by
  have B := Boxs.new W 3 #[.int .i64 m0, .int .i64 m1, .int .i64 m2, .int .i64 m3, .int .i64 m4, .int .i64 m5]
  refine ⟨B.lt, fun k hk => ?_⟩
  rcases k with _ | _ | _ | _ | _ | _ | k
  · exact ⟨m0, B.cell 0⟩
  · exact ⟨m1, B.cell 1⟩
  · exact ⟨m2, B.cell 2⟩
  · exact ⟨m3, B.cell 3⟩
  · exact ⟨m4, B.cell 4⟩
  · exact ⟨m5, B.cell 5⟩
  · omega
def Lds (W' : World) (b7 b8 b9 k1 k2 k3 : Nat) (v1 v2 : Value) (m3 : Int) : Prop := W'.cell? ⟨b7, k1, none⟩ = some v1 ∧ W'.cell? ⟨b9, k3, none⟩ = some (.int .i64 m3) ∧ W'.cell? ⟨b8, k2, none⟩ = some v2
theorem Lds.below {W W' : World} {b7 b8 b9 k1 k2 k3 : Nat} {v1 v2 : Value} {m3 : Int} (h : Lds W b7 b8 b9 k1 k2 k3 v1 v2 m3) (hb : Below W.heap.size W W') (l7 : b7 < W.heap.size) (l8 : b8 < W.heap.size) (l9 : b9 < W.heap.size) : Lds W' b7 b8 b9 k1 k2 k3 v1 v2 m3 :=
  ⟨(hb.cell (p := ⟨b7, k1, none⟩) l7).trans h.1, (hb.cell (p := ⟨b9, k3, none⟩) l9).trans h.2.1, (hb.cell (p := ⟨b8, k2, none⟩) l8).trans h.2.2⟩
end Go.Proofs.Ytidojiegkdchpaa
