/- The disk: Flush, Mount. -/
import Derived.Test.YtdanhfanepmhkaaDh
namespace Go.Proofs.Ytdanhfanepmhkaa
open Go.RowKit Go.Maps Go.Sort

/-- a slice that reads as cells, in a block of which G -/
def Rd (w : World) (G : Nat → Prop) (sz : Nat) (v : Value) (n : Nat) (cs : List Value) : Prop :=
  cs.length = n * sz ∧ ∃ a cap, v = .slice a n cap ∧ n ≤ cap ∧ cap ≤ 9223372036854775807 ∧
    (n = 0 ∨ ∃ b off, a = some ⟨b, off, none⟩ ∧ b < w.heap.size ∧ G b ∧ ∀ j u, cs[j]? = some u → w.cell? ⟨b, off + j, none⟩ = some u)
theorem Rd.keeps {w w' : World} {F G : Nat → Prop} {sz n : Nat} {v : Value} {cs : List Value} (h : Rd w G sz v n cs) (hk : Keeps F w w') (hF : ∀ b, b < w.heap.size → G b → ¬ F b) : Rd w' G sz v n cs := by
  obtain ⟨h1, a, cap, h2, h3, h4, h5⟩ := h
  refine ⟨h1, a, cap, h2, h3, h4, ?_⟩
  rcases h5 with h5 | ⟨b, off, h5, h6, h7, h8⟩
  · exact .inl h5
  · exact .inr ⟨b, off, h5, Nat.lt_of_lt_of_le h6 hk.size, h7, fun j u hu => (World.cell?_of_block (hk.block b h6 (hF b h6 h7))).trans (h8 j u hu)⟩
theorem Rd_of_owns {w : World} {base : Nat} {e : TypeId} {sz : Nat} {v : Value} {n : Nat} {cs : List Value} (h : w.ownsRow base e sz v n cs) : Rd w (fun b => base ≤ b) sz v n cs := by
  refine ⟨h.1, ?_⟩
  rcases h.2 with ⟨rfl, rfl⟩ | ⟨g, cap, cur, rfl, hb, hg, hn, hc, hs, ht⟩
  · exact ⟨none, 0, rfl, Nat.le_refl _, by omega, .inl rfl⟩
  · refine ⟨_, cap, rfl, hn, by unfold maxLen at hc; omega, .inr ⟨g, 0, rfl, (Array.getElem?_eq_some_iff.1 hg).1, hb, fun j u hu => ?_⟩⟩
    have := World.ownsRow.cells h (g := g) rfl j u hu
    have hadd : (⟨g, 0, none⟩ : Addr).add j = ⟨g, j, none⟩ := by unfold Addr.add; split <;> simp_all
    rw [hadd] at this
    rw [Nat.zero_add]; exact this
def ints (xs : List Int) : List Value := xs.map (.int .i64)
theorem Rd.int {w : World} {G : Nat → Prop} {v : Value} {xs : List Int} (h : Rd w G 1 v xs.length (ints xs)) : ∃ a cap, v = .slice a xs.length cap ∧ xs.length ≤ 9223372036854775807 ∧
    (∀ k x, xs[k]? = some x → ∃ b off, a = some ⟨b, off, none⟩ ∧ b < w.heap.size ∧ G b ∧ w.cell? ⟨b, off + k, none⟩ = some (.int .i64 x)) := by
  obtain ⟨h1, a, cap, h2, h3, h4, h5⟩ := h
  refine ⟨a, cap, h2, by omega, fun k x hk => ?_⟩
  rcases h5 with h5 | ⟨b, off, h5, h6, h7, h8⟩
  · have := (List.getElem?_eq_some_iff.1 hk).1; omega
  · exact ⟨b, off, h5, h6, h7, h8 k _ (by simp [ints, hk])⟩

def keysN (N : Nat) (P : Nat → Option ByteArray) : List Nat := (List.range N).filter fun k => (P k).isSome
theorem keysOf_pend (N : Nat) (P : Nat → Option ByteArray) : keysOf N (pendD P) = (keysN N P).map fun k : Nat => (k : Int) := by
  unfold keysOf keysN pendD
  simp
theorem keysN_mem {N : Nat} {P : Nat → Option ByteArray} {k : Nat} (h : k ∈ keysN N P) : k < N ∧ (P k).isSome = true := by
  unfold keysN at h
  obtain ⟨a, b⟩ := List.mem_filter.1 h
  exact ⟨List.mem_range.1 a, b⟩
theorem keysN_nodup (N : Nat) (P : Nat → Option ByteArray) : (keysN N P).Nodup := List.nodup_range.filter _
theorem keysN_len (N : Nat) (P : Nat → Option ByteArray) : (keysN N P).length ≤ N := by
  unfold keysN
  have := List.length_filter_le (fun k => (P k).isSome) (List.range N)
  simpa using this

/-- one after the other -/
def Dk.settles (D : Dk) (l : List (Nat × Int)) : Dk := l.foldl (fun D p => D.settle p.1 p.2) D
theorem settles_snoc (D : Dk) (l : List (Nat × Int)) (p : Nat × Int) : D.settles (l ++ [p]) = (D.settles l).settle p.1 p.2 := by
  unfold Dk.settles; rw [List.foldl_append]; rfl
theorem settle_len (D : Dk) (k : Nat) (n : Int) : (D.settle k n).S.length = D.S.length := by
  unfold Dk.settle; dsimp only; split <;> simp
theorem settles_len (D : Dk) (l : List (Nat × Int)) : (D.settles l).S.length = D.S.length := by
  induction l generalizing D with
  | nil => rfl
  | cons p r ih => exact (ih _).trans (settle_len D _ _)
theorem settles_P (D : Dk) (l : List (Nat × Int)) (k : Nat) (h : ∀ p, p ∈ l → p.1 ≠ k) : (D.settles l).P k = D.P k := by
  induction l generalizing D with
  | nil => rfl
  | cons p r ih =>
    refine (ih (D.settle p.1 p.2) fun q hq => h q (by simp [hq])).trans ?_
    have := h p (by simp)
    unfold Dk.settle
    simp [Ne.symm this]

def Dk.all64 (D : Dk) : List (Nat × Int) := (keysN D.S.length D.P).map fun k => (k, 64)
def Dk.flushE (D : Dk) : Int := if D.chk 0 ≠ 0 then D.chk 0 else D.stepE
def Dk.flushD (D : Dk) : Dk := if D.chk 0 ≠ 0 then D else if D.stepE ≠ 0 then D.stepD else D.stepD.settles D.stepD.all64

theorem take_succ_at {α : Type} {l : List α} {k : Nat} {x : α} (h : l[k]? = some x) : l.take (k + 1) = l.take k ++ [x] := by
  rw [List.take_add_one, h]; rfl

theorem elem_at {α : Type} {l : List α} {k : Nat} (h : k < l.length) : ∃ x, l[k]? = some x := ⟨_, List.getElem?_eq_getElem h⟩
theorem nodup_take {l : List Nat} (h : l.Nodup) {j k : Nat} (hk : l[j]? = some k) : ∀ x, x ∈ l.take j → x ≠ k := by
  intro x hx e
  subst e
  obtain ⟨hj, e⟩ := List.getElem?_eq_some_iff.1 hk
  obtain ⟨i, hi, e2⟩ := List.mem_iff_getElem.1 hx
  rw [List.length_take] at hi
  rw [List.getElem_take, ← e] at e2
  exact List.pairwise_iff_getElem.1 h i j (by omega) hj (by omega) e2

set_option maxRecDepth 100000 in
set_option maxHeartbeats 2000000 in
theorem flush_any (A : At) (D : Dk) (w : World) (h : DskAt w A D) :
    Calls Try.prog 25 #[.pointer (some ⟨A.d, 0, none⟩)] w fun e w' => e = .returned (.int .i64 D.flushE) ∧ DskAt w' A D.flushD ∧ Keeps A.F w w' := by
  have CH := check_any A D 0 w h
  have ST := step_any A D w h
  by_cases hc : D.chk 0 = 0
  · rw [hc] at CH
    by_cases hst : D.stepE = 0
    · have hr : D.flushE = 0 := by unfold Dk.flushE; rw [if_neg (by simp [hc]), hst]
      have hr2 : D.flushD = D.stepD.settles D.stepD.all64 := by unfold Dk.flushD; rw [if_neg (by simp [hc]), if_neg (by simp [hst])]
      rw [hst] at ST
      have HR := Lib.hid hr; have HR2 := Lib.hid hr2
      clear hr hr2 hc hst h
      generalize D.stepD = D1 at *
      go_enter Try.func25, Try.ntmps25
      go_wp2_with fail
      refine (CH).mono ?_
      rintro e w1 ⟨rfl, rfl⟩
      go_wp2_with fail
      refine (ST).mono ?_
      rintro e w1 ⟨rfl, hD, hK⟩
      go_wp2_with fail
      refine (pending_any A D1 _ hD).mono ?_
      rintro e w2 ⟨v, rfl, hrow, hb⟩
      rw [keysOf_pend] at hrow
      have R0 : Rd w2 (fun b => w1.heap.size ≤ b) 1 v (keysN D1.S.length D1.P).length (ints ((keysN D1.S.length D1.P).map fun k : Nat => (k : Int))) := by
        have := Rd_of_owns hrow
        rw [List.length_map] at this
        exact this
      have hlen := hD.len
      have hD2 := hD.keeps (Keeps.of_below (F := fun _ => False) hb) (fun _ _ h => h)
      have hK2 : Keeps A.F w w2 := hK.trans (Keeps.of_below hb)
      have hFl : ∀ b, A.F b → b < w1.heap.size := by
        rintro b (rfl | rfl | rfl | rfl)
        · exact hD.ltd
        · exact hD.blk.lt
        · exact hD.pend.lt
        · exact hD.worn.lt
      clear hrow hb hD hK CH ST
      obtain ⟨ks, hks⟩ : ∃ ks, ks = keysN D1.S.length D1.P := ⟨_, rfl⟩
      have hkl : ks.length ≤ 4096 := by rw [hks]; exact Nat.le_trans (keysN_len _ _) hlen
      rw [← hks] at R0
      obtain ⟨a, cap, rfl, _, hat⟩ := Rd.int (xs := ks.map fun k : Nat => (k : Int)) (by rw [List.length_map]; exact R0)
      rw [List.length_map]
      have HAT := Lib.hid hat; have HFL := Lib.hid hFl; have HK2 := Lib.hid hK2; have HD2 := Lib.hid hD2; have HKS := Lib.hid hks
      clear hat hFl hK2 hD2 R0 hks
      go_wp2_with fail
      go_loopw [6, 20] (fun x i wr => ∃ j : Nat, j ≤ ks.length ∧ i = .int .i64 j ∧ DskAt wr A (D1.settles ((ks.take j).map fun k => (k, 64))) ∧ Keeps A.F w2 wr) (fun _ i _ => ks.length - (intOf i).toNat)
      case atStart => exact ⟨0, Nat.zero_le _, rfl, HD2.out, Keeps.refl _ _⟩
      case round =>
        obtain ⟨j, hj, rfl, hd, hk⟩ := hrel
        by_cases hlt : j < ks.length
        · obtain ⟨k, hkk⟩ := elem_at hlt
          obtain ⟨b, off, rfl, hb1, hb2, hcell⟩ := HAT.out j k (by rw [List.getElem?_map, hkk]; rfl)
          have hc3 : wr.cell? ⟨b, off + j, none⟩ = some (.int .i64 k) := (World.cell?_of_block (hk.block b hb1 (fun e => by have := HFL.out b e; omega))).trans hcell
          obtain ⟨hkn, hks⟩ := keysN_mem (k := k) (by rw [← HKS.out]; exact List.mem_of_getElem? hkk)
          obtain ⟨s, hs⟩ := Option.isSome_iff_exists.1 hks
          have hP := (settles_P D1 ((ks.take j).map fun k => (k, (64 : Int))) k (by
            intro p hp
            obtain ⟨x, hx, rfl⟩ := List.mem_map.1 hp
            exact nodup_take (HKS.out ▸ keysN_nodup _ _) hkk x hx)).trans hs
          have SE := settle_any A _ k 64 wr hd (by rw [settles_len]; exact hkn) hP
          have HKK := Lib.hid hkk; have HK := Lib.hid hk
          clear hcell hkk hks hs hP hd hk hb1 hb2
          have hj0 : (0 : Int) ≤ (j : Int) := Int.natCast_nonneg _
          have hj1 : (j : Int) < (ks.length : Int) := by omega
          go_wp2_with fail
          refine (SE).mono ?_
          rintro e w4 ⟨rfl, hd4, hk4⟩
          clear SE
          have HD4 := Lib.hid hd4; have HK4 := Lib.hid hk4
          clear hd4 hk4
          go_wp2_with fail
          go_roundw
          case rel => exact ⟨j + 1, by omega, by go_num, by rw [take_succ_at HKK.out, List.map_append]; exact (settles_snoc _ _ _).symm ▸ HD4.out, HK.out.trans HK4.out⟩
          case measure => simp [intOf]; omega
        · have he : j = ks.length := by omega
          subst he
          have HD := Lib.hid hd; have HK := Lib.hid hk
          clear hd hk
          go_wp2_with fail
          go_ret
          refine ⟨ret_int HR.out.symm, ?_, HK2.out.trans HK.out⟩
          rw [HR2.out]
          have := HD.out
          rw [List.take_length, HKS.out] at this
          exact this
    · have hr : D.flushE = D.stepE := by unfold Dk.flushE; rw [if_neg (by simp [hc])]
      have hr2 : D.flushD = D.stepD := by unfold Dk.flushD; rw [if_neg (by simp [hc]), if_pos hst]
      have hb : (D.stepE != 0) = true := by simpa using hst
      have HR := Lib.hid hr; have HR2 := Lib.hid hr2
      clear hr hr2 hc hst h
      go_enter Try.func25, Try.ntmps25
      go_wp2_with fail
      refine (CH).mono ?_
      rintro e w1 ⟨rfl, rfl⟩
      go_wp2_with fail
      refine (ST).mono ?_
      rintro e w1 ⟨rfl, hD, hK⟩
      go_wp2_with fail
      go_ret
      exact ⟨ret_int HR.out.symm, by rw [HR2.out]; exact hD, hK⟩
  · have hr : D.flushE = D.chk 0 := by unfold Dk.flushE; rw [if_pos hc]
    have hr2 : D.flushD = D := by unfold Dk.flushD; rw [if_pos hc]
    have hb : (D.chk 0 != 0) = true := by simpa using hc
    have HR := Lib.hid hr; have HR2 := Lib.hid hr2; have H := Lib.hid h
    clear hr hr2 hc h
    go_enter Try.func25, Try.ntmps25
    go_wp2_with fail
    refine (CH).mono ?_
    rintro e w1 ⟨rfl, rfl⟩
    go_wp2_with fail
    go_ret
    exact ⟨ret_int HR.out.symm, by rw [HR2.out]; exact H.out, Keeps.refl _ _⟩
end Go.Proofs.Ytdanhfanepmhkaa
