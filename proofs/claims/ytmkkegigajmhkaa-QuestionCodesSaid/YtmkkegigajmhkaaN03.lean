/- slices.Equal; Twins, both. A slice of slices that the call made itself, each row in a block of its own. -/
import Derived.Test.YtmkkegigajmhkaaN02
set_option linter.unusedVariables false
namespace Go.Proofs.Ytmkkegigajmhkaa
open Go.RowKit Go.Maps

set_option maxHeartbeats 400000 in
theorem equal_any (v1 v2 : Value) (xs ys : List Int) (w : World) (h1 : RdI w v1 xs) (h2 : RdI w v2 ys) :
    Calls Try.prog 43 #[v1, v2] w fun e w' => e = .returned (.bool (decide (xs = ys))) ∧ Below w.heap.size w w' := by
  obtain ⟨a1, c1, rfl, l1, f1⟩ := h1.open
  obtain ⟨a2, c2, rfl, l2, f2⟩ := h2.open
  clear h1 h2
  by_cases hl : xs.length = ys.length
  · have hl' : (((xs.length : Nat) : Int) != ((ys.length : Nat) : Int)) = false := by rw [hl]; simp
    have HL := Lib.hid hl; clear hl
    have F1 := Lib.hid f1; have F2 := Lib.hid f2; clear f1 f2
    go_enter Try.func43, Try.ntmps43
    go_wp2
    go_loopw [13] (fun i wr => ∃ k : Nat, k ≤ xs.length ∧ i = .int .i64 k ∧ xs.take k = ys.take k ∧ ∃ nq, wr = w.drewN nq) (fun i _ => xs.length - (intOf i).toNat)
    case atStart => exact ⟨0, Nat.zero_le _, rfl, by simp, 0, rfl⟩
    case round =>
      obtain ⟨k, hk, rfl, he, nq, rfl⟩ := hrel
      have HE := Lib.hid he; clear he
      by_cases hlt : k < xs.length
      · obtain ⟨x, hx⟩ := elem_at hlt
        obtain ⟨y, hy⟩ := elem_at (show k < ys.length by rw [← HL.out]; exact hlt)
        obtain ⟨b1, o1, rfl, _, g1⟩ := F1.out k x hx
        obtain ⟨b2, o2, rfl, _, g2⟩ := F2.out k y hy
        have hlt2 : k < ys.length := by rw [← HL.out]; exact hlt
        have HX := Lib.hid hx; have HY := Lib.hid hy; clear hx hy
        by_cases hxy : x = y
        · subst hxy
          have hxy' : (x != x) = false := by simp
          go_wp2
          go_quiet (fail)
          go_wp2
          go_roundw
          case rel => exact ⟨k + 1, by omega, by go_num, take_same HE.out HX.out HY.out, _, rfl⟩
          case measure => simp [intOf]; omega
        · have hxy' : (x != y) = true := by simpa using hxy
          have hr : decide (xs = ys) = false := decide_eq_false (ne_at HX.out HY.out hxy)
          have HR := Lib.hid hr; clear hr
          go_wp2
          go_quiet (fail)
          go_wp2
          go_ret
          exact ⟨ret_bool (by rw [HR.out]), by repeat (first | exact Below.refl _ _ | refine Below.dn ?_ _)⟩
      · have hr : decide (xs = ys) = true := decide_eq_true (take_all HE.out (by omega) (by rw [← HL.out]; omega))
        have HR := Lib.hid hr; clear hr
        go_wp2
        go_ret
        exact ⟨ret_bool (by rw [HR.out]), by repeat (first | exact Below.refl _ _ | refine Below.dn ?_ _)⟩
  · have hl' : (((xs.length : Nat) : Int) != ((ys.length : Nat) : Int)) = true := by simp; omega
    have hr : decide (xs = ys) = false := decide_eq_false (fun e => hl (by rw [e]))
    have HR := Lib.hid hr; clear hr
    clear hl f1 f2
    go_enter Try.func43, Try.ntmps43
    go_wp2
    go_ret
    exact ⟨ret_bool (by rw [HR.out]), Below.refl _ _⟩

def clsAt (T : Tb) (i : Nat) : Int := T.cls[i]?.getD 0
def rowAt (T : Tb) (i : Nat) : List Int := T.rows[i]?.getD []
/-- two worlds are twins -/
def twB (T : Tb) (a b : Nat) : Bool := (clsAt T a != clsAt T b) && decide (rowAt T a = rowAt T b)
theorem clsAt_of {T : Tb} {i : Nat} {x : Int} (h : T.cls[i]? = some x) : clsAt T i = x := by unfold clsAt; rw [h]; rfl
theorem rowAt_of {T : Tb} {i : Nat} {x : List Int} (h : T.rows[i]? = some x) : rowAt T i = x := by unfold rowAt; rw [h]; rfl
structure TwHit (T : Tb) (a b : Nat) : Prop where
  ab : a < b
  bn : b < T.rows.length
  hit : twB T a b = true
  fst : ∀ a' b', a' < a → a' < b' → b' < T.rows.length → twB T a' b' = false
  snd : ∀ b', a < b' → b' < b → twB T a b' = false
/-- what Twins returns -/
inductive TwRes (T : Tb) : Int → Int → Bool → Prop
  | bad (h : validE T ≠ 0) : TwRes T 0 0 false
  | none (h : validE T = 0) (hn : ∀ a b, a < b → b < T.rows.length → twB T a b = false) : TwRes T 0 0 false
  | hit (h : validE T = 0) (a b : Nat) (hh : TwHit T a b) : TwRes T (a : Int) (b : Int) true
def TwOut (T : Tb) (e : Ending) : Prop := ∃ x y is, e = .returned (.tuple #[.agg #[.int .i64 x, .int .i64 y], .bool is]) ∧ TwRes T x y is
theorem TwHit.uniq {T : Tb} {a b c d : Nat} (h : TwHit T a b) (k : TwHit T c d) : a = c ∧ b = d := by
  have h1 : ¬ a < c := fun hl => by have := k.fst a b hl h.ab h.bn; rw [h.hit] at this; cases this
  have h2 : ¬ c < a := fun hl => by have := h.fst c d hl k.ab k.bn; rw [k.hit] at this; cases this
  have e : a = c := by omega
  subst e
  have h3 : ¬ b < d := fun hl => by have := k.snd b h.ab hl; rw [h.hit] at this; cases this
  have h4 : ¬ d < b := fun hl => by have := h.snd d k.ab hl; rw [k.hit] at this; cases this
  exact ⟨rfl, by omega⟩
theorem TwRes.uniq {T : Tb} {x y u v : Int} {p q : Bool} (h : TwRes T x y p) (k : TwRes T u v q) : x = u ∧ y = v ∧ p = q := by
  cases h with
  | bad h => cases k with
    | bad => exact ⟨rfl, rfl, rfl⟩
    | none => exact ⟨rfl, rfl, rfl⟩
    | hit h' => exact absurd h' h
  | none h hn => cases k with
    | bad => exact ⟨rfl, rfl, rfl⟩
    | none => exact ⟨rfl, rfl, rfl⟩
    | hit h' c d hh => have := hn c d hh.ab hh.bn; rw [hh.hit] at this; cases this
  | hit h a b hh => cases k with
    | bad h' => exact absurd h h'
    | none h' hn => have := hn a b hh.ab hh.bn; rw [hh.hit] at this; cases this
    | hit h' c d kk => obtain ⟨rfl, rfl⟩ := hh.uniq kk; exact ⟨rfl, rfl, rfl⟩
/-- two worlds of a boxed table -/
structure TwS (W : World) (B bk ok br or i j : Nat) (va vk ui uj : Value) (xi xj : Int) (ri rj : List Int) : Prop where
  ltB : B < W.heap.size
  ltk : bk < W.heap.size
  ltr : br < W.heap.size
  c0 : W.cell? ⟨B, 0, none⟩ = some va
  c2 : W.cell? ⟨B, 2, none⟩ = some vk
  ki : W.cell? ⟨bk, ok + i, none⟩ = some (.int .i64 xi)
  kj : W.cell? ⟨bk, ok + j, none⟩ = some (.int .i64 xj)
  li : W.cell? ⟨br, or + i, none⟩ = some ui
  lj : W.cell? ⟨br, or + j, none⟩ = some uj
  rdi : RdI W ui ri
  rdj : RdI W uj rj
theorem TwS.below {W W' : World} {B bk ok br or i j : Nat} {va vk ui uj : Value} {xi xj : Int} {ri rj : List Int} (h : TwS W B bk ok br or i j va vk ui uj xi xj ri rj) (hb : Below W.heap.size W W') : TwS W' B bk ok br or i j va vk ui uj xi xj ri rj :=
  ⟨Nat.lt_of_lt_of_le h.ltB hb.size, Nat.lt_of_lt_of_le h.ltk hb.size, Nat.lt_of_lt_of_le h.ltr hb.size, (hb.cell (p := ⟨B, 0, none⟩) h.ltB).trans h.c0, (hb.cell (p := ⟨B, 2, none⟩) h.ltB).trans h.c2, (hb.cell (p := ⟨bk, ok + i, none⟩) h.ltk).trans h.ki, (hb.cell (p := ⟨bk, ok + j, none⟩) h.ltk).trans h.kj, (hb.cell (p := ⟨br, or + i, none⟩) h.ltr).trans h.li, (hb.cell (p := ⟨br, or + j, none⟩) h.ltr).trans h.lj, h.rdi.below hb, h.rdj.below hb⟩
theorem rows_at {W : World} {a : Option Addr} {n c : Nat} {rows : List (List Int)} (h : RdR W (.slice a n c) rows) {k : Nat} {r : List Int} (hk : rows[k]? = some r) : ∃ b off u, a = some ⟨b, off, none⟩ ∧ b < W.heap.size ∧ W.cell? ⟨b, off + k, none⟩ = some u ∧ RdI W u r := by
  obtain ⟨a1, c1, e1, _, f1⟩ := h.open
  cases e1
  exact f1 k r hk
theorem ints_at {W : World} {a : Option Addr} {n c : Nat} {xs : List Int} (h : RdI W (.slice a n c) xs) {k : Nat} {x : Int} (hk : xs[k]? = some x) : ∃ b off, a = some ⟨b, off, none⟩ ∧ b < W.heap.size ∧ W.cell? ⟨b, off + k, none⟩ = some (.int .i64 x) := by
  obtain ⟨a1, c1, e1, _, f1⟩ := h.open
  cases e1
  exact f1 k x hk

theorem Boxs.below {W W' : World} {B : Nat} {t : TypeId} {cs : Array Value} (h : Boxs W B t cs) (hb : Below W.heap.size W W') : Boxs W' B t cs := (hb.block B h.lt).trans h
set_option maxRecDepth 100000 in
set_option maxHeartbeats 8000000 in
theorem twins_any (va vc vk : Value) (T : Tb) (w : World) (h : TbR w va vc vk T) :
    Calls Try.prog 13 #[.agg #[va, vc, vk]] w fun e w' => TwOut T e ∧ Below w.heap.size w w' := by
  obtain ⟨aa, ca, rfl⟩ := h.rows.form
  obtain ⟨ac, cc, rfl⟩ := h.costs.form
  obtain ⟨ak, ck, rfl⟩ := h.cls.form
  obtain ⟨x, hx⟩ : ∃ x, validE T = x := ⟨_, rfl⟩
  have V := fun (W : World) hW => valid_any (.slice aa T.rows.length ca) (.slice ac T.costs.length cc) (.slice ak T.cls.length ck) T W hW
  have HBT := Lib.hid ((BoxT.new h 33).below (alloc_below _ (.cells #[.int .i64 0, .int .i64 0] 30)))
  have HBX := Lib.hid ((alloc_below w (.cells #[.slice aa T.rows.length ca, .slice ac T.costs.length cc, .slice ak T.cls.length ck] 33)).alloc (by rw [World.size_alloc]; omega) (.cells #[.int .i64 0, .int .i64 0] 30))
  have HT2 := Lib.hid (show Boxs ((w.alloc (.cells #[.slice aa T.rows.length ca, .slice ac T.costs.length cc, .slice ak T.cls.length ck] 33)).alloc (.cells #[.int .i64 0, .int .i64 0] 30)) (w.heap.size + 1) 30 #[.int .i64 0, .int .i64 0] from by have := Boxs.new (w.alloc (.cells #[.slice aa T.rows.length ca, .slice ac T.costs.length cc, .slice ak T.cls.length ck] 33)) 30 #[.int .i64 0, .int .i64 0]; rwa [World.size_alloc] at this)
  rw [hx] at V
  have HX := Lib.hid hx
  clear h hx
  go_enter Try.func13, Try.ntmps13
  go_wp2_with fail
  obtain ⟨B2, hB2⟩ : ∃ B, w.heap.size + 1 = B := ⟨_, rfl⟩
  obtain ⟨B, hB⟩ : ∃ B, w.heap.size = B := ⟨_, rfl⟩
  have hBB : w.heap.size ≤ B2 := by omega
  rw [hB2] at HT2 ⊢
  rw [hB] at HBT ⊢
  clear hB2 hB
  generalize (w.alloc (.cells #[.slice aa T.rows.length ca, .slice ac T.costs.length cc, .slice ak T.cls.length ck] 33)).alloc (.cells #[.int .i64 0, .int .i64 0] 30) = w1 at *
  refine (V _ HBT.out.tb).mono ?_
  rintro e w2 ⟨rfl, hb1⟩
  have HBT := Lib.hid (HBT.out.below hb1); have HT2 := Lib.hid (HT2.out.below hb1); have HBX := Lib.hid (HBX.out.trans (hb1.mono HBX.out.size))
  clear hb1 V
  by_cases hv : x = 0
  · have hv' : (x != 0) = false := by simpa using hv
    subst hv
    have hr64 : T.rows.length ≤ 64 := ((okT_iff T).1 HX.out).r64
    have c0 := HBT.out.c0
    go_wp2_with fail
    clear c0
    go_loopw [13] (fun v wr => ∃ i : Nat, i ≤ T.rows.length ∧ v = .int .i64 i ∧ (∀ a' b', a' < i → a' < b' → b' < T.rows.length → twB T a' b' = false) ∧ Boxs wr B2 30 #[.int .i64 0, .int .i64 0] ∧ BoxT wr B (.slice aa T.rows.length ca) (.slice ac T.costs.length cc) (.slice ak T.cls.length ck) T ∧ Below w.heap.size w wr) (fun v _ => T.rows.length - (intOf v).toNat)
    case atStart => exact ⟨0, Nat.zero_le _, rfl, fun _ _ h => absurd h (Nat.not_lt_zero _), HT2.out, HBT.out, HBX.out⟩
    case round =>
      obtain ⟨i, hi, rfl, hno, ht2, hbt, hbl⟩ := hrel
      have hi0 : (0 : Int) ≤ (i : Int) := Int.natCast_nonneg _
      have HNO := Lib.hid hno
      have HT2 := Lib.hid ht2; have HBT := Lib.hid hbt; have HBL := Lib.hid hbl
      have c0 := hbt.c0
      clear hno ht2 hbl hbt
      by_cases hlt : i < T.rows.length
      · have hi1 : (i : Int) < (T.rows.length : Int) := by omega
        go_wp2_with fail
        clear c0
        obtain ⟨wo, hwo⟩ : ∃ wo, wo = wr := ⟨_, rfl⟩
        go_loopw [5] (fun v wr => ∃ j : Nat, i < j ∧ j ≤ T.rows.length ∧ v = .int .i64 j ∧ (∀ b', i < b' → b' < j → twB T i b' = false) ∧ Boxs wr B2 30 #[.int .i64 0, .int .i64 0] ∧ BoxT wr B (.slice aa T.rows.length ca) (.slice ac T.costs.length cc) (.slice ak T.cls.length ck) T ∧ Below w.heap.size w wr) (fun v _ => T.rows.length - (intOf v).toNat)
        case atStart => exact ⟨i + 1, by omega, by omega, by go_num, fun _ h1 h2 => by omega, HT2.out, HBT.out, HBL.out⟩
        case round =>
          obtain ⟨j, hij, hj, rfl, hn, ht2, hbt, hbl⟩ := hrel
          have hj0 : (0 : Int) ≤ (j : Int) := Int.natCast_nonneg _
          have HN := Lib.hid hn
          have HT2 := Lib.hid ht2; have HBL := Lib.hid hbl
          clear hn ht2 hbl
          by_cases hjl : j < T.rows.length
          · have hcl : T.cls.length = T.rows.length := ((okT_iff T).1 HX.out).kl
            obtain ⟨xi, hxi⟩ := elem_at (show i < T.cls.length by omega)
            obtain ⟨xj, hxj⟩ := elem_at (show j < T.cls.length by omega)
            obtain ⟨ri, hri⟩ := elem_at (show i < T.rows.length by omega)
            obtain ⟨rj, hrj⟩ := elem_at (show j < T.rows.length by omega)
            obtain ⟨bk, ok, rfl, hbk, qi⟩ := ints_at hbt.tb.cls hxi
            obtain ⟨bk', ok', e, _, qj⟩ := ints_at hbt.tb.cls hxj
            cases e
            obtain ⟨br, or, ui, rfl, hbr, li, hui⟩ := rows_at hbt.tb.rows hri
            obtain ⟨br', or', uj, e, _, lj, huj⟩ := rows_at hbt.tb.rows hrj
            cases e
            obtain ⟨ai, ci, rfl⟩ := hui.form
            obtain ⟨aj, cj, rfl⟩ := huj.form
            have GT := Lib.hid (show TwS wr B bk ok br or i j _ _ _ _ xi xj ri rj from ⟨hbt.lt, hbk, hbr, hbt.c0, hbt.c2, qi, qj, li, lj, hui, huj⟩)
            have c0 := hbt.c0
            have e1 := clsAt_of hxi; have e2 := clsAt_of hxj; have e3 := rowAt_of hri; have e4 := rowAt_of hrj
            have hi1 : (i : Int) < (T.cls.length : Int) := by omega
            have hj1 : (j : Int) < (T.cls.length : Int) := by omega
            have hi2 : (i : Int) < (T.rows.length : Int) := by omega
            have hj2 : (j : Int) < (T.rows.length : Int) := by omega
            have HBT := Lib.hid hbt
            obtain ⟨tw, htw⟩ : ∃ b, twB T i j = b := ⟨_, rfl⟩
            have HTW := Lib.hid htw
            unfold twB at htw
            rw [e1, e2, e3, e4] at htw
            clear hbt qi qj li lj hui huj hxi hxj hri hrj e1 e2 e3 e4
            by_cases hx : xi = xj
            · have hx' : (xi != xj) = false := by simpa using hx
              rw [hx'] at htw
              simp only [Bool.false_and] at htw
              clear hx
              subst htw
              go_wp2_with fail
              refine wp_region_held (S := fun W => TwS W B bk ok br or i j (.slice (some ⟨br, or, none⟩) T.rows.length ca) (.slice (some ⟨bk, ok, none⟩) T.cls.length ck) (.slice ai ri.length ci) (.slice aj rj.length cj) xi xj ri rj) (by kernel_rfl) ?_
              have hdr : (wr).drew = { wr with drawn := (wr).drawn + 1 } := rfl
              rw [← hdr]
              clear hdr
              have G1 := Lib.hid (GT.out.below (Below.dn (Below.refl wr.heap.size wr) 1))
              have HBY := Lib.hid (Below.dn HBL.out 1)
              refine wpAnyHTake 0 (some 25) (.pointer (some ⟨B, 2, none⟩)) rfl rfl (by kernel_rfl) (by kernel_rfl) (by kernel_rfl) (fun _ _ _ h => h) (by rfl) (fun _ _ => by go_simp) (G1.out) ?_
              simp only [Act.put, List.setIfInBounds_toArray, List.set_cons_zero, List.set_cons_succ]
              refine wpAnyHTake 1 (some 26) (.slice (some ⟨bk, ok, none⟩) T.cls.length ck) rfl rfl (by kernel_rfl) (by kernel_rfl) (by kernel_rfl) (fun _ _ _ h => h) (by rfl) (fun W hW => by obtain ⟨_, _, _, c0, c2, ki, kj, ri, rj, _, _⟩ := hW; go_simp) (G1.out) ?_
              simp only [Act.put, List.setIfInBounds_toArray, List.set_cons_zero, List.set_cons_succ]
              refine wpAnyHTake 2 (some 27) (.int .i64 (i : Int)) rfl rfl (by kernel_rfl) (by kernel_rfl) (by kernel_rfl) (fun _ _ _ h => h) (by rfl) (fun _ _ => by rfl) (G1.out) ?_
              simp only [Act.put, List.setIfInBounds_toArray, List.set_cons_zero, List.set_cons_succ]
              refine wpAnyHTake 3 (some 28) (.pointer (some ⟨bk, ok + i, none⟩)) rfl rfl (by kernel_rfl) (by kernel_rfl) (by kernel_rfl) (fun _ _ _ h => h) (by rfl) (fun _ _ => by go_simp) (G1.out) ?_
              simp only [Act.put, List.setIfInBounds_toArray, List.set_cons_zero, List.set_cons_succ]
              refine wpAnyHTake 4 (some 29) (.int .i64 xi) rfl rfl (by kernel_rfl) (by kernel_rfl) (by kernel_rfl) (fun _ _ _ h => h) (by rfl) (fun W hW => by obtain ⟨_, _, _, c0, c2, ki, kj, ri, rj, _, _⟩ := hW; go_simp) (G1.out) ?_
              simp only [Act.put, List.setIfInBounds_toArray, List.set_cons_zero, List.set_cons_succ]
              refine wpAnyHTake 5 (some 30) (.pointer (some ⟨B, 2, none⟩)) rfl rfl (by kernel_rfl) (by kernel_rfl) (by kernel_rfl) (fun _ _ _ h => h) (by rfl) (fun _ _ => by go_simp) (G1.out) ?_
              simp only [Act.put, List.setIfInBounds_toArray, List.set_cons_zero, List.set_cons_succ]
              refine wpAnyHTake 6 (some 31) (.slice (some ⟨bk, ok, none⟩) T.cls.length ck) rfl rfl (by kernel_rfl) (by kernel_rfl) (by kernel_rfl) (fun _ _ _ h => h) (by rfl) (fun W hW => by obtain ⟨_, _, _, c0, c2, ki, kj, ri, rj, _, _⟩ := hW; go_simp) (G1.out) ?_
              simp only [Act.put, List.setIfInBounds_toArray, List.set_cons_zero, List.set_cons_succ]
              refine wpAnyHTake 7 (some 32) (.int .i64 (j : Int)) rfl rfl (by kernel_rfl) (by kernel_rfl) (by kernel_rfl) (fun _ _ _ h => h) (by rfl) (fun _ _ => by rfl) (G1.out) ?_
              simp only [Act.put, List.setIfInBounds_toArray, List.set_cons_zero, List.set_cons_succ]
              refine wpAnyHTake 8 (some 33) (.pointer (some ⟨bk, ok + j, none⟩)) rfl rfl (by kernel_rfl) (by kernel_rfl) (by kernel_rfl) (fun _ _ _ h => h) (by rfl) (fun _ _ => by go_simp) (G1.out) ?_
              simp only [Act.put, List.setIfInBounds_toArray, List.set_cons_zero, List.set_cons_succ]
              refine wpAnyHTake 9 (some 34) (.int .i64 xj) rfl rfl (by kernel_rfl) (by kernel_rfl) (by kernel_rfl) (fun _ _ _ h => h) (by rfl) (fun W hW => by obtain ⟨_, _, _, c0, c2, ki, kj, ri, rj, _, _⟩ := hW; go_simp) (G1.out) ?_
              simp only [Act.put, List.setIfInBounds_toArray, List.set_cons_zero, List.set_cons_succ]
              refine wpAnyHTake 10 (some 35) (.bool false) rfl rfl (by kernel_rfl) (by kernel_rfl) (by kernel_rfl) (fun _ _ _ h => h) (by rfl) (fun _ _ => by go_simp) (G1.out) ?_
              simp only [Act.put, List.setIfInBounds_toArray, List.set_cons_zero, List.set_cons_succ]
              refine wpAnyHTake 11 (some 36) (.bool false) rfl rfl (by kernel_rfl) (by kernel_rfl) (by kernel_rfl) (fun _ _ _ h => h) (by rfl) (fun _ _ => by rfl) (G1.out) ?_
              simp only [Act.put, List.setIfInBounds_toArray, List.set_cons_zero, List.set_cons_succ]
              refine wpAnyHPass 12 (some 37) rfl rfl (by kernel_rfl) (by kernel_rfl) (by kernel_rfl) (fun _ _ _ h => h) (by rfl) (G1.out) ?_
              simp only [Act.put, List.setIfInBounds_toArray, List.set_cons_zero, List.set_cons_succ]
              refine wpAnyHPass 13 (some 38) rfl rfl (by kernel_rfl) (by kernel_rfl) (by kernel_rfl) (fun _ _ _ h => h) (by rfl) (G1.out) ?_
              simp only [Act.put, List.setIfInBounds_toArray, List.set_cons_zero, List.set_cons_succ]
              refine wpAnyHPass 14 (some 39) rfl rfl (by kernel_rfl) (by kernel_rfl) (by kernel_rfl) (fun _ _ _ h => h) (by rfl) (G1.out) ?_
              simp only [Act.put, List.setIfInBounds_toArray, List.set_cons_zero, List.set_cons_succ]
              refine wpAnyHPass 15 (some 40) rfl rfl (by kernel_rfl) (by kernel_rfl) (by kernel_rfl) (fun _ _ _ h => h) (by rfl) (G1.out) ?_
              simp only [Act.put, List.setIfInBounds_toArray, List.set_cons_zero, List.set_cons_succ]
              refine wpAnyHPass 16 (some 41) rfl rfl (by kernel_rfl) (by kernel_rfl) (by kernel_rfl) (fun _ _ _ h => h) (by rfl) (G1.out) ?_
              simp only [Act.put, List.setIfInBounds_toArray, List.set_cons_zero, List.set_cons_succ]
              refine wpAnyHPass 17 (some 42) rfl rfl (by kernel_rfl) (by kernel_rfl) (by kernel_rfl) (fun _ _ _ h => h) (by rfl) (G1.out) ?_
              simp only [Act.put, List.setIfInBounds_toArray, List.set_cons_zero, List.set_cons_succ]
              refine wpAnyHPass 18 (some 43) rfl rfl (by kernel_rfl) (by kernel_rfl) (by kernel_rfl) (fun _ _ _ h => h) (by rfl) (G1.out) ?_
              simp only [Act.put, List.setIfInBounds_toArray, List.set_cons_zero, List.set_cons_succ]
              refine wpAnyHPass 19 (some 44) rfl rfl (by kernel_rfl) (by kernel_rfl) (by kernel_rfl) (fun _ _ _ h => h) (by rfl) (G1.out) ?_
              simp only [Act.put, List.setIfInBounds_toArray, List.set_cons_zero, List.set_cons_succ]
              refine wpAnyHPass 20 (some 45) rfl rfl (by kernel_rfl) (by kernel_rfl) (by kernel_rfl) (fun _ _ _ h => h) (by rfl) (G1.out) ?_
              simp only [Act.put, List.setIfInBounds_toArray, List.set_cons_zero, List.set_cons_succ]
              refine wpAnyHPass 21 (some 46) rfl rfl (by kernel_rfl) (by kernel_rfl) (by kernel_rfl) (fun _ _ _ h => h) (by rfl) (G1.out) ?_
              simp only [Act.put, List.setIfInBounds_toArray, List.set_cons_zero, List.set_cons_succ]
              refine wpAnyHPass 22 (some 47) rfl rfl (by kernel_rfl) (by kernel_rfl) (by kernel_rfl) (fun _ _ _ h => h) (by rfl) (G1.out) ?_
              simp only [Act.put, List.setIfInBounds_toArray, List.set_cons_zero, List.set_cons_succ]
              refine wpAnyHTake 23 (some 48) (.bool false) rfl rfl (by kernel_rfl) (by kernel_rfl) (by kernel_rfl) (fun _ _ _ h => h) (by rfl) (fun _ _ => by go_simp) (G1.out) ?_
              simp only [Act.put, List.setIfInBounds_toArray, List.set_cons_zero, List.set_cons_succ]
              refine wpAnyH_done (by kernel_rfl) ?_ _
              go_wp2_with fail
              go_roundw
              case rel => exact ⟨j + 1, by omega, by omega, by go_num, fun b' h1 h2 => by rcases Nat.lt_or_ge b' j with h | h; exact HN.out b' h1 h; (obtain rfl : b' = j := by omega); exact HTW.out, HT2.out.below (Below.dn (Below.refl _ _) 1), HBT.out.below (Below.dn (Below.refl _ _) 1), HBY.out⟩
              case measure => simp [intOf]; omega
            · have hx' : (xi != xj) = true := by simpa using hx
              rw [hx'] at htw
              simp only [Bool.true_and] at htw
              clear hx
              have HEQ := Lib.hid htw
              cases tw
              · clear htw
                go_wp2_with fail
                refine wp_region_held (S := fun W => TwS W B bk ok br or i j (.slice (some ⟨br, or, none⟩) T.rows.length ca) (.slice (some ⟨bk, ok, none⟩) T.cls.length ck) (.slice ai ri.length ci) (.slice aj rj.length cj) xi xj ri rj) (by kernel_rfl) ?_
                have hdr : (wr).drew = { wr with drawn := (wr).drawn + 1 } := rfl
                rw [← hdr]
                clear hdr
                have G1 := Lib.hid (GT.out.below (Below.dn (Below.refl wr.heap.size wr) 1))
                have HBY := Lib.hid (Below.dn HBL.out 1)
                refine wpAnyHTake 0 (some 25) (.pointer (some ⟨B, 2, none⟩)) rfl rfl (by kernel_rfl) (by kernel_rfl) (by kernel_rfl) (fun _ _ _ h => h) (by rfl) (fun _ _ => by go_simp) (G1.out) ?_
                simp only [Act.put, List.setIfInBounds_toArray, List.set_cons_zero, List.set_cons_succ]
                refine wpAnyHTake 1 (some 26) (.slice (some ⟨bk, ok, none⟩) T.cls.length ck) rfl rfl (by kernel_rfl) (by kernel_rfl) (by kernel_rfl) (fun _ _ _ h => h) (by rfl) (fun W hW => by obtain ⟨_, _, _, c0, c2, ki, kj, ri, rj, _, _⟩ := hW; go_simp) (G1.out) ?_
                simp only [Act.put, List.setIfInBounds_toArray, List.set_cons_zero, List.set_cons_succ]
                refine wpAnyHTake 2 (some 27) (.int .i64 (i : Int)) rfl rfl (by kernel_rfl) (by kernel_rfl) (by kernel_rfl) (fun _ _ _ h => h) (by rfl) (fun _ _ => by rfl) (G1.out) ?_
                simp only [Act.put, List.setIfInBounds_toArray, List.set_cons_zero, List.set_cons_succ]
                refine wpAnyHTake 3 (some 28) (.pointer (some ⟨bk, ok + i, none⟩)) rfl rfl (by kernel_rfl) (by kernel_rfl) (by kernel_rfl) (fun _ _ _ h => h) (by rfl) (fun _ _ => by go_simp) (G1.out) ?_
                simp only [Act.put, List.setIfInBounds_toArray, List.set_cons_zero, List.set_cons_succ]
                refine wpAnyHTake 4 (some 29) (.int .i64 xi) rfl rfl (by kernel_rfl) (by kernel_rfl) (by kernel_rfl) (fun _ _ _ h => h) (by rfl) (fun W hW => by obtain ⟨_, _, _, c0, c2, ki, kj, ri, rj, _, _⟩ := hW; go_simp) (G1.out) ?_
                simp only [Act.put, List.setIfInBounds_toArray, List.set_cons_zero, List.set_cons_succ]
                refine wpAnyHTake 5 (some 30) (.pointer (some ⟨B, 2, none⟩)) rfl rfl (by kernel_rfl) (by kernel_rfl) (by kernel_rfl) (fun _ _ _ h => h) (by rfl) (fun _ _ => by go_simp) (G1.out) ?_
                simp only [Act.put, List.setIfInBounds_toArray, List.set_cons_zero, List.set_cons_succ]
                refine wpAnyHTake 6 (some 31) (.slice (some ⟨bk, ok, none⟩) T.cls.length ck) rfl rfl (by kernel_rfl) (by kernel_rfl) (by kernel_rfl) (fun _ _ _ h => h) (by rfl) (fun W hW => by obtain ⟨_, _, _, c0, c2, ki, kj, ri, rj, _, _⟩ := hW; go_simp) (G1.out) ?_
                simp only [Act.put, List.setIfInBounds_toArray, List.set_cons_zero, List.set_cons_succ]
                refine wpAnyHTake 7 (some 32) (.int .i64 (j : Int)) rfl rfl (by kernel_rfl) (by kernel_rfl) (by kernel_rfl) (fun _ _ _ h => h) (by rfl) (fun _ _ => by rfl) (G1.out) ?_
                simp only [Act.put, List.setIfInBounds_toArray, List.set_cons_zero, List.set_cons_succ]
                refine wpAnyHTake 8 (some 33) (.pointer (some ⟨bk, ok + j, none⟩)) rfl rfl (by kernel_rfl) (by kernel_rfl) (by kernel_rfl) (fun _ _ _ h => h) (by rfl) (fun _ _ => by go_simp) (G1.out) ?_
                simp only [Act.put, List.setIfInBounds_toArray, List.set_cons_zero, List.set_cons_succ]
                refine wpAnyHTake 9 (some 34) (.int .i64 xj) rfl rfl (by kernel_rfl) (by kernel_rfl) (by kernel_rfl) (fun _ _ _ h => h) (by rfl) (fun W hW => by obtain ⟨_, _, _, c0, c2, ki, kj, ri, rj, _, _⟩ := hW; go_simp) (G1.out) ?_
                simp only [Act.put, List.setIfInBounds_toArray, List.set_cons_zero, List.set_cons_succ]
                refine wpAnyHTake 10 (some 35) (.bool true) rfl rfl (by kernel_rfl) (by kernel_rfl) (by kernel_rfl) (fun _ _ _ h => h) (by rfl) (fun _ _ => by go_simp) (G1.out) ?_
                simp only [Act.put, List.setIfInBounds_toArray, List.set_cons_zero, List.set_cons_succ]
                refine wpAnyHTake 11 (some 36) (.bool true) rfl rfl (by kernel_rfl) (by kernel_rfl) (by kernel_rfl) (fun _ _ _ h => h) (by rfl) (fun _ _ => by rfl) (G1.out) ?_
                simp only [Act.put, List.setIfInBounds_toArray, List.set_cons_zero, List.set_cons_succ]
                refine wpAnyHTake 12 (some 37) (.pointer (some ⟨B, 0, none⟩)) rfl rfl (by kernel_rfl) (by kernel_rfl) (by kernel_rfl) (fun _ _ _ h => h) (by rfl) (fun _ _ => by go_simp) (G1.out) ?_
                simp only [Act.put, List.setIfInBounds_toArray, List.set_cons_zero, List.set_cons_succ]
                refine wpAnyHTake 13 (some 38) (.slice (some ⟨br, or, none⟩) T.rows.length ca) rfl rfl (by kernel_rfl) (by kernel_rfl) (by kernel_rfl) (fun _ _ _ h => h) (by rfl) (fun W hW => by obtain ⟨_, _, _, c0, c2, ki, kj, ri, rj, _, _⟩ := hW; go_simp) (G1.out) ?_
                simp only [Act.put, List.setIfInBounds_toArray, List.set_cons_zero, List.set_cons_succ]
                refine wpAnyHTake 14 (some 39) (.int .i64 (i : Int)) rfl rfl (by kernel_rfl) (by kernel_rfl) (by kernel_rfl) (fun _ _ _ h => h) (by rfl) (fun _ _ => by rfl) (G1.out) ?_
                simp only [Act.put, List.setIfInBounds_toArray, List.set_cons_zero, List.set_cons_succ]
                refine wpAnyHTake 15 (some 40) (.pointer (some ⟨br, or + i, none⟩)) rfl rfl (by kernel_rfl) (by kernel_rfl) (by kernel_rfl) (fun _ _ _ h => h) (by rfl) (fun _ _ => by go_simp) (G1.out) ?_
                simp only [Act.put, List.setIfInBounds_toArray, List.set_cons_zero, List.set_cons_succ]
                refine wpAnyHTake 16 (some 41) (.slice ai ri.length ci) rfl rfl (by kernel_rfl) (by kernel_rfl) (by kernel_rfl) (fun _ _ _ h => h) (by rfl) (fun W hW => by obtain ⟨_, _, _, c0, c2, ki, kj, ri, rj, _, _⟩ := hW; go_simp) (G1.out) ?_
                simp only [Act.put, List.setIfInBounds_toArray, List.set_cons_zero, List.set_cons_succ]
                refine wpAnyHTake 17 (some 42) (.pointer (some ⟨B, 0, none⟩)) rfl rfl (by kernel_rfl) (by kernel_rfl) (by kernel_rfl) (fun _ _ _ h => h) (by rfl) (fun _ _ => by go_simp) (G1.out) ?_
                simp only [Act.put, List.setIfInBounds_toArray, List.set_cons_zero, List.set_cons_succ]
                refine wpAnyHTake 18 (some 43) (.slice (some ⟨br, or, none⟩) T.rows.length ca) rfl rfl (by kernel_rfl) (by kernel_rfl) (by kernel_rfl) (fun _ _ _ h => h) (by rfl) (fun W hW => by obtain ⟨_, _, _, c0, c2, ki, kj, ri, rj, _, _⟩ := hW; go_simp) (G1.out) ?_
                simp only [Act.put, List.setIfInBounds_toArray, List.set_cons_zero, List.set_cons_succ]
                refine wpAnyHTake 19 (some 44) (.int .i64 (j : Int)) rfl rfl (by kernel_rfl) (by kernel_rfl) (by kernel_rfl) (fun _ _ _ h => h) (by rfl) (fun _ _ => by rfl) (G1.out) ?_
                simp only [Act.put, List.setIfInBounds_toArray, List.set_cons_zero, List.set_cons_succ]
                refine wpAnyHTake 20 (some 45) (.pointer (some ⟨br, or + j, none⟩)) rfl rfl (by kernel_rfl) (by kernel_rfl) (by kernel_rfl) (fun _ _ _ h => h) (by rfl) (fun _ _ => by go_simp) (G1.out) ?_
                simp only [Act.put, List.setIfInBounds_toArray, List.set_cons_zero, List.set_cons_succ]
                refine wpAnyHTake 21 (some 46) (.slice aj rj.length cj) rfl rfl (by kernel_rfl) (by kernel_rfl) (by kernel_rfl) (fun _ _ _ h => h) (by rfl) (fun W hW => by obtain ⟨_, _, _, c0, c2, ki, kj, ri, rj, _, _⟩ := hW; go_simp) (G1.out) ?_
                simp only [Act.put, List.setIfInBounds_toArray, List.set_cons_zero, List.set_cons_succ]
                refine wpAnyHCall 22 (some 47) 43 #[.slice ai ri.length ci, .slice aj rj.length cj] (by kernel_rfl) rfl rfl (by rfl) (by go_simp) (equal_any _ _ ri rj _ G1.out.rdi G1.out.rdj) ?_
                rintro e w2 ⟨rfl, hb9⟩
                have G2 := Lib.hid (G1.out.below hb9)
                have HBY := Lib.hid (HBY.out.trans (hb9.mono HBY.out.size))
                rw [HEQ.out]
                have hb9h := Lib.hid hb9
                clear hb9 G1
                refine ⟨_, rfl, G2.out, ?_⟩
                simp only [Act.put, List.setIfInBounds_toArray, List.set_cons_zero, List.set_cons_succ]
                refine wpAnyHTake 23 (some 48) (.bool false) rfl rfl (by kernel_rfl) (by kernel_rfl) (by kernel_rfl) (fun _ _ _ h => h) (by rfl) (fun _ _ => by go_simp) (G2.out) ?_
                simp only [Act.put, List.setIfInBounds_toArray, List.set_cons_zero, List.set_cons_succ]
                refine wpAnyH_done (by kernel_rfl) ?_ _
                go_wp2_with fail
                go_roundw
                case rel => exact ⟨j + 1, by omega, by omega, by go_num, fun b' h1 h2 => by rcases Nat.lt_or_ge b' j with h | h; exact HN.out b' h1 h; (obtain rfl : b' = j := by omega); exact HTW.out, (HT2.out.below (Below.dn (Below.refl _ _) 1)).below hb9h.out, (HBT.out.below (Below.dn (Below.refl _ _) 1)).below hb9h.out, HBY.out⟩
                case measure => simp [intOf]; omega
              · clear htw
                go_wp2_with fail
                refine wp_region_held (S := fun W => TwS W B bk ok br or i j (.slice (some ⟨br, or, none⟩) T.rows.length ca) (.slice (some ⟨bk, ok, none⟩) T.cls.length ck) (.slice ai ri.length ci) (.slice aj rj.length cj) xi xj ri rj) (by kernel_rfl) ?_
                have hdr : (wr).drew = { wr with drawn := (wr).drawn + 1 } := rfl
                rw [← hdr]
                clear hdr
                have G1 := Lib.hid (GT.out.below (Below.dn (Below.refl wr.heap.size wr) 1))
                have HBY := Lib.hid (Below.dn HBL.out 1)
                refine wpAnyHTake 0 (some 25) (.pointer (some ⟨B, 2, none⟩)) rfl rfl (by kernel_rfl) (by kernel_rfl) (by kernel_rfl) (fun _ _ _ h => h) (by rfl) (fun _ _ => by go_simp) (G1.out) ?_
                simp only [Act.put, List.setIfInBounds_toArray, List.set_cons_zero, List.set_cons_succ]
                refine wpAnyHTake 1 (some 26) (.slice (some ⟨bk, ok, none⟩) T.cls.length ck) rfl rfl (by kernel_rfl) (by kernel_rfl) (by kernel_rfl) (fun _ _ _ h => h) (by rfl) (fun W hW => by obtain ⟨_, _, _, c0, c2, ki, kj, ri, rj, _, _⟩ := hW; go_simp) (G1.out) ?_
                simp only [Act.put, List.setIfInBounds_toArray, List.set_cons_zero, List.set_cons_succ]
                refine wpAnyHTake 2 (some 27) (.int .i64 (i : Int)) rfl rfl (by kernel_rfl) (by kernel_rfl) (by kernel_rfl) (fun _ _ _ h => h) (by rfl) (fun _ _ => by rfl) (G1.out) ?_
                simp only [Act.put, List.setIfInBounds_toArray, List.set_cons_zero, List.set_cons_succ]
                refine wpAnyHTake 3 (some 28) (.pointer (some ⟨bk, ok + i, none⟩)) rfl rfl (by kernel_rfl) (by kernel_rfl) (by kernel_rfl) (fun _ _ _ h => h) (by rfl) (fun _ _ => by go_simp) (G1.out) ?_
                simp only [Act.put, List.setIfInBounds_toArray, List.set_cons_zero, List.set_cons_succ]
                refine wpAnyHTake 4 (some 29) (.int .i64 xi) rfl rfl (by kernel_rfl) (by kernel_rfl) (by kernel_rfl) (fun _ _ _ h => h) (by rfl) (fun W hW => by obtain ⟨_, _, _, c0, c2, ki, kj, ri, rj, _, _⟩ := hW; go_simp) (G1.out) ?_
                simp only [Act.put, List.setIfInBounds_toArray, List.set_cons_zero, List.set_cons_succ]
                refine wpAnyHTake 5 (some 30) (.pointer (some ⟨B, 2, none⟩)) rfl rfl (by kernel_rfl) (by kernel_rfl) (by kernel_rfl) (fun _ _ _ h => h) (by rfl) (fun _ _ => by go_simp) (G1.out) ?_
                simp only [Act.put, List.setIfInBounds_toArray, List.set_cons_zero, List.set_cons_succ]
                refine wpAnyHTake 6 (some 31) (.slice (some ⟨bk, ok, none⟩) T.cls.length ck) rfl rfl (by kernel_rfl) (by kernel_rfl) (by kernel_rfl) (fun _ _ _ h => h) (by rfl) (fun W hW => by obtain ⟨_, _, _, c0, c2, ki, kj, ri, rj, _, _⟩ := hW; go_simp) (G1.out) ?_
                simp only [Act.put, List.setIfInBounds_toArray, List.set_cons_zero, List.set_cons_succ]
                refine wpAnyHTake 7 (some 32) (.int .i64 (j : Int)) rfl rfl (by kernel_rfl) (by kernel_rfl) (by kernel_rfl) (fun _ _ _ h => h) (by rfl) (fun _ _ => by rfl) (G1.out) ?_
                simp only [Act.put, List.setIfInBounds_toArray, List.set_cons_zero, List.set_cons_succ]
                refine wpAnyHTake 8 (some 33) (.pointer (some ⟨bk, ok + j, none⟩)) rfl rfl (by kernel_rfl) (by kernel_rfl) (by kernel_rfl) (fun _ _ _ h => h) (by rfl) (fun _ _ => by go_simp) (G1.out) ?_
                simp only [Act.put, List.setIfInBounds_toArray, List.set_cons_zero, List.set_cons_succ]
                refine wpAnyHTake 9 (some 34) (.int .i64 xj) rfl rfl (by kernel_rfl) (by kernel_rfl) (by kernel_rfl) (fun _ _ _ h => h) (by rfl) (fun W hW => by obtain ⟨_, _, _, c0, c2, ki, kj, ri, rj, _, _⟩ := hW; go_simp) (G1.out) ?_
                simp only [Act.put, List.setIfInBounds_toArray, List.set_cons_zero, List.set_cons_succ]
                refine wpAnyHTake 10 (some 35) (.bool true) rfl rfl (by kernel_rfl) (by kernel_rfl) (by kernel_rfl) (fun _ _ _ h => h) (by rfl) (fun _ _ => by go_simp) (G1.out) ?_
                simp only [Act.put, List.setIfInBounds_toArray, List.set_cons_zero, List.set_cons_succ]
                refine wpAnyHTake 11 (some 36) (.bool true) rfl rfl (by kernel_rfl) (by kernel_rfl) (by kernel_rfl) (fun _ _ _ h => h) (by rfl) (fun _ _ => by rfl) (G1.out) ?_
                simp only [Act.put, List.setIfInBounds_toArray, List.set_cons_zero, List.set_cons_succ]
                refine wpAnyHTake 12 (some 37) (.pointer (some ⟨B, 0, none⟩)) rfl rfl (by kernel_rfl) (by kernel_rfl) (by kernel_rfl) (fun _ _ _ h => h) (by rfl) (fun _ _ => by go_simp) (G1.out) ?_
                simp only [Act.put, List.setIfInBounds_toArray, List.set_cons_zero, List.set_cons_succ]
                refine wpAnyHTake 13 (some 38) (.slice (some ⟨br, or, none⟩) T.rows.length ca) rfl rfl (by kernel_rfl) (by kernel_rfl) (by kernel_rfl) (fun _ _ _ h => h) (by rfl) (fun W hW => by obtain ⟨_, _, _, c0, c2, ki, kj, ri, rj, _, _⟩ := hW; go_simp) (G1.out) ?_
                simp only [Act.put, List.setIfInBounds_toArray, List.set_cons_zero, List.set_cons_succ]
                refine wpAnyHTake 14 (some 39) (.int .i64 (i : Int)) rfl rfl (by kernel_rfl) (by kernel_rfl) (by kernel_rfl) (fun _ _ _ h => h) (by rfl) (fun _ _ => by rfl) (G1.out) ?_
                simp only [Act.put, List.setIfInBounds_toArray, List.set_cons_zero, List.set_cons_succ]
                refine wpAnyHTake 15 (some 40) (.pointer (some ⟨br, or + i, none⟩)) rfl rfl (by kernel_rfl) (by kernel_rfl) (by kernel_rfl) (fun _ _ _ h => h) (by rfl) (fun _ _ => by go_simp) (G1.out) ?_
                simp only [Act.put, List.setIfInBounds_toArray, List.set_cons_zero, List.set_cons_succ]
                refine wpAnyHTake 16 (some 41) (.slice ai ri.length ci) rfl rfl (by kernel_rfl) (by kernel_rfl) (by kernel_rfl) (fun _ _ _ h => h) (by rfl) (fun W hW => by obtain ⟨_, _, _, c0, c2, ki, kj, ri, rj, _, _⟩ := hW; go_simp) (G1.out) ?_
                simp only [Act.put, List.setIfInBounds_toArray, List.set_cons_zero, List.set_cons_succ]
                refine wpAnyHTake 17 (some 42) (.pointer (some ⟨B, 0, none⟩)) rfl rfl (by kernel_rfl) (by kernel_rfl) (by kernel_rfl) (fun _ _ _ h => h) (by rfl) (fun _ _ => by go_simp) (G1.out) ?_
                simp only [Act.put, List.setIfInBounds_toArray, List.set_cons_zero, List.set_cons_succ]
                refine wpAnyHTake 18 (some 43) (.slice (some ⟨br, or, none⟩) T.rows.length ca) rfl rfl (by kernel_rfl) (by kernel_rfl) (by kernel_rfl) (fun _ _ _ h => h) (by rfl) (fun W hW => by obtain ⟨_, _, _, c0, c2, ki, kj, ri, rj, _, _⟩ := hW; go_simp) (G1.out) ?_
                simp only [Act.put, List.setIfInBounds_toArray, List.set_cons_zero, List.set_cons_succ]
                refine wpAnyHTake 19 (some 44) (.int .i64 (j : Int)) rfl rfl (by kernel_rfl) (by kernel_rfl) (by kernel_rfl) (fun _ _ _ h => h) (by rfl) (fun _ _ => by rfl) (G1.out) ?_
                simp only [Act.put, List.setIfInBounds_toArray, List.set_cons_zero, List.set_cons_succ]
                refine wpAnyHTake 20 (some 45) (.pointer (some ⟨br, or + j, none⟩)) rfl rfl (by kernel_rfl) (by kernel_rfl) (by kernel_rfl) (fun _ _ _ h => h) (by rfl) (fun _ _ => by go_simp) (G1.out) ?_
                simp only [Act.put, List.setIfInBounds_toArray, List.set_cons_zero, List.set_cons_succ]
                refine wpAnyHTake 21 (some 46) (.slice aj rj.length cj) rfl rfl (by kernel_rfl) (by kernel_rfl) (by kernel_rfl) (fun _ _ _ h => h) (by rfl) (fun W hW => by obtain ⟨_, _, _, c0, c2, ki, kj, ri, rj, _, _⟩ := hW; go_simp) (G1.out) ?_
                simp only [Act.put, List.setIfInBounds_toArray, List.set_cons_zero, List.set_cons_succ]
                refine wpAnyHCall 22 (some 47) 43 #[.slice ai ri.length ci, .slice aj rj.length cj] (by kernel_rfl) rfl rfl (by rfl) (by go_simp) (equal_any _ _ ri rj _ G1.out.rdi G1.out.rdj) ?_
                rintro e w2 ⟨rfl, hb9⟩
                have G2 := Lib.hid (G1.out.below hb9)
                have HBY := Lib.hid (HBY.out.trans (hb9.mono HBY.out.size))
                rw [HEQ.out]
                have hb9h := Lib.hid hb9
                clear hb9 G1
                refine ⟨_, rfl, G2.out, ?_⟩
                simp only [Act.put, List.setIfInBounds_toArray, List.set_cons_zero, List.set_cons_succ]
                refine wpAnyHTake 23 (some 48) (.bool true) rfl rfl (by kernel_rfl) (by kernel_rfl) (by kernel_rfl) (fun _ _ _ h => h) (by rfl) (fun _ _ => by go_simp) (G2.out) ?_
                simp only [Act.put, List.setIfInBounds_toArray, List.set_cons_zero, List.set_cons_succ]
                refine wpAnyH_done (by kernel_rfl) ?_ _
                have HT2 := Lib.hid ((HT2.out.below (Below.dn (Below.refl _ _) 1)).below hb9h.out)
                have z0 := HT2.out.cell 0
                have z1 := HT2.out.cell 1
                have y0 := HT2.out.frozen 0
                have y1 := HT2.out.frozen 1
                have HB2lt := HT2.out.lt
                simp at z0 z1
                go_wp2_with fail
                have hbx := (HT2.out.put 0 (.int .i64 (i : Int))).put 1 (.int .i64 (j : Int))
                have e0 := hbx.cell 0
                have e1 := hbx.cell 1
                simp at e0 e1
                refine bodyPost_ret (v := .tuple #[.agg #[.int .i64 (i : Int), .int .i64 (j : Int)], .bool true]) ?_ rfl ⟨⟨_, _, _, rfl, .hit HX.out i j ⟨by omega, by omega, HTW.out, HNO.out, HN.out⟩⟩, ((HBY.out).setCell (p := ⟨B2, 0, none⟩) hBB _).setCell (p := ⟨B2, 1, none⟩) hBB _⟩
                simp only [results, Try.results13]
                simp [go_sem, e0, e1]
          · have hj1 : ¬ (j : Int) < (T.rows.length : Int) := by omega
            have c0 := hbt.c0
            have HBT := Lib.hid hbt
            clear hbt
            go_wp2_with fail
            go_roundw
            case rel => exact ⟨i + 1, by omega, by go_num, fun a' b' h1 h2 h3 => by rcases Nat.lt_or_ge a' i with h | h; exact HNO.out a' b' h h2 h3; (obtain rfl : a' = i := by omega); exact HN.out b' h2 (by omega), HT2.out, HBT.out, HBL.out⟩
            case measure => simp [intOf]; omega
      · have hi1 : ¬ (i : Int) < (T.rows.length : Int) := by omega
        have z0 := HT2.out.cell 0
        have z1 := HT2.out.cell 1
        have y0 := HT2.out.frozen 0
        have y1 := HT2.out.frozen 1
        have HB2lt := HT2.out.lt
        simp at z0 z1
        go_wp2_with fail
        have hbx := (HT2.out.put 0 (.int .i64 (0 : Int))).put 1 (.int .i64 (0 : Int))
        have e0 := hbx.cell 0
        have e1 := hbx.cell 1
        simp at e0 e1
        refine bodyPost_ret (v := .tuple #[.agg #[.int .i64 (0 : Int), .int .i64 (0 : Int)], .bool false]) ?_ rfl ⟨⟨_, _, _, rfl, .none HX.out (fun a b h1 h2 => HNO.out a b (by omega) h1 h2)⟩, ((HBL.out).setCell (p := ⟨B2, 0, none⟩) hBB _).setCell (p := ⟨B2, 1, none⟩) hBB _⟩
        simp only [results, Try.results13]
        simp [go_sem, e0, e1]
  · have hv' : (x != 0) = true := by simpa using hv
    have z0 := HT2.out.cell 0
    have z1 := HT2.out.cell 1
    have y0 := HT2.out.frozen 0
    have y1 := HT2.out.frozen 1
    have HB2lt := HT2.out.lt
    simp at z0 z1
    go_wp2_with fail
    have hbx := (HT2.out.put 0 (.int .i64 (0 : Int))).put 1 (.int .i64 (0 : Int))
    have e0 := hbx.cell 0
    have e1 := hbx.cell 1
    simp at e0 e1
    refine bodyPost_ret (v := .tuple #[.agg #[.int .i64 (0 : Int), .int .i64 (0 : Int)], .bool false]) ?_ rfl ⟨⟨_, _, _, rfl, .bad (by rw [HX.out]; exact hv)⟩, ((HBX.out).setCell (p := ⟨B2, 0, none⟩) hBB _).setCell (p := ⟨B2, 1, none⟩) hBB _⟩
    simp only [results, Try.results13]
    simp [go_sem, e0, e1]

theorem Boxs.below_ {W W' : World} {B : Nat} {t : TypeId} {cs : Array Value} (h : Boxs W B t cs) (hb : Below W.heap.size W W') : Boxs W' B t cs := (hb.block B h.lt).trans h
set_option maxRecDepth 100000 in
set_option maxHeartbeats 8000000 in
theorem rtwins_any (va vc vk : Value) (T : Tb) (w : World) (h : TbR w va vc vk T) :
    Calls Try.prog 15 #[.agg #[va, vc, vk]] w fun e w' => TwOut T e ∧ Below w.heap.size w w' := by
  obtain ⟨aa, ca, rfl⟩ := h.rows.form
  obtain ⟨ac, cc, rfl⟩ := h.costs.form
  obtain ⟨ak, ck, rfl⟩ := h.cls.form
  obtain ⟨x, hx⟩ : ∃ x, validE T = x := ⟨_, rfl⟩
  have V := fun (W : World) hW => rvalid_any (.slice aa T.rows.length ca) (.slice ac T.costs.length cc) (.slice ak T.cls.length ck) T W hW
  have HBT := Lib.hid ((BoxT.new h 25).below (alloc_below _ (.cells #[.int .i64 0, .int .i64 0] 30)))
  have HBX := Lib.hid ((alloc_below w (.cells #[.slice aa T.rows.length ca, .slice ac T.costs.length cc, .slice ak T.cls.length ck] 25)).alloc (by rw [World.size_alloc]; omega) (.cells #[.int .i64 0, .int .i64 0] 30))
  have HT2 := Lib.hid (show Boxs ((w.alloc (.cells #[.slice aa T.rows.length ca, .slice ac T.costs.length cc, .slice ak T.cls.length ck] 25)).alloc (.cells #[.int .i64 0, .int .i64 0] 30)) (w.heap.size + 1) 30 #[.int .i64 0, .int .i64 0] from by have := Boxs.new (w.alloc (.cells #[.slice aa T.rows.length ca, .slice ac T.costs.length cc, .slice ak T.cls.length ck] 25)) 30 #[.int .i64 0, .int .i64 0]; rwa [World.size_alloc] at this)
  rw [hx] at V
  have HX := Lib.hid hx
  clear h hx
  go_enter Try.func15, Try.ntmps15
  go_wp2_with fail
  obtain ⟨B2, hB2⟩ : ∃ B, w.heap.size + 1 = B := ⟨_, rfl⟩
  obtain ⟨B, hB⟩ : ∃ B, w.heap.size = B := ⟨_, rfl⟩
  have hBB : w.heap.size ≤ B2 := by omega
  rw [hB2] at HT2 ⊢
  rw [hB] at HBT ⊢
  clear hB2 hB
  generalize (w.alloc (.cells #[.slice aa T.rows.length ca, .slice ac T.costs.length cc, .slice ak T.cls.length ck] 25)).alloc (.cells #[.int .i64 0, .int .i64 0] 30) = w1 at *
  refine (V _ HBT.out.tb).mono ?_
  rintro e w2 ⟨rfl, hb1⟩
  have HBT := Lib.hid (HBT.out.below hb1); have HT2 := Lib.hid (HT2.out.below hb1); have HBX := Lib.hid (HBX.out.trans (hb1.mono HBX.out.size))
  clear hb1 V
  by_cases hv : x = 0
  · have hv' : (x != 0) = false := by simpa using hv
    subst hv
    have hr64 : T.rows.length ≤ 64 := ((okT_iff T).1 HX.out).r64
    have c0 := HBT.out.c0
    go_wp2_with fail
    clear c0
    go_loopw [4] (fun v wr => ∃ i : Nat, i ≤ T.rows.length ∧ v = .int .i64 i ∧ (∀ a' b', a' < i → a' < b' → b' < T.rows.length → twB T a' b' = false) ∧ Boxs wr B2 30 #[.int .i64 0, .int .i64 0] ∧ BoxT wr B (.slice aa T.rows.length ca) (.slice ac T.costs.length cc) (.slice ak T.cls.length ck) T ∧ Below w.heap.size w wr) (fun v _ => T.rows.length - (intOf v).toNat)
    case atStart => exact ⟨0, Nat.zero_le _, rfl, fun _ _ h => absurd h (Nat.not_lt_zero _), HT2.out, HBT.out, HBX.out⟩
    case round =>
      obtain ⟨i, hi, rfl, hno, ht2, hbt, hbl⟩ := hrel
      have hi0 : (0 : Int) ≤ (i : Int) := Int.natCast_nonneg _
      have HNO := Lib.hid hno
      have HT2 := Lib.hid ht2; have HBT := Lib.hid hbt; have HBL := Lib.hid hbl
      have c0 := hbt.c0
      clear hno ht2 hbl hbt
      by_cases hlt : i < T.rows.length
      · have hi1 : (i : Int) < (T.rows.length : Int) := by omega
        go_wp2_with fail
        clear c0
        obtain ⟨wo, hwo⟩ : ∃ wo, wo = wr := ⟨_, rfl⟩
        go_loopw [5] (fun v wr => ∃ j : Nat, i < j ∧ j ≤ T.rows.length ∧ v = .int .i64 j ∧ (∀ b', i < b' → b' < j → twB T i b' = false) ∧ Boxs wr B2 30 #[.int .i64 0, .int .i64 0] ∧ BoxT wr B (.slice aa T.rows.length ca) (.slice ac T.costs.length cc) (.slice ak T.cls.length ck) T ∧ Below w.heap.size w wr) (fun v _ => T.rows.length - (intOf v).toNat)
        case atStart => exact ⟨i + 1, by omega, by omega, by go_num, fun _ h1 h2 => by omega, HT2.out, HBT.out, HBL.out⟩
        case round =>
          obtain ⟨j, hij, hj, rfl, hn, ht2, hbt, hbl⟩ := hrel
          have hj0 : (0 : Int) ≤ (j : Int) := Int.natCast_nonneg _
          have HN := Lib.hid hn
          have HT2 := Lib.hid ht2; have HBL := Lib.hid hbl
          clear hn ht2 hbl
          by_cases hjl : j < T.rows.length
          · have hcl : T.cls.length = T.rows.length := ((okT_iff T).1 HX.out).kl
            obtain ⟨xi, hxi⟩ := elem_at (show i < T.cls.length by omega)
            obtain ⟨xj, hxj⟩ := elem_at (show j < T.cls.length by omega)
            obtain ⟨ri, hri⟩ := elem_at (show i < T.rows.length by omega)
            obtain ⟨rj, hrj⟩ := elem_at (show j < T.rows.length by omega)
            obtain ⟨bk, ok, rfl, hbk, qi⟩ := ints_at hbt.tb.cls hxi
            obtain ⟨bk', ok', e, _, qj⟩ := ints_at hbt.tb.cls hxj
            cases e
            obtain ⟨br, or, ui, rfl, hbr, li, hui⟩ := rows_at hbt.tb.rows hri
            obtain ⟨br', or', uj, e, _, lj, huj⟩ := rows_at hbt.tb.rows hrj
            cases e
            obtain ⟨ai, ci, rfl⟩ := hui.form
            obtain ⟨aj, cj, rfl⟩ := huj.form
            have GT := Lib.hid (show TwS wr B bk ok br or i j _ _ _ _ xi xj ri rj from ⟨hbt.lt, hbk, hbr, hbt.c0, hbt.c2, qi, qj, li, lj, hui, huj⟩)
            have c0 := hbt.c0
            have e1 := clsAt_of hxi; have e2 := clsAt_of hxj; have e3 := rowAt_of hri; have e4 := rowAt_of hrj
            have hi1 : (i : Int) < (T.cls.length : Int) := by omega
            have hj1 : (j : Int) < (T.cls.length : Int) := by omega
            have hi2 : (i : Int) < (T.rows.length : Int) := by omega
            have hj2 : (j : Int) < (T.rows.length : Int) := by omega
            have HBT := Lib.hid hbt
            obtain ⟨tw, htw⟩ : ∃ b, twB T i j = b := ⟨_, rfl⟩
            have HTW := Lib.hid htw
            unfold twB at htw
            rw [e1, e2, e3, e4] at htw
            clear hbt qi qj li lj hui huj hxi hxj hri hrj e1 e2 e3 e4
            by_cases hx : xi = xj
            · have hx' : (xi != xj) = false := by simpa using hx
              rw [hx'] at htw
              simp only [Bool.false_and] at htw
              clear hx
              subst htw
              go_wp2_with fail
              refine wp_region_held (S := fun W => TwS W B bk ok br or i j (.slice (some ⟨br, or, none⟩) T.rows.length ca) (.slice (some ⟨bk, ok, none⟩) T.cls.length ck) (.slice ai ri.length ci) (.slice aj rj.length cj) xi xj ri rj) (by kernel_rfl) ?_
              have hdr : (wr).drew = { wr with drawn := (wr).drawn + 1 } := rfl
              rw [← hdr]
              clear hdr
              have G1 := Lib.hid (GT.out.below (Below.dn (Below.refl wr.heap.size wr) 1))
              have HBY := Lib.hid (Below.dn HBL.out 1)
              refine wpAnyHTake 0 (some 26) (.pointer (some ⟨B, 2, none⟩)) rfl rfl (by kernel_rfl) (by kernel_rfl) (by kernel_rfl) (fun _ _ _ h => h) (by rfl) (fun _ _ => by go_simp) (G1.out) ?_
              simp only [Act.put, List.setIfInBounds_toArray, List.set_cons_zero, List.set_cons_succ]
              refine wpAnyHTake 1 (some 27) (.slice (some ⟨bk, ok, none⟩) T.cls.length ck) rfl rfl (by kernel_rfl) (by kernel_rfl) (by kernel_rfl) (fun _ _ _ h => h) (by rfl) (fun W hW => by obtain ⟨_, _, _, c0, c2, ki, kj, ri, rj, _, _⟩ := hW; go_simp) (G1.out) ?_
              simp only [Act.put, List.setIfInBounds_toArray, List.set_cons_zero, List.set_cons_succ]
              refine wpAnyHTake 2 (some 28) (.int .i64 (i : Int)) rfl rfl (by kernel_rfl) (by kernel_rfl) (by kernel_rfl) (fun _ _ _ h => h) (by rfl) (fun _ _ => by rfl) (G1.out) ?_
              simp only [Act.put, List.setIfInBounds_toArray, List.set_cons_zero, List.set_cons_succ]
              refine wpAnyHTake 3 (some 29) (.pointer (some ⟨bk, ok + i, none⟩)) rfl rfl (by kernel_rfl) (by kernel_rfl) (by kernel_rfl) (fun _ _ _ h => h) (by rfl) (fun _ _ => by go_simp) (G1.out) ?_
              simp only [Act.put, List.setIfInBounds_toArray, List.set_cons_zero, List.set_cons_succ]
              refine wpAnyHTake 4 (some 30) (.int .i64 xi) rfl rfl (by kernel_rfl) (by kernel_rfl) (by kernel_rfl) (fun _ _ _ h => h) (by rfl) (fun W hW => by obtain ⟨_, _, _, c0, c2, ki, kj, ri, rj, _, _⟩ := hW; go_simp) (G1.out) ?_
              simp only [Act.put, List.setIfInBounds_toArray, List.set_cons_zero, List.set_cons_succ]
              refine wpAnyHTake 5 (some 31) (.pointer (some ⟨B, 2, none⟩)) rfl rfl (by kernel_rfl) (by kernel_rfl) (by kernel_rfl) (fun _ _ _ h => h) (by rfl) (fun _ _ => by go_simp) (G1.out) ?_
              simp only [Act.put, List.setIfInBounds_toArray, List.set_cons_zero, List.set_cons_succ]
              refine wpAnyHTake 6 (some 32) (.slice (some ⟨bk, ok, none⟩) T.cls.length ck) rfl rfl (by kernel_rfl) (by kernel_rfl) (by kernel_rfl) (fun _ _ _ h => h) (by rfl) (fun W hW => by obtain ⟨_, _, _, c0, c2, ki, kj, ri, rj, _, _⟩ := hW; go_simp) (G1.out) ?_
              simp only [Act.put, List.setIfInBounds_toArray, List.set_cons_zero, List.set_cons_succ]
              refine wpAnyHTake 7 (some 33) (.int .i64 (j : Int)) rfl rfl (by kernel_rfl) (by kernel_rfl) (by kernel_rfl) (fun _ _ _ h => h) (by rfl) (fun _ _ => by rfl) (G1.out) ?_
              simp only [Act.put, List.setIfInBounds_toArray, List.set_cons_zero, List.set_cons_succ]
              refine wpAnyHTake 8 (some 34) (.pointer (some ⟨bk, ok + j, none⟩)) rfl rfl (by kernel_rfl) (by kernel_rfl) (by kernel_rfl) (fun _ _ _ h => h) (by rfl) (fun _ _ => by go_simp) (G1.out) ?_
              simp only [Act.put, List.setIfInBounds_toArray, List.set_cons_zero, List.set_cons_succ]
              refine wpAnyHTake 9 (some 35) (.int .i64 xj) rfl rfl (by kernel_rfl) (by kernel_rfl) (by kernel_rfl) (fun _ _ _ h => h) (by rfl) (fun W hW => by obtain ⟨_, _, _, c0, c2, ki, kj, ri, rj, _, _⟩ := hW; go_simp) (G1.out) ?_
              simp only [Act.put, List.setIfInBounds_toArray, List.set_cons_zero, List.set_cons_succ]
              refine wpAnyHTake 10 (some 36) (.bool false) rfl rfl (by kernel_rfl) (by kernel_rfl) (by kernel_rfl) (fun _ _ _ h => h) (by rfl) (fun _ _ => by go_simp) (G1.out) ?_
              simp only [Act.put, List.setIfInBounds_toArray, List.set_cons_zero, List.set_cons_succ]
              refine wpAnyHTake 11 (some 37) (.bool false) rfl rfl (by kernel_rfl) (by kernel_rfl) (by kernel_rfl) (fun _ _ _ h => h) (by rfl) (fun _ _ => by rfl) (G1.out) ?_
              simp only [Act.put, List.setIfInBounds_toArray, List.set_cons_zero, List.set_cons_succ]
              refine wpAnyHPass 12 (some 38) rfl rfl (by kernel_rfl) (by kernel_rfl) (by kernel_rfl) (fun _ _ _ h => h) (by rfl) (G1.out) ?_
              simp only [Act.put, List.setIfInBounds_toArray, List.set_cons_zero, List.set_cons_succ]
              refine wpAnyHPass 13 (some 39) rfl rfl (by kernel_rfl) (by kernel_rfl) (by kernel_rfl) (fun _ _ _ h => h) (by rfl) (G1.out) ?_
              simp only [Act.put, List.setIfInBounds_toArray, List.set_cons_zero, List.set_cons_succ]
              refine wpAnyHPass 14 (some 40) rfl rfl (by kernel_rfl) (by kernel_rfl) (by kernel_rfl) (fun _ _ _ h => h) (by rfl) (G1.out) ?_
              simp only [Act.put, List.setIfInBounds_toArray, List.set_cons_zero, List.set_cons_succ]
              refine wpAnyHPass 15 (some 41) rfl rfl (by kernel_rfl) (by kernel_rfl) (by kernel_rfl) (fun _ _ _ h => h) (by rfl) (G1.out) ?_
              simp only [Act.put, List.setIfInBounds_toArray, List.set_cons_zero, List.set_cons_succ]
              refine wpAnyHPass 16 (some 42) rfl rfl (by kernel_rfl) (by kernel_rfl) (by kernel_rfl) (fun _ _ _ h => h) (by rfl) (G1.out) ?_
              simp only [Act.put, List.setIfInBounds_toArray, List.set_cons_zero, List.set_cons_succ]
              refine wpAnyHPass 17 (some 43) rfl rfl (by kernel_rfl) (by kernel_rfl) (by kernel_rfl) (fun _ _ _ h => h) (by rfl) (G1.out) ?_
              simp only [Act.put, List.setIfInBounds_toArray, List.set_cons_zero, List.set_cons_succ]
              refine wpAnyHPass 18 (some 44) rfl rfl (by kernel_rfl) (by kernel_rfl) (by kernel_rfl) (fun _ _ _ h => h) (by rfl) (G1.out) ?_
              simp only [Act.put, List.setIfInBounds_toArray, List.set_cons_zero, List.set_cons_succ]
              refine wpAnyHPass 19 (some 45) rfl rfl (by kernel_rfl) (by kernel_rfl) (by kernel_rfl) (fun _ _ _ h => h) (by rfl) (G1.out) ?_
              simp only [Act.put, List.setIfInBounds_toArray, List.set_cons_zero, List.set_cons_succ]
              refine wpAnyHPass 20 (some 46) rfl rfl (by kernel_rfl) (by kernel_rfl) (by kernel_rfl) (fun _ _ _ h => h) (by rfl) (G1.out) ?_
              simp only [Act.put, List.setIfInBounds_toArray, List.set_cons_zero, List.set_cons_succ]
              refine wpAnyHPass 21 (some 47) rfl rfl (by kernel_rfl) (by kernel_rfl) (by kernel_rfl) (fun _ _ _ h => h) (by rfl) (G1.out) ?_
              simp only [Act.put, List.setIfInBounds_toArray, List.set_cons_zero, List.set_cons_succ]
              refine wpAnyHPass 22 (some 48) rfl rfl (by kernel_rfl) (by kernel_rfl) (by kernel_rfl) (fun _ _ _ h => h) (by rfl) (G1.out) ?_
              simp only [Act.put, List.setIfInBounds_toArray, List.set_cons_zero, List.set_cons_succ]
              refine wpAnyHTake 23 (some 49) (.bool false) rfl rfl (by kernel_rfl) (by kernel_rfl) (by kernel_rfl) (fun _ _ _ h => h) (by rfl) (fun _ _ => by go_simp) (G1.out) ?_
              simp only [Act.put, List.setIfInBounds_toArray, List.set_cons_zero, List.set_cons_succ]
              refine wpAnyH_done (by kernel_rfl) ?_ _
              go_wp2_with fail
              go_roundw
              case rel => exact ⟨j + 1, by omega, by omega, by go_num, fun b' h1 h2 => by rcases Nat.lt_or_ge b' j with h | h; exact HN.out b' h1 h; (obtain rfl : b' = j := by omega); exact HTW.out, HT2.out.below (Below.dn (Below.refl _ _) 1), HBT.out.below (Below.dn (Below.refl _ _) 1), HBY.out⟩
              case measure => simp [intOf]; omega
            · have hx' : (xi != xj) = true := by simpa using hx
              rw [hx'] at htw
              simp only [Bool.true_and] at htw
              clear hx
              have HEQ := Lib.hid htw
              cases tw
              · clear htw
                go_wp2_with fail
                refine wp_region_held (S := fun W => TwS W B bk ok br or i j (.slice (some ⟨br, or, none⟩) T.rows.length ca) (.slice (some ⟨bk, ok, none⟩) T.cls.length ck) (.slice ai ri.length ci) (.slice aj rj.length cj) xi xj ri rj) (by kernel_rfl) ?_
                have hdr : (wr).drew = { wr with drawn := (wr).drawn + 1 } := rfl
                rw [← hdr]
                clear hdr
                have G1 := Lib.hid (GT.out.below (Below.dn (Below.refl wr.heap.size wr) 1))
                have HBY := Lib.hid (Below.dn HBL.out 1)
                refine wpAnyHTake 0 (some 26) (.pointer (some ⟨B, 2, none⟩)) rfl rfl (by kernel_rfl) (by kernel_rfl) (by kernel_rfl) (fun _ _ _ h => h) (by rfl) (fun _ _ => by go_simp) (G1.out) ?_
                simp only [Act.put, List.setIfInBounds_toArray, List.set_cons_zero, List.set_cons_succ]
                refine wpAnyHTake 1 (some 27) (.slice (some ⟨bk, ok, none⟩) T.cls.length ck) rfl rfl (by kernel_rfl) (by kernel_rfl) (by kernel_rfl) (fun _ _ _ h => h) (by rfl) (fun W hW => by obtain ⟨_, _, _, c0, c2, ki, kj, ri, rj, _, _⟩ := hW; go_simp) (G1.out) ?_
                simp only [Act.put, List.setIfInBounds_toArray, List.set_cons_zero, List.set_cons_succ]
                refine wpAnyHTake 2 (some 28) (.int .i64 (i : Int)) rfl rfl (by kernel_rfl) (by kernel_rfl) (by kernel_rfl) (fun _ _ _ h => h) (by rfl) (fun _ _ => by rfl) (G1.out) ?_
                simp only [Act.put, List.setIfInBounds_toArray, List.set_cons_zero, List.set_cons_succ]
                refine wpAnyHTake 3 (some 29) (.pointer (some ⟨bk, ok + i, none⟩)) rfl rfl (by kernel_rfl) (by kernel_rfl) (by kernel_rfl) (fun _ _ _ h => h) (by rfl) (fun _ _ => by go_simp) (G1.out) ?_
                simp only [Act.put, List.setIfInBounds_toArray, List.set_cons_zero, List.set_cons_succ]
                refine wpAnyHTake 4 (some 30) (.int .i64 xi) rfl rfl (by kernel_rfl) (by kernel_rfl) (by kernel_rfl) (fun _ _ _ h => h) (by rfl) (fun W hW => by obtain ⟨_, _, _, c0, c2, ki, kj, ri, rj, _, _⟩ := hW; go_simp) (G1.out) ?_
                simp only [Act.put, List.setIfInBounds_toArray, List.set_cons_zero, List.set_cons_succ]
                refine wpAnyHTake 5 (some 31) (.pointer (some ⟨B, 2, none⟩)) rfl rfl (by kernel_rfl) (by kernel_rfl) (by kernel_rfl) (fun _ _ _ h => h) (by rfl) (fun _ _ => by go_simp) (G1.out) ?_
                simp only [Act.put, List.setIfInBounds_toArray, List.set_cons_zero, List.set_cons_succ]
                refine wpAnyHTake 6 (some 32) (.slice (some ⟨bk, ok, none⟩) T.cls.length ck) rfl rfl (by kernel_rfl) (by kernel_rfl) (by kernel_rfl) (fun _ _ _ h => h) (by rfl) (fun W hW => by obtain ⟨_, _, _, c0, c2, ki, kj, ri, rj, _, _⟩ := hW; go_simp) (G1.out) ?_
                simp only [Act.put, List.setIfInBounds_toArray, List.set_cons_zero, List.set_cons_succ]
                refine wpAnyHTake 7 (some 33) (.int .i64 (j : Int)) rfl rfl (by kernel_rfl) (by kernel_rfl) (by kernel_rfl) (fun _ _ _ h => h) (by rfl) (fun _ _ => by rfl) (G1.out) ?_
                simp only [Act.put, List.setIfInBounds_toArray, List.set_cons_zero, List.set_cons_succ]
                refine wpAnyHTake 8 (some 34) (.pointer (some ⟨bk, ok + j, none⟩)) rfl rfl (by kernel_rfl) (by kernel_rfl) (by kernel_rfl) (fun _ _ _ h => h) (by rfl) (fun _ _ => by go_simp) (G1.out) ?_
                simp only [Act.put, List.setIfInBounds_toArray, List.set_cons_zero, List.set_cons_succ]
                refine wpAnyHTake 9 (some 35) (.int .i64 xj) rfl rfl (by kernel_rfl) (by kernel_rfl) (by kernel_rfl) (fun _ _ _ h => h) (by rfl) (fun W hW => by obtain ⟨_, _, _, c0, c2, ki, kj, ri, rj, _, _⟩ := hW; go_simp) (G1.out) ?_
                simp only [Act.put, List.setIfInBounds_toArray, List.set_cons_zero, List.set_cons_succ]
                refine wpAnyHTake 10 (some 36) (.bool true) rfl rfl (by kernel_rfl) (by kernel_rfl) (by kernel_rfl) (fun _ _ _ h => h) (by rfl) (fun _ _ => by go_simp) (G1.out) ?_
                simp only [Act.put, List.setIfInBounds_toArray, List.set_cons_zero, List.set_cons_succ]
                refine wpAnyHTake 11 (some 37) (.bool true) rfl rfl (by kernel_rfl) (by kernel_rfl) (by kernel_rfl) (fun _ _ _ h => h) (by rfl) (fun _ _ => by rfl) (G1.out) ?_
                simp only [Act.put, List.setIfInBounds_toArray, List.set_cons_zero, List.set_cons_succ]
                refine wpAnyHTake 12 (some 38) (.pointer (some ⟨B, 0, none⟩)) rfl rfl (by kernel_rfl) (by kernel_rfl) (by kernel_rfl) (fun _ _ _ h => h) (by rfl) (fun _ _ => by go_simp) (G1.out) ?_
                simp only [Act.put, List.setIfInBounds_toArray, List.set_cons_zero, List.set_cons_succ]
                refine wpAnyHTake 13 (some 39) (.slice (some ⟨br, or, none⟩) T.rows.length ca) rfl rfl (by kernel_rfl) (by kernel_rfl) (by kernel_rfl) (fun _ _ _ h => h) (by rfl) (fun W hW => by obtain ⟨_, _, _, c0, c2, ki, kj, ri, rj, _, _⟩ := hW; go_simp) (G1.out) ?_
                simp only [Act.put, List.setIfInBounds_toArray, List.set_cons_zero, List.set_cons_succ]
                refine wpAnyHTake 14 (some 40) (.int .i64 (i : Int)) rfl rfl (by kernel_rfl) (by kernel_rfl) (by kernel_rfl) (fun _ _ _ h => h) (by rfl) (fun _ _ => by rfl) (G1.out) ?_
                simp only [Act.put, List.setIfInBounds_toArray, List.set_cons_zero, List.set_cons_succ]
                refine wpAnyHTake 15 (some 41) (.pointer (some ⟨br, or + i, none⟩)) rfl rfl (by kernel_rfl) (by kernel_rfl) (by kernel_rfl) (fun _ _ _ h => h) (by rfl) (fun _ _ => by go_simp) (G1.out) ?_
                simp only [Act.put, List.setIfInBounds_toArray, List.set_cons_zero, List.set_cons_succ]
                refine wpAnyHTake 16 (some 42) (.slice ai ri.length ci) rfl rfl (by kernel_rfl) (by kernel_rfl) (by kernel_rfl) (fun _ _ _ h => h) (by rfl) (fun W hW => by obtain ⟨_, _, _, c0, c2, ki, kj, ri, rj, _, _⟩ := hW; go_simp) (G1.out) ?_
                simp only [Act.put, List.setIfInBounds_toArray, List.set_cons_zero, List.set_cons_succ]
                refine wpAnyHTake 17 (some 43) (.pointer (some ⟨B, 0, none⟩)) rfl rfl (by kernel_rfl) (by kernel_rfl) (by kernel_rfl) (fun _ _ _ h => h) (by rfl) (fun _ _ => by go_simp) (G1.out) ?_
                simp only [Act.put, List.setIfInBounds_toArray, List.set_cons_zero, List.set_cons_succ]
                refine wpAnyHTake 18 (some 44) (.slice (some ⟨br, or, none⟩) T.rows.length ca) rfl rfl (by kernel_rfl) (by kernel_rfl) (by kernel_rfl) (fun _ _ _ h => h) (by rfl) (fun W hW => by obtain ⟨_, _, _, c0, c2, ki, kj, ri, rj, _, _⟩ := hW; go_simp) (G1.out) ?_
                simp only [Act.put, List.setIfInBounds_toArray, List.set_cons_zero, List.set_cons_succ]
                refine wpAnyHTake 19 (some 45) (.int .i64 (j : Int)) rfl rfl (by kernel_rfl) (by kernel_rfl) (by kernel_rfl) (fun _ _ _ h => h) (by rfl) (fun _ _ => by rfl) (G1.out) ?_
                simp only [Act.put, List.setIfInBounds_toArray, List.set_cons_zero, List.set_cons_succ]
                refine wpAnyHTake 20 (some 46) (.pointer (some ⟨br, or + j, none⟩)) rfl rfl (by kernel_rfl) (by kernel_rfl) (by kernel_rfl) (fun _ _ _ h => h) (by rfl) (fun _ _ => by go_simp) (G1.out) ?_
                simp only [Act.put, List.setIfInBounds_toArray, List.set_cons_zero, List.set_cons_succ]
                refine wpAnyHTake 21 (some 47) (.slice aj rj.length cj) rfl rfl (by kernel_rfl) (by kernel_rfl) (by kernel_rfl) (fun _ _ _ h => h) (by rfl) (fun W hW => by obtain ⟨_, _, _, c0, c2, ki, kj, ri, rj, _, _⟩ := hW; go_simp) (G1.out) ?_
                simp only [Act.put, List.setIfInBounds_toArray, List.set_cons_zero, List.set_cons_succ]
                refine wpAnyHCall 22 (some 48) 20 #[.slice ai ri.length ci, .slice aj rj.length cj] (by kernel_rfl) rfl rfl (by rfl) (by go_simp) (sameInts_any _ _ ri rj _ G1.out.rdi G1.out.rdj) ?_
                rintro e w2 ⟨rfl, hb9⟩
                have G2 := Lib.hid (G1.out.below hb9)
                have HBY := Lib.hid (HBY.out.trans (hb9.mono HBY.out.size))
                rw [HEQ.out]
                have hb9h := Lib.hid hb9
                clear hb9 G1
                refine ⟨_, rfl, G2.out, ?_⟩
                simp only [Act.put, List.setIfInBounds_toArray, List.set_cons_zero, List.set_cons_succ]
                refine wpAnyHTake 23 (some 49) (.bool false) rfl rfl (by kernel_rfl) (by kernel_rfl) (by kernel_rfl) (fun _ _ _ h => h) (by rfl) (fun _ _ => by go_simp) (G2.out) ?_
                simp only [Act.put, List.setIfInBounds_toArray, List.set_cons_zero, List.set_cons_succ]
                refine wpAnyH_done (by kernel_rfl) ?_ _
                go_wp2_with fail
                go_roundw
                case rel => exact ⟨j + 1, by omega, by omega, by go_num, fun b' h1 h2 => by rcases Nat.lt_or_ge b' j with h | h; exact HN.out b' h1 h; (obtain rfl : b' = j := by omega); exact HTW.out, (HT2.out.below (Below.dn (Below.refl _ _) 1)).below hb9h.out, (HBT.out.below (Below.dn (Below.refl _ _) 1)).below hb9h.out, HBY.out⟩
                case measure => simp [intOf]; omega
              · clear htw
                go_wp2_with fail
                refine wp_region_held (S := fun W => TwS W B bk ok br or i j (.slice (some ⟨br, or, none⟩) T.rows.length ca) (.slice (some ⟨bk, ok, none⟩) T.cls.length ck) (.slice ai ri.length ci) (.slice aj rj.length cj) xi xj ri rj) (by kernel_rfl) ?_
                have hdr : (wr).drew = { wr with drawn := (wr).drawn + 1 } := rfl
                rw [← hdr]
                clear hdr
                have G1 := Lib.hid (GT.out.below (Below.dn (Below.refl wr.heap.size wr) 1))
                have HBY := Lib.hid (Below.dn HBL.out 1)
                refine wpAnyHTake 0 (some 26) (.pointer (some ⟨B, 2, none⟩)) rfl rfl (by kernel_rfl) (by kernel_rfl) (by kernel_rfl) (fun _ _ _ h => h) (by rfl) (fun _ _ => by go_simp) (G1.out) ?_
                simp only [Act.put, List.setIfInBounds_toArray, List.set_cons_zero, List.set_cons_succ]
                refine wpAnyHTake 1 (some 27) (.slice (some ⟨bk, ok, none⟩) T.cls.length ck) rfl rfl (by kernel_rfl) (by kernel_rfl) (by kernel_rfl) (fun _ _ _ h => h) (by rfl) (fun W hW => by obtain ⟨_, _, _, c0, c2, ki, kj, ri, rj, _, _⟩ := hW; go_simp) (G1.out) ?_
                simp only [Act.put, List.setIfInBounds_toArray, List.set_cons_zero, List.set_cons_succ]
                refine wpAnyHTake 2 (some 28) (.int .i64 (i : Int)) rfl rfl (by kernel_rfl) (by kernel_rfl) (by kernel_rfl) (fun _ _ _ h => h) (by rfl) (fun _ _ => by rfl) (G1.out) ?_
                simp only [Act.put, List.setIfInBounds_toArray, List.set_cons_zero, List.set_cons_succ]
                refine wpAnyHTake 3 (some 29) (.pointer (some ⟨bk, ok + i, none⟩)) rfl rfl (by kernel_rfl) (by kernel_rfl) (by kernel_rfl) (fun _ _ _ h => h) (by rfl) (fun _ _ => by go_simp) (G1.out) ?_
                simp only [Act.put, List.setIfInBounds_toArray, List.set_cons_zero, List.set_cons_succ]
                refine wpAnyHTake 4 (some 30) (.int .i64 xi) rfl rfl (by kernel_rfl) (by kernel_rfl) (by kernel_rfl) (fun _ _ _ h => h) (by rfl) (fun W hW => by obtain ⟨_, _, _, c0, c2, ki, kj, ri, rj, _, _⟩ := hW; go_simp) (G1.out) ?_
                simp only [Act.put, List.setIfInBounds_toArray, List.set_cons_zero, List.set_cons_succ]
                refine wpAnyHTake 5 (some 31) (.pointer (some ⟨B, 2, none⟩)) rfl rfl (by kernel_rfl) (by kernel_rfl) (by kernel_rfl) (fun _ _ _ h => h) (by rfl) (fun _ _ => by go_simp) (G1.out) ?_
                simp only [Act.put, List.setIfInBounds_toArray, List.set_cons_zero, List.set_cons_succ]
                refine wpAnyHTake 6 (some 32) (.slice (some ⟨bk, ok, none⟩) T.cls.length ck) rfl rfl (by kernel_rfl) (by kernel_rfl) (by kernel_rfl) (fun _ _ _ h => h) (by rfl) (fun W hW => by obtain ⟨_, _, _, c0, c2, ki, kj, ri, rj, _, _⟩ := hW; go_simp) (G1.out) ?_
                simp only [Act.put, List.setIfInBounds_toArray, List.set_cons_zero, List.set_cons_succ]
                refine wpAnyHTake 7 (some 33) (.int .i64 (j : Int)) rfl rfl (by kernel_rfl) (by kernel_rfl) (by kernel_rfl) (fun _ _ _ h => h) (by rfl) (fun _ _ => by rfl) (G1.out) ?_
                simp only [Act.put, List.setIfInBounds_toArray, List.set_cons_zero, List.set_cons_succ]
                refine wpAnyHTake 8 (some 34) (.pointer (some ⟨bk, ok + j, none⟩)) rfl rfl (by kernel_rfl) (by kernel_rfl) (by kernel_rfl) (fun _ _ _ h => h) (by rfl) (fun _ _ => by go_simp) (G1.out) ?_
                simp only [Act.put, List.setIfInBounds_toArray, List.set_cons_zero, List.set_cons_succ]
                refine wpAnyHTake 9 (some 35) (.int .i64 xj) rfl rfl (by kernel_rfl) (by kernel_rfl) (by kernel_rfl) (fun _ _ _ h => h) (by rfl) (fun W hW => by obtain ⟨_, _, _, c0, c2, ki, kj, ri, rj, _, _⟩ := hW; go_simp) (G1.out) ?_
                simp only [Act.put, List.setIfInBounds_toArray, List.set_cons_zero, List.set_cons_succ]
                refine wpAnyHTake 10 (some 36) (.bool true) rfl rfl (by kernel_rfl) (by kernel_rfl) (by kernel_rfl) (fun _ _ _ h => h) (by rfl) (fun _ _ => by go_simp) (G1.out) ?_
                simp only [Act.put, List.setIfInBounds_toArray, List.set_cons_zero, List.set_cons_succ]
                refine wpAnyHTake 11 (some 37) (.bool true) rfl rfl (by kernel_rfl) (by kernel_rfl) (by kernel_rfl) (fun _ _ _ h => h) (by rfl) (fun _ _ => by rfl) (G1.out) ?_
                simp only [Act.put, List.setIfInBounds_toArray, List.set_cons_zero, List.set_cons_succ]
                refine wpAnyHTake 12 (some 38) (.pointer (some ⟨B, 0, none⟩)) rfl rfl (by kernel_rfl) (by kernel_rfl) (by kernel_rfl) (fun _ _ _ h => h) (by rfl) (fun _ _ => by go_simp) (G1.out) ?_
                simp only [Act.put, List.setIfInBounds_toArray, List.set_cons_zero, List.set_cons_succ]
                refine wpAnyHTake 13 (some 39) (.slice (some ⟨br, or, none⟩) T.rows.length ca) rfl rfl (by kernel_rfl) (by kernel_rfl) (by kernel_rfl) (fun _ _ _ h => h) (by rfl) (fun W hW => by obtain ⟨_, _, _, c0, c2, ki, kj, ri, rj, _, _⟩ := hW; go_simp) (G1.out) ?_
                simp only [Act.put, List.setIfInBounds_toArray, List.set_cons_zero, List.set_cons_succ]
                refine wpAnyHTake 14 (some 40) (.int .i64 (i : Int)) rfl rfl (by kernel_rfl) (by kernel_rfl) (by kernel_rfl) (fun _ _ _ h => h) (by rfl) (fun _ _ => by rfl) (G1.out) ?_
                simp only [Act.put, List.setIfInBounds_toArray, List.set_cons_zero, List.set_cons_succ]
                refine wpAnyHTake 15 (some 41) (.pointer (some ⟨br, or + i, none⟩)) rfl rfl (by kernel_rfl) (by kernel_rfl) (by kernel_rfl) (fun _ _ _ h => h) (by rfl) (fun _ _ => by go_simp) (G1.out) ?_
                simp only [Act.put, List.setIfInBounds_toArray, List.set_cons_zero, List.set_cons_succ]
                refine wpAnyHTake 16 (some 42) (.slice ai ri.length ci) rfl rfl (by kernel_rfl) (by kernel_rfl) (by kernel_rfl) (fun _ _ _ h => h) (by rfl) (fun W hW => by obtain ⟨_, _, _, c0, c2, ki, kj, ri, rj, _, _⟩ := hW; go_simp) (G1.out) ?_
                simp only [Act.put, List.setIfInBounds_toArray, List.set_cons_zero, List.set_cons_succ]
                refine wpAnyHTake 17 (some 43) (.pointer (some ⟨B, 0, none⟩)) rfl rfl (by kernel_rfl) (by kernel_rfl) (by kernel_rfl) (fun _ _ _ h => h) (by rfl) (fun _ _ => by go_simp) (G1.out) ?_
                simp only [Act.put, List.setIfInBounds_toArray, List.set_cons_zero, List.set_cons_succ]
                refine wpAnyHTake 18 (some 44) (.slice (some ⟨br, or, none⟩) T.rows.length ca) rfl rfl (by kernel_rfl) (by kernel_rfl) (by kernel_rfl) (fun _ _ _ h => h) (by rfl) (fun W hW => by obtain ⟨_, _, _, c0, c2, ki, kj, ri, rj, _, _⟩ := hW; go_simp) (G1.out) ?_
                simp only [Act.put, List.setIfInBounds_toArray, List.set_cons_zero, List.set_cons_succ]
                refine wpAnyHTake 19 (some 45) (.int .i64 (j : Int)) rfl rfl (by kernel_rfl) (by kernel_rfl) (by kernel_rfl) (fun _ _ _ h => h) (by rfl) (fun _ _ => by rfl) (G1.out) ?_
                simp only [Act.put, List.setIfInBounds_toArray, List.set_cons_zero, List.set_cons_succ]
                refine wpAnyHTake 20 (some 46) (.pointer (some ⟨br, or + j, none⟩)) rfl rfl (by kernel_rfl) (by kernel_rfl) (by kernel_rfl) (fun _ _ _ h => h) (by rfl) (fun _ _ => by go_simp) (G1.out) ?_
                simp only [Act.put, List.setIfInBounds_toArray, List.set_cons_zero, List.set_cons_succ]
                refine wpAnyHTake 21 (some 47) (.slice aj rj.length cj) rfl rfl (by kernel_rfl) (by kernel_rfl) (by kernel_rfl) (fun _ _ _ h => h) (by rfl) (fun W hW => by obtain ⟨_, _, _, c0, c2, ki, kj, ri, rj, _, _⟩ := hW; go_simp) (G1.out) ?_
                simp only [Act.put, List.setIfInBounds_toArray, List.set_cons_zero, List.set_cons_succ]
                refine wpAnyHCall 22 (some 48) 20 #[.slice ai ri.length ci, .slice aj rj.length cj] (by kernel_rfl) rfl rfl (by rfl) (by go_simp) (sameInts_any _ _ ri rj _ G1.out.rdi G1.out.rdj) ?_
                rintro e w2 ⟨rfl, hb9⟩
                have G2 := Lib.hid (G1.out.below hb9)
                have HBY := Lib.hid (HBY.out.trans (hb9.mono HBY.out.size))
                rw [HEQ.out]
                have hb9h := Lib.hid hb9
                clear hb9 G1
                refine ⟨_, rfl, G2.out, ?_⟩
                simp only [Act.put, List.setIfInBounds_toArray, List.set_cons_zero, List.set_cons_succ]
                refine wpAnyHTake 23 (some 49) (.bool true) rfl rfl (by kernel_rfl) (by kernel_rfl) (by kernel_rfl) (fun _ _ _ h => h) (by rfl) (fun _ _ => by go_simp) (G2.out) ?_
                simp only [Act.put, List.setIfInBounds_toArray, List.set_cons_zero, List.set_cons_succ]
                refine wpAnyH_done (by kernel_rfl) ?_ _
                have HT2 := Lib.hid ((HT2.out.below (Below.dn (Below.refl _ _) 1)).below hb9h.out)
                have z0 := HT2.out.cell 0
                have z1 := HT2.out.cell 1
                have y0 := HT2.out.frozen 0
                have y1 := HT2.out.frozen 1
                have HB2lt := HT2.out.lt
                simp at z0 z1
                go_wp2_with fail
                have hbx := (HT2.out.put 0 (.int .i64 (i : Int))).put 1 (.int .i64 (j : Int))
                have e0 := hbx.cell 0
                have e1 := hbx.cell 1
                simp at e0 e1
                refine bodyPost_ret (v := .tuple #[.agg #[.int .i64 (i : Int), .int .i64 (j : Int)], .bool true]) ?_ rfl ⟨⟨_, _, _, rfl, .hit HX.out i j ⟨by omega, by omega, HTW.out, HNO.out, HN.out⟩⟩, ((HBY.out).setCell (p := ⟨B2, 0, none⟩) hBB _).setCell (p := ⟨B2, 1, none⟩) hBB _⟩
                simp only [results, Try.results15]
                simp [go_sem, e0, e1]
          · have hj1 : ¬ (j : Int) < (T.rows.length : Int) := by omega
            have c0 := hbt.c0
            have HBT := Lib.hid hbt
            clear hbt
            go_wp2_with fail
            go_roundw
            case rel => exact ⟨i + 1, by omega, by go_num, fun a' b' h1 h2 h3 => by rcases Nat.lt_or_ge a' i with h | h; exact HNO.out a' b' h h2 h3; (obtain rfl : a' = i := by omega); exact HN.out b' h2 (by omega), HT2.out, HBT.out, HBL.out⟩
            case measure => simp [intOf]; omega
      · have hi1 : ¬ (i : Int) < (T.rows.length : Int) := by omega
        have z0 := HT2.out.cell 0
        have z1 := HT2.out.cell 1
        have y0 := HT2.out.frozen 0
        have y1 := HT2.out.frozen 1
        have HB2lt := HT2.out.lt
        simp at z0 z1
        go_wp2_with fail
        have hbx := (HT2.out.put 0 (.int .i64 (0 : Int))).put 1 (.int .i64 (0 : Int))
        have e0 := hbx.cell 0
        have e1 := hbx.cell 1
        simp at e0 e1
        refine bodyPost_ret (v := .tuple #[.agg #[.int .i64 (0 : Int), .int .i64 (0 : Int)], .bool false]) ?_ rfl ⟨⟨_, _, _, rfl, .none HX.out (fun a b h1 h2 => HNO.out a b (by omega) h1 h2)⟩, ((HBL.out).setCell (p := ⟨B2, 0, none⟩) hBB _).setCell (p := ⟨B2, 1, none⟩) hBB _⟩
        simp only [results, Try.results15]
        simp [go_sem, e0, e1]
  · have hv' : (x != 0) = true := by simpa using hv
    have z0 := HT2.out.cell 0
    have z1 := HT2.out.cell 1
    have y0 := HT2.out.frozen 0
    have y1 := HT2.out.frozen 1
    have HB2lt := HT2.out.lt
    simp at z0 z1
    go_wp2_with fail
    have hbx := (HT2.out.put 0 (.int .i64 (0 : Int))).put 1 (.int .i64 (0 : Int))
    have e0 := hbx.cell 0
    have e1 := hbx.cell 1
    simp at e0 e1
    refine bodyPost_ret (v := .tuple #[.agg #[.int .i64 (0 : Int), .int .i64 (0 : Int)], .bool false]) ?_ rfl ⟨⟨_, _, _, rfl, .bad (by rw [HX.out]; exact hv)⟩, ((HBX.out).setCell (p := ⟨B2, 0, none⟩) hBB _).setCell (p := ⟨B2, 1, none⟩) hBB _⟩
    simp only [results, Try.results15]
    simp [go_sem, e0, e1]
end Go.Proofs.Ytmkkegigajmhkaa

namespace Go.Proofs.Ytmkkegigajmhkaa
open Go.RowKit Go.Maps

theorem owns_type {W : World} {base base' : Nat} {e e' : TypeId} {s s' n n' : Nat} {v v' : Value} {xs xs' : List Value} (h : W.ownsRow base e s v n xs) (h' : W.ownsRow base' e' s' v' n' xs') (hne : e ≠ e') {b : Nat} (hb : v.ownBlock = some b) : v'.ownBlock ≠ some b := by
  rcases h.2 with ⟨rfl, _⟩ | ⟨g, cap, cur, rfl, _, hg, _⟩
  · cases hb
  · rcases h'.2 with ⟨rfl, _⟩ | ⟨g', cap', cur', rfl, _, hg', _⟩
    · simp [Value.ownBlock]
    · intro hb'
      have e1 : g = b := by simpa [Value.ownBlock] using hb
      have e2 : g' = b := by simpa [Value.ownBlock] using hb'
      subst e1 e2
      rw [hg] at hg'
      cases hg'
      exact hne rfl
/-- rows that the call owns -/
structure OwnRR (base : Nat) (W : World) (v : Value) (us : List Value) (rows : List (List Int)) : Prop where
  out : W.ownsRow base 22 1 v rows.length us
  inn : ∀ (k : Nat) (u : Value) (r : List Int), us[k]? = some u → rows[k]? = some r → W.ownsRow base 3 1 u r.length (ints r)
  dis : ∀ (j k : Nat) (u u' : Value) (b : Nat), us[j]? = some u → us[k]? = some u' → u.ownBlock = some b → u'.ownBlock = some b → j = k
theorem OwnRR.len {base : Nat} {W : World} {v : Value} {us : List Value} {rows : List (List Int)} (h : OwnRR base W v us rows) : us.length = rows.length := by have := h.out.1; omega
theorem OwnRR.nil (base : Nat) (W : World) : OwnRR base W (.slice none 0 0) [] [] := ⟨World.ownsRow_nil _ _ _ _, fun k u r hu => by simp at hu, fun j k u u' b hu => by simp at hu⟩
theorem OwnRR.row {base : Nat} {W : World} {v : Value} {us : List Value} {rows : List (List Int)} (h : OwnRR base W v us rows) {k : Nat} {r : List Int} (hr : rows[k]? = some r) : ∃ u, us[k]? = some u ∧ W.ownsRow base 3 1 u r.length (ints r) := by
  have hk := (List.getElem?_eq_some_iff.1 hr).1
  obtain ⟨u, hu⟩ := elem_at (show k < us.length by rw [h.len]; exact hk)
  exact ⟨u, hu, h.inn k u r hu hr⟩
theorem OwnRR.below {base : Nat} {W W' : World} {v : Value} {us : List Value} {rows : List (List Int)} (h : OwnRR base W v us rows) (hb : Below W.heap.size W W') : OwnRR base W' v us rows :=
  ⟨owns_below h.out hb, fun k u r hu hr => owns_below (h.inn k u r hu hr) hb, h.dis⟩
theorem owns_lower {w : World} {base base' size n : Nat} {e : TypeId} {v : Value} {xs : List Value} (h : w.ownsRow base e size v n xs) (hb : base' ≤ base) : w.ownsRow base' e size v n xs := by
  refine ⟨h.1, ?_⟩
  rcases h.2 with h | ⟨g, cap, cur, e, h1, r⟩
  · exact .inl h
  · exact .inr ⟨g, cap, cur, e, by omega, r⟩
theorem OwnRR.rd {base : Nat} {W : World} {v : Value} {us : List Value} {rows : List (List Int)} (h : OwnRR base W v us rows) : RdR W v rows :=
  ⟨us, Rd_of_owns h.out, h.len, fun k u r hu hr => Rd_of_owns (h.inn k u r hu hr)⟩
theorem OwnRR.push {base : Nat} {W W' : World} {v v' u : Value} {us : List Value} {rows : List (List Int)} {r : List Int} (h : OwnRR base W v us rows) (hu : W.ownsRow base 3 1 u r.length (ints r))
    (hd : ∀ (k : Nat) (u' : Value) (b : Nat), us[k]? = some u' → u'.ownBlock = some b → u.ownBlock ≠ some b) (hown : W'.ownsRow base 22 1 v' (rows.length + 1) (us ++ [u])) (hg : W.grownBy W' v.ownBlock) : OwnRR base W' v' (us ++ [u]) (rows ++ [r]) := by
  have hl := h.len
  refine ⟨by rw [List.length_append]; exact hown, fun k u' r' hu' hr' => ?_, fun j k u1 u2 b h1 h2 hb1 hb2 => ?_⟩
  · by_cases hk : k < us.length
    · rw [List.getElem?_append_left hk] at hu'
      rw [List.getElem?_append_left (by omega)] at hr'
      exact owns_grown (h.inn k u' r' hu' hr') hg fun g hgg e => owns_type (h.inn k u' r' hu' hr') h.out (by decide) hgg e
    · rw [List.getElem?_append_right (by omega)] at hu' hr'
      have hk2 : k - us.length = 0 := by have := (List.getElem?_eq_some_iff.1 hu').1; simp at this; omega
      have hk3 : k - rows.length = 0 := by omega
      rw [hk2] at hu'; rw [hk3] at hr'
      simp at hu' hr'
      subst hu' hr'
      exact owns_grown hu hg fun g hgg e => owns_type hu h.out (by decide) hgg e
  · by_cases hj : j < us.length
    · rw [List.getElem?_append_left hj] at h1
      by_cases hk : k < us.length
      · rw [List.getElem?_append_left hk] at h2
        exact h.dis j k u1 u2 b h1 h2 hb1 hb2
      · rw [List.getElem?_append_right (by omega)] at h2
        have hk2 : k - us.length = 0 := by have := (List.getElem?_eq_some_iff.1 h2).1; simp at this; omega
        rw [hk2] at h2; simp at h2; subst h2
        exact absurd hb2 (hd j u1 b h1 hb1)
    · rw [List.getElem?_append_right (by omega)] at h1
      have hj2 : j - us.length = 0 := by have := (List.getElem?_eq_some_iff.1 h1).1; simp at this; omega
      rw [hj2] at h1; simp at h1; subst h1
      by_cases hk : k < us.length
      · rw [List.getElem?_append_left hk] at h2
        exact absurd hb1 (hd k u2 b h2 hb2)
      · rw [List.getElem?_append_right (by omega)] at h2
        have hk2 : k - us.length = 0 := by have := (List.getElem?_eq_some_iff.1 h2).1; simp at this; omega
        omega
/-- a row is put in the place of another one -/
theorem OwnRR.inner {base : Nat} {W W' : World} {g n c k H : Nat} {u u' : Value} {us : List Value} {rows : List (List Int)} {r r' : List Int} (h : OwnRR base W (.slice (some ⟨g, 0, none⟩) n c) us rows)
    (hu : us[k]? = some u) (hr : rows[k]? = some r) (hown : W'.ownsRow base 3 1 u' r'.length (ints r')) (hg : W.grownBy W' u.ownBlock) (hat : u'.ownBlock = u.ownBlock ∨ u'.ownBlock = some H) (hH : W.heap.size ≤ H) :
    OwnRR base (W'.setCell ⟨g, k, none⟩ u') (.slice (some ⟨g, 0, none⟩) n c) (us.set k u') (rows.set k r') := by
  have hkl := (List.getElem?_eq_some_iff.1 hu).1
  have hl := h.len
  have hou := h.inn k u r hu hr
  have hne : ∀ b, u.ownBlock = some b → b ≠ g := fun b hb e => owns_type hou h.out (by decide) hb (by rw [e]; rfl)
  have hout : W'.ownsRow base 22 1 (.slice (some ⟨g, 0, none⟩) n c) rows.length us := owns_grown h.out hg fun b hb e => hne b e (by simpa [Value.ownBlock] using hb.symm)
  have hn : n = rows.length := by
    rcases h.out.2 with ⟨e, _⟩ | ⟨_, _, _, e, _⟩
    · cases e
    · cases e; rfl
  subst hn
  refine ⟨?_, fun j u1 r1 h1 hr1 => ?_, fun i j u1 u2 b h1 h2 hb1 hb2 => ?_⟩
  · rw [List.length_set]; exact (hout.stored k u').1
  · by_cases hj : j = k
    · subst hj
      rw [List.getElem?_set_self (by omega)] at h1 hr1
      cases h1; cases hr1
      exact ownsRow_setCell_other (a := ⟨g, j, none⟩) hown (fun e => owns_type hown hout (by decide) e rfl) u'
    · rw [List.getElem?_set_ne (by omega)] at h1 hr1
      have h0 := h.inn j u1 r1 h1 hr1
      have h2 : W'.ownsRow base 3 1 u1 r1.length (ints r1) := owns_grown h0 hg fun b hb e => hj (h.dis j k u1 u b h1 hu hb e)
      exact ownsRow_setCell_other (a := ⟨g, k, none⟩) h2 (fun e => owns_type h2 hout (by decide) e rfl) u'
  · have key : ∀ (j : Nat) (u1 : Value) (b : Nat), j ≠ k → us[j]? = some u1 → u1.ownBlock = some b → u'.ownBlock ≠ some b := fun j u1 b hj h1 hb e => by
      rcases hat with ha | ha
      · rw [ha] at e; exact hj (h.dis j k u1 u b h1 hu hb e)
      · rw [ha] at e
        have hb' : H = b := by simpa using e
        obtain ⟨r1, hr1⟩ := elem_at (show j < rows.length by have := (List.getElem?_eq_some_iff.1 h1).1; omega)
        have := ((h.inn j u1 r1 h1 hr1).lt b hb).2
        omega
    by_cases hi : i = k
    · subst hi
      rw [List.getElem?_set_self (by omega)] at h1
      cases h1
      by_cases hj : j = i
      · exact hj.symm
      · rw [List.getElem?_set_ne (by omega)] at h2
        exact absurd hb1 (key j u2 b hj h2 hb2)
    · rw [List.getElem?_set_ne (by omega)] at h1
      by_cases hj : j = k
      · subst hj
        rw [List.getElem?_set_self (by omega)] at h2
        cases h2
        exact absurd hb2 (key i u1 b hi h1 hb1)
      · rw [List.getElem?_set_ne (by omega)] at h2
        exact h.dis i j u1 u2 b h1 h2 hb1 hb2
/-- a number of a row is changed -/
theorem OwnRR.put {base : Nat} {W : World} {v : Value} {g n c k j : Nat} {us : List Value} {rows : List (List Int)} {r : List Int} (h : OwnRR base W v us rows)
    (hu : us[k]? = some (.slice (some ⟨g, 0, none⟩) n c)) (hr : rows[k]? = some r) (x : Int) :
    OwnRR base (W.setCell ⟨g, j, none⟩ (.int .i64 x)) v us (rows.set k (r.set j x)) := by
  have hkl := (List.getElem?_eq_some_iff.1 hu).1
  have hl := h.len
  have hou := h.inn k _ r hu hr
  have hn : n = r.length := by
    rcases hou.2 with ⟨e, _⟩ | ⟨_, _, _, e, _⟩
    · cases e
    · cases e; rfl
  subst hn
  refine ⟨by rw [List.length_set]; exact ownsRow_setCell_other (a := ⟨g, j, none⟩) h.out (fun e => owns_type h.out hou (by decide) e rfl) _, fun i u1 r1 h1 hr1 => ?_, h.dis⟩
  by_cases hi : i = k
  · subst hi
    rw [hu] at h1; cases h1
    rw [List.getElem?_set_self (by omega)] at hr1
    cases hr1
    have := hou.stored j (.int .i64 x)
    have e : ints (r.set j x) = (ints r).set j (.int .i64 x) := by unfold ints; rw [List.map_set]
    rw [e, List.length_set]; exact this.1
  · rw [List.getElem?_set_ne (by omega)] at hr1
    exact ownsRow_setCell_other (h.inn i u1 r1 h1 hr1) (fun e => hi (h.dis i k u1 _ g h1 hu e rfl)) _
theorem OwnRR.grown {base : Nat} {W W' : World} {v : Value} {row : Option Nat} {us : List Value} {rows : List (List Int)} (h : OwnRR base W v us rows) (hg : W.grownBy W' row)
    (h1 : ∀ b, v.ownBlock = some b → row ≠ some b) (h2 : ∀ (k : Nat) (u : Value) (b : Nat), us[k]? = some u → u.ownBlock = some b → row ≠ some b) : OwnRR base W' v us rows :=
  ⟨owns_grown h.out hg h1, fun k u r hu hr => owns_grown (h.inn k u r hu hr) hg (fun b hb => h2 k u b hu hb), h.dis⟩
theorem OwnRR.le {base base' : Nat} {W : World} {v : Value} {us : List Value} {rows : List (List Int)} (h : OwnRR base W v us rows) (hb : base' ≤ base) : OwnRR base' W v us rows :=
  ⟨owns_lower h.out hb, fun k u r hu hr => owns_lower (h.inn k u r hu hr) hb, h.dis⟩
end Go.Proofs.Ytmkkegigajmhkaa

