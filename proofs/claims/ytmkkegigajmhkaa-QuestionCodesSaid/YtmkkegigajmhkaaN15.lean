/- Spoilt: a table with one thing changed (case 5). Spoilt: a table with one thing changed (case 0). Spoilt: a table with one thing changed (case 1). Spoilt: a table with one thing changed (case 2). Spoilt: a table with one thing changed (case 3). -/
import Derived.Test.YtmkkegigajmhkaaN06
import Derived.Test.YtmkkegigajmhkaaN07
import Derived.Lib.MinMax
set_option linter.unusedVariables false
namespace Go.Proofs.Ytmkkegigajmhkaa
open Go.RowKit Go.Maps

/-- the i-th of four numbers -/
def four (a b c d i : Int) : Int := if i = 0 then a else if i = 1 then b else if i = 2 then c else d
/-- a table with one thing changed: which one, where -/
def spoilC (T : Tb) (by_ : Int) (i k : Nat) (c : Int) : Tb :=
  if c = 0 then (if k < (rowAt T i).length then ⟨T.rows.set i ((rowAt T i).set k by_), T.costs, T.cls⟩ else T)
  else if c = 1 then ⟨T.rows, T.costs.set k (four 0 1025 1024 by_ (around by_ 4)), T.cls⟩
  else if c = 2 then ⟨T.rows, T.costs, T.cls.set i (four 64 (-1) 63 by_ (around (by_.tdiv 8) 4))⟩
  else if c = 3 then ⟨T.rows.set i (rowAt T i ++ [1]), T.costs, T.cls⟩
  else if c = 4 then ⟨T.rows.set i (rowAt T 0), T.costs, T.cls⟩
  else if c = 5 then ⟨T.rows, T.costs, T.cls ++ [0]⟩
  else if c = 6 then ⟨lsF (fun j => rowAt T j ++ [around (by_.tdiv ((j : Int) + 1)) 2]) T.rows.length, T.costs ++ [1], T.cls⟩
  else if c = 7 then (if T.rows.length = 0 then T else ⟨T.rows ++ List.replicate (60 + around by_ 6).toNat (rowAt T i), T.costs, T.cls ++ List.replicate (60 + around by_ 6).toNat (clsAt T i)⟩)
  else if c = 8 then ⟨[], T.costs, []⟩
  else ⟨T.rows, List.replicate (63 + around by_ 3).toNat 0, T.cls⟩
def spI (T : Tb) (by_ : Int) : Nat := (around by_ (max (T.rows.length : Int) 1)).toNat
def spK (T : Tb) (by_ : Int) : Nat := (around (by_.tdiv 8) (max (T.costs.length : Int) 1)).toNat
def spoilT (T : Tb) (how by_ : Int) : Tb := spoilC T by_ (spI T by_) (spK T by_) (around how 10)
theorem spI_bd (T : Tb) (b : Int) : around b (max (T.rows.length : Int) 1) = (spI T b : Nat) ∧ (0 < T.rows.length → spI T b < T.rows.length) ∧ (T.rows.length = 0 → spI T b = 0) := by
  have := around_bd b (max (T.rows.length : Int) 1) (by omega)
  unfold spI; omega
theorem spK_bd (T : Tb) (b : Int) : around (b.tdiv 8) (max (T.costs.length : Int) 1) = (spK T b : Nat) ∧ (0 < T.costs.length → spK T b < T.costs.length) ∧ (T.costs.length = 0 → spK T b = 0) := by
  have := around_bd (b.tdiv 8) (max (T.costs.length : Int) 1) (by omega)
  unfold spK; omega
/-- a small table -/
structure SmT (T : Tb) : Prop where
  r : T.rows.length ≤ 1000
  c : T.costs.length ≤ 1000
  k : T.cls.length ≤ 1000
  e : ∀ r, r ∈ T.rows → r.length ≤ 1000
  rk : T.rows.length ≤ T.cls.length
theorem tdiv8 (b : Int) (h : -9223372036854775808 ≤ b) (h' : b ≤ 9223372036854775807) : -9223372036854775808 ≤ b.tdiv 8 ∧ b.tdiv 8 ≤ 9223372036854775807 := by
  rcases Int.le_total 0 b with h0 | h0
  · rw [Int.tdiv_eq_ediv_of_nonneg h0]; omega
  · have : b.tdiv 8 = -((-b).tdiv 8) := by rw [Int.neg_tdiv, Int.neg_neg]
    rw [this, Int.tdiv_eq_ediv_of_nonneg (by omega)]; omega
theorem OwnRs.one {base : Nat} {W : World} {u : Value} {r : List Int} (h : W.ownsRow base 3 1 u r.length (ints r)) : OwnRs base W [u] [r] :=
  (OwnRs.nils base W 0).snoc h (fun k u' b h1 => by simp at h1)
theorem four_at (a b c d : Int) (q : Nat) (hq : q < 4) : (#[Value.int .i64 a, .int .i64 b, .int .i64 c, .int .i64 d])[q]? = some (.int .i64 (four a b c d (q : Int))) := by
  rcases (show q = 0 ∨ q = 1 ∨ q = 2 ∨ q = 3 by omega) with rfl | rfl | rfl | rfl <;> rfl
/-- the last list in the place of another one -/
theorem OwnRs.move {N : Nat} {W : World} {us : List Value} {rows : List (List Int)} {u : Value} {r : List Int} (h : OwnRs N W (us ++ [u]) (rows ++ [r])) (hl : us.length = rows.length) (k : Nat) : OwnRs N W (us.set k u) (rows.set k r) := by
  have key : ∀ (j : Nat) (u' : Value), (us.set k u)[j]? = some u' → ∃ j', (us ++ [u])[j']? = some u' ∧ (∀ r', (rows.set k r)[j]? = some r' → (rows ++ [r])[j']? = some r') ∧ ((j = k ∧ j' = us.length) ∨ (j ≠ k ∧ j' = j ∧ j < us.length)) := by
    intro j u' hj
    have hjl : j < us.length := by have := (List.getElem?_eq_some_iff.1 hj).1; simpa using this
    by_cases hjk : j = k
    · subst hjk
      rw [List.getElem?_set_self hjl] at hj
      cases hj
      refine ⟨us.length, get_last us u, fun r' hr' => ?_, .inl ⟨rfl, rfl⟩⟩
      rw [List.getElem?_set_self (by omega)] at hr'
      cases hr'
      rw [hl]; exact get_last rows r
    · rw [List.getElem?_set_ne (by omega)] at hj
      refine ⟨j, by rw [List.getElem?_append_left hjl]; exact hj, fun r' hr' => ?_, .inr ⟨hjk, rfl, hjl⟩⟩
      rw [List.getElem?_set_ne (by omega)] at hr'
      rw [List.getElem?_append_left (by omega)]; exact hr'
  refine ⟨by simp [hl], fun j u' r' hu hr => ?_, fun i j u1 u2 b h1 h2 hb1 hb2 => ?_⟩
  · obtain ⟨j', h1, h2, _⟩ := key j u' hu
    exact h.inn j' u' r' h1 (h2 r' hr)
  · obtain ⟨i', hi1, _, hi3⟩ := key i u1 h1
    obtain ⟨j', hj1, _, hj3⟩ := key j u2 h2
    have := h.dis i' j' u1 u2 b hi1 hj1 hb1 hb2
    omega
theorem tdiv_bd (b d : Int) (h : -9223372036854775808 ≤ b) (h' : b ≤ 9223372036854775807) (hd : 1 ≤ d) : -9223372036854775808 ≤ b.tdiv d ∧ b.tdiv d ≤ 9223372036854775807 := by
  rcases Int.le_total 0 b with h0 | h0
  · have h1 : 0 ≤ b.tdiv d := Int.tdiv_nonneg h0 (by omega)
    have h2 : b.tdiv d ≤ b := Int.tdiv_le_self d h0
    omega
  · have e : b.tdiv d = -((-b).tdiv d) := by rw [Int.neg_tdiv, Int.neg_neg]
    have h1 : 0 ≤ (-b).tdiv d := Int.tdiv_nonneg (by omega) (by omega)
    have h2 : (-b).tdiv d ≤ -b := Int.tdiv_le_self d (by omega)
    omega
set_option maxRecDepth 100000 in
set_option maxHeartbeats 16000000 in
theorem spoil5_any (va vc vk : Value) (T : Tb) (how by_ : Int) (w : World) (h : TbR w va vc vk T) (hs : SmT T) (hb1 : -9223372036854775808 ≤ by_) (hb2 : by_ ≤ 9223372036854775807) (hh1 : -9223372036854775808 ≤ how) (hh2 : how ≤ 9223372036854775807) (hc : around how 10 = 5) :
    Calls Try.prog 11 #[.agg #[va, vc, vk], .int .i64 how, .int .i64 by_] w fun e w' => CopyOut w.heap.size (spoilC T by_ (spI T by_) (spK T by_) 5) e w' ∧ Below w.heap.size w w' := by
  obtain ⟨aa, ca, rfl⟩ := h.rows.form
  obtain ⟨ac, cc, rfl⟩ := h.costs.form
  obtain ⟨ak, ck, rfl⟩ := h.cls.form
  have HBX := Lib.hid ((alloc_below w (.cells #[.slice aa T.rows.length ca, .slice ac T.costs.length cc, .slice ak T.cls.length ck] 25)).alloc (by rw [World.size_alloc]; omega) (.cells #[.slice none 0 0, .slice none 0 0, .slice none 0 0] 25))
  have HTB := h.below HBX.out
  have HT2 := Lib.hid (show Boxs ((w.alloc (.cells #[.slice aa T.rows.length ca, .slice ac T.costs.length cc, .slice ak T.cls.length ck] 25)).alloc (.cells #[.slice none 0 0, .slice none 0 0, .slice none 0 0] 25)) (w.heap.size + 1) 25 #[.slice none 0 0, .slice none 0 0, .slice none 0 0] from by have := Boxs.new (w.alloc (.cells #[.slice aa T.rows.length ca, .slice ac T.costs.length cc, .slice ak T.cls.length ck] 25)) 25 #[.slice none 0 0, .slice none 0 0, .slice none 0 0]; rwa [World.size_alloc] at this)
  have CP := copy_any (.slice aa T.rows.length ca) (.slice ac T.costs.length cc) (.slice ak T.cls.length ck) T ((w.alloc (.cells #[.slice aa T.rows.length ca, .slice ac T.costs.length cc, .slice ak T.cls.length ck] 25)).alloc (.cells #[.slice none 0 0, .slice none 0 0, .slice none 0 0] 25)) HTB ⟨hs.r, hs.c, hs.k, hs.e⟩
  have HS := Lib.hid hs
  have hr1000 := hs.r; have hc1000 := hs.c; have hk1000 := hs.k; have hrk := hs.rk
  obtain ⟨hi1, hi2, hi3⟩ := spI_bd T by_
  obtain ⟨hk1, hk2, hk3⟩ := spK_bd T by_
  obtain ⟨i, hi⟩ : ∃ i, spI T by_ = i := ⟨_, rfl⟩
  obtain ⟨k, hk⟩ : ∃ k, spK T by_ = k := ⟨_, rfl⟩
  rw [hi] at hi1 hi2 hi3 ⊢
  rw [hk] at hk1 hk2 hk3 ⊢
  have HI1 := Lib.hid hi1; have HK1 := Lib.hid hk1; have HI2 := Lib.hid hi2; have HK2 := Lib.hid hk2; have HI3 := Lib.hid hi3; have HK3 := Lib.hid hk3; have HC := Lib.hid hc
  have ht8 := tdiv8 by_ hb1 hb2
  have HT8 := Lib.hid ht8
  clear h HTB hs hi hk hi1 hk1 hi2 hk2 hi3 hk3 hc ht8
  go_enter Try.func11, Try.ntmps11
  go_wp2_with fail
  obtain ⟨B2, hB2⟩ : ∃ B, w.heap.size + 1 = B := ⟨_, rfl⟩
  have hwB2 : w.heap.size ≤ B2 := by omega
  rw [hB2] at HT2 ⊢
  generalize (w.alloc (.cells #[.slice aa T.rows.length ca, .slice ac T.costs.length cc, .slice ak T.cls.length ck] 25)).alloc (.cells #[.slice none 0 0, .slice none 0 0, .slice none 0 0] 25) = w1 at *
  refine CP.mono ?_
  rintro e w2 ⟨⟨ua, uc, uk, us, rfl, hown⟩, hb9⟩
  have hs1 : w.heap.size ≤ w1.heap.size := HBX.out.size
  have HOT := Lib.hid (hown.le hs1)
  have HB2 := Lib.hid (HBX.out.trans (hb9.mono hs1))
  have HT2 := Lib.hid (Boxs.below HT2.out hb9)
  obtain ⟨aa1, ca1, rfl⟩ := owns_form hown.out
  obtain ⟨ac1, cc1, rfl⟩ := owns_form (hown.rs.inn 0 _ _ rfl rfl)
  obtain ⟨ak1, ck1, rfl⟩ := owns_form (hown.rs.inn 1 _ _ rfl rfl)
  clear hown hb9 CP HBX hs1
  obtain ⟨b, hb⟩ : ∃ b, w2.heap.size = b := ⟨_, rfl⟩
  have hs2 : w.heap.size ≤ w2.heap.size := HB2.out.size
  have hltB2 := HT2.out.lt
  have HM := Lib.hid (MT.of (HOT.out.below (alloc_below w2 (.cells #[.slice aa1 T.rows.length ca1, .slice ac1 T.costs.length cc1, .slice ak1 T.cls.length ck1] 25))) (Nat.le_refl _) (HB2.out.alloc hs2 (.cells #[.slice aa1 T.rows.length ca1, .slice ac1 T.costs.length cc1, .slice ak1 T.cls.length ck1] 25)) hs2 hwB2 (Nat.ne_of_gt hltB2) (Boxs.new w2 25 #[.slice aa1 T.rows.length ca1, .slice ac1 T.costs.length cc1, .slice ak1 T.cls.length ck1]) (Boxs.below HT2.out (alloc_below w2 _)))
  rw [hb] at HM
  clear HB2 HT2 HOT hltB2 hs2 hB2
  have z0 := HM.out.cell 0; have z1 := HM.out.cell 1; have z2 := HM.out.cell 2
  have zf := HM.out.box.frozen 0
  simp only [List.getElem?_toArray, List.getElem?_cons_zero, List.getElem?_cons_succ] at z0 z1 z2
  go_wp2_with fail
  refine (around_any by_ _ _ hb1 hb2 (by omega) (by omega)).mono ?_
  rintro e w4 ⟨rfl, rfl⟩
  rw [HI1.out]
  go_wp2_with fail
  refine (around_any (by_.tdiv 8) _ _ HT8.out.1 HT8.out.2 (by omega) (by omega)).mono ?_
  rintro e w4 ⟨rfl, rfl⟩
  rw [HK1.out]
  go_wp2_with fail
  refine (around_any how _ _ hh1 hh2 (by omega) (by omega)).mono ?_
  rintro e w4 ⟨rfl, rfl⟩
  rw [HC.out]
  generalize w2.alloc (.cells #[.slice aa1 T.rows.length ca1, .slice ac1 T.costs.length cc1, .slice ak1 T.cls.length ck1] 25) = w3 at *
  clear hb HI1 HK1 HC HT8 hh1 hh2
  have HE := Lib.hid (show spoilC T by_ i k 5 = ⟨T.rows, T.costs, T.cls ++ [0]⟩ from rfl)
  have hne := HM.out.ne
  clear z0 z1 z2 zf
  have hltr := HM.out.res.lt
  have x0 := HM.out.res.cell 0; have x1 := HM.out.res.cell 1; have x2 := HM.out.res.cell 2
  have y0 := HM.out.res.frozen 0; have y1 := HM.out.res.frozen 1; have y2 := HM.out.res.frozen 2
  have hltb := HM.out.box.lt
  have z0 := HM.out.box.cell 0; have z1 := HM.out.box.cell 1; have z2 := HM.out.box.cell 2
  have zf0 := HM.out.box.frozen 0; have zf1 := HM.out.box.frozen 1; have zf2 := HM.out.box.frozen 2
  simp only [List.getElem?_toArray, List.getElem?_cons_zero, List.getElem?_cons_succ] at x0 x1 x2 z0 z1 z2
  go_wp2_with (at_builtin; refine wpList_appI (base := w.heap.size) rfl _ _ rfl (.slice ak1 T.cls.length ck1) (T.cls) rfl ((HM.out.alloc (.cells #[.int .i64 0] 3)).row (k := 1) rfl rfl) (.slice (some ⟨w3.heap.size, 0, none⟩) 1 1) [0] rfl (Rd_fresh w3 3 #[.int .i64 0] 1 rfl (by omega)) (by simp; omega) (by have := HM.out.sz; simp; omega) ?_; intro v6 w6 happ; have hm6 := (HM.out.alloc (.cells #[.int .i64 0] 3)).appI 1 rfl happ; simp only [List.set_cons_zero, List.set_cons_succ] at hm6; obtain ⟨a6, k6, rfl⟩ := happ.form; rw [show ((T.cls) ++ [0] : List Int).length = (T.cls).length + 1 by simp] at hm6; have HM6 := Lib.hid hm6; clear z0 z1 z2 zf0 zf1 zf2 hltb hltr x0 x1 x2 y0 y1 y2; have hltr := hm6.res.lt; have x0 := hm6.res.cell 0; have x1 := hm6.res.cell 1; have x2 := hm6.res.cell 2; have y0 := hm6.res.frozen 0; have y1 := hm6.res.frozen 1; have y2 := hm6.res.frozen 2; have hltb := hm6.box.lt; have z0 := hm6.box.cell 0; have z1 := hm6.box.cell 1; have z2 := hm6.box.cell 2; have zf0 := hm6.box.frozen 0; have zf1 := hm6.box.frozen 1; have zf2 := hm6.box.frozen 2; simp only [List.getElem?_toArray, List.getElem?_cons_zero, List.getElem?_cons_succ] at x0 x1 x2 z0 z1 z2; clear hm6 happ)
  have HM7 := Lib.hid (HM6.out.put 2 (.slice a6 (T.cls.length + 1) k6))
  have hm3 := ((HM7.out.putres 0 (.slice aa1 T.rows.length ca1)).putres 1 (.slice ac1 T.costs.length cc1)).putres 2 (.slice a6 (T.cls.length + 1) k6)
  have e0 := hm3.res.cell 0; have e1 := hm3.res.cell 1; have e2 := hm3.res.cell 2
  simp only [List.setIfInBounds_toArray, List.set_cons_zero, List.set_cons_succ, List.getElem?_toArray, List.getElem?_cons_zero, List.getElem?_cons_succ] at e0 e1 e2
  refine bodyPost_ret (v := .agg #[.slice aa1 T.rows.length ca1, .slice ac1 T.costs.length cc1, .slice a6 (T.cls.length + 1) k6]) ?_ rfl ⟨?_, hm3.bel⟩
  · simp only [results, Try.results11]
    simp [go_sem, e0, e1, e2]
  · rw [HE.out]; exact ⟨_, _, _, us, rfl, ⟨hm3.out, hm3.rs⟩⟩
end Go.Proofs.Ytmkkegigajmhkaa

namespace Go.Proofs.Ytmkkegigajmhkaa
open Go.RowKit Go.Maps

set_option maxRecDepth 100000 in
set_option maxHeartbeats 16000000 in
theorem spoil0_any (va vc vk : Value) (T : Tb) (how by_ : Int) (w : World) (h : TbR w va vc vk T) (hs : SmT T) (hb1 : -9223372036854775808 ≤ by_) (hb2 : by_ ≤ 9223372036854775807) (hh1 : -9223372036854775808 ≤ how) (hh2 : how ≤ 9223372036854775807) (hc : around how 10 = 0) :
    Calls Try.prog 11 #[.agg #[va, vc, vk], .int .i64 how, .int .i64 by_] w fun e w' => CopyOut w.heap.size (spoilC T by_ (spI T by_) (spK T by_) 0) e w' ∧ Below w.heap.size w w' := by
  obtain ⟨aa, ca, rfl⟩ := h.rows.form
  obtain ⟨ac, cc, rfl⟩ := h.costs.form
  obtain ⟨ak, ck, rfl⟩ := h.cls.form
  have HBX := Lib.hid ((alloc_below w (.cells #[.slice aa T.rows.length ca, .slice ac T.costs.length cc, .slice ak T.cls.length ck] 25)).alloc (by rw [World.size_alloc]; omega) (.cells #[.slice none 0 0, .slice none 0 0, .slice none 0 0] 25))
  have HTB := h.below HBX.out
  have HT2 := Lib.hid (show Boxs ((w.alloc (.cells #[.slice aa T.rows.length ca, .slice ac T.costs.length cc, .slice ak T.cls.length ck] 25)).alloc (.cells #[.slice none 0 0, .slice none 0 0, .slice none 0 0] 25)) (w.heap.size + 1) 25 #[.slice none 0 0, .slice none 0 0, .slice none 0 0] from by have := Boxs.new (w.alloc (.cells #[.slice aa T.rows.length ca, .slice ac T.costs.length cc, .slice ak T.cls.length ck] 25)) 25 #[.slice none 0 0, .slice none 0 0, .slice none 0 0]; rwa [World.size_alloc] at this)
  have CP := copy_any (.slice aa T.rows.length ca) (.slice ac T.costs.length cc) (.slice ak T.cls.length ck) T ((w.alloc (.cells #[.slice aa T.rows.length ca, .slice ac T.costs.length cc, .slice ak T.cls.length ck] 25)).alloc (.cells #[.slice none 0 0, .slice none 0 0, .slice none 0 0] 25)) HTB ⟨hs.r, hs.c, hs.k, hs.e⟩
  have HS := Lib.hid hs
  have hr1000 := hs.r; have hc1000 := hs.c; have hk1000 := hs.k; have hrk := hs.rk
  obtain ⟨hi1, hi2, hi3⟩ := spI_bd T by_
  obtain ⟨hk1, hk2, hk3⟩ := spK_bd T by_
  obtain ⟨i, hi⟩ : ∃ i, spI T by_ = i := ⟨_, rfl⟩
  obtain ⟨k, hk⟩ : ∃ k, spK T by_ = k := ⟨_, rfl⟩
  rw [hi] at hi1 hi2 hi3 ⊢
  rw [hk] at hk1 hk2 hk3 ⊢
  have HI1 := Lib.hid hi1; have HK1 := Lib.hid hk1; have HI2 := Lib.hid hi2; have HK2 := Lib.hid hk2; have HI3 := Lib.hid hi3; have HK3 := Lib.hid hk3; have HC := Lib.hid hc
  have ht8 := tdiv8 by_ hb1 hb2
  have HT8 := Lib.hid ht8
  clear h HTB hs hi hk hi1 hk1 hi2 hk2 hi3 hk3 hc ht8
  go_enter Try.func11, Try.ntmps11
  go_wp2_with fail
  obtain ⟨B2, hB2⟩ : ∃ B, w.heap.size + 1 = B := ⟨_, rfl⟩
  have hwB2 : w.heap.size ≤ B2 := by omega
  rw [hB2] at HT2 ⊢
  generalize (w.alloc (.cells #[.slice aa T.rows.length ca, .slice ac T.costs.length cc, .slice ak T.cls.length ck] 25)).alloc (.cells #[.slice none 0 0, .slice none 0 0, .slice none 0 0] 25) = w1 at *
  refine CP.mono ?_
  rintro e w2 ⟨⟨ua, uc, uk, us, rfl, hown⟩, hb9⟩
  have hs1 : w.heap.size ≤ w1.heap.size := HBX.out.size
  have HOT := Lib.hid (hown.le hs1)
  have HB2 := Lib.hid (HBX.out.trans (hb9.mono hs1))
  have HT2 := Lib.hid (Boxs.below HT2.out hb9)
  obtain ⟨aa1, ca1, rfl⟩ := owns_form hown.out
  obtain ⟨ac1, cc1, rfl⟩ := owns_form (hown.rs.inn 0 _ _ rfl rfl)
  obtain ⟨ak1, ck1, rfl⟩ := owns_form (hown.rs.inn 1 _ _ rfl rfl)
  clear hown hb9 CP HBX hs1
  obtain ⟨b, hb⟩ : ∃ b, w2.heap.size = b := ⟨_, rfl⟩
  have hs2 : w.heap.size ≤ w2.heap.size := HB2.out.size
  have hltB2 := HT2.out.lt
  have HM := Lib.hid (MT.of (HOT.out.below (alloc_below w2 (.cells #[.slice aa1 T.rows.length ca1, .slice ac1 T.costs.length cc1, .slice ak1 T.cls.length ck1] 25))) (Nat.le_refl _) (HB2.out.alloc hs2 (.cells #[.slice aa1 T.rows.length ca1, .slice ac1 T.costs.length cc1, .slice ak1 T.cls.length ck1] 25)) hs2 hwB2 (Nat.ne_of_gt hltB2) (Boxs.new w2 25 #[.slice aa1 T.rows.length ca1, .slice ac1 T.costs.length cc1, .slice ak1 T.cls.length ck1]) (Boxs.below HT2.out (alloc_below w2 _)))
  rw [hb] at HM
  clear HB2 HT2 HOT hltB2 hs2 hB2
  have z0 := HM.out.cell 0; have z1 := HM.out.cell 1; have z2 := HM.out.cell 2
  have zf := HM.out.box.frozen 0
  simp only [List.getElem?_toArray, List.getElem?_cons_zero, List.getElem?_cons_succ] at z0 z1 z2
  go_wp2_with fail
  refine (around_any by_ _ _ hb1 hb2 (by omega) (by omega)).mono ?_
  rintro e w4 ⟨rfl, rfl⟩
  rw [HI1.out]
  go_wp2_with fail
  refine (around_any (by_.tdiv 8) _ _ HT8.out.1 HT8.out.2 (by omega) (by omega)).mono ?_
  rintro e w4 ⟨rfl, rfl⟩
  rw [HK1.out]
  go_wp2_with fail
  refine (around_any how _ _ hh1 hh2 (by omega) (by omega)).mono ?_
  rintro e w4 ⟨rfl, rfl⟩
  rw [HC.out]
  generalize w2.alloc (.cells #[.slice aa1 T.rows.length ca1, .slice ac1 T.costs.length cc1, .slice ak1 T.cls.length ck1] 25) = w3 at *
  clear hb HI1 HK1 HC HT8 hh1 hh2
  have hne := HM.out.ne
  by_cases hn : 0 < T.rows.length
  · have hin := HI2.out hn
    obtain ⟨r, hr⟩ := elem_at hin
    have hra := rowAt_of hr
    obtain ⟨u, hu, hur⟩ := HM.out.rs.tail.tail.row hr
    obtain ⟨au, cu, rfl⟩ := owns_form hur
    have hr1 := HS.out.e r (List.mem_of_getElem? hr)
    obtain ⟨ga, ca2, hva⟩ := ownsRow_some HM.out.out hn
    cases hva
    have hca := HM.out.out.cellAt i (show i < T.rows.length * 1 by omega)
    rw [hu] at hca
    have hfa := HM.out.out.frozenAt i
    have hla := (HM.out.out.lt ga rfl).2
    have hn1 : (0 : Int) < (T.rows.length : Int) := by omega
    have hi0 : (0 : Int) ≤ (i : Int) := Int.natCast_nonneg _
    have hi1 : (i : Int) < (T.rows.length : Int) := by omega
    have HU := Lib.hid hu; have HR := Lib.hid hr
    by_cases hkr : k < r.length
    · obtain ⟨gu, cu2, hvu⟩ := ownsRow_some hur (by omega)
      cases hvu
      have HE := Lib.hid (show spoilC T by_ i k 0 = ⟨T.rows.set i (r.set k by_), T.costs, T.cls⟩ by unfold spoilC; rw [if_pos rfl, hra, if_pos hkr])
      have hcu := hur.cellAt k (show k < r.length * 1 by omega)
      obtain ⟨y, hy⟩ := elem_at hkr
      rw [show (ints r)[k]? = some (.int .i64 y) by unfold ints; rw [List.getElem?_map, hy]; rfl] at hcu
      have hfu := hur.frozenAt k
      have hlu := (hur.lt gu rfl).2
      have hk0 : (0 : Int) ≤ (k : Int) := Int.natCast_nonneg _
      have hk1 : (k : Int) < (r.length : Int) := by omega
      have HM7 := Lib.hid (HM.out.puti (k := i + 2) (j := k) (by simpa using hu) (by simpa using hr) by_)
      have hbg : b ≠ gu := fun e => HM.out.box.not_own hur (by decide) (by rw [e]; rfl)
      have hBg : B2 ≠ gu := fun e => HM.out.res.not_own hur (by decide) (by rw [e]; rfl)
      clear z0 z1 z2 zf hu hr hur hra hy
      have hltr := HM.out.res.lt
      have x0 := HM.out.res.cell 0; have x1 := HM.out.res.cell 1; have x2 := HM.out.res.cell 2
      have y0 := HM.out.res.frozen 0; have y1 := HM.out.res.frozen 1; have y2 := HM.out.res.frozen 2
      have hltb := HM.out.box.lt
      have z0 := HM.out.box.cell 0; have z1 := HM.out.box.cell 1; have z2 := HM.out.box.cell 2
      have zf0 := HM.out.box.frozen 0; have zf1 := HM.out.box.frozen 1; have zf2 := HM.out.box.frozen 2
      simp only [List.getElem?_toArray, List.getElem?_cons_zero, List.getElem?_cons_succ] at x0 x1 x2 z0 z1 z2
      go_wp2_with fail
      have hm3 := ((HM7.out.putres 0 (.slice (some ⟨ga, 0, none⟩) T.rows.length ca1)).putres 1 (.slice ac1 T.costs.length cc1)).putres 2 (.slice ak1 T.cls.length ck1)
      have e0 := hm3.res.cell 0; have e1 := hm3.res.cell 1; have e2 := hm3.res.cell 2
      simp only [List.setIfInBounds_toArray, List.set_cons_zero, List.set_cons_succ, List.getElem?_toArray, List.getElem?_cons_zero, List.getElem?_cons_succ] at e0 e1 e2
      refine bodyPost_ret (v := .agg #[.slice (some ⟨ga, 0, none⟩) T.rows.length ca1, .slice ac1 T.costs.length cc1, .slice ak1 T.cls.length ck1]) ?_ rfl ⟨?_, hm3.bel⟩
      · simp only [results, Try.results11]
        simp [go_sem, e0, e1, e2]
      · rw [HE.out]; exact ⟨_, _, _, us, rfl, ⟨by have := hm3.out; rwa [List.length_set], by have := hm3.rs; rwa [List.set_cons_succ, List.set_cons_succ] at this⟩⟩
    · have HE := Lib.hid (show spoilC T by_ i k 0 = T by unfold spoilC; rw [if_pos rfl, hra, if_neg hkr])
      have hk1 : ¬ (k : Int) < (r.length : Int) := by omega
      have HM7 := Lib.hid HM.out
      clear z0 z1 z2 zf hu hr hur hra
      have hltr := HM.out.res.lt
      have x0 := HM.out.res.cell 0; have x1 := HM.out.res.cell 1; have x2 := HM.out.res.cell 2
      have y0 := HM.out.res.frozen 0; have y1 := HM.out.res.frozen 1; have y2 := HM.out.res.frozen 2
      have hltb := HM.out.box.lt
      have z0 := HM.out.box.cell 0; have z1 := HM.out.box.cell 1; have z2 := HM.out.box.cell 2
      have zf0 := HM.out.box.frozen 0; have zf1 := HM.out.box.frozen 1; have zf2 := HM.out.box.frozen 2
      simp only [List.getElem?_toArray, List.getElem?_cons_zero, List.getElem?_cons_succ] at x0 x1 x2 z0 z1 z2
      go_wp2_with fail
      have hm3 := ((HM7.out.putres 0 (.slice (some ⟨ga, 0, none⟩) T.rows.length ca1)).putres 1 (.slice ac1 T.costs.length cc1)).putres 2 (.slice ak1 T.cls.length ck1)
      have e0 := hm3.res.cell 0; have e1 := hm3.res.cell 1; have e2 := hm3.res.cell 2
      simp only [List.setIfInBounds_toArray, List.set_cons_zero, List.set_cons_succ, List.getElem?_toArray, List.getElem?_cons_zero, List.getElem?_cons_succ] at e0 e1 e2
      refine bodyPost_ret (v := .agg #[.slice (some ⟨ga, 0, none⟩) T.rows.length ca1, .slice ac1 T.costs.length cc1, .slice ak1 T.cls.length ck1]) ?_ rfl ⟨?_, hm3.bel⟩
      · simp only [results, Try.results11]
        simp [go_sem, e0, e1, e2]
      · rw [HE.out]; exact ⟨_, _, _, us, rfl, ⟨hm3.out, hm3.rs⟩⟩
  · have h0 := HI3.out (by omega)
    subst h0
    have hra : rowAt T 0 = [] := by unfold rowAt; rw [List.getElem?_eq_none (by omega)]; rfl
    have HE := Lib.hid (show spoilC T by_ 0 k 0 = T by unfold spoilC; rw [if_pos rfl, hra, if_neg (by simp)])
    have hn1 : ¬ (0 : Int) < (T.rows.length : Int) := by omega
    have HM7 := Lib.hid HM.out
    clear z0 z1 z2 zf hra
    have hltr := HM.out.res.lt
    have x0 := HM.out.res.cell 0; have x1 := HM.out.res.cell 1; have x2 := HM.out.res.cell 2
    have y0 := HM.out.res.frozen 0; have y1 := HM.out.res.frozen 1; have y2 := HM.out.res.frozen 2
    have hltb := HM.out.box.lt
    have z0 := HM.out.box.cell 0; have z1 := HM.out.box.cell 1; have z2 := HM.out.box.cell 2
    have zf0 := HM.out.box.frozen 0; have zf1 := HM.out.box.frozen 1; have zf2 := HM.out.box.frozen 2
    simp only [List.getElem?_toArray, List.getElem?_cons_zero, List.getElem?_cons_succ] at x0 x1 x2 z0 z1 z2
    go_wp2_with fail
    have hm3 := ((HM7.out.putres 0 (.slice aa1 T.rows.length ca1)).putres 1 (.slice ac1 T.costs.length cc1)).putres 2 (.slice ak1 T.cls.length ck1)
    have e0 := hm3.res.cell 0; have e1 := hm3.res.cell 1; have e2 := hm3.res.cell 2
    simp only [List.setIfInBounds_toArray, List.set_cons_zero, List.set_cons_succ, List.getElem?_toArray, List.getElem?_cons_zero, List.getElem?_cons_succ] at e0 e1 e2
    refine bodyPost_ret (v := .agg #[.slice aa1 T.rows.length ca1, .slice ac1 T.costs.length cc1, .slice ak1 T.cls.length ck1]) ?_ rfl ⟨?_, hm3.bel⟩
    · simp only [results, Try.results11]
      simp [go_sem, e0, e1, e2]
    · rw [HE.out]; exact ⟨_, _, _, us, rfl, ⟨hm3.out, hm3.rs⟩⟩
end Go.Proofs.Ytmkkegigajmhkaa

namespace Go.Proofs.Ytmkkegigajmhkaa
open Go.RowKit Go.Maps

set_option maxRecDepth 100000 in
set_option maxHeartbeats 16000000 in
theorem spoil1_any (va vc vk : Value) (T : Tb) (how by_ : Int) (w : World) (h : TbR w va vc vk T) (hs : SmT T) (hb1 : -9223372036854775808 ≤ by_) (hb2 : by_ ≤ 9223372036854775807) (hh1 : -9223372036854775808 ≤ how) (hh2 : how ≤ 9223372036854775807) (hc : around how 10 = 1) :
    Calls Try.prog 11 #[.agg #[va, vc, vk], .int .i64 how, .int .i64 by_] w fun e w' => CopyOut w.heap.size (spoilC T by_ (spI T by_) (spK T by_) 1) e w' ∧ Below w.heap.size w w' := by
  obtain ⟨aa, ca, rfl⟩ := h.rows.form
  obtain ⟨ac, cc, rfl⟩ := h.costs.form
  obtain ⟨ak, ck, rfl⟩ := h.cls.form
  have HBX := Lib.hid ((alloc_below w (.cells #[.slice aa T.rows.length ca, .slice ac T.costs.length cc, .slice ak T.cls.length ck] 25)).alloc (by rw [World.size_alloc]; omega) (.cells #[.slice none 0 0, .slice none 0 0, .slice none 0 0] 25))
  have HTB := h.below HBX.out
  have HT2 := Lib.hid (show Boxs ((w.alloc (.cells #[.slice aa T.rows.length ca, .slice ac T.costs.length cc, .slice ak T.cls.length ck] 25)).alloc (.cells #[.slice none 0 0, .slice none 0 0, .slice none 0 0] 25)) (w.heap.size + 1) 25 #[.slice none 0 0, .slice none 0 0, .slice none 0 0] from by have := Boxs.new (w.alloc (.cells #[.slice aa T.rows.length ca, .slice ac T.costs.length cc, .slice ak T.cls.length ck] 25)) 25 #[.slice none 0 0, .slice none 0 0, .slice none 0 0]; rwa [World.size_alloc] at this)
  have CP := copy_any (.slice aa T.rows.length ca) (.slice ac T.costs.length cc) (.slice ak T.cls.length ck) T ((w.alloc (.cells #[.slice aa T.rows.length ca, .slice ac T.costs.length cc, .slice ak T.cls.length ck] 25)).alloc (.cells #[.slice none 0 0, .slice none 0 0, .slice none 0 0] 25)) HTB ⟨hs.r, hs.c, hs.k, hs.e⟩
  have HS := Lib.hid hs
  have hr1000 := hs.r; have hc1000 := hs.c; have hk1000 := hs.k; have hrk := hs.rk
  obtain ⟨hi1, hi2, hi3⟩ := spI_bd T by_
  obtain ⟨hk1, hk2, hk3⟩ := spK_bd T by_
  obtain ⟨i, hi⟩ : ∃ i, spI T by_ = i := ⟨_, rfl⟩
  obtain ⟨k, hk⟩ : ∃ k, spK T by_ = k := ⟨_, rfl⟩
  rw [hi] at hi1 hi2 hi3 ⊢
  rw [hk] at hk1 hk2 hk3 ⊢
  have HI1 := Lib.hid hi1; have HK1 := Lib.hid hk1; have HI2 := Lib.hid hi2; have HK2 := Lib.hid hk2; have HI3 := Lib.hid hi3; have HK3 := Lib.hid hk3; have HC := Lib.hid hc
  have ht8 := tdiv8 by_ hb1 hb2
  have HT8 := Lib.hid ht8
  clear h HTB hs hi hk hi1 hk1 hi2 hk2 hi3 hk3 hc ht8
  go_enter Try.func11, Try.ntmps11
  go_wp2_with fail
  obtain ⟨B2, hB2⟩ : ∃ B, w.heap.size + 1 = B := ⟨_, rfl⟩
  have hwB2 : w.heap.size ≤ B2 := by omega
  rw [hB2] at HT2 ⊢
  generalize (w.alloc (.cells #[.slice aa T.rows.length ca, .slice ac T.costs.length cc, .slice ak T.cls.length ck] 25)).alloc (.cells #[.slice none 0 0, .slice none 0 0, .slice none 0 0] 25) = w1 at *
  refine CP.mono ?_
  rintro e w2 ⟨⟨ua, uc, uk, us, rfl, hown⟩, hb9⟩
  have hs1 : w.heap.size ≤ w1.heap.size := HBX.out.size
  have HOT := Lib.hid (hown.le hs1)
  have HB2 := Lib.hid (HBX.out.trans (hb9.mono hs1))
  have HT2 := Lib.hid (Boxs.below HT2.out hb9)
  obtain ⟨aa1, ca1, rfl⟩ := owns_form hown.out
  obtain ⟨ac1, cc1, rfl⟩ := owns_form (hown.rs.inn 0 _ _ rfl rfl)
  obtain ⟨ak1, ck1, rfl⟩ := owns_form (hown.rs.inn 1 _ _ rfl rfl)
  clear hown hb9 CP HBX hs1
  obtain ⟨b, hb⟩ : ∃ b, w2.heap.size = b := ⟨_, rfl⟩
  have hs2 : w.heap.size ≤ w2.heap.size := HB2.out.size
  have hltB2 := HT2.out.lt
  have HM := Lib.hid (MT.of (HOT.out.below (alloc_below w2 (.cells #[.slice aa1 T.rows.length ca1, .slice ac1 T.costs.length cc1, .slice ak1 T.cls.length ck1] 25))) (Nat.le_refl _) (HB2.out.alloc hs2 (.cells #[.slice aa1 T.rows.length ca1, .slice ac1 T.costs.length cc1, .slice ak1 T.cls.length ck1] 25)) hs2 hwB2 (Nat.ne_of_gt hltB2) (Boxs.new w2 25 #[.slice aa1 T.rows.length ca1, .slice ac1 T.costs.length cc1, .slice ak1 T.cls.length ck1]) (Boxs.below HT2.out (alloc_below w2 _)))
  rw [hb] at HM
  clear HB2 HT2 HOT hltB2 hs2 hB2
  have z0 := HM.out.cell 0; have z1 := HM.out.cell 1; have z2 := HM.out.cell 2
  have zf := HM.out.box.frozen 0
  simp only [List.getElem?_toArray, List.getElem?_cons_zero, List.getElem?_cons_succ] at z0 z1 z2
  go_wp2_with fail
  refine (around_any by_ _ _ hb1 hb2 (by omega) (by omega)).mono ?_
  rintro e w4 ⟨rfl, rfl⟩
  rw [HI1.out]
  go_wp2_with fail
  refine (around_any (by_.tdiv 8) _ _ HT8.out.1 HT8.out.2 (by omega) (by omega)).mono ?_
  rintro e w4 ⟨rfl, rfl⟩
  rw [HK1.out]
  go_wp2_with fail
  refine (around_any how _ _ hh1 hh2 (by omega) (by omega)).mono ?_
  rintro e w4 ⟨rfl, rfl⟩
  rw [HC.out]
  generalize w2.alloc (.cells #[.slice aa1 T.rows.length ca1, .slice ac1 T.costs.length cc1, .slice ak1 T.cls.length ck1] 25) = w3 at *
  clear hb HI1 HK1 HC hh1 hh2
  have hne := HM.out.ne
  have har := around_bd by_ 4 (by omega)
  obtain ⟨q, hq⟩ : ∃ q : Nat, around by_ 4 = q := ⟨(around by_ 4).toNat, by omega⟩
  have hq4 : q < 4 := by omega
  have hr := HM.out.rs.inn 0 (.slice ac1 T.costs.length cc1) T.costs rfl rfl
  have HEE := Lib.hid (show spoilC T by_ i k 1 = ⟨T.rows, T.costs.set k (four 0 1025 1024 by_ (q : Int)), T.cls⟩ by rw [← hq]; rfl)
  have HQ := Lib.hid hq
  have HW8 := Lib.hid (show IntKind.i64.wrap (by_.tdiv 8) = by_.tdiv 8 from IntWalk.i64_in _ (tdiv8 by_ hb1 hb2))
  clear z0 z1 z2 zf har hq
  by_cases hlt : k < T.costs.length
  · obtain ⟨gc, c9, hv⟩ := ownsRow_some hr (by omega)
    cases hv
    have HE := HEE
    have hcc := hr.cellAt k (show k < T.costs.length * 1 by omega)
    obtain ⟨y, hy⟩ := elem_at hlt
    rw [show (ints T.costs)[k]? = some (.int .i64 y) by unfold ints; rw [List.getElem?_map, hy]; rfl] at hcc
    have hfc := hr.frozenAt k
    have hlc := (hr.lt gc rfl).2
    have hi0 : (0 : Int) ≤ (k : Int) := Int.natCast_nonneg _
    have hi1 : (k : Int) < (T.costs.length : Int) := by omega
    have hq0 : (0 : Int) ≤ (q : Int) := Int.natCast_nonneg _
    have hq1 : (q : Int) < 4 := by omega
    have hbg : b ≠ gc := fun e => HM.out.box.not_own hr (by decide) (by rw [e]; rfl)
    have hBg : B2 ≠ gc := fun e => HM.out.res.not_own hr (by decide) (by rw [e]; rfl)
    have hz := HM.out.box.cell 1
    simp only [List.getElem?_toArray, List.getElem?_cons_zero, List.getElem?_cons_succ] at hz
    have XX := hr
    clear hy
    go_wp2_with fail
    refine wp_region_E (fun W => W.cell? ⟨b, 1, none⟩ = some (.slice (some ⟨gc, 0, none⟩) T.costs.length cc1)) (by kernel_rfl) ?_
    have hdr : (w3).drew = { w3 with drawn := (w3).drawn + 1 } := rfl
    rw [← hdr]
    clear hdr
    change wpAnyE _ _ _ _ _ _ _ _ ((w3).drewN 1)
    refine tg 0 65 rfl rfl (.pointer (some ⟨b, 1, none⟩)) hz ?_
    try simp only [pa, pl]
    refine tk 1 66 rfl rfl (.slice (some ⟨gc, 0, none⟩) T.costs.length cc1) (fun W hW => by obtain hz := hW; go_simp) hz ?_
    try simp only [pa, pl]
    refine tm 2 67 rfl rfl (.int .i64 (k : Int)) hz ?_
    try simp only [pa, pl]
    refine tm 3 68 rfl rfl (.int .i64 by_) hz ?_
    try simp only [pa, pl]
    refine tm 5 70 rfl rfl (.int .i64 by_) hz ?_
    try simp only [pa, pl]
    have HM8 := Lib.hid (HM.out.dn.alloc (.cells #[.int .i64 0, .int .i64 1025, .int .i64 1024, .int .i64 by_] 3))
    have hz8 := HM8.out.box.cell 1
    simp only [List.getElem?_toArray, List.getElem?_cons_zero, List.getElem?_cons_succ] at hz8
    have hx8 : ((w3.drewN 1).alloc (.cells #[.int .i64 0, .int .i64 1025, .int .i64 1024, .int .i64 by_] 3)).cell? ⟨w3.heap.size, q, none⟩ = some (.int .i64 (four 0 1025 1024 by_ (q : Int))) := ((Boxs.new (w3.drewN 1) 3 #[.int .i64 0, .int .i64 1025, .int .i64 1024, .int .i64 by_]).cell q).trans (four_at _ _ _ _ q hq4)
    have hr8 := HM8.out.rs.inn 0 _ _ rfl rfl
    have hfc8 := hr8.frozenAt k
    have hcc8 := hr8.cellAt k (show k < T.costs.length * 1 by omega)
    rw [show (ints T.costs)[k]? = some (.int .i64 ((T.costs[k]?).getD 0)) by unfold ints; rw [List.getElem?_map, List.getElem?_eq_getElem hlt]; rfl] at hcc8
    have hlc8 := (hr8.lt gc rfl).2
    refine wpAnyEBoth 4 6 (by kernel_rfl) ?_ ?_
    · refine wpOpRun' (v := .slice (some ⟨w3.heap.size, 0, none⟩) 4 4) (w' := ((w3.drewN 1).alloc (.cells #[.int .i64 0, .int .i64 1025, .int .i64 1024, .int .i64 by_] 3))) (some 69) rfl rfl rfl (by go_simp <;> rfl) ?_
      refine ⟨.inl (hz8), ?_⟩
      try simp only [pa, pl]
      refine wpAnyEOne 6 (by kernel_rfl) ?_
      refine wpOpCall (some 71) 22 #[.int .i64 by_, .int .i64 4] rfl rfl rfl (by go_simp) (around_any by_ 4 ((w3.drewN 1).alloc (.cells #[.int .i64 0, .int .i64 1025, .int .i64 1024, .int .i64 by_] 3)) hb1 hb2 (by omega) (by omega)) ?_
      rintro e w4 ⟨rfl, rfl⟩
      refine ⟨_, rfl, ?_⟩
      rw [HQ.out]
      refine ⟨.inl (hz8), ?_⟩
      try simp only [pa, pl]
      refine wpAnyEOne 7 (by kernel_rfl) ?_
      refine wpOpRun' (v := .pointer (some ⟨w3.heap.size, q, none⟩)) (w' := ((w3.drewN 1).alloc (.cells #[.int .i64 0, .int .i64 1025, .int .i64 1024, .int .i64 by_] 3))) (some 72) rfl rfl rfl (by go_simp <;> rfl) ?_
      refine ⟨.inl (hz8), ?_⟩
      try simp only [pa, pl]
      refine wpAnyEOne 8 (by kernel_rfl) ?_
      refine wpOpRun' (v := .int .i64 (four 0 1025 1024 by_ (q : Int))) (w' := ((w3.drewN 1).alloc (.cells #[.int .i64 0, .int .i64 1025, .int .i64 1024, .int .i64 by_] 3))) (some 73) rfl rfl rfl (by go_simp <;> rfl) ?_
      refine ⟨.inl (hz8), ?_⟩
      try simp only [pa, pl]
      refine wpAnyEOne 9 (by kernel_rfl) ?_
      refine wpOpRun' (v := .pointer (some ⟨gc, k, none⟩)) (w' := ((w3.drewN 1).alloc (.cells #[.int .i64 0, .int .i64 1025, .int .i64 1024, .int .i64 by_] 3))) (some 74) rfl rfl rfl (by go_simp <;> rfl) ?_
      refine ⟨.inl (hz8), ?_⟩
      try simp only [pa, pl]
      refine wpAnyEOne 10 (by kernel_rfl) ?_
      refine wpOpSkip (w' := ((w3.drewN 1).alloc (.cells #[.int .i64 0, .int .i64 1025, .int .i64 1024, .int .i64 by_] 3)).setCell ⟨gc, k, none⟩ (.int .i64 (four 0 1025 1024 by_ (q : Int)))) 10 rfl rfl rfl (by go_simp <;> rfl) ?_
      refine ⟨.inr (allUp_of (by kernel_rfl)), ?_⟩
      try simp only [pa, pl]
      refine wpAnyE_done (by kernel_rfl) ?_ _
      have HM7 := Lib.hid (HM8.out.puti (k := 0) (j := k) rfl rfl (four 0 1025 1024 by_ (q : Int)))
      clear HM8 hz8 hx8 hr8 hfc8 hcc8 hlc8 XX hr hcc hfc hlc hz HM
      generalize ((w3.drewN 1).alloc (.cells #[.int .i64 0, .int .i64 1025, .int .i64 1024, .int .i64 by_] 3)).setCell ⟨gc, k, none⟩ (.int .i64 (four 0 1025 1024 by_ (q : Int))) = w7 at *
      have hltr := HM7.out.res.lt
      have x0 := HM7.out.res.cell 0; have x1 := HM7.out.res.cell 1; have x2 := HM7.out.res.cell 2
      have y0 := HM7.out.res.frozen 0; have y1 := HM7.out.res.frozen 1; have y2 := HM7.out.res.frozen 2
      have hltb := HM7.out.box.lt
      have z0 := HM7.out.box.cell 0; have z1 := HM7.out.box.cell 1; have z2 := HM7.out.box.cell 2
      have zf0 := HM7.out.box.frozen 0; have zf1 := HM7.out.box.frozen 1; have zf2 := HM7.out.box.frozen 2
      simp only [List.getElem?_toArray, List.getElem?_cons_zero, List.getElem?_cons_succ] at x0 x1 x2 z0 z1 z2
      go_wp2_with fail
      have hm3 := ((HM7.out.putres 0 (.slice aa1 T.rows.length ca1)).putres 1 (.slice (some ⟨gc, 0, none⟩) T.costs.length cc1)).putres 2 (.slice ak1 T.cls.length ck1)
      have e0 := hm3.res.cell 0; have e1 := hm3.res.cell 1; have e2 := hm3.res.cell 2
      simp only [List.setIfInBounds_toArray, List.set_cons_zero, List.set_cons_succ, List.getElem?_toArray, List.getElem?_cons_zero, List.getElem?_cons_succ] at e0 e1 e2
      refine bodyPost_ret (v := .agg #[.slice aa1 T.rows.length ca1, .slice (some ⟨gc, 0, none⟩) T.costs.length cc1, .slice ak1 T.cls.length ck1]) ?_ rfl ⟨?_, hm3.bel⟩
      · simp only [results, Try.results11]
        simp [go_sem, e0, e1, e2]
      · rw [HE.out]; exact ⟨_, _, _, us, rfl, ⟨hm3.out, by have := hm3.rs; simp only [List.set_cons_zero] at this ⊢; exact this⟩⟩
    · refine wpOpCall (some 71) 22 #[.int .i64 by_, .int .i64 4] rfl rfl rfl (by go_simp) (around_any by_ 4 (w3.drewN 1) hb1 hb2 (by omega) (by omega)) ?_
      rintro e w4 ⟨rfl, rfl⟩
      refine ⟨_, rfl, ?_⟩
      rw [HQ.out]
      refine ⟨.inl (hz), ?_⟩
      try simp only [pa, pl]
      refine wpAnyEOne 4 (by kernel_rfl) ?_
      refine wpOpRun' (v := .slice (some ⟨w3.heap.size, 0, none⟩) 4 4) (w' := ((w3.drewN 1).alloc (.cells #[.int .i64 0, .int .i64 1025, .int .i64 1024, .int .i64 by_] 3))) (some 69) rfl rfl rfl (by go_simp <;> rfl) ?_
      refine ⟨.inl (hz8), ?_⟩
      try simp only [pa, pl]
      refine wpAnyEOne 7 (by kernel_rfl) ?_
      refine wpOpRun' (v := .pointer (some ⟨w3.heap.size, q, none⟩)) (w' := ((w3.drewN 1).alloc (.cells #[.int .i64 0, .int .i64 1025, .int .i64 1024, .int .i64 by_] 3))) (some 72) rfl rfl rfl (by go_simp <;> rfl) ?_
      refine ⟨.inl (hz8), ?_⟩
      try simp only [pa, pl]
      refine wpAnyEOne 8 (by kernel_rfl) ?_
      refine wpOpRun' (v := .int .i64 (four 0 1025 1024 by_ (q : Int))) (w' := ((w3.drewN 1).alloc (.cells #[.int .i64 0, .int .i64 1025, .int .i64 1024, .int .i64 by_] 3))) (some 73) rfl rfl rfl (by go_simp <;> rfl) ?_
      refine ⟨.inl (hz8), ?_⟩
      try simp only [pa, pl]
      refine wpAnyEOne 9 (by kernel_rfl) ?_
      refine wpOpRun' (v := .pointer (some ⟨gc, k, none⟩)) (w' := ((w3.drewN 1).alloc (.cells #[.int .i64 0, .int .i64 1025, .int .i64 1024, .int .i64 by_] 3))) (some 74) rfl rfl rfl (by go_simp <;> rfl) ?_
      refine ⟨.inl (hz8), ?_⟩
      try simp only [pa, pl]
      refine wpAnyEOne 10 (by kernel_rfl) ?_
      refine wpOpSkip (w' := ((w3.drewN 1).alloc (.cells #[.int .i64 0, .int .i64 1025, .int .i64 1024, .int .i64 by_] 3)).setCell ⟨gc, k, none⟩ (.int .i64 (four 0 1025 1024 by_ (q : Int)))) 10 rfl rfl rfl (by go_simp <;> rfl) ?_
      refine ⟨.inr (allUp_of (by kernel_rfl)), ?_⟩
      try simp only [pa, pl]
      refine wpAnyE_done (by kernel_rfl) ?_ _
      have HM7 := Lib.hid (HM8.out.puti (k := 0) (j := k) rfl rfl (four 0 1025 1024 by_ (q : Int)))
      clear HM8 hz8 hx8 hr8 hfc8 hcc8 hlc8 XX hr hcc hfc hlc hz HM
      generalize ((w3.drewN 1).alloc (.cells #[.int .i64 0, .int .i64 1025, .int .i64 1024, .int .i64 by_] 3)).setCell ⟨gc, k, none⟩ (.int .i64 (four 0 1025 1024 by_ (q : Int))) = w7 at *
      have hltr := HM7.out.res.lt
      have x0 := HM7.out.res.cell 0; have x1 := HM7.out.res.cell 1; have x2 := HM7.out.res.cell 2
      have y0 := HM7.out.res.frozen 0; have y1 := HM7.out.res.frozen 1; have y2 := HM7.out.res.frozen 2
      have hltb := HM7.out.box.lt
      have z0 := HM7.out.box.cell 0; have z1 := HM7.out.box.cell 1; have z2 := HM7.out.box.cell 2
      have zf0 := HM7.out.box.frozen 0; have zf1 := HM7.out.box.frozen 1; have zf2 := HM7.out.box.frozen 2
      simp only [List.getElem?_toArray, List.getElem?_cons_zero, List.getElem?_cons_succ] at x0 x1 x2 z0 z1 z2
      go_wp2_with fail
      have hm3 := ((HM7.out.putres 0 (.slice aa1 T.rows.length ca1)).putres 1 (.slice (some ⟨gc, 0, none⟩) T.costs.length cc1)).putres 2 (.slice ak1 T.cls.length ck1)
      have e0 := hm3.res.cell 0; have e1 := hm3.res.cell 1; have e2 := hm3.res.cell 2
      simp only [List.setIfInBounds_toArray, List.set_cons_zero, List.set_cons_succ, List.getElem?_toArray, List.getElem?_cons_zero, List.getElem?_cons_succ] at e0 e1 e2
      refine bodyPost_ret (v := .agg #[.slice aa1 T.rows.length ca1, .slice (some ⟨gc, 0, none⟩) T.costs.length cc1, .slice ak1 T.cls.length ck1]) ?_ rfl ⟨?_, hm3.bel⟩
      · simp only [results, Try.results11]
        simp [go_sem, e0, e1, e2]
      · rw [HE.out]; exact ⟨_, _, _, us, rfl, ⟨hm3.out, by have := hm3.rs; simp only [List.set_cons_zero] at this ⊢; exact this⟩⟩
  · have HE := Lib.hid (show spoilC T by_ i k 1 = T by rw [HEE.out, List.set_eq_of_length_le (by omega)])
    have hi1 : ¬ (k : Int) < (T.costs.length : Int) := by omega
    have HM7 := Lib.hid HM.out
    clear hr
    have hltr := HM.out.res.lt
    have x0 := HM.out.res.cell 0; have x1 := HM.out.res.cell 1; have x2 := HM.out.res.cell 2
    have y0 := HM.out.res.frozen 0; have y1 := HM.out.res.frozen 1; have y2 := HM.out.res.frozen 2
    have hltb := HM.out.box.lt
    have z0 := HM.out.box.cell 0; have z1 := HM.out.box.cell 1; have z2 := HM.out.box.cell 2
    have zf0 := HM.out.box.frozen 0; have zf1 := HM.out.box.frozen 1; have zf2 := HM.out.box.frozen 2
    simp only [List.getElem?_toArray, List.getElem?_cons_zero, List.getElem?_cons_succ] at x0 x1 x2 z0 z1 z2
    go_wp2_with fail
    have hm3 := ((HM7.out.putres 0 (.slice aa1 T.rows.length ca1)).putres 1 (.slice ac1 T.costs.length cc1)).putres 2 (.slice ak1 T.cls.length ck1)
    have e0 := hm3.res.cell 0; have e1 := hm3.res.cell 1; have e2 := hm3.res.cell 2
    simp only [List.setIfInBounds_toArray, List.set_cons_zero, List.set_cons_succ, List.getElem?_toArray, List.getElem?_cons_zero, List.getElem?_cons_succ] at e0 e1 e2
    refine bodyPost_ret (v := .agg #[.slice aa1 T.rows.length ca1, .slice ac1 T.costs.length cc1, .slice ak1 T.cls.length ck1]) ?_ rfl ⟨?_, hm3.bel⟩
    · simp only [results, Try.results11]
      simp [go_sem, e0, e1, e2]
    · rw [HE.out]; exact ⟨_, _, _, us, rfl, ⟨hm3.out, hm3.rs⟩⟩
end Go.Proofs.Ytmkkegigajmhkaa

namespace Go.Proofs.Ytmkkegigajmhkaa
open Go.RowKit Go.Maps

set_option maxRecDepth 100000 in
set_option maxHeartbeats 16000000 in
theorem spoil2_any (va vc vk : Value) (T : Tb) (how by_ : Int) (w : World) (h : TbR w va vc vk T) (hs : SmT T) (hb1 : -9223372036854775808 ≤ by_) (hb2 : by_ ≤ 9223372036854775807) (hh1 : -9223372036854775808 ≤ how) (hh2 : how ≤ 9223372036854775807) (hc : around how 10 = 2) :
    Calls Try.prog 11 #[.agg #[va, vc, vk], .int .i64 how, .int .i64 by_] w fun e w' => CopyOut w.heap.size (spoilC T by_ (spI T by_) (spK T by_) 2) e w' ∧ Below w.heap.size w w' := by
  obtain ⟨aa, ca, rfl⟩ := h.rows.form
  obtain ⟨ac, cc, rfl⟩ := h.costs.form
  obtain ⟨ak, ck, rfl⟩ := h.cls.form
  have HBX := Lib.hid ((alloc_below w (.cells #[.slice aa T.rows.length ca, .slice ac T.costs.length cc, .slice ak T.cls.length ck] 25)).alloc (by rw [World.size_alloc]; omega) (.cells #[.slice none 0 0, .slice none 0 0, .slice none 0 0] 25))
  have HTB := h.below HBX.out
  have HT2 := Lib.hid (show Boxs ((w.alloc (.cells #[.slice aa T.rows.length ca, .slice ac T.costs.length cc, .slice ak T.cls.length ck] 25)).alloc (.cells #[.slice none 0 0, .slice none 0 0, .slice none 0 0] 25)) (w.heap.size + 1) 25 #[.slice none 0 0, .slice none 0 0, .slice none 0 0] from by have := Boxs.new (w.alloc (.cells #[.slice aa T.rows.length ca, .slice ac T.costs.length cc, .slice ak T.cls.length ck] 25)) 25 #[.slice none 0 0, .slice none 0 0, .slice none 0 0]; rwa [World.size_alloc] at this)
  have CP := copy_any (.slice aa T.rows.length ca) (.slice ac T.costs.length cc) (.slice ak T.cls.length ck) T ((w.alloc (.cells #[.slice aa T.rows.length ca, .slice ac T.costs.length cc, .slice ak T.cls.length ck] 25)).alloc (.cells #[.slice none 0 0, .slice none 0 0, .slice none 0 0] 25)) HTB ⟨hs.r, hs.c, hs.k, hs.e⟩
  have HS := Lib.hid hs
  have hr1000 := hs.r; have hc1000 := hs.c; have hk1000 := hs.k; have hrk := hs.rk
  obtain ⟨hi1, hi2, hi3⟩ := spI_bd T by_
  obtain ⟨hk1, hk2, hk3⟩ := spK_bd T by_
  obtain ⟨i, hi⟩ : ∃ i, spI T by_ = i := ⟨_, rfl⟩
  obtain ⟨k, hk⟩ : ∃ k, spK T by_ = k := ⟨_, rfl⟩
  rw [hi] at hi1 hi2 hi3 ⊢
  rw [hk] at hk1 hk2 hk3 ⊢
  have HI1 := Lib.hid hi1; have HK1 := Lib.hid hk1; have HI2 := Lib.hid hi2; have HK2 := Lib.hid hk2; have HI3 := Lib.hid hi3; have HK3 := Lib.hid hk3; have HC := Lib.hid hc
  have ht8 := tdiv8 by_ hb1 hb2
  have HT8 := Lib.hid ht8
  clear h HTB hs hi hk hi1 hk1 hi2 hk2 hi3 hk3 hc ht8
  go_enter Try.func11, Try.ntmps11
  go_wp2_with fail
  obtain ⟨B2, hB2⟩ : ∃ B, w.heap.size + 1 = B := ⟨_, rfl⟩
  have hwB2 : w.heap.size ≤ B2 := by omega
  rw [hB2] at HT2 ⊢
  generalize (w.alloc (.cells #[.slice aa T.rows.length ca, .slice ac T.costs.length cc, .slice ak T.cls.length ck] 25)).alloc (.cells #[.slice none 0 0, .slice none 0 0, .slice none 0 0] 25) = w1 at *
  refine CP.mono ?_
  rintro e w2 ⟨⟨ua, uc, uk, us, rfl, hown⟩, hb9⟩
  have hs1 : w.heap.size ≤ w1.heap.size := HBX.out.size
  have HOT := Lib.hid (hown.le hs1)
  have HB2 := Lib.hid (HBX.out.trans (hb9.mono hs1))
  have HT2 := Lib.hid (Boxs.below HT2.out hb9)
  obtain ⟨aa1, ca1, rfl⟩ := owns_form hown.out
  obtain ⟨ac1, cc1, rfl⟩ := owns_form (hown.rs.inn 0 _ _ rfl rfl)
  obtain ⟨ak1, ck1, rfl⟩ := owns_form (hown.rs.inn 1 _ _ rfl rfl)
  clear hown hb9 CP HBX hs1
  obtain ⟨b, hb⟩ : ∃ b, w2.heap.size = b := ⟨_, rfl⟩
  have hs2 : w.heap.size ≤ w2.heap.size := HB2.out.size
  have hltB2 := HT2.out.lt
  have HM := Lib.hid (MT.of (HOT.out.below (alloc_below w2 (.cells #[.slice aa1 T.rows.length ca1, .slice ac1 T.costs.length cc1, .slice ak1 T.cls.length ck1] 25))) (Nat.le_refl _) (HB2.out.alloc hs2 (.cells #[.slice aa1 T.rows.length ca1, .slice ac1 T.costs.length cc1, .slice ak1 T.cls.length ck1] 25)) hs2 hwB2 (Nat.ne_of_gt hltB2) (Boxs.new w2 25 #[.slice aa1 T.rows.length ca1, .slice ac1 T.costs.length cc1, .slice ak1 T.cls.length ck1]) (Boxs.below HT2.out (alloc_below w2 _)))
  rw [hb] at HM
  clear HB2 HT2 HOT hltB2 hs2 hB2
  have z0 := HM.out.cell 0; have z1 := HM.out.cell 1; have z2 := HM.out.cell 2
  have zf := HM.out.box.frozen 0
  simp only [List.getElem?_toArray, List.getElem?_cons_zero, List.getElem?_cons_succ] at z0 z1 z2
  go_wp2_with fail
  refine (around_any by_ _ _ hb1 hb2 (by omega) (by omega)).mono ?_
  rintro e w4 ⟨rfl, rfl⟩
  rw [HI1.out]
  go_wp2_with fail
  refine (around_any (by_.tdiv 8) _ _ HT8.out.1 HT8.out.2 (by omega) (by omega)).mono ?_
  rintro e w4 ⟨rfl, rfl⟩
  rw [HK1.out]
  go_wp2_with fail
  refine (around_any how _ _ hh1 hh2 (by omega) (by omega)).mono ?_
  rintro e w4 ⟨rfl, rfl⟩
  rw [HC.out]
  generalize w2.alloc (.cells #[.slice aa1 T.rows.length ca1, .slice ac1 T.costs.length cc1, .slice ak1 T.cls.length ck1] 25) = w3 at *
  clear hb HI1 HK1 HC hh1 hh2
  have hne := HM.out.ne
  have har := around_bd (by_.tdiv 8) 4 (by omega)
  obtain ⟨q, hq⟩ : ∃ q : Nat, around (by_.tdiv 8) 4 = q := ⟨(around (by_.tdiv 8) 4).toNat, by omega⟩
  have hq4 : q < 4 := by omega
  have hr := HM.out.rs.inn 1 (.slice ak1 T.cls.length ck1) T.cls rfl rfl
  have HEE := Lib.hid (show spoilC T by_ i k 2 = ⟨T.rows, T.costs, T.cls.set i (four 64 (-1) 63 by_ (q : Int))⟩ by rw [← hq]; rfl)
  have HQ := Lib.hid hq
  have HW8 := Lib.hid (show IntKind.i64.wrap (by_.tdiv 8) = by_.tdiv 8 from IntWalk.i64_in _ (tdiv8 by_ hb1 hb2))
  clear z0 z1 z2 zf har hq
  by_cases hlt : i < T.cls.length
  · obtain ⟨gk, c9, hv⟩ := ownsRow_some hr (by omega)
    cases hv
    have HE := HEE
    have hcc := hr.cellAt i (show i < T.cls.length * 1 by omega)
    obtain ⟨y, hy⟩ := elem_at hlt
    rw [show (ints T.cls)[i]? = some (.int .i64 y) by unfold ints; rw [List.getElem?_map, hy]; rfl] at hcc
    have hfc := hr.frozenAt i
    have hlc := (hr.lt gk rfl).2
    have hi0 : (0 : Int) ≤ (i : Int) := Int.natCast_nonneg _
    have hi1 : (i : Int) < (T.cls.length : Int) := by omega
    have hq0 : (0 : Int) ≤ (q : Int) := Int.natCast_nonneg _
    have hq1 : (q : Int) < 4 := by omega
    have hbg : b ≠ gk := fun e => HM.out.box.not_own hr (by decide) (by rw [e]; rfl)
    have hBg : B2 ≠ gk := fun e => HM.out.res.not_own hr (by decide) (by rw [e]; rfl)
    have hz := HM.out.box.cell 2
    simp only [List.getElem?_toArray, List.getElem?_cons_zero, List.getElem?_cons_succ] at hz
    have XX := hr
    clear hy
    go_wp2_with fail
    refine wp_region_E (fun W => W.cell? ⟨b, 2, none⟩ = some (.slice (some ⟨gk, 0, none⟩) T.cls.length ck1)) (by kernel_rfl) ?_
    have hdr : (w3).drew = { w3 with drawn := (w3).drawn + 1 } := rfl
    rw [← hdr]
    clear hdr
    change wpAnyE _ _ _ _ _ _ _ _ ((w3).drewN 1)
    refine tg 0 82 rfl rfl (.pointer (some ⟨b, 2, none⟩)) hz ?_
    try simp only [pa, pl]
    refine tk 1 83 rfl rfl (.slice (some ⟨gk, 0, none⟩) T.cls.length ck1) (fun W hW => by obtain hz := hW; go_simp) hz ?_
    try simp only [pa, pl]
    refine tm 2 84 rfl rfl (.int .i64 (i : Int)) hz ?_
    try simp only [pa, pl]
    refine tm 3 85 rfl rfl (.int .i64 by_) hz ?_
    try simp only [pa, pl]
    refine tm 5 87 rfl rfl (.int .i64 by_) hz ?_
    try simp only [pa, pl]
    refine tk 6 88 rfl rfl (.int .i64 (by_.tdiv 8)) (fun _ _ => by go_simp; exact HW8.out) hz ?_
    try simp only [pa, pl]
    have HM8 := Lib.hid (HM.out.dn.alloc (.cells #[.int .i64 64, .int .i64 (-1), .int .i64 63, .int .i64 by_] 3))
    have hz8 := HM8.out.box.cell 2
    simp only [List.getElem?_toArray, List.getElem?_cons_zero, List.getElem?_cons_succ] at hz8
    have hx8 : ((w3.drewN 1).alloc (.cells #[.int .i64 64, .int .i64 (-1), .int .i64 63, .int .i64 by_] 3)).cell? ⟨w3.heap.size, q, none⟩ = some (.int .i64 (four 64 (-1) 63 by_ (q : Int))) := ((Boxs.new (w3.drewN 1) 3 #[.int .i64 64, .int .i64 (-1), .int .i64 63, .int .i64 by_]).cell q).trans (four_at _ _ _ _ q hq4)
    have hr8 := HM8.out.rs.inn 1 _ _ rfl rfl
    have hfc8 := hr8.frozenAt i
    have hcc8 := hr8.cellAt i (show i < T.cls.length * 1 by omega)
    rw [show (ints T.cls)[i]? = some (.int .i64 ((T.cls[i]?).getD 0)) by unfold ints; rw [List.getElem?_map, List.getElem?_eq_getElem hlt]; rfl] at hcc8
    have hlc8 := (hr8.lt gk rfl).2
    refine wpAnyEBoth 4 7 (by kernel_rfl) ?_ ?_
    · refine wpOpRun' (v := .slice (some ⟨w3.heap.size, 0, none⟩) 4 4) (w' := ((w3.drewN 1).alloc (.cells #[.int .i64 64, .int .i64 (-1), .int .i64 63, .int .i64 by_] 3))) (some 86) rfl rfl rfl (by go_simp <;> rfl) ?_
      refine ⟨.inl (hz8), ?_⟩
      try simp only [pa, pl]
      refine wpAnyEOne 7 (by kernel_rfl) ?_
      refine wpOpCall (some 89) 22 #[.int .i64 (by_.tdiv 8), .int .i64 4] rfl rfl rfl (by go_simp) (around_any (by_.tdiv 8) 4 ((w3.drewN 1).alloc (.cells #[.int .i64 64, .int .i64 (-1), .int .i64 63, .int .i64 by_] 3)) HT8.out.1 HT8.out.2 (by omega) (by omega)) ?_
      rintro e w4 ⟨rfl, rfl⟩
      refine ⟨_, rfl, ?_⟩
      rw [HQ.out]
      refine ⟨.inl (hz8), ?_⟩
      try simp only [pa, pl]
      refine wpAnyEOne 8 (by kernel_rfl) ?_
      refine wpOpRun' (v := .pointer (some ⟨w3.heap.size, q, none⟩)) (w' := ((w3.drewN 1).alloc (.cells #[.int .i64 64, .int .i64 (-1), .int .i64 63, .int .i64 by_] 3))) (some 90) rfl rfl rfl (by go_simp <;> rfl) ?_
      refine ⟨.inl (hz8), ?_⟩
      try simp only [pa, pl]
      refine wpAnyEOne 9 (by kernel_rfl) ?_
      refine wpOpRun' (v := .int .i64 (four 64 (-1) 63 by_ (q : Int))) (w' := ((w3.drewN 1).alloc (.cells #[.int .i64 64, .int .i64 (-1), .int .i64 63, .int .i64 by_] 3))) (some 91) rfl rfl rfl (by go_simp <;> rfl) ?_
      refine ⟨.inl (hz8), ?_⟩
      try simp only [pa, pl]
      refine wpAnyEOne 10 (by kernel_rfl) ?_
      refine wpOpRun' (v := .pointer (some ⟨gk, i, none⟩)) (w' := ((w3.drewN 1).alloc (.cells #[.int .i64 64, .int .i64 (-1), .int .i64 63, .int .i64 by_] 3))) (some 92) rfl rfl rfl (by go_simp <;> rfl) ?_
      refine ⟨.inl (hz8), ?_⟩
      try simp only [pa, pl]
      refine wpAnyEOne 11 (by kernel_rfl) ?_
      refine wpOpSkip (w' := ((w3.drewN 1).alloc (.cells #[.int .i64 64, .int .i64 (-1), .int .i64 63, .int .i64 by_] 3)).setCell ⟨gk, i, none⟩ (.int .i64 (four 64 (-1) 63 by_ (q : Int)))) 11 rfl rfl rfl (by go_simp <;> rfl) ?_
      refine ⟨.inr (allUp_of (by kernel_rfl)), ?_⟩
      try simp only [pa, pl]
      refine wpAnyE_done (by kernel_rfl) ?_ _
      have HM7 := Lib.hid (HM8.out.puti (k := 1) (j := i) rfl rfl (four 64 (-1) 63 by_ (q : Int)))
      clear HM8 hz8 hx8 hr8 hfc8 hcc8 hlc8 XX hr hcc hfc hlc hz HM
      generalize ((w3.drewN 1).alloc (.cells #[.int .i64 64, .int .i64 (-1), .int .i64 63, .int .i64 by_] 3)).setCell ⟨gk, i, none⟩ (.int .i64 (four 64 (-1) 63 by_ (q : Int))) = w7 at *
      have hltr := HM7.out.res.lt
      have x0 := HM7.out.res.cell 0; have x1 := HM7.out.res.cell 1; have x2 := HM7.out.res.cell 2
      have y0 := HM7.out.res.frozen 0; have y1 := HM7.out.res.frozen 1; have y2 := HM7.out.res.frozen 2
      have hltb := HM7.out.box.lt
      have z0 := HM7.out.box.cell 0; have z1 := HM7.out.box.cell 1; have z2 := HM7.out.box.cell 2
      have zf0 := HM7.out.box.frozen 0; have zf1 := HM7.out.box.frozen 1; have zf2 := HM7.out.box.frozen 2
      simp only [List.getElem?_toArray, List.getElem?_cons_zero, List.getElem?_cons_succ] at x0 x1 x2 z0 z1 z2
      go_wp2_with fail
      have hm3 := ((HM7.out.putres 0 (.slice aa1 T.rows.length ca1)).putres 1 (.slice ac1 T.costs.length cc1)).putres 2 (.slice (some ⟨gk, 0, none⟩) T.cls.length ck1)
      have e0 := hm3.res.cell 0; have e1 := hm3.res.cell 1; have e2 := hm3.res.cell 2
      simp only [List.setIfInBounds_toArray, List.set_cons_zero, List.set_cons_succ, List.getElem?_toArray, List.getElem?_cons_zero, List.getElem?_cons_succ] at e0 e1 e2
      refine bodyPost_ret (v := .agg #[.slice aa1 T.rows.length ca1, .slice ac1 T.costs.length cc1, .slice (some ⟨gk, 0, none⟩) T.cls.length ck1]) ?_ rfl ⟨?_, hm3.bel⟩
      · simp only [results, Try.results11]
        simp [go_sem, e0, e1, e2]
      · rw [HE.out]; exact ⟨_, _, _, us, rfl, ⟨hm3.out, by have := hm3.rs; simp only [List.set_cons_zero, List.set_cons_succ] at this ⊢; exact this⟩⟩
    · refine wpOpCall (some 89) 22 #[.int .i64 (by_.tdiv 8), .int .i64 4] rfl rfl rfl (by go_simp) (around_any (by_.tdiv 8) 4 (w3.drewN 1) HT8.out.1 HT8.out.2 (by omega) (by omega)) ?_
      rintro e w4 ⟨rfl, rfl⟩
      refine ⟨_, rfl, ?_⟩
      rw [HQ.out]
      refine ⟨.inl (hz), ?_⟩
      try simp only [pa, pl]
      refine wpAnyEOne 4 (by kernel_rfl) ?_
      refine wpOpRun' (v := .slice (some ⟨w3.heap.size, 0, none⟩) 4 4) (w' := ((w3.drewN 1).alloc (.cells #[.int .i64 64, .int .i64 (-1), .int .i64 63, .int .i64 by_] 3))) (some 86) rfl rfl rfl (by go_simp <;> rfl) ?_
      refine ⟨.inl (hz8), ?_⟩
      try simp only [pa, pl]
      refine wpAnyEOne 8 (by kernel_rfl) ?_
      refine wpOpRun' (v := .pointer (some ⟨w3.heap.size, q, none⟩)) (w' := ((w3.drewN 1).alloc (.cells #[.int .i64 64, .int .i64 (-1), .int .i64 63, .int .i64 by_] 3))) (some 90) rfl rfl rfl (by go_simp <;> rfl) ?_
      refine ⟨.inl (hz8), ?_⟩
      try simp only [pa, pl]
      refine wpAnyEOne 9 (by kernel_rfl) ?_
      refine wpOpRun' (v := .int .i64 (four 64 (-1) 63 by_ (q : Int))) (w' := ((w3.drewN 1).alloc (.cells #[.int .i64 64, .int .i64 (-1), .int .i64 63, .int .i64 by_] 3))) (some 91) rfl rfl rfl (by go_simp <;> rfl) ?_
      refine ⟨.inl (hz8), ?_⟩
      try simp only [pa, pl]
      refine wpAnyEOne 10 (by kernel_rfl) ?_
      refine wpOpRun' (v := .pointer (some ⟨gk, i, none⟩)) (w' := ((w3.drewN 1).alloc (.cells #[.int .i64 64, .int .i64 (-1), .int .i64 63, .int .i64 by_] 3))) (some 92) rfl rfl rfl (by go_simp <;> rfl) ?_
      refine ⟨.inl (hz8), ?_⟩
      try simp only [pa, pl]
      refine wpAnyEOne 11 (by kernel_rfl) ?_
      refine wpOpSkip (w' := ((w3.drewN 1).alloc (.cells #[.int .i64 64, .int .i64 (-1), .int .i64 63, .int .i64 by_] 3)).setCell ⟨gk, i, none⟩ (.int .i64 (four 64 (-1) 63 by_ (q : Int)))) 11 rfl rfl rfl (by go_simp <;> rfl) ?_
      refine ⟨.inr (allUp_of (by kernel_rfl)), ?_⟩
      try simp only [pa, pl]
      refine wpAnyE_done (by kernel_rfl) ?_ _
      have HM7 := Lib.hid (HM8.out.puti (k := 1) (j := i) rfl rfl (four 64 (-1) 63 by_ (q : Int)))
      clear HM8 hz8 hx8 hr8 hfc8 hcc8 hlc8 XX hr hcc hfc hlc hz HM
      generalize ((w3.drewN 1).alloc (.cells #[.int .i64 64, .int .i64 (-1), .int .i64 63, .int .i64 by_] 3)).setCell ⟨gk, i, none⟩ (.int .i64 (four 64 (-1) 63 by_ (q : Int))) = w7 at *
      have hltr := HM7.out.res.lt
      have x0 := HM7.out.res.cell 0; have x1 := HM7.out.res.cell 1; have x2 := HM7.out.res.cell 2
      have y0 := HM7.out.res.frozen 0; have y1 := HM7.out.res.frozen 1; have y2 := HM7.out.res.frozen 2
      have hltb := HM7.out.box.lt
      have z0 := HM7.out.box.cell 0; have z1 := HM7.out.box.cell 1; have z2 := HM7.out.box.cell 2
      have zf0 := HM7.out.box.frozen 0; have zf1 := HM7.out.box.frozen 1; have zf2 := HM7.out.box.frozen 2
      simp only [List.getElem?_toArray, List.getElem?_cons_zero, List.getElem?_cons_succ] at x0 x1 x2 z0 z1 z2
      go_wp2_with fail
      have hm3 := ((HM7.out.putres 0 (.slice aa1 T.rows.length ca1)).putres 1 (.slice ac1 T.costs.length cc1)).putres 2 (.slice (some ⟨gk, 0, none⟩) T.cls.length ck1)
      have e0 := hm3.res.cell 0; have e1 := hm3.res.cell 1; have e2 := hm3.res.cell 2
      simp only [List.setIfInBounds_toArray, List.set_cons_zero, List.set_cons_succ, List.getElem?_toArray, List.getElem?_cons_zero, List.getElem?_cons_succ] at e0 e1 e2
      refine bodyPost_ret (v := .agg #[.slice aa1 T.rows.length ca1, .slice ac1 T.costs.length cc1, .slice (some ⟨gk, 0, none⟩) T.cls.length ck1]) ?_ rfl ⟨?_, hm3.bel⟩
      · simp only [results, Try.results11]
        simp [go_sem, e0, e1, e2]
      · rw [HE.out]; exact ⟨_, _, _, us, rfl, ⟨hm3.out, by have := hm3.rs; simp only [List.set_cons_zero, List.set_cons_succ] at this ⊢; exact this⟩⟩
  · have HE := Lib.hid (show spoilC T by_ i k 2 = T by rw [HEE.out, List.set_eq_of_length_le (by omega)])
    have hi1 : ¬ (i : Int) < (T.cls.length : Int) := by omega
    have HM7 := Lib.hid HM.out
    clear hr
    have hltr := HM.out.res.lt
    have x0 := HM.out.res.cell 0; have x1 := HM.out.res.cell 1; have x2 := HM.out.res.cell 2
    have y0 := HM.out.res.frozen 0; have y1 := HM.out.res.frozen 1; have y2 := HM.out.res.frozen 2
    have hltb := HM.out.box.lt
    have z0 := HM.out.box.cell 0; have z1 := HM.out.box.cell 1; have z2 := HM.out.box.cell 2
    have zf0 := HM.out.box.frozen 0; have zf1 := HM.out.box.frozen 1; have zf2 := HM.out.box.frozen 2
    simp only [List.getElem?_toArray, List.getElem?_cons_zero, List.getElem?_cons_succ] at x0 x1 x2 z0 z1 z2
    go_wp2_with fail
    have hm3 := ((HM7.out.putres 0 (.slice aa1 T.rows.length ca1)).putres 1 (.slice ac1 T.costs.length cc1)).putres 2 (.slice ak1 T.cls.length ck1)
    have e0 := hm3.res.cell 0; have e1 := hm3.res.cell 1; have e2 := hm3.res.cell 2
    simp only [List.setIfInBounds_toArray, List.set_cons_zero, List.set_cons_succ, List.getElem?_toArray, List.getElem?_cons_zero, List.getElem?_cons_succ] at e0 e1 e2
    refine bodyPost_ret (v := .agg #[.slice aa1 T.rows.length ca1, .slice ac1 T.costs.length cc1, .slice ak1 T.cls.length ck1]) ?_ rfl ⟨?_, hm3.bel⟩
    · simp only [results, Try.results11]
      simp [go_sem, e0, e1, e2]
    · rw [HE.out]; exact ⟨_, _, _, us, rfl, ⟨hm3.out, hm3.rs⟩⟩
end Go.Proofs.Ytmkkegigajmhkaa

namespace Go.Proofs.Ytmkkegigajmhkaa
open Go.RowKit Go.Maps

set_option maxRecDepth 100000 in
set_option maxHeartbeats 16000000 in
theorem spoil3_any (va vc vk : Value) (T : Tb) (how by_ : Int) (w : World) (h : TbR w va vc vk T) (hs : SmT T) (hb1 : -9223372036854775808 ≤ by_) (hb2 : by_ ≤ 9223372036854775807) (hh1 : -9223372036854775808 ≤ how) (hh2 : how ≤ 9223372036854775807) (hc : around how 10 = 3) :
    Calls Try.prog 11 #[.agg #[va, vc, vk], .int .i64 how, .int .i64 by_] w fun e w' => CopyOut w.heap.size (spoilC T by_ (spI T by_) (spK T by_) 3) e w' ∧ Below w.heap.size w w' := by
  obtain ⟨aa, ca, rfl⟩ := h.rows.form
  obtain ⟨ac, cc, rfl⟩ := h.costs.form
  obtain ⟨ak, ck, rfl⟩ := h.cls.form
  have HBX := Lib.hid ((alloc_below w (.cells #[.slice aa T.rows.length ca, .slice ac T.costs.length cc, .slice ak T.cls.length ck] 25)).alloc (by rw [World.size_alloc]; omega) (.cells #[.slice none 0 0, .slice none 0 0, .slice none 0 0] 25))
  have HTB := h.below HBX.out
  have HT2 := Lib.hid (show Boxs ((w.alloc (.cells #[.slice aa T.rows.length ca, .slice ac T.costs.length cc, .slice ak T.cls.length ck] 25)).alloc (.cells #[.slice none 0 0, .slice none 0 0, .slice none 0 0] 25)) (w.heap.size + 1) 25 #[.slice none 0 0, .slice none 0 0, .slice none 0 0] from by have := Boxs.new (w.alloc (.cells #[.slice aa T.rows.length ca, .slice ac T.costs.length cc, .slice ak T.cls.length ck] 25)) 25 #[.slice none 0 0, .slice none 0 0, .slice none 0 0]; rwa [World.size_alloc] at this)
  have CP := copy_any (.slice aa T.rows.length ca) (.slice ac T.costs.length cc) (.slice ak T.cls.length ck) T ((w.alloc (.cells #[.slice aa T.rows.length ca, .slice ac T.costs.length cc, .slice ak T.cls.length ck] 25)).alloc (.cells #[.slice none 0 0, .slice none 0 0, .slice none 0 0] 25)) HTB ⟨hs.r, hs.c, hs.k, hs.e⟩
  have HS := Lib.hid hs
  have hr1000 := hs.r; have hc1000 := hs.c; have hk1000 := hs.k; have hrk := hs.rk
  obtain ⟨hi1, hi2, hi3⟩ := spI_bd T by_
  obtain ⟨hk1, hk2, hk3⟩ := spK_bd T by_
  obtain ⟨i, hi⟩ : ∃ i, spI T by_ = i := ⟨_, rfl⟩
  obtain ⟨k, hk⟩ : ∃ k, spK T by_ = k := ⟨_, rfl⟩
  rw [hi] at hi1 hi2 hi3 ⊢
  rw [hk] at hk1 hk2 hk3 ⊢
  have HI1 := Lib.hid hi1; have HK1 := Lib.hid hk1; have HI2 := Lib.hid hi2; have HK2 := Lib.hid hk2; have HI3 := Lib.hid hi3; have HK3 := Lib.hid hk3; have HC := Lib.hid hc
  have ht8 := tdiv8 by_ hb1 hb2
  have HT8 := Lib.hid ht8
  clear h HTB hs hi hk hi1 hk1 hi2 hk2 hi3 hk3 hc ht8
  go_enter Try.func11, Try.ntmps11
  go_wp2_with fail
  obtain ⟨B2, hB2⟩ : ∃ B, w.heap.size + 1 = B := ⟨_, rfl⟩
  have hwB2 : w.heap.size ≤ B2 := by omega
  rw [hB2] at HT2 ⊢
  generalize (w.alloc (.cells #[.slice aa T.rows.length ca, .slice ac T.costs.length cc, .slice ak T.cls.length ck] 25)).alloc (.cells #[.slice none 0 0, .slice none 0 0, .slice none 0 0] 25) = w1 at *
  refine CP.mono ?_
  rintro e w2 ⟨⟨ua, uc, uk, us, rfl, hown⟩, hb9⟩
  have hs1 : w.heap.size ≤ w1.heap.size := HBX.out.size
  have HOT := Lib.hid (hown.le hs1)
  have HB2 := Lib.hid (HBX.out.trans (hb9.mono hs1))
  have HT2 := Lib.hid (Boxs.below HT2.out hb9)
  obtain ⟨aa1, ca1, rfl⟩ := owns_form hown.out
  obtain ⟨ac1, cc1, rfl⟩ := owns_form (hown.rs.inn 0 _ _ rfl rfl)
  obtain ⟨ak1, ck1, rfl⟩ := owns_form (hown.rs.inn 1 _ _ rfl rfl)
  clear hown hb9 CP HBX hs1
  obtain ⟨b, hb⟩ : ∃ b, w2.heap.size = b := ⟨_, rfl⟩
  have hs2 : w.heap.size ≤ w2.heap.size := HB2.out.size
  have hltB2 := HT2.out.lt
  have HM := Lib.hid (MT.of (HOT.out.below (alloc_below w2 (.cells #[.slice aa1 T.rows.length ca1, .slice ac1 T.costs.length cc1, .slice ak1 T.cls.length ck1] 25))) (Nat.le_refl _) (HB2.out.alloc hs2 (.cells #[.slice aa1 T.rows.length ca1, .slice ac1 T.costs.length cc1, .slice ak1 T.cls.length ck1] 25)) hs2 hwB2 (Nat.ne_of_gt hltB2) (Boxs.new w2 25 #[.slice aa1 T.rows.length ca1, .slice ac1 T.costs.length cc1, .slice ak1 T.cls.length ck1]) (Boxs.below HT2.out (alloc_below w2 _)))
  rw [hb] at HM
  clear HB2 HT2 HOT hltB2 hs2 hB2
  have z0 := HM.out.cell 0; have z1 := HM.out.cell 1; have z2 := HM.out.cell 2
  have zf := HM.out.box.frozen 0
  simp only [List.getElem?_toArray, List.getElem?_cons_zero, List.getElem?_cons_succ] at z0 z1 z2
  go_wp2_with fail
  refine (around_any by_ _ _ hb1 hb2 (by omega) (by omega)).mono ?_
  rintro e w4 ⟨rfl, rfl⟩
  rw [HI1.out]
  go_wp2_with fail
  refine (around_any (by_.tdiv 8) _ _ HT8.out.1 HT8.out.2 (by omega) (by omega)).mono ?_
  rintro e w4 ⟨rfl, rfl⟩
  rw [HK1.out]
  go_wp2_with fail
  refine (around_any how _ _ hh1 hh2 (by omega) (by omega)).mono ?_
  rintro e w4 ⟨rfl, rfl⟩
  rw [HC.out]
  generalize w2.alloc (.cells #[.slice aa1 T.rows.length ca1, .slice ac1 T.costs.length cc1, .slice ak1 T.cls.length ck1] 25) = w3 at *
  clear hb HI1 HK1 HC HT8 hh1 hh2
  have hne := HM.out.ne
  by_cases hn : 0 < T.rows.length
  · have hin := HI2.out hn
    obtain ⟨r, hr⟩ := elem_at hin
    have hra := rowAt_of hr
    obtain ⟨u, hu, hur⟩ := HM.out.rs.tail.tail.row hr
    obtain ⟨au, cu, rfl⟩ := owns_form hur
    have hr1 := HS.out.e r (List.mem_of_getElem? hr)
    obtain ⟨ga, ca2, hva⟩ := ownsRow_some HM.out.out hn
    cases hva
    have hca := HM.out.out.cellAt i (show i < T.rows.length * 1 by omega)
    rw [hu] at hca
    have hfa := HM.out.out.frozenAt i
    have hla := (HM.out.out.lt ga rfl).2
    have hn1 : (0 : Int) < (T.rows.length : Int) := by omega
    have hi0 : (0 : Int) ≤ (i : Int) := Int.natCast_nonneg _
    have hi1 : (i : Int) < (T.rows.length : Int) := by omega
    have HU := Lib.hid hu; have HR := Lib.hid hr; have HUR := Lib.hid hur
    have HE := Lib.hid (show spoilC T by_ i k 3 = ⟨T.rows.set i (r ++ [1]), T.costs, T.cls⟩ by rw [← hra]; rfl)
    have hz := HM.out.box.cell 0
    simp only [List.getElem?_toArray, List.getElem?_cons_zero] at hz
    have XX := hur
    clear hra z0 z1 z2 zf hur hu hr
    go_wp2_with fail
    refine wp_region_E (fun W => W.cell? ⟨b, 0, none⟩ = some (.slice (some ⟨ga, 0, none⟩) T.rows.length ca1) ∧ W.cell? ⟨ga, i, none⟩ = some (.slice au r.length cu)) (by kernel_rfl) ?_
    have hdr : (w3).drew = { w3 with drawn := (w3).drawn + 1 } := rfl
    rw [← hdr]
    clear hdr
    change wpAnyE _ _ _ _ _ _ _ _ ((w3).drewN 1)
    refine tg 0 97 rfl rfl (.pointer (some ⟨b, 0, none⟩)) ⟨hz, hca⟩ ?_
    try simp only [pa, pl]
    refine tk 1 98 rfl rfl (.slice (some ⟨ga, 0, none⟩) T.rows.length ca1) (fun W hW => by obtain ⟨hz, hca⟩ := hW; go_simp) ⟨hz, hca⟩ ?_
    try simp only [pa, pl]
    refine tm 2 99 rfl rfl (.int .i64 (i : Int)) ⟨hz, hca⟩ ?_
    try simp only [pa, pl]
    refine tg 3 100 rfl rfl (.pointer (some ⟨b, 0, none⟩)) ⟨hz, hca⟩ ?_
    try simp only [pa, pl]
    refine tk 4 101 rfl rfl (.slice (some ⟨ga, 0, none⟩) T.rows.length ca1) (fun W hW => by obtain ⟨hz, hca⟩ := hW; go_simp) ⟨hz, hca⟩ ?_
    try simp only [pa, pl]
    refine tm 5 102 rfl rfl (.int .i64 (i : Int)) ⟨hz, hca⟩ ?_
    try simp only [pa, pl]
    refine tg 6 103 rfl rfl (.pointer (some ⟨ga, i, none⟩)) ⟨hz, hca⟩ ?_
    try simp only [pa, pl]
    refine tk 7 104 rfl rfl (.slice au r.length cu) (fun W hW => by obtain ⟨hz, hca⟩ := hW; go_simp) ⟨hz, hca⟩ ?_
    try simp only [pa, pl]
    refine wpAnyEOne 8 (by kernel_rfl) ?_
    refine wpOpRun' (v := .slice (some ⟨w3.heap.size, 0, none⟩) 1 1) (w' := ((w3.drewN 1).alloc (.cells #[.int .i64 1] 3))) (some 105) rfl rfl rfl (by go_simp <;> rfl) ?_
    have HM8 := HM.out.dn.alloc (.cells #[.int .i64 1] 3)
    have hz8 := HM8.box.cell 0
    simp only [List.getElem?_toArray, List.getElem?_cons_zero] at hz8
    have hc8 := HM8.out.cellAt i (show i < T.rows.length * 1 by omega)
    rw [HU.out] at hc8
    refine ⟨.inl (⟨hz8, hc8⟩), ?_⟩
    try simp only [pa, pl]
    refine wpAnyEOne 9 (by kernel_rfl) ?_
    refine wpOpAppI 9 (some 106) rfl rfl rfl (.tmp 104) (.tmp 105) rfl (.slice au r.length cu) (r) rfl (HM8.rs.inn (i + 2) _ _ (by simpa using HU.out) (by simpa using HR.out)) (.slice (some ⟨w3.heap.size, 0, none⟩) 1 1) ([1]) rfl (Rd_fresh (w3.drewN 1) 3 #[.int .i64 1] 1 rfl (by omega)) (by simp; omega) (HM8.sz) fun v9 w9 happ => ?_
    have hm9 := HM8.appI (i + 2) (by simpa using HU.out) happ
    simp only [List.set_cons_succ] at hm9
    obtain ⟨a9, k9, he9⟩ := happ.form
    rw [show (r ++ [1] : List Int).length = r.length + 1 by simp] at he9
    subst he9
    have hz9 := hm9.box.cell 0
    simp only [List.getElem?_toArray, List.getElem?_cons_zero] at hz9
    have hc9 : w9.cell? ⟨ga, i, none⟩ = some (.slice au r.length cu) := by
      have h1 := owns_app HM8.out (HM8.rs.inn (i + 2) _ r (by simpa using HU.out) (by simpa using HR.out)) happ (by decide)
      have h2 := h1.cellAt i (show i < T.rows.length * 1 by omega)
      rw [HU.out] at h2; exact h2
    have hf9 := hm9.out.frozenAt i
    have hl9 := (hm9.out.lt ga rfl).2
    refine ⟨.inl (⟨hz9, hc9⟩), ?_⟩
    try simp only [pa, pl]
    refine wpAnyEOne 10 (by kernel_rfl) ?_
    refine wpOpRun' (v := .pointer (some ⟨ga, i, none⟩)) (w' := w9) (some 107) rfl rfl rfl (by go_simp <;> rfl) ?_
    refine ⟨.inl (⟨hz9, hc9⟩), ?_⟩
    try simp only [pa, pl]
    refine wpAnyEOne 11 (by kernel_rfl) ?_
    refine wpOpSkip (w' := w9.setCell ⟨ga, i, none⟩ (.slice a9 (r.length + 1) k9)) 11 rfl rfl rfl (by go_simp <;> rfl) ?_
    refine ⟨.inr (allUp_of (by kernel_rfl)), ?_⟩
    try simp only [pa, pl]
    refine wpAnyE_done (by kernel_rfl) ?_ _
    have HM7 := Lib.hid (hm9.putu (j := i) (.slice a9 (r.length + 1) k9))
    clear hm9 hz9 hc9 hf9 hl9 hz8 hc8 HM8 XX hca hfa hla hz HM happ
    generalize w9.setCell ⟨ga, i, none⟩ (.slice a9 (r.length + 1) k9) = w7 at *
    have hltr := HM7.out.res.lt
    have x0 := HM7.out.res.cell 0; have x1 := HM7.out.res.cell 1; have x2 := HM7.out.res.cell 2
    have y0 := HM7.out.res.frozen 0; have y1 := HM7.out.res.frozen 1; have y2 := HM7.out.res.frozen 2
    have hltb := HM7.out.box.lt
    have z0 := HM7.out.box.cell 0; have z1 := HM7.out.box.cell 1; have z2 := HM7.out.box.cell 2
    have zf0 := HM7.out.box.frozen 0; have zf1 := HM7.out.box.frozen 1; have zf2 := HM7.out.box.frozen 2
    simp only [List.getElem?_toArray, List.getElem?_cons_zero, List.getElem?_cons_succ] at x0 x1 x2 z0 z1 z2
    go_wp2_with fail
    have hm3 := ((HM7.out.putres 0 (.slice (some ⟨ga, 0, none⟩) T.rows.length ca1)).putres 1 (.slice ac1 T.costs.length cc1)).putres 2 (.slice ak1 T.cls.length ck1)
    have e0 := hm3.res.cell 0; have e1 := hm3.res.cell 1; have e2 := hm3.res.cell 2
    simp only [List.setIfInBounds_toArray, List.set_cons_zero, List.set_cons_succ, List.getElem?_toArray, List.getElem?_cons_zero, List.getElem?_cons_succ] at e0 e1 e2
    refine bodyPost_ret (v := .agg #[.slice (some ⟨ga, 0, none⟩) T.rows.length ca1, .slice ac1 T.costs.length cc1, .slice ak1 T.cls.length ck1]) ?_ rfl ⟨?_, hm3.bel⟩
    · simp only [results, Try.results11]
      simp [go_sem, e0, e1, e2]
    · rw [HE.out]; exact ⟨_, _, _, (us.set i (.slice a9 (r.length + 1) k9)), rfl, ⟨by have := hm3.out; rwa [List.length_set], hm3.rs⟩⟩
  · have h0 := HI3.out (by omega)
    subst h0
    have HE := Lib.hid (show spoilC T by_ 0 k 3 = T by show (⟨T.rows.set 0 _, T.costs, T.cls⟩ : Tb) = T; rw [List.set_eq_of_length_le (by omega)])
    have hn1 : ¬ (0 : Int) < (T.rows.length : Int) := by omega
    have HM7 := Lib.hid HM.out
    clear z0 z1 z2 zf
    have hltr := HM.out.res.lt
    have x0 := HM.out.res.cell 0; have x1 := HM.out.res.cell 1; have x2 := HM.out.res.cell 2
    have y0 := HM.out.res.frozen 0; have y1 := HM.out.res.frozen 1; have y2 := HM.out.res.frozen 2
    have hltb := HM.out.box.lt
    have z0 := HM.out.box.cell 0; have z1 := HM.out.box.cell 1; have z2 := HM.out.box.cell 2
    have zf0 := HM.out.box.frozen 0; have zf1 := HM.out.box.frozen 1; have zf2 := HM.out.box.frozen 2
    simp only [List.getElem?_toArray, List.getElem?_cons_zero, List.getElem?_cons_succ] at x0 x1 x2 z0 z1 z2
    go_wp2_with fail
    have hm3 := ((HM7.out.putres 0 (.slice aa1 T.rows.length ca1)).putres 1 (.slice ac1 T.costs.length cc1)).putres 2 (.slice ak1 T.cls.length ck1)
    have e0 := hm3.res.cell 0; have e1 := hm3.res.cell 1; have e2 := hm3.res.cell 2
    simp only [List.setIfInBounds_toArray, List.set_cons_zero, List.set_cons_succ, List.getElem?_toArray, List.getElem?_cons_zero, List.getElem?_cons_succ] at e0 e1 e2
    refine bodyPost_ret (v := .agg #[.slice aa1 T.rows.length ca1, .slice ac1 T.costs.length cc1, .slice ak1 T.cls.length ck1]) ?_ rfl ⟨?_, hm3.bel⟩
    · simp only [results, Try.results11]
      simp [go_sem, e0, e1, e2]
    · rw [HE.out]; exact ⟨_, _, _, us, rfl, ⟨hm3.out, hm3.rs⟩⟩
end Go.Proofs.Ytmkkegigajmhkaa

