/- slices.BinarySearch of ints (the shelf's contract laid in plain text); how a tree is followed (plain). Following a tree (program). Follow (program); what Check finds (plain). Check (program). Greedy (program). The code of a tree (plain); Encode's closure (program). Encode (program). The table of the section's examples. The examples of the section hold. -/
import Derived.Shelf.SlGeneric
import Derived.Shelf.SlicesG.SearchI
import Derived.Ground.SlgnProg
import Derived.Test.YtmkkegigajmhkaaN13
set_option linter.unusedVariables false
namespace Go.Proofs.Ytmkkegigajmhkaa
open Go.Shelf
def Try.searchI_ren : Go.Shelf.Ren := ⟨fun | 49 => 84 | 59 => 88 | 60 => 89 | 68 => 100 | n => n, fun | 22 => 22 | 23 => 3 | 3 => 3 | 4 => 4 | 51 => 97 | 0 => 0 | n => n, fun | n => n⟩
theorem Try.searchI : Go.Proofs.SlLaysN.n49 Try.prog Try.searchI_ren := {
  mixed := by kernel_rfl
  f49 := ⟨Try.f84.name, by decide, Try.func84.trans (congrArg some (by kernel_rfl))⟩
  f59 := ⟨Try.f88.name, by decide, Try.func88.trans (congrArg some (by kernel_rfl))⟩
  f60 := ⟨Try.f89.name, by decide, Try.func89.trans (congrArg some (by kernel_rfl))⟩
  f68 := ⟨Try.f100.name, by decide, Try.func100.trans (congrArg some (by kernel_rfl))⟩
  t0 := Try.underlying0
  a0 := Try.isAgg0
  z0 := Try.sizeOf0
  v0 := Try.zeroValue0
  t3 := Try.underlying3
  a3 := Try.isAgg3
  z3 := Try.sizeOf3
  v3 := Try.zeroValue3
  t4 := Try.underlying4
  a4 := Try.isAgg4
  z4 := Try.sizeOf4
  v4 := Try.zeroValue4
  t22 := Try.underlying22
  a22 := Try.isAgg22
  z22 := Try.sizeOf22
  v22 := Try.zeroValue22
  t23 := Try.underlying3
  a23 := Try.isAgg3
  z23 := Try.sizeOf3
  v23 := Try.zeroValue3
  t51 := Try.underlying97
  a51 := Try.isAgg97
  z51 := Try.sizeOf97
  v51 := Try.zeroValue97 }

open Go.RowKit Go.Maps
theorem incB_pairwise : ∀ l : List Int, incB l = true → l.Pairwise (· < ·)
  | [], _ => List.Pairwise.nil
  | [a], _ => by simp
  | a :: b :: r, h => by
    unfold incB at h
    obtain ⟨h1, h2⟩ := Bool.and_eq_true_iff.1 h
    have ih := incB_pairwise (b :: r) h2
    have hab : a < b := of_decide_eq_true h1
    rw [List.pairwise_cons]
    refine ⟨fun y hy => ?_, ih⟩
    rcases List.mem_cons.1 hy with rfl | hy
    · exact hab
    · have := (List.pairwise_cons.1 ih).1 y hy; omega
/-- the place of a member of an increasing list -/
theorem countP_at : ∀ (l : List Int) (k : Nat) (x : Int), l.Pairwise (· < ·) → l[k]? = some x → l.countP (· < x) = k
  | [], k, x, _, h => by simp at h
  | a :: r, 0, x, hp, h => by
    simp at h; subst h
    rw [List.pairwise_cons] at hp
    rw [List.countP_cons, if_neg (by simp), List.countP_eq_zero.2 fun y hy => by have := hp.1 y hy; simp; omega]
  | a :: r, k + 1, x, hp, h => by
    rw [List.pairwise_cons] at hp
    have h' : r[k]? = some x := by simpa using h
    have hx := hp.1 x (List.mem_of_getElem? h')
    rw [List.countP_cons, if_pos (by simpa using hx), countP_at r k x hp.2 h']
theorem search_any (v : Value) (xs : List Int) (x : Int) (w : World) (h : RdI w v xs) (hne : xs ≠ []) (hs : xs.Pairwise (· < ·)) (hl : xs.length ≤ 1000000) :
    Calls Try.prog 84 #[v, .int .i64 x] w fun e w' => e = .returned (.tuple #[.int .i64 (xs.countP (· < x) : Nat), .bool (xs.contains x)]) ∧ Below w.heap.size w w' := by
  obtain ⟨a, c, rfl, l1, f⟩ := h.open
  obtain ⟨x0, hx0⟩ := elem_at (show 0 < xs.length from List.length_pos_iff.2 hne)
  obtain ⟨b, off, rfl, hb, _⟩ := f 0 x0 hx0
  have C := AnyG.slices_BinarySearch_int Try.searchI b off xs.length c xs x w (Nat.le_refl _) (by omega) (fun j hj => by
    obtain ⟨y, hy⟩ := elem_at hj
    obtain ⟨b', o', e, _, q⟩ := f j y hy
    cases e
    rw [q, List.getD_eq_getElem?_getD, hy]; rfl) (by rw [List.take_length]; exact hs.imp fun h => Int.le_of_lt h)
  change Calls Try.prog 84 _ _ _ at C
  refine C.mono ?_
  rintro e w' ⟨rfl, q, rfl⟩
  rw [List.take_length]
  exact ⟨rfl, Below.dn (Below.refl _ _) q⟩
mutual
/-- how deep a tree is -/
def depT : Tr → Nat
  | .nil => 0
  | .node _ _ _ kids => depTs kids + 1
def depTs : List Tr → Nat
  | [] => 0
  | t :: r => max (depT t) (depTs r)
end
theorem depTs_mem : ∀ (l : List Tr) (t : Tr), t ∈ l → depT t ≤ depTs l
  | [], t, h => by cases h
  | u :: r, t, h => by
    unfold depTs
    rcases List.mem_cons.1 h with rfl | h
    · omega
    · have := depTs_mem r t h; omega
theorem depT_kid {a c : Int} {ans : List Int} {kids : List Tr} {k : Nat} {t : Tr} (h : kids[k]? = some t) : depT t < depT (.node a c ans kids) := by
  have := depTs_mem kids t (List.mem_of_getElem? h)
  rw [depT]; omega
mutual
/-- no list of answers is great -/
def smT : Tr → Bool
  | .nil => true
  | .node _ _ ans kids => decide (ans.length ≤ 100000) && smTs kids
def smTs : List Tr → Bool
  | [] => true
  | t :: r => smT t && smTs r
end
theorem smTs_mem : ∀ (l : List Tr) (t : Tr), smTs l = true → t ∈ l → smT t = true
  | [], t, _, h => by cases h
  | u :: r, t, hs, h => by
    unfold smTs at hs
    obtain ⟨h1, h2⟩ := Bool.and_eq_true_iff.1 hs
    rcases List.mem_cons.1 h with rfl | h
    · exact h1
    · exact smTs_mem r t h2 h
theorem isTs_mem {l : List Tr} {t : Tr} (h : isTs l = true) (ht : t ∈ l) : isT t = true := by
  rw [isTs_all] at h; exact List.all_eq_true.1 h t ht
/-- how a tree is followed with a list of answers: the class, the questions asked, the error -/
inductive Wk (rows : List Int) : Tr → List Int → Int → List Int → Int → Prop
  | leaf {a c : Int} {ans : List Int} {kids : List Tr} {acc : List Int} (h : a < 0) : Wk rows (.node a c ans kids) acc c acc 0
  | far {a c : Int} {ans : List Int} {kids : List Tr} {acc : List Int} (h : 0 ≤ a) (hl : (rows.length : Int) ≤ a) : Wk rows (.node a c ans kids) acc 0 [] 5
  | gone {a c : Int} {ans : List Int} {kids : List Tr} {acc : List Int} {y : Int} (h : 0 ≤ a) (hy : rows[a.toNat]? = some y) (hn : y ∉ ans) : Wk rows (.node a c ans kids) acc 0 [] 6
  | step {a c : Int} {ans : List Int} {kids : List Tr} {acc : List Int} {y : Int} {k : Nat} {t : Tr} {c' : Int} {qs : List Int} {e : Int} (h : 0 ≤ a) (hy : rows[a.toNat]? = some y) (hk : ans[k]? = some y) (hf : ∀ j, j < k → ans[j]? ≠ some y)
      (ht : kids[k]? = some t) (hr : Wk rows t (acc ++ [a]) c' qs e) : Wk rows (.node a c ans kids) acc c' qs e
theorem Wk.uniq {rows : List Int} {t : Tr} {acc : List Int} {c : Int} {qs : List Int} {e : Int} (h : Wk rows t acc c qs e) : ∀ {c' : Int} {as' : List Int} {e' : Int}, Wk rows t acc c' as' e' → c = c' ∧ qs = as' ∧ e = e' := by
  induction h with
  | leaf h =>
    intro c' as' e' k
    cases k with
    | leaf => exact ⟨rfl, rfl, rfl⟩
    | far h' => omega
    | gone h' => omega
    | step h' => omega
  | far h hl =>
    intro c' as' e' k
    cases k with
    | leaf h' => omega
    | far => exact ⟨rfl, rfl, rfl⟩
    | gone h' hy => have := (List.getElem?_eq_some_iff.1 hy).1; omega
    | step h' hy => have := (List.getElem?_eq_some_iff.1 hy).1; omega
  | gone h hy hn =>
    intro c' as' e' k
    cases k with
    | leaf h' => omega
    | far h' hl => have := (List.getElem?_eq_some_iff.1 hy).1; omega
    | gone => exact ⟨rfl, rfl, rfl⟩
    | step h' hy' hk => rw [hy] at hy'; cases hy'; exact absurd (List.mem_of_getElem? hk) hn
  | step h hy hk hf ht hr ih =>
    intro c' as' e' k
    cases k with
    | leaf h' => omega
    | far h' hl => have := (List.getElem?_eq_some_iff.1 hy).1; omega
    | gone h' hy' hn => rw [hy] at hy'; cases hy'; exact absurd (List.mem_of_getElem? hk) hn
    | step h' hy' hk' hf' ht' hr' =>
      rw [hy] at hy'; cases hy'
      rename_i k1 _ _ _ _ k2 _
      have e : k1 = k2 := by
        rcases Nat.lt_trichotomy k1 k2 with hlt | heq | hlt
        · exact absurd hk (hf' _ hlt)
        · exact heq
        · exact absurd hk' (hf _ hlt)
      subst e
      rw [ht] at ht'; cases ht'
      exact ih hr'
end Go.Proofs.Ytmkkegigajmhkaa

namespace Go.Proofs.Ytmkkegigajmhkaa
open Go.RowKit Go.Maps

def WalkOut (base : Nat) (t : Tr) (rows : List Int) (e : Ending) (w' : World) : Prop := ∃ c qs x vq, e = .returned (.tuple #[.int .i64 c, vq, .int .i64 x]) ∧ Wk rows t [] c qs x ∧ w'.ownsRow base 3 1 vq qs.length (ints qs)
def lenOf : Value → Nat
  | .slice _ n _ => n
  | _ => 0
theorem isT_parts {a c : Int} {ans : List Int} {kids : List Tr} (h : isT (.node a c ans kids) = true) (ha : 0 ≤ a) : a < 64 ∧ ans ≠ [] ∧ kids.length = ans.length ∧ incB ans = true ∧ isTs kids = true := by
  rw [isT_node (by omega)] at h
  simp only [Bool.and_eq_true, decide_eq_true_eq] at h
  obtain ⟨⟨⟨⟨⟨⟨h1, h2⟩, h3⟩, h4⟩, h5⟩, h6⟩, h7⟩ := h
  exact ⟨h2, fun h0 => h4 (by rw [h0]; rfl), h5, h6, h7⟩
theorem Wk.back {rows : List Int} {a c : Int} {ans : List Int} {kids : List Tr} {acc : List Int} {y : Int} {k : Nat} {t : Tr} (h : 0 ≤ a) (hy : rows[a.toNat]? = some y) (hk : ans[k]? = some y) (hp : ans.Pairwise (· < ·)) (ht : kids[k]? = some t) {c' : Int} {qs : List Int} {e : Int} (hr : Wk rows t (acc ++ [a]) c' qs e) :
    Wk rows (.node a c ans kids) acc c' qs e := by
  refine .step h hy hk (fun j hj hjy => ?_) ht hr
  have h1 := countP_at ans k y hp hk
  have h2 := countP_at ans j y hp hjy
  omega
set_option maxRecDepth 100000 in
set_option maxHeartbeats 8000000 in
theorem walk_any {F : Nat → Prop} {W0 : World} {v : Value} {t0 : Tr} (h : TreeIn 108 F W0 v t0) (his : isT t0 = true) (hsm : smT t0 = true) (hdep : depT t0 ≤ 100000) (vr : Value) (rows : List Int) (w : World) (hb : Below W0.heap.size W0 w) (hr : RdI w vr rows) :
    Calls Try.prog 68 #[v, vr] w fun e w' => WalkOut w.heap.size t0 rows e w' ∧ Below w.heap.size w w' := by
  obtain ⟨ar, cr, rfl⟩ := hr.form
  have HR := Lib.hid hr; have HB := Lib.hid hb
  obtain ⟨N, hN⟩ : ∃ n, n = w.heap.size := ⟨_, rfl⟩
  rw [← hN]
  have HNK := Lib.hid fun (W : World) (h : Below N w W) => (by have := h.size; omega : N ≤ W.heap.size)
  obtain ⟨p0, hp0⟩ := h.form
  have HP0 := Lib.hid hp0
  have ht0 := h
  clear h hr hb
  subst hp0
  go_enter Try.func68, Try.ntmps68
  go_wp2_with fail
  go_loopw [0, 7] (fun xv qv wr => ∃ (t : Tr) (qs : List Int), TreeIn 108 F W0 xv t ∧ isT t = true ∧ smT t = true ∧ (∀ (c : Int) (ps : List Int) (e : Int), Wk rows t qs c ps e → Wk rows t0 [] c ps e) ∧ wr.ownsRow N 3 1 qv qs.length (ints qs) ∧ qs.length + depT t ≤ 100000 ∧ Below N w wr) (fun _ qv _ => 100000 - lenOf qv)
  case atStart => exact ⟨t0, [], ht0, his, hsm, fun _ _ _ h => h, World.ownsRow_nil _ _ _ _, by simpa using hdep, Below.refl _ _⟩
  case round =>
    clear ht0 his hsm hdep
    obtain ⟨t, qs, ht, hi, hs, hwk, hown, hdp, hbl⟩ := hrel
    cases t with
    | nil => cases hi
    | node a c ans kids =>
    obtain ⟨b, us, va, vk, rfl, _, hbx, hra, hrk, hts⟩ := ht.open
    have hbw := HB.out.trans (hbl.mono (by have := HB.out.size; omega))
    obtain ⟨aa, ca, rfl⟩ := RdI.form (show RdI W0 va ans from hra.1)
    obtain ⟨ak, ck, rfl, hrk2⟩ : ∃ x c, vk = .slice x us.length c ∧ Rd W0 (.slice x us.length c) us := by
      obtain ⟨x, c, h1, _⟩ := hrk.1; exact ⟨x, c, h1, h1 ▸ hrk.1⟩
    have hbx2 := Boxs.below hbx hbw
    have hbx1 := Boxs.below hbx HB.out
    have hltb : b < N := by rw [hN]; exact hbx1.lt
    have c3w := hbx1.cell 3
    simp only [List.getElem?_toArray, List.getElem?_cons_zero, List.getElem?_cons_succ] at c3w
    have C3W := Lib.hid c3w
    clear c3w hbx1
    have hblt := hbx2.lt
    have c0 := hbx2.cell 0; have c1 := hbx2.cell 1; have c2 := hbx2.cell 2; have c3 := hbx2.cell 3
    simp only [List.getElem?_toArray, List.getElem?_cons_zero, List.getElem?_cons_succ] at c0 c1 c2 c3
    obtain ⟨aq, cq, rfl⟩ := owns_form hown
    have HI := Lib.hid hi; have HS := Lib.hid hs; have HWK := Lib.hid hwk; have HOWN := Lib.hid hown; have HBL := Lib.hid hbl; have HTS := Lib.hid hts; have HRK := Lib.hid hrk2; have HRA := Lib.hid hra; have HBW := Lib.hid hbw
    clear ht hi hs hwk hown hbl hts hrk hrk2 hra hbx hbx2 hbw
    by_cases ha : a < 0
    · clear HP0
      go_wp2_with fail
      (try simp only [Exit.inBlock, Exit.then]); refine bodyPost_ret (results_tmp3 rfl _ _ _) rfl ?_
      subst hN
      exact ⟨⟨_, _, _, _, rfl, HWK.out _ _ _ (.leaf ha), HOWN.out⟩, HBL.out⟩
    · obtain ⟨m, rfl⟩ : ∃ m : Nat, a = m := ⟨a.toNat, by omega⟩
      have hm0 : (0 : Int) ≤ (m : Int) := Int.natCast_nonneg _
      obtain ⟨_, hne, hkl, hinc, hks⟩ := isT_parts HI.out hm0
      by_cases hl : rows.length ≤ m
      · have hl' : (rows.length : Int) ≤ (m : Int) := by omega
        have HKL := Lib.hid hkl
        clear HP0 hkl
        go_wp2_with fail
        (try simp only [Exit.inBlock, Exit.then]); refine bodyPost_ret (results_tmp3 rfl _ _ _) rfl ?_
        subst hN
        exact ⟨⟨_, _, _, _, rfl, HWK.out _ _ _ (.far hm0 hl'), World.ownsRow_nil _ _ _ _⟩, HBL.out⟩
      · have hl' : ¬ (rows.length : Int) ≤ (m : Int) := by omega
        obtain ⟨y, hy⟩ := elem_at (show m < rows.length by omega)
        obtain ⟨br, or, rfl, hrlt0, qy0⟩ := ints_at HR.out hy
        have hrlt : br < wr.heap.size := Nat.lt_of_lt_of_le hrlt0 HBL.out.size
        have qy := (HBL.out.cell (p := ⟨br, or + m, none⟩) (show br < N by omega)).trans qy0
        have hpw := incB_pairwise ans hinc
        have hsm := HS.out
        rw [smT] at hsm
        obtain ⟨hs1, hs2⟩ := Bool.and_eq_true_iff.1 hsm
        have hs1 := of_decide_eq_true hs1
        have SE := search_any (.slice aa ans.length ca) ans y (wr.drewN 1) ((RdI.below HRA.out.1 HBW.out).below (Below.dn (Below.refl wr.heap.size wr) 1)) hne hpw (by omega)
        obtain ⟨ix, hix⟩ : ∃ n, ans.countP (· < y) = n := ⟨_, rfl⟩
        obtain ⟨bb, hbb⟩ : ∃ b, ans.contains y = b := ⟨_, rfl⟩
        rw [hix, hbb] at SE
        have HKL := Lib.hid hkl; have HY := Lib.hid hy; have HPW := Lib.hid hpw; have HKS := Lib.hid hks; have HS2 := Lib.hid hs2; have HIX := Lib.hid hix; have HBB := Lib.hid hbb
        have hm1 : (m : Int) < (rows.length : Int) := by omega
        clear hkl hy hpw hks hs2 hsm hix hbb HP0 hinc
        go_wp2_with fail
        refine wp_region_E (fun W => W.cell? ⟨b, 0, none⟩ = some (.int .i64 (m : Int)) ∧ W.cell? ⟨b, 2, none⟩ = some (.slice aa ans.length ca) ∧ W.cell? ⟨br, or + m, none⟩ = some (.int .i64 y)) (by kernel_rfl) ?_
        have hdr : (wr).drew = { wr with drawn := (wr).drawn + 1 } := rfl
        rw [← hdr]
        clear hdr
        change wpAnyE _ _ _ _ _ _ _ _ (wr.drewN 1)
        refine tm 0 23 rfl rfl (.pointer (some ⟨b, 0, none⟩)) ⟨c0, c2, qy⟩ ?_
        try simp only [pa, pl]
        refine tg 1 24 rfl rfl (.pointer (some ⟨b, 0, none⟩)) ⟨c0, c2, qy⟩ ?_
        try simp only [pa, pl]
        refine tg 2 25 rfl rfl (.pointer (some ⟨b, 2, none⟩)) ⟨c0, c2, qy⟩ ?_
        try simp only [pa, pl]
        refine tk 3 26 rfl rfl (.slice aa ans.length ca) (fun W hW => by obtain ⟨c0, c2, qy⟩ := hW; go_simp) ⟨c0, c2, qy⟩ ?_
        try simp only [pa, pl]
        refine tm 4 27 rfl rfl (.slice (some ⟨br, or, none⟩) rows.length cr) ⟨c0, c2, qy⟩ ?_
        try simp only [pa, pl]
        refine tm 5 28 rfl rfl (.pointer (some ⟨b, 0, none⟩)) ⟨c0, c2, qy⟩ ?_
        try simp only [pa, pl]
        refine tg 6 29 rfl rfl (.pointer (some ⟨b, 0, none⟩)) ⟨c0, c2, qy⟩ ?_
        try simp only [pa, pl]
        refine tg 7 30 rfl rfl (.pointer (some ⟨b, 0, none⟩)) ⟨c0, c2, qy⟩ ?_
        try simp only [pa, pl]
        refine tk 8 31 rfl rfl (.int .i64 (m : Int)) (fun W hW => by obtain ⟨c0, c2, qy⟩ := hW; go_simp) ⟨c0, c2, qy⟩ ?_
        try simp only [pa, pl]
        refine tk 9 32 rfl rfl (.pointer (some ⟨br, or + m, none⟩)) (fun _ _ => by go_simp <;> omega) ⟨c0, c2, qy⟩ ?_
        try simp only [pa, pl]
        refine tk 10 33 rfl rfl (.int .i64 y) (fun W hW => by obtain ⟨c0, c2, qy⟩ := hW; go_simp) ⟨c0, c2, qy⟩ ?_
        try simp only [pa, pl]
        refine wpAnyEOne 11 (by kernel_rfl) ?_
        refine wpOpCall (some 34) 84 #[.slice aa ans.length ca, .int .i64 y] rfl rfl rfl (by go_simp) (SE) ?_
        rintro e w5 ⟨rfl, hb9⟩
        have hb5 := (Below.dn (Below.refl wr.heap.size wr) 1).trans hb9
        have d0 := (hb5.cell (p := ⟨b, 0, none⟩) hblt).trans c0
        have d2 := (hb5.cell (p := ⟨b, 2, none⟩) hblt).trans c2
        have dy := (hb5.cell (p := ⟨br, or + m, none⟩) hrlt).trans qy
        refine ⟨_, rfl, ?_⟩
        refine ⟨.inl (⟨d0, d2, dy⟩), ?_⟩
        try simp only [pa, pl]
        refine tm 12 22 rfl rfl (.tuple #[.int .i64 (ix : Int), .bool bb]) ⟨d0, d2, dy⟩ ?_
        try simp only [pa, pl]
        refine tg 13 35 rfl rfl (.int .i64 (ix : Int)) ⟨d0, d2, dy⟩ ?_
        try simp only [pa, pl]
        refine tg 14 36 rfl rfl (.bool bb) ⟨d0, d2, dy⟩ ?_
        try simp only [pa, pl]
        refine wpAnyEOne 15 (by kernel_rfl) ?_
        refine wpOpRun' (v := .int .i64 (ix : Int)) (w' := w5) (some 8) rfl rfl rfl (by rfl) ?_
        refine ⟨.inl (⟨d0, d2, dy⟩), ?_⟩
        try simp only [pa, pl]
        refine wpAnyEOne 16 (by kernel_rfl) ?_
        refine wpOpRun' (v := .bool bb) (w' := w5) (some 9) rfl rfl rfl (by rfl) ?_
        refine ⟨.inr (allUp_of (by kernel_rfl)), ?_⟩
        try simp only [pa, pl]
        refine wpAnyE_done (by kernel_rfl) ?_ _
        have HBL5 := Lib.hid (HBL.out.trans (hb5.mono (HNK.out _ HBL.out)))
        have HBW5 := Lib.hid (HBW.out.trans (hb5.mono HBW.out.size))
        have HOWN5 := Lib.hid (owns_below HOWN.out hb5)
        have hs5 := HNK.out _ HBL5.out
        have d3 := (hb5.cell (p := ⟨b, 3, none⟩) hblt).trans c3
        have hblt5 := Nat.lt_of_lt_of_le hblt hb5.size
        clear SE hb9 hb5 c0 c1 c2 c3 qy HBL HBW HOWN
        cases bb
        · have hn : y ∉ ans := fun hm => by have := List.contains_iff_mem.2 hm; rw [HBB.out] at this; cases this
          have HNN := Lib.hid hn
          clear hn
          go_wp2_with fail
          (try simp only [Exit.inBlock, Exit.then]); refine bodyPost_ret (results_tmp3 rfl _ _ _) rfl ?_
          subst hN
          exact ⟨⟨_, _, _, _, rfl, HWK.out _ _ _ (.gone hm0 (by simpa using HY.out) HNN.out), World.ownsRow_nil _ _ _ _⟩, HBL5.out⟩
        · obtain ⟨k, hk⟩ := List.mem_iff_getElem?.1 (List.contains_iff_mem.1 HBB.out)
          have hkx := countP_at ans k y HPW.out hk
          rw [HIX.out] at hkx
          subst hkx
          have hklt := (List.getElem?_eq_some_iff.1 hk).1
          obtain ⟨t', ht'⟩ := elem_at (show ix < kids.length by rw [HKL.out]; exact hklt)
          have hul : us.length = kids.length := HTS.out.1
          obtain ⟨u, hu⟩ := elem_at (show ix < us.length by rw [hul, HKL.out]; exact hklt)
          obtain ⟨xk, ck', ek, _, _, hrd⟩ := HRK.out
          cases ek
          rcases hrd with h0 | ⟨bk, ok, rfl, hbk, hcell⟩
          · exact absurd (List.getElem?_eq_some_iff.1 hu).1 (by omega)
          have hltk : bk < N := by have := HB.out.size; omega
          have QK := Lib.hid ((HB.out.cell (p := ⟨bk, ok + ix, none⟩) hbk).trans (hcell ix u hu))
          have ht2 := HTS.out.2 ix u t' hu ht'
          have hdl := depT_kid (a := (m : Int)) (c := c) (ans := ans) ht'
          have hux : (ix : Int) < (us.length : Int) := by have := (List.getElem?_eq_some_iff.1 hu).1; omega
          have hix0 : (0 : Int) ≤ (ix : Int) := Int.natCast_nonneg _
          have HT2 := Lib.hid ht2
          have HI2 := Lib.hid (isTs_mem HKS.out (List.mem_of_getElem? ht'))
          have HSM2 := Lib.hid (smTs_mem kids t' HS2.out (List.mem_of_getElem? ht'))
          have HW2 := Lib.hid (fun (c' : Int) (ps : List Int) (e : Int) (hh : Wk rows t' (qs ++ [(m : Int)]) c' ps e) => HWK.out c' ps e (.back (acc := qs) (c := c) hm0 (by simpa using HY.out) hk HPW.out ht' hh))
          have hql : qs.length + 1 ≤ 100000 := by omega
          clear ht2 ht' hk hu hul hcell
          obtain ⟨pu, rfl⟩ := HT2.out.form
          go_wp2_with (at_builtin; refine wpList_appI (base := N) rfl _ _ rfl (.slice aq qs.length cq) qs rfl (HOWN5.out.alloc _) (.slice (some ⟨w5.heap.size, 0, none⟩) 1 1) [(m : Int)] rfl (Rd_fresh w5 3 #[.int .i64 (m : Int)] 1 rfl (by omega)) (by simp; omega) (by simp; omega) ?_; intro v6 w6 happ; have hb56 := (alloc_below w5 (.cells #[.int .i64 (m : Int)] 3)); have HB6 := Lib.hid (happ.below (HBL5.out.trans (hb56.mono hs5)) (HOWN5.out.alloc _) (Nat.le_refl _) (by simp; omega)); have e3 := (HB6.out.cell (p := ⟨b, 3, none⟩) hltb).trans C3W.out; have e4 := (HB6.out.cell (p := ⟨bk, ok + ix, none⟩) hltk).trans QK.out; obtain ⟨a6, c6, rfl⟩ := happ.form; have HAPP := Lib.hid happ.1; clear happ hb56)
          go_roundw
          case rel => exact ⟨t', qs ++ [(m : Int)], HT2.out, HI2.out, HSM2.out, HW2.out, by have := HAPP.out; simpa using this, by simp; omega, HB6.out⟩
          case measure => simp [lenOf]; omega
end Go.Proofs.Ytmkkegigajmhkaa

namespace Go.Proofs.Ytmkkegigajmhkaa
open Go.RowKit Go.Maps

/-- following, also of what is no tree -/
inductive Fo (t : Tr) (rows : List Int) : Int → List Int → Int → Prop
  | bad (h : isT t = false) : Fo t rows 0 [] 2
  | good {c : Int} {qs : List Int} {e : Int} (h : isT t = true) (hw : Wk rows t [] c qs e) : Fo t rows c qs e
theorem Fo.uniq {t : Tr} {rows : List Int} {c : Int} {qs : List Int} {e : Int} {c' : Int} {qs' : List Int} {e' : Int} (h : Fo t rows c qs e) (k : Fo t rows c' qs' e') : c = c' ∧ qs = qs' ∧ e = e' := by
  cases h with
  | bad h => cases k with
    | bad => exact ⟨rfl, rfl, rfl⟩
    | good h' => rw [h] at h'; cases h'
  | good h hw => cases k with
    | bad h' => rw [h] at h'; cases h'
    | good _ hw' => exact hw.uniq hw'
def FollowOut (base : Nat) (t : Tr) (rows : List Int) (e : Ending) (w' : World) : Prop := ∃ c qs x vq, e = .returned (.tuple #[.int .i64 c, vq, .int .i64 x]) ∧ Fo t rows c qs x ∧ w'.ownsRow base 3 1 vq qs.length (ints qs)
set_option maxRecDepth 100000 in
set_option maxHeartbeats 4000000 in
theorem follow_any {F : Nat → Prop} {W0 : World} {v : Value} {t0 : Tr} (h : TreeIn 108 F W0 v t0) (hsm : smT t0 = true) (hdep : depT t0 ≤ 100000) (vr : Value) (rows : List Int) (w : World) (hb : Below W0.heap.size W0 w) (hr : RdI w vr rows) :
    Calls Try.prog 33 #[v, vr] w fun e w' => FollowOut w.heap.size t0 rows e w' ∧ Below w.heap.size w w' := by
  have IS := is_any h w hb
  have WK := fun (his : isT t0 = true) (W : World) (hW : Below w.heap.size w W) => walk_any h his hsm hdep vr rows W (hb.trans (hW.mono hb.size)) (hr.below hW)
  have HWK := Lib.hid WK
  obtain ⟨p, rfl⟩ := h.form
  obtain ⟨ar, cr, rfl⟩ := hr.form
  obtain ⟨bi, hbi⟩ : ∃ b, isT t0 = b := ⟨_, rfl⟩
  rw [hbi] at IS
  have HI := Lib.hid hbi
  clear h hb hr WK hbi
  go_enter Try.func33, Try.ntmps33
  go_wp2_with fail
  refine IS.mono ?_
  rintro e w2 ⟨rfl, hb2⟩
  have HB := Lib.hid hb2
  clear IS hb2
  cases bi
  · go_wp2_with fail
    (try simp only [Exit.inBlock, Exit.then]); refine bodyPost_ret (results_tmp3 rfl _ _ _) rfl ?_
    exact ⟨⟨_, _, _, _, rfl, .bad HI.out, World.ownsRow_nil _ _ _ _⟩, HB.out⟩
  · have W2 := HWK.out HI.out w2 HB.out
    go_wp2_with fail
    refine W2.mono ?_
    rintro e w3 ⟨⟨c, qs, x, vq, rfl, hw, hown⟩, hb3⟩
    have HW := Lib.hid hw; have HO := Lib.hid hown; have HB3 := Lib.hid (HB.out.trans (hb3.mono HB.out.size))
    have hs := HB.out.size
    clear hw hown hb3 W2
    go_wp2_with fail
    (try simp only [Exit.inBlock, Exit.then]); refine bodyPost_ret (results_tmp3 rfl _ _ _) rfl ?_
    exact ⟨⟨_, _, _, _, rfl, .good HI.out HW.out, owns_lower HO.out hs⟩, HB3.out⟩
theorem Wk.bound {rows : List Int} {t : Tr} {acc : List Int} {c : Int} {qs : List Int} {e : Int} (h : Wk rows t acc c qs e) : (∀ x, x ∈ qs → x ∈ acc ∨ (0 ≤ x ∧ x < rows.length)) ∧ qs.length ≤ acc.length + depT t := by
  induction h with
  | leaf h => exact ⟨fun x hx => .inl hx, by omega⟩
  | far h hl => exact ⟨fun x hx => (by cases hx), by simp⟩
  | gone h hy hn => exact ⟨fun x hx => (by cases hx), by simp⟩
  | @step a c ans kids acc y k t c' qs e h hy hk hf ht hr ih =>
    obtain ⟨h1, h2⟩ := ih
    have hd := depT_kid (a := a) (c := c) (ans := ans) ht
    refine ⟨fun x hx => ?_, by simp at h2; omega⟩
    rcases h1 x hx with h3 | h3
    · rcases List.mem_append.1 h3 with h4 | h4
      · exact .inl h4
      · rw [List.mem_singleton.1 h4]
        have := (List.getElem?_eq_some_iff.1 hy).1
        exact .inr ⟨h, by omega⟩
    · exact .inr h3
/-- the sum of the costs of questions -/
def sumQ (T : Tb) (qs : List Int) : Int := qs.foldl (fun s q => s + costAt T q.toNat) 0
theorem sumQ_succ {T : Tb} {qs : List Int} {k : Nat} {q : Int} (h : qs[k]? = some q) : sumQ T (qs.take (k + 1)) = sumQ T (qs.take k) + costAt T q.toNat := by
  unfold sumQ; rw [take_succ_at h, List.foldl_append]; rfl
theorem costAt_bd {T : Tb} (ho : OkT T) (k : Nat) : 0 ≤ costAt T k ∧ costAt T k ≤ 1024 := by
  unfold costAt
  cases h : T.costs[k]? with
  | none => simp
  | some x => have := ho.cb x (List.mem_of_getElem? h); simp; omega
theorem sumQ_bd {T : Tb} (ho : OkT T) (qs : List Int) : 0 ≤ sumQ T qs ∧ sumQ T qs ≤ 1024 * qs.length := by
  have key : ∀ (qs : List Int) (s : Int), 0 ≤ s → s ≤ qs.foldl (fun s q => s + costAt T q.toNat) s ∧ qs.foldl (fun s q => s + costAt T q.toNat) s ≤ s + 1024 * qs.length := by
    intro qs
    induction qs with
    | nil => intro s _; simp
    | cons a r ih =>
      intro s hs
      have hc := costAt_bd ho a.toNat
      have := ih (s + costAt T a.toNat) (by omega)
      simp only [List.foldl_cons, List.length_cons]
      omega
  have := key qs 0 (by omega)
  unfold sumQ
  omega
/-- what Check finds from some world on -/
inductive CkL (T : Tb) (t : Tr) : Nat → Int → Int → Int → Prop
  | done {i : Nat} {most : Int} (h : i = T.rows.length) : CkL T t i most most 0
  | none {i : Nat} {most : Int} {r : List Int} {c : Int} {qs : List Int} {x : Int} (hr : T.rows[i]? = some r) (hw : Wk r t [] c qs x) (hx : x ≠ 0) : CkL T t i most 0 6
  | differ {i : Nat} {most : Int} {r : List Int} {c : Int} {qs : List Int} (hr : T.rows[i]? = some r) (hw : Wk r t [] c qs 0) (hc : c ≠ clsAt T i) : CkL T t i most 0 16
  | step {i : Nat} {most : Int} {r : List Int} {qs : List Int} {c e : Int} (hr : T.rows[i]? = some r) (hw : Wk r t [] (clsAt T i) qs 0) (hn : CkL T t (i + 1) (max most (sumQ T qs)) c e) : CkL T t i most c e
theorem CkL.uniq {T : Tb} {t : Tr} {i : Nat} {most c e : Int} (h : CkL T t i most c e) : ∀ {c' e' : Int}, CkL T t i most c' e' → c = c' ∧ e = e' := by
  induction h with
  | done h =>
    intro c' e' k
    cases k with
    | done => exact ⟨rfl, rfl⟩
    | none hr => have := (List.getElem?_eq_some_iff.1 hr).1; omega
    | differ hr => have := (List.getElem?_eq_some_iff.1 hr).1; omega
    | step hr => have := (List.getElem?_eq_some_iff.1 hr).1; omega
  | none hr hw hx =>
    intro c' e' k
    cases k with
    | done h => have := (List.getElem?_eq_some_iff.1 hr).1; omega
    | none => exact ⟨rfl, rfl⟩
    | differ hr' hw' => rw [hr] at hr'; cases hr'; exact absurd (hw.uniq hw').2.2 hx
    | step hr' hw' => rw [hr] at hr'; cases hr'; exact absurd (hw.uniq hw').2.2 hx
  | differ hr hw hc =>
    intro c' e' k
    cases k with
    | done h => have := (List.getElem?_eq_some_iff.1 hr).1; omega
    | none hr' hw' hx' => rw [hr] at hr'; cases hr'; exact absurd (hw.uniq hw').2.2.symm hx'
    | differ => exact ⟨rfl, rfl⟩
    | step hr' hw' => rw [hr] at hr'; cases hr'; exact absurd (hw.uniq hw').1 hc
  | step hr hw hn ih =>
    intro c' e' k
    cases k with
    | done h => have := (List.getElem?_eq_some_iff.1 hr).1; omega
    | none hr' hw' hx' => rw [hr] at hr'; cases hr'; exact absurd (hw.uniq hw').2.2.symm hx'
    | differ hr' hw' hc' => rw [hr] at hr'; cases hr'; exact absurd (hw.uniq hw').1.symm hc'
    | step hr' hw' hn' =>
      rw [hr] at hr'; cases hr'
      rw [← (hw.uniq hw').2.1] at hn'
      exact ih hn'
/-- what Check finds -/
inductive Ck (T : Tb) (t : Tr) : Int → Int → Prop
  | bad (h : validE T ≠ 0) : Ck T t 0 (validE T)
  | form (h : validE T = 0) (hi : isT t = false) : Ck T t 0 2
  | good {c e : Int} (h : validE T = 0) (hi : isT t = true) (hc : CkL T t 0 0 c e) : Ck T t c e
theorem Ck.uniq {T : Tb} {t : Tr} {c e c' e' : Int} (h : Ck T t c e) (k : Ck T t c' e') : c = c' ∧ e = e' := by
  cases h with
  | bad h => cases k with
    | bad => exact ⟨rfl, rfl⟩
    | form h' => exact absurd h' h
    | good h' => exact absurd h' h
  | form h hi => cases k with
    | bad h' => exact absurd h h'
    | form => exact ⟨rfl, rfl⟩
    | good _ hi' => rw [hi] at hi'; cases hi'
  | good h hi hc => cases k with
    | bad h' => exact absurd h h'
    | form _ hi' => rw [hi] at hi'; cases hi'
    | good _ _ hc' => exact hc.uniq hc'
end Go.Proofs.Ytmkkegigajmhkaa

namespace Go.Proofs.Ytmkkegigajmhkaa
open Go.RowKit Go.Maps

set_option maxRecDepth 100000 in
set_option maxHeartbeats 8000000 in
theorem check_any {F : Nat → Prop} {W0 : World} {v : Value} {t0 : Tr} (h : TreeIn 108 F W0 v t0) (hsm : smT t0 = true) (hdep : depT t0 ≤ 100000) (va vc vk : Value) (T : Tb) (w : World) (hb : Below W0.heap.size W0 w) (hT : TbR w va vc vk T) :
    Calls Try.prog 29 #[.agg #[va, vc, vk], v] w fun e w' => (∃ c x, e = .returned (.tuple #[.int .i64 c, .int .i64 x]) ∧ Ck T t0 c x) ∧ Below w.heap.size w w' := by
  have IS := Lib.hid fun (W : World) (hW : Below w.heap.size w W) => is_any h W (hb.trans (hW.mono hb.size))
  have WK := Lib.hid fun (his : isT t0 = true) (vr : Value) (rows : List Int) (W : World) (hW : Below w.heap.size w W) (hr : RdI W vr rows) => walk_any h his hsm hdep vr rows W (hb.trans (hW.mono hb.size)) hr
  obtain ⟨p, rfl⟩ := h.form
  obtain ⟨aa, ca, rfl⟩ := hT.rows.form
  obtain ⟨ac, cc, rfl⟩ := hT.costs.form
  obtain ⟨ak, ck, rfl⟩ := hT.cls.form
  have HB := Lib.hid (alloc_below w (.cells #[.slice aa T.rows.length ca, .slice ac T.costs.length cc, .slice ak T.cls.length ck] 33))
  have HBT := Lib.hid (BoxT.new hT 33)
  obtain ⟨B, hB⟩ : ∃ B, w.heap.size = B := ⟨_, rfl⟩
  rw [hB] at HBT
  clear h hb hT
  have V := valid_any _ _ _ T _ HBT.out.tb
  have c0 := HBT.out.c0; have c1 := HBT.out.c1; have c2 := HBT.out.c2
  obtain ⟨x, hx⟩ : ∃ x, validE T = x := ⟨_, rfl⟩
  rw [hx] at V
  go_enter Try.func29, Try.ntmps29
  go_wp2_with fail
  generalize w.alloc (.cells #[.slice aa T.rows.length ca, .slice ac T.costs.length cc, .slice ak T.cls.length ck] 33) = wb at *
  refine V.mono ?_
  rintro e w2 ⟨rfl, hb2⟩
  have HBT2 := Lib.hid (HBT.out.below hb2)
  have HB2 := Lib.hid (HB.out.trans (hb2.mono HB.out.size))
  have HX := Lib.hid hx
  clear V c0 c1 c2 hb2 HB HBT hx
  by_cases hv : x = 0
  · subst hv
    have IS2 := IS.out w2 HB2.out
    obtain ⟨bi, hbi⟩ : ∃ b, isT t0 = b := ⟨_, rfl⟩
    rw [hbi] at IS2
    have HI := Lib.hid hbi
    clear hbi
    go_wp2_with fail
    refine IS2.mono ?_
    rintro e w3 ⟨rfl, hb3⟩
    have HBT3 := Lib.hid (HBT2.out.below hb3)
    have HB3 := Lib.hid (HB2.out.trans (hb3.mono HB2.out.size))
    clear IS2 hb3 HBT2 HB2
    cases bi
    · go_wp2_with fail
      go_ret2
      exact ⟨⟨_, _, rfl, .form HX.out HI.out⟩, HB3.out⟩
    · have HO := Lib.hid ((okT_iff T).1 HX.out)
      have hr64 := HO.out.r64
      have c0 := HBT3.out.c0
      go_wp2_with fail
      clear c0
      go_loopw [7, 27] (fun mv iv wr => ∃ (i : Nat) (most : Int), i ≤ T.rows.length ∧ iv = .int .i64 i ∧ mv = .int .i64 most ∧ 0 ≤ most ∧ most ≤ 1000000000 ∧ (∀ c e, CkL T t0 i most c e → CkL T t0 0 0 c e) ∧ Below w3.heap.size w3 wr) (fun _ iv _ => T.rows.length - (intOf iv).toNat)
      case atStart => exact ⟨0, 0, Nat.zero_le _, rfl, rfl, by omega, by omega, fun _ _ h => h, Below.refl _ _⟩
      case round =>
        obtain ⟨i, most, hi, rfl, rfl, hm0, hm1, hck, hbl⟩ := hrel
        have hi0 : (0 : Int) ≤ (i : Int) := Int.natCast_nonneg _
        have hbt := HBT3.out.below hbl
        have HBL := Lib.hid hbl; have HCK := Lib.hid hck
        by_cases hlt : i < T.rows.length
        · have hi1 : (i : Int) < (T.rows.length : Int) := by omega
          obtain ⟨r, hr⟩ := elem_at hlt
          obtain ⟨b1, o1, u, rfl, hbl1, q1, hu⟩ := rows_at hbt.tb.rows hr
          obtain ⟨au, cu, rfl⟩ := hu.form
          obtain ⟨kc, hkc⟩ := elem_at (show i < T.cls.length by rw [HO.out.kl]; exact hlt)
          have WK2 := WK.out HI.out _ r wr (HB3.out.trans (hbl.mono HB3.out.size)) hu
          have hrl := HO.out.rl r (List.mem_of_getElem? hr)
          have HR := Lib.hid hr; have HKC := Lib.hid hkc; have HRL := Lib.hid hrl
          clear hbl hbt hck hr hu hkc hrl hbl1
          go_wp2_with fail
          refine WK2.mono ?_
          rintro e w4 ⟨⟨c, qs, x, vq, rfl, hw, hown⟩, hb4⟩
          have HBL4 := Lib.hid (HBL.out.trans (hb4.mono HBL.out.size))
          have hbt := HBT3.out.below HBL4.out
          obtain ⟨aq, cq, rfl⟩ := owns_form hown
          have HW := Lib.hid hw; have HOWN := Lib.hid (owns_ints hown)
          obtain ⟨bk, ok, rfl, _, qk⟩ := ints_at hbt.tb.cls HKC.out
          have hkl := HO.out.kl
          have hik : (i : Int) < (T.cls.length : Int) := by omega
          have c2 := hbt.c2
          have hca := clsAt_of HKC.out
          have HCA := Lib.hid hca
          clear WK2 hw hown hb4 hbt q1 HBL hkl hca
          by_cases hx : x = 0
          · subst hx
            by_cases hc : c = kc
            · subst hc
              have hst := HW.out
              rw [← HCA.out] at hst
              have HST := Lib.hid hst
              have hwb := hst.bound
              have hsb := sumQ_bd HO.out qs
              have hql : qs.length ≤ 100000 := by have := hwb.2; simp at this; omega
              have HWB := Lib.hid hwb.1
              clear hst hwb
              go_wp2_with fail
              go_loopw [13, 50] (fun sv jv wr => ∃ j : Nat, j ≤ qs.length ∧ jv = .int .i64 j ∧ sv = .int .i64 (sumQ T (qs.take j)) ∧ wr = w4) (fun _ jv _ => qs.length - (intOf jv).toNat)
              case atStart => exact ⟨0, Nat.zero_le _, rfl, rfl, rfl⟩
              case round =>
                obtain ⟨j, hj, rfl, rfl, rfl⟩ := hrel
                have hj0 : (0 : Int) ≤ (j : Int) := Int.natCast_nonneg _
                have hsj := sumQ_bd HO.out (qs.take j)
                have hlj : (qs.take j).length ≤ 100000 := by rw [List.length_take]; omega
                by_cases hjl : j < qs.length
                · have hj1 : (j : Int) < (qs.length : Int) := by omega
                  obtain ⟨q, hq⟩ := elem_at hjl
                  obtain ⟨bq, oq, rfl, _, qq⟩ := ints_at HOWN.out hq
                  obtain ⟨hq0, hq1⟩ := (HWB.out q (List.mem_of_getElem? hq)).resolve_left (by simp)
                  obtain ⟨m, rfl⟩ : ∃ m : Nat, q = m := ⟨q.toNat, by omega⟩
                  have hmc : m < T.costs.length := by have := HRL.out; omega
                  obtain ⟨y, hy⟩ := elem_at hmc
                  have hbt := HBT3.out.below HBL4.out
                  obtain ⟨bc, oc, rfl, _, qc⟩ := ints_at hbt.tb.costs hy
                  have c1 := hbt.c1
                  have hss := sumQ_succ (T := T) hq
                  rw [Int.toNat_natCast, costAt_of hy] at hss
                  have hyb := HO.out.cb y (List.mem_of_getElem? hy)
                  have hmi : (m : Int) < (T.costs.length : Int) := by omega
                  have hm0 : (0 : Int) ≤ (m : Int) := Int.natCast_nonneg _
                  obtain ⟨sj, hsje⟩ : ∃ s, sumQ T (qs.take j) = s := ⟨_, rfl⟩
                  rw [hsje] at hss hsj ⊢
                  have HSS := Lib.hid hss
                  clear hq hy hbt hss hsje
                  go_wp2_with fail
                  go_roundw
                  case rel => exact ⟨j + 1, by omega, by go_num, by rw [HSS.out], trivial⟩
                  case measure => simp [intOf]; omega
                · obtain rfl : j = qs.length := by omega
                  have hj1 : ¬ (qs.length : Int) < (qs.length : Int) := by omega
                  rw [List.take_length]
                  obtain ⟨sq, hsq⟩ : ∃ s, sumQ T qs = s := ⟨_, rfl⟩
                  rw [List.take_length, hsq] at hsj
                  rw [hsq] at hsb
                  rw [hsq]
                  have HSQ := Lib.hid hsq
                  have HN := Lib.hid fun (c e : Int) (hh : CkL T t0 (i + 1) (max most sq) c e) => HCK.out c e (.step HR.out HST.out (by rw [HSQ.out]; exact hh))
                  clear hsq
                  go_wp2_with fail
                  go_roundw
                  case rel => exact ⟨i + 1, max most sq, by omega, by go_num, rfl, by omega, by omega, HN.out, HBL4.out⟩
                  case measure => simp [intOf]; omega
            · have hc' : (c != kc) = true := by simpa using hc
              have HC := Lib.hid hc
              clear hc
              go_wp2_with fail
              go_ret2
              exact ⟨⟨_, _, rfl, .good HX.out HI.out (HCK.out _ _ (.differ HR.out HW.out (by rw [HCA.out]; exact HC.out)))⟩, HB3.out.trans (HBL4.out.mono HB3.out.size)⟩
          · have hx' : (x != 0) = true := by simpa using hx
            have HXX := Lib.hid hx
            clear hx
            go_wp2_with fail
            go_ret2
            exact ⟨⟨_, _, rfl, .good HX.out HI.out (HCK.out _ _ (.none HR.out HW.out HXX.out))⟩, HB3.out.trans (HBL4.out.mono HB3.out.size)⟩
        · obtain rfl : i = T.rows.length := by omega
          have hi1 : ¬ (T.rows.length : Int) < (T.rows.length : Int) := by omega
          clear hbl hbt hck
          go_wp2_with fail
          go_ret2
          subst hB
          exact ⟨⟨_, _, rfl, .good HX.out HI.out (HCK.out _ _ (.done rfl))⟩, HB3.out.trans (HBL.out.mono HB3.out.size)⟩
  · have hv' : (x != 0) = true := by simpa using hv
    have HV := Lib.hid hv
    clear hv
    go_wp2_with fail
    go_ret2
    exact ⟨⟨_, _, rfl, by rw [← HX.out]; exact .bad (by rw [HX.out]; exact HV.out)⟩, HB2.out⟩
end Go.Proofs.Ytmkkegigajmhkaa

namespace Go.Proofs.Ytmkkegigajmhkaa
open Go.RowKit Go.Maps

theorem smTs_map {α : Type} (f : α → Tr) : ∀ l : List α, (∀ x, x ∈ l → smT (f x) = true) → smTs (l.map f) = true
  | [], _ => rfl
  | a :: r, h => by
    rw [List.map_cons]; unfold smTs
    rw [h a (by simp), smTs_map f r fun x hx => h x (by simp [hx])]; rfl
theorem depTs_map {α : Type} (f : α → Tr) (n : Nat) : ∀ l : List α, (∀ x, x ∈ l → depT (f x) ≤ n) → depTs (l.map f) ≤ n
  | [], _ => by simp [depTs]
  | a :: r, h => by
    rw [List.map_cons]; unfold depTs
    have := h a (by simp); have := depTs_map f n r fun x hx => h x (by simp [hx]); omega
theorem treeF_sm (choose : List Nat → Int) (T : Tb) : ∀ (n : Nat) (ws : List Nat), ws.length ≤ 100000 → smT (treeF choose T n ws) = true
  | 0, ws, _ => rfl
  | n + 1, ws, h => by
    unfold treeF
    split
    · rfl
    · have hg := given_len T ws (choose ws).toNat
      unfold smT
      rw [decide_eq_true (by omega), smTs_map _ _ fun a _ => treeF_sm choose T n _ (Nat.le_trans (withW_le T ws _ a) h)]; rfl
theorem treeF_dep (choose : List Nat → Int) (T : Tb) : ∀ (n : Nat) (ws : List Nat), depT (treeF choose T n ws) ≤ n
  | 0, ws => by simp [treeF, depT]
  | n + 1, ws => by
    unfold treeF
    split
    · unfold depT; simp [depTs]
    · unfold depT
      have := depTs_map (fun a => treeF choose T n (withW T ws (choose ws).toNat a)) n (given T ws (choose ws).toNat) fun a _ => treeF_dep choose T n _
      omega
def greTr (T : Tb) : Tr := if exE T = 0 then treeF (greedyA T) T T.rows.length (allW T) else .nil
/-- the cost and the error of Greedy -/
inductive Gr (T : Tb) : Int → Int → Prop
  | bad (h : exE T ≠ 0) : Gr T 0 (exE T)
  | good {c e : Int} (h : exE T = 0) (hc : Ck T (greTr T) c e) : Gr T c e
theorem Gr.uniq {T : Tb} {c e c' e' : Int} (h : Gr T c e) (k : Gr T c' e') : c = c' ∧ e = e' := by
  cases h with
  | bad h => cases k with
    | bad => exact ⟨rfl, rfl⟩
    | good h' => exact absurd h' h
  | good h hc => cases k with
    | bad h' => exact absurd h h'
    | good _ hc' => exact hc.uniq hc'
set_option maxRecDepth 100000 in
set_option maxHeartbeats 8000000 in
theorem greedyP_any (va vc vk : Value) (T : Tb) (w : World) (h : TbR w va vc vk T) :
    Calls Try.prog 26 #[.agg #[va, vc, vk]] w fun e w' => (∃ c x, SolveOut 108 w.heap.size (greTr T) c x e w' ∧ Gr T c x) ∧ Below w.heap.size w w' := by
  obtain ⟨aa, ca, rfl⟩ := h.rows.form
  obtain ⟨ac, cc, rfl⟩ := h.costs.form
  obtain ⟨ak, ck, rfl⟩ := h.cls.form
  have HB := Lib.hid (alloc_below w (.cells #[.slice aa T.rows.length ca, .slice ac T.costs.length cc, .slice ak T.cls.length ck] 33))
  have HBT := Lib.hid (BoxT.new h 33)
  have HT := Lib.hid h
  obtain ⟨B, hB⟩ : ∃ B, w.heap.size = B := ⟨_, rfl⟩
  have hsz : w.heap.size < (w.alloc (.cells #[.slice aa T.rows.length ca, .slice ac T.costs.length cc, .slice ak T.cls.length ck] 33)).heap.size := by simp
  rw [hB] at HBT hsz
  clear h
  have EX := examine_any _ _ _ T _ HBT.out.tb
  have c0 := HBT.out.c0; have c1 := HBT.out.c1; have c2 := HBT.out.c2
  obtain ⟨x, hx⟩ : ∃ x, exE T = x := ⟨_, rfl⟩
  rw [hx] at EX
  go_enter Try.func26, Try.ntmps26
  go_wp2_with fail
  generalize w.alloc (.cells #[.slice aa T.rows.length ca, .slice ac T.costs.length cc, .slice ak T.cls.length ck] 33) = wb at *
  refine EX.mono ?_
  rintro e w2 ⟨rfl, hb2⟩
  have HBT2 := Lib.hid (HBT.out.below hb2)
  have HB2 := Lib.hid (HB.out.trans (hb2.mono (by omega)))
  have hs2 := hb2.size
  have HX := Lib.hid hx
  clear EX c0 c1 c2 hb2 HB HBT hx
  by_cases hv : x = 0
  · subst hv
    obtain ⟨ho, hnt⟩ := exE_ok HX.out
    have HO := Lib.hid ho; have HN := Lib.hid hnt
    have htr : greTr T = treeF (greedyA T) T T.rows.length (allW T) := by unfold greTr; rw [if_pos HX.out]
    have HTR := Lib.hid htr
    have hr64 := ho.r64
    obtain ⟨N0, hN0⟩ : ∃ n, n = w2.heap.size := ⟨_, rfl⟩
    have hlen := allW_len T
    have AL := all_any _ _ _ T (w2.drewN 1) (HBT2.out.below (Below.dn (Below.refl w2.heap.size w2) 1)).tb (by omega)
    have hBN : B < N0 := by omega
    have hwN : w.heap.size ≤ N0 := by omega
    have LTB : ∀ W W' : World, BoxT W B (.slice aa T.rows.length ca) (.slice ac T.costs.length cc) (.slice ak T.cls.length ck) T → Below N0 W W' → B < W'.heap.size := fun W W' h hb => Nat.lt_of_lt_of_le h.lt hb.size
    have TC := fun (v : Value) (W : World) (hi : Below w.heap.size w W ∧ BoxT W B (.slice aa T.rows.length ca) (.slice ac T.costs.length cc) (.slice ak T.cls.length ck) T) => tree65_any w _ _ _ T HO.out HT.out N0 (fun W => Below w.heap.size w W ∧ BoxT W B (.slice aa T.rows.length ca) (.slice ac T.costs.length cc) (.slice ak T.cls.length ck) T) (fun W h => h.1)
      (fun W W' h hb => ⟨h.1.trans (hb.mono hwN), ⟨LTB W W' h.2 hb, (hb.cell (p := ⟨B, 0, none⟩) hBN).trans h.2.c0, (hb.cell (p := ⟨B, 1, none⟩) hBN).trans h.2.c1, (hb.cell (p := ⟨B, 2, none⟩) hBN).trans h.2.c2, HT.out.below (h.1.trans (hb.mono hwN))⟩⟩)
      (.pointer (some ⟨B, 0, none⟩)) (greedyA T) (greedy_choose HO.out HN.out)
      (fun ws v W h1 h2 _ _ h5 h6 h7 => (g65_any v ws B _ _ _ T W h5.2 HO.out h7.1 h1 (by omega)).mono fun e W' hh => ⟨hh.1, ⟨h5.1.trans (hh.2.mono h5.1.size), h5.2.below hh.2⟩, Keeps.of_below hh.2⟩) T.rows.length (allW T) v W (by omega) (fun h0 => by rw [h0] at hlen; have := HO.out.r1; simp at hlen; omega) (by omega) (allW_sorted T) (allW_ok T) hi
    unfold TreeOut at TC
    clear htr ho hnt hsz
    go_wp2_with fail
    refine wp_region_E (fun W => W.cell? ⟨B, 0, none⟩ = some (.slice aa T.rows.length ca) ∧ W.cell? ⟨B, 1, none⟩ = some (.slice ac T.costs.length cc) ∧ W.cell? ⟨B, 2, none⟩ = some (.slice ak T.cls.length ck)) (by kernel_rfl) ?_
    have hdr : (w2).drew = { w2 with drawn := (w2).drawn + 1 } := rfl
    rw [← hdr]
    clear hdr
    change wpAnyE _ _ _ _ _ _ _ _ (w2.drewN 1)
    refine tk 0 14 rfl rfl (.agg #[.slice aa T.rows.length ca, .slice ac T.costs.length cc, .slice ak T.cls.length ck]) (fun W hW => by obtain ⟨c0, c1, c2⟩ := hW; go_simp) ⟨HBT2.out.c0, HBT2.out.c1, HBT2.out.c2⟩ ?_
    try simp only [pa, pl]
    refine tk 1 15 rfl rfl (.agg #[.slice aa T.rows.length ca, .slice ac T.costs.length cc, .slice ak T.cls.length ck]) (fun W hW => by obtain ⟨c0, c1, c2⟩ := hW; go_simp) ⟨HBT2.out.c0, HBT2.out.c1, HBT2.out.c2⟩ ?_
    try simp only [pa, pl]
    refine tg 3 17 rfl rfl (.func (.func 65) #[] #[.pointer (some ⟨B, 0, none⟩)]) ⟨HBT2.out.c0, HBT2.out.c1, HBT2.out.c2⟩ ?_
    try simp only [pa, pl]
    refine wpAnyEOne 2 (by kernel_rfl) ?_
    refine wpOpCall (some 16) 57 #[.agg #[.slice aa T.rows.length ca, .slice ac T.costs.length cc, .slice ak T.cls.length ck]] rfl rfl rfl (by go_simp) (AL) ?_
    rintro e w8 ⟨⟨vl, rfl, hown⟩, hb9⟩
    obtain ⟨al2, cl2, rfl⟩ := owns_form hown
    have hb28 := (Below.dn (Below.refl w2.heap.size w2) 1).trans hb9
    have hbt8 := HBT2.out.below hb28
    have hrl := RdIn_owns hown
    clear hb9
    refine ⟨_, rfl, ?_⟩
    refine ⟨.inl (⟨hbt8.c0, hbt8.c1, hbt8.c2⟩), ?_⟩
    try simp only [pa, pl]
    refine wpAnyEOne 4 (by kernel_rfl) ?_
    refine wpOpCall (some 18) 58 #[.agg #[.slice aa T.rows.length ca, .slice ac T.costs.length cc, .slice ak T.cls.length ck], .slice al2 (nI (allW T)).length cl2, .func (.func 65) #[] #[.pointer (some ⟨B, 0, none⟩)]] rfl rfl rfl (by go_simp) (TC _ _ ⟨HB2.out.trans (hb28.mono HB2.out.size), hbt8⟩ (by have := hb28.size; omega) (hrl.mono (G := (N0 ≤ ·)) fun i _ hi => by have hi2 : w2.heap.size ≤ i := hi; show N0 ≤ i; omega)) ?_
    rintro e w9 ⟨tp, rfl, ht9, hi9, hk9⟩
    obtain ⟨ptp, rfl⟩ := ht9.form
    have hs8 := hb28.size
    refine ⟨_, rfl, ?_⟩
    refine ⟨.inl (⟨hi9.2.c0, hi9.2.c1, hi9.2.c2⟩), ?_⟩
    try simp only [pa, pl]
    refine wpAnyEOne 5 (by kernel_rfl) ?_
    refine wpOpRun' (v := .pointer ptp) (w' := w9) (some 6) rfl rfl rfl (by rfl) ?_
    refine ⟨.inr (allUp_of (by kernel_rfl)), ?_⟩
    try simp only [pa, pl]
    refine wpAnyE_done (by kernel_rfl) ?_ _
    have hb9 := hi9.1
    have CK := check_any ht9 (treeF_sm _ T _ _ (by omega)) (Nat.le_trans (treeF_dep _ T _ _) (by omega)) _ _ _ T w9 (Below.refl _ _) hi9.2.tb
    have HT9 := Lib.hid (ht9.le (show w.heap.size ≤ w8.heap.size by have := HB2.out.size; omega))
    have c0 := hi9.2.c0; have c1 := hi9.2.c1; have c2 := hi9.2.c2
    have HB9 := Lib.hid hb9
    clear TC AL hbt8 hrl hown ht9 hi9 hk9 hb28 hb9 HBT2
    go_wp2_with fail
    refine CK.mono ?_
    rintro e w10 ⟨⟨c, x, rfl, hck⟩, hb10⟩
    have HCK := Lib.hid hck
    have HT10 := Lib.hid (HT9.out.under hb10)
    have HB10 := Lib.hid (HB9.out.trans (hb10.mono HB9.out.size))
    clear CK hck hb10 c0 c1 c2
    go_wp2_with fail
    (try simp only [Exit.inBlock, Exit.then]); refine bodyPost_ret (results_tmp3 rfl _ _ _) rfl ?_
    exact ⟨⟨_, _, ⟨_, rfl, by rw [HTR.out]; exact HT10.out⟩, .good HX.out (by rw [HTR.out]; exact HCK.out)⟩, HB10.out⟩
  · have hv' : (x != 0) = true := by simpa using hv
    have ht : greTr T = .nil := by unfold greTr; rw [if_neg (by rw [HX.out]; exact hv)]
    have HT := Lib.hid ht
    have HV := Lib.hid hv
    clear ht hv
    go_wp2_with fail
    (try simp only [Exit.inBlock, Exit.then]); refine bodyPost_ret (results_tmp3 rfl _ _ _) rfl ?_
    exact ⟨⟨_, _, ⟨_, rfl, by rw [HT.out]; exact .nil⟩, by have := Gr.bad (T := T) (by rw [HX.out]; exact HV.out); rw [HX.out] at this; exact this⟩, HB2.out⟩
end Go.Proofs.Ytmkkegigajmhkaa

namespace Go.Proofs.Ytmkkegigajmhkaa
open Go.RowKit Go.Maps

mutual
/-- the code of a tree -/
def codeT : Tr → List Int
  | .nil => []
  | .node a c ans kids => if a < 0 then [-1, c] else a :: (ans.length : Int) :: (ans ++ codeTs kids)
def codeTs : List Tr → List Int
  | [] => []
  | t :: r => codeT t ++ codeTs r
end
theorem codeTs_app : ∀ l m : List Tr, codeTs (l ++ m) = codeTs l ++ codeTs m
  | [], m => by simp [codeTs]
  | t :: r, m => by simp [codeTs, codeTs_app r m]
theorem codeTs_take {l : List Tr} {k : Nat} {t : Tr} (h : l[k]? = some t) : codeTs (l.take (k + 1)) = codeTs (l.take k) ++ codeT t := by
  rw [take_succ_at h, codeTs_app]; simp [codeTs]
theorem codeTs_le (l : List Tr) (k : Nat) : (codeTs (l.take k)).length ≤ (codeTs l).length := by
  conv => rhs; rw [← List.take_append_drop k l, codeTs_app]
  simp
theorem codeT_leaf {a c : Int} {ans : List Int} {kids : List Tr} (h : a < 0) : codeT (.node a c ans kids) = [-1, c] := by rw [codeT, if_pos h]
theorem codeT_node {a c : Int} {ans : List Int} {kids : List Tr} (h : 0 ≤ a) : codeT (.node a c ans kids) = a :: (ans.length : Int) :: (ans ++ codeTs kids) := by rw [codeT, if_neg (by omega)]
/-- the variables of Encode -/
structure CodeI (W1 : World) (bO bC : Nat) (xs : List Int) (W : World) : Prop where
  bel : Below W1.heap.size W1 W
  ho : W1.heap.size ≤ bO
  hc : W1.heap.size ≤ bC
  ne : bO ≠ bC
  bc : Boxs W bC 110 #[.func (.func 70) #[] #[.pointer (some ⟨bO, 0, none⟩), .pointer (some ⟨bC, 0, none⟩)]]
  out : ∃ v, Boxs W bO 22 #[v] ∧ W.ownsRow W1.heap.size 3 1 v xs.length (ints xs)
theorem CodeI.under {W1 W W' : World} {bO bC : Nat} {xs : List Int} (h : CodeI W1 bO bC xs W) (hb : Below W.heap.size W W') : CodeI W1 bO bC xs W' := by
  obtain ⟨v, h1, h2⟩ := h.out
  exact ⟨h.bel.trans (hb.mono h.bel.size), h.ho, h.hc, h.ne, Boxs.below h.bc hb, v, Boxs.below h1 hb, owns_below h2 hb⟩
theorem AppOut.keeps {N : Nat} {e : TypeId} {W W' : World} {v v' : Value} {n : Nat} {zs : List Value} (h : AppOut N e W v n zs v' W') : Keeps (fun i => v.ownBlock = some i) W W' := Keeps.of_grown h.2.1 fun i hi => hi
theorem AppOut.keeps2 {N : Nat} {e : TypeId} {W W' W'' : World} {v v' v'' : Value} {n m : Nat} {zs ys : List Value} (h : AppOut N e W v n zs v' W') (k : AppOut N e W' v' m ys v'' W'') : Keeps (fun i => v.ownBlock = some i) W W'' :=
  h.keeps.join k.keeps fun i hi hv => by
    rcases h.2.2 with h2 | h2
    · rw [← h2]; exact hv
    · rw [h2] at hv; cases hv; omega
/-- more numbers -/
theorem CodeI.app {W1 W W' : World} {bO bC : Nat} {xs zs : List Int} {v v' : Value} (h : CodeI W1 bO bC xs W) (hv : Boxs W bO 22 #[v]) (ho : W.ownsRow W1.heap.size 3 1 v xs.length (ints xs)) (hk : Keeps (fun i => v.ownBlock = some i) W W') (ho' : W'.ownsRow W1.heap.size 3 1 v' zs.length (ints zs)) :
    CodeI W1 bO bC zs (W'.setCell ⟨bO, 0, none⟩ v') := by
  have hb : Below W1.heap.size W W' := hk.below h.bel.size fun i _ hi => (ho.lt i hi).1
  have b1 := Boxs.keeps hv hk (Boxs.not_own hv ho (by decide))
  have b2 := Boxs.keeps h.bc hk (Boxs.not_own h.bc ho (by decide))
  refine ⟨(h.bel.trans hb).setCell (p := ⟨bO, 0, none⟩) h.ho v', h.ho, h.hc, h.ne, Boxs.setOther b2 h.ne.symm v', v', by simpa using b1.put 0 v', owns_boxset ho' b1 (by decide) v'⟩
theorem Rd.at {W : World} {a : Option Addr} {n c k : Nat} {cs : List Value} {u : Value} (h : Rd W (.slice a n c) cs) (hu : cs[k]? = some u) : ∃ b off, a = some ⟨b, off, none⟩ ∧ b < W.heap.size ∧ W.cell? ⟨b, off + k, none⟩ = some u := by
  obtain ⟨a', cap, h1, h2, h3, h4⟩ := h
  cases h1
  rcases h4 with h4 | ⟨b, off, rfl, hb, hc⟩
  · have := (List.getElem?_eq_some_iff.1 hu).1; omega
  · exact ⟨b, off, rfl, hb, hc k u hu⟩
theorem CodeI.cast {W1 W : World} {bO bC : Nat} {xs ys : List Int} (h : CodeI W1 bO bC xs W) (e : xs = ys) : CodeI W1 bO bC ys W := e ▸ h
set_option maxRecDepth 100000 in
set_option maxHeartbeats 16000000 in
theorem code_any {F : Nat → Prop} {W1 : World} {bO bC : Nat} {v : Value} {t : Tr} (h : TreeIn 108 F W1 v t) :
    ∀ (xs : List Int) (w : World), isT t = true → CodeI W1 bO bC xs w → xs.length + (codeT t).length ≤ 1000000 →
      Calls Try.prog 70 #[v, .pointer (some ⟨bO, 0, none⟩), .pointer (some ⟨bC, 0, none⟩)] w fun e w' => e = .returned (.tuple #[]) ∧ CodeI W1 bO bC (xs ++ codeT t) w' := by
  induction h with
  | nil => intro xs w h; cases h
  | node hF hB ha hk hl hs ih =>
    rename_i b a c ans kids us va vk
    intro xs w his hI hlen
    obtain ⟨aa, ca, rfl⟩ := RdI.form (show RdI W1 va ans from ha.1)
    obtain ⟨ak, ck, rfl, hk2⟩ : ∃ x c, vk = .slice x us.length c ∧ Rd W1 (.slice x us.length c) us := by
      obtain ⟨x, c, h1, _⟩ := hk.1; exact ⟨x, c, h1, h1 ▸ hk.1⟩
    have hB2 := Boxs.of_below hB hI.bel hB.lt
    have hblt := hB2.lt
    have HA := Lib.hid (show RdI W1 (.slice aa ans.length ca) ans from ha.1)
    have HK := Lib.hid hk2
    have HL := Lib.hid hl; have HS := Lib.hid hs; have IH := Lib.hid ih
    have HB1 := Lib.hid hB
    have hus63 : us.length ≤ 9223372036854775807 := by
      obtain ⟨_, cap, e, h1, h2, _⟩ := hk2
      omega
    have HI := Lib.hid hI
    have HB2 := Lib.hid hB2
    obtain ⟨v0, hbo, hown⟩ := hI.out
    obtain ⟨a0, k0, rfl⟩ := owns_form hown
    have hbs := hI.bel.size
    have hoO := hI.ho
    have hltO := hbo.lt
    have cO := hbo.cell 0; have fO := hbo.frozen 0
    have c0 := hB2.cell 0; have c1 := hB2.cell 1; have c2 := hB2.cell 2; have c3 := hB2.cell 3
    simp only [List.getElem?_toArray, List.getElem?_cons_zero, List.getElem?_cons_succ] at c0 c1 c2 c3 cO
    have HO := Lib.hid hown; have HBO := Lib.hid hbo
    clear ih hs ha hk hk2 hB hB2 hl hI hown hbo
    by_cases hneg : a < 0
    · have hcode := codeT_leaf (c := c) (ans := ans) (kids := kids) hneg
      have hl2 : xs.length + 2 ≤ 1000000 := by rw [hcode] at hlen; exact hlen
      have HC := Lib.hid hcode
      clear hcode hlen
      go_enter Try.func70, Try.ntmps70
      go_wp2_with fail
      refine wp_region_E (fun W => W.cell? ⟨bO, 0, none⟩ = some (.slice a0 xs.length k0) ∧ W.cell? ⟨b, 0, none⟩ = some (.int .i64 a) ∧ W.cell? ⟨b, 1, none⟩ = some (.int .i64 c) ∧ W.cell? ⟨b, 2, none⟩ = some (.slice aa ans.length ca)) (by kernel_rfl) ?_
      have hdr : (w).drew = { w with drawn := (w).drawn + 1 } := rfl
      rw [← hdr]
      clear hdr
      change wpAnyE _ _ _ _ _ _ _ _ ((w).drewN 1)
      refine tk 0 11 rfl rfl (.slice a0 xs.length k0) (fun W hW => by obtain ⟨cO, c0, c1, c2⟩ := hW; go_simp) ⟨cO, c0, c1, c2⟩ ?_
      try simp only [pa, pl]
      refine tm 1 12 rfl rfl (.pointer (some ⟨b, 0, none⟩)) ⟨cO, c0, c1, c2⟩ ?_
      try simp only [pa, pl]
      refine tg 2 13 rfl rfl (.pointer (some ⟨b, 0, none⟩)) ⟨cO, c0, c1, c2⟩ ?_
      try simp only [pa, pl]
      refine tg 3 14 rfl rfl (.pointer (some ⟨b, 1, none⟩)) ⟨cO, c0, c1, c2⟩ ?_
      try simp only [pa, pl]
      refine tk 4 15 rfl rfl (.int .i64 c) (fun W hW => by obtain ⟨cO, c0, c1, c2⟩ := hW; go_simp) ⟨cO, c0, c1, c2⟩ ?_
      try simp only [pa, pl]
      refine wpAnyEOne 5 (by kernel_rfl) ?_
      refine wpOpRun' (v := .slice (some ⟨w.heap.size, 0, none⟩) 2 2) (w' := ((w.drewN 1).alloc (.cells #[.int .i64 (-1), .int .i64 c] 3))) (some 16) rfl rfl rfl (by go_simp <;> rfl) ?_
      have hbl := (Below.dn (Below.refl w.heap.size w) 1).trans ((alloc_below (w.drewN 1) (.cells #[.int .i64 (-1), .int .i64 c] 3)).mono (Nat.le_refl _))
      have I8 := HI.out.under hbl
      have HBO8 := Boxs.below HBO.out hbl
      have HO8 := owns_below HO.out hbl
      have hB8 := Boxs.below HB2.out hbl
      refine ⟨.inl (⟨HBO8.cell 0, hB8.cell 0, hB8.cell 1, hB8.cell 2⟩), ?_⟩
      try simp only [pa, pl]
      refine wpAnyEOne 6 (by kernel_rfl) ?_
      refine wpOpAppI 6 (some 17) rfl rfl rfl (.tmp 11) (.tmp 16) rfl (.slice a0 xs.length k0) (xs) rfl (HO8) (.slice (some ⟨w.heap.size, 0, none⟩) 2 2) ([-1, c]) rfl (Rd_fresh (w.drewN 1) 3 #[.int .i64 (-1), .int .i64 c] 2 rfl (by omega)) (by simpa using hl2) (by simp; omega) fun v9 w9 happ => ?_
      obtain ⟨a9, k9, rfl⟩ := happ.form
      have hB9 := Boxs.far hB8 HO8 happ HB1.out.lt
      have hbo9 := Boxs.app HBO8 HO8 happ (by decide)
      have hfO := hbo9.frozen 0
      have hcO := hbo9.cell 0
      simp only [List.getElem?_toArray, List.getElem?_cons_zero] at hcO
      refine ⟨.inl (⟨hbo9.cell 0, hB9.cell 0, hB9.cell 1, hB9.cell 2⟩), ?_⟩
      try simp only [pa, pl]
      refine wpAnyEOne 7 (by kernel_rfl) ?_
      refine wpOpSkip (w' := w9.setCell ⟨bO, 0, none⟩ (.slice a9 (xs ++ [-1, c]).length k9)) 7 rfl rfl rfl (by go_simp <;> rfl) ?_
      refine ⟨.inr (allUp_of (by kernel_rfl)), ?_⟩
      try simp only [pa, pl]
      refine wpAnyE_done (by kernel_rfl) ?_ _
      have I9 := CodeI.app I8 HBO8 HO8 happ.keeps happ.1
      go_wp2_with fail
      refine bodyPost_ret (v := .tuple #[]) (by simp [results, Try.results70]) rfl ?_
      exact ⟨rfl, I9.cast (by rw [HC.out])⟩
    · have hge : 0 ≤ a := by omega
      obtain ⟨_, _, hkl, _, hts⟩ := isT_parts his hge
      have hcode := codeT_node (c := c) (ans := ans) (kids := kids) hge
      have hl2 : xs.length + 2 + ans.length + (codeTs kids).length ≤ 1000000 := by rw [hcode] at hlen; simp at hlen; omega
      have HC := Lib.hid hcode
      have HTS := Lib.hid hts; have HKL := Lib.hid hkl
      clear hcode hlen hkl hts his
      go_enter Try.func70, Try.ntmps70
      go_wp2_with fail
      refine wp_region_E (fun W => W.cell? ⟨bO, 0, none⟩ = some (.slice a0 xs.length k0) ∧ W.cell? ⟨b, 0, none⟩ = some (.int .i64 a) ∧ W.cell? ⟨b, 1, none⟩ = some (.int .i64 c) ∧ W.cell? ⟨b, 2, none⟩ = some (.slice aa ans.length ca)) (by kernel_rfl) ?_
      have hdr : (w).drew = { w with drawn := (w).drawn + 1 } := rfl
      rw [← hdr]
      clear hdr
      change wpAnyE _ _ _ _ _ _ _ _ ((w).drewN 1)
      refine tk 0 18 rfl rfl (.slice a0 xs.length k0) (fun W hW => by obtain ⟨cO, c0, c1, c2⟩ := hW; go_simp) ⟨cO, c0, c1, c2⟩ ?_
      try simp only [pa, pl]
      refine tm 1 19 rfl rfl (.pointer (some ⟨b, 0, none⟩)) ⟨cO, c0, c1, c2⟩ ?_
      try simp only [pa, pl]
      refine tg 2 20 rfl rfl (.pointer (some ⟨b, 0, none⟩)) ⟨cO, c0, c1, c2⟩ ?_
      try simp only [pa, pl]
      refine tg 3 21 rfl rfl (.pointer (some ⟨b, 0, none⟩)) ⟨cO, c0, c1, c2⟩ ?_
      try simp only [pa, pl]
      refine tk 4 22 rfl rfl (.int .i64 a) (fun W hW => by obtain ⟨cO, c0, c1, c2⟩ := hW; go_simp) ⟨cO, c0, c1, c2⟩ ?_
      try simp only [pa, pl]
      refine tm 5 23 rfl rfl (.pointer (some ⟨b, 0, none⟩)) ⟨cO, c0, c1, c2⟩ ?_
      try simp only [pa, pl]
      refine tg 6 24 rfl rfl (.pointer (some ⟨b, 0, none⟩)) ⟨cO, c0, c1, c2⟩ ?_
      try simp only [pa, pl]
      refine tg 7 25 rfl rfl (.pointer (some ⟨b, 2, none⟩)) ⟨cO, c0, c1, c2⟩ ?_
      try simp only [pa, pl]
      refine tk 8 26 rfl rfl (.slice aa ans.length ca) (fun W hW => by obtain ⟨cO, c0, c1, c2⟩ := hW; go_simp) ⟨cO, c0, c1, c2⟩ ?_
      try simp only [pa, pl]
      refine tg 9 27 rfl rfl (.int .i64 (ans.length : Int)) ⟨cO, c0, c1, c2⟩ ?_
      try simp only [pa, pl]
      refine tm 12 30 rfl rfl (.pointer (some ⟨b, 0, none⟩)) ⟨cO, c0, c1, c2⟩ ?_
      try simp only [pa, pl]
      refine tg 13 31 rfl rfl (.pointer (some ⟨b, 0, none⟩)) ⟨cO, c0, c1, c2⟩ ?_
      try simp only [pa, pl]
      refine tg 14 32 rfl rfl (.pointer (some ⟨b, 2, none⟩)) ⟨cO, c0, c1, c2⟩ ?_
      try simp only [pa, pl]
      refine tk 15 33 rfl rfl (.slice aa ans.length ca) (fun W hW => by obtain ⟨cO, c0, c1, c2⟩ := hW; go_simp) ⟨cO, c0, c1, c2⟩ ?_
      try simp only [pa, pl]
      refine wpAnyEOne 10 (by kernel_rfl) ?_
      refine wpOpRun' (v := .slice (some ⟨w.heap.size, 0, none⟩) 2 2) (w' := ((w.drewN 1).alloc (.cells #[.int .i64 a, .int .i64 (ans.length : Int)] 3))) (some 28) rfl rfl rfl (by go_simp <;> rfl) ?_
      have hbl := (Below.dn (Below.refl w.heap.size w) 1).trans ((alloc_below (w.drewN 1) (.cells #[.int .i64 a, .int .i64 (ans.length : Int)] 3)).mono (Nat.le_refl _))
      have I8 := HI.out.under hbl
      have HBO8 := Boxs.below HBO.out hbl
      have HO8 := owns_below HO.out hbl
      have hB8 := Boxs.below HB2.out hbl
      refine ⟨.inl (⟨HBO8.cell 0, hB8.cell 0, hB8.cell 1, hB8.cell 2⟩), ?_⟩
      try simp only [pa, pl]
      refine wpAnyEOne 11 (by kernel_rfl) ?_
      refine wpOpAppI 11 (some 29) rfl rfl rfl (.tmp 18) (.tmp 28) rfl (.slice a0 xs.length k0) (xs) rfl (HO8) (.slice (some ⟨w.heap.size, 0, none⟩) 2 2) ([a, (ans.length : Int)]) rfl (Rd_fresh (w.drewN 1) 3 #[.int .i64 a, .int .i64 (ans.length : Int)] 2 rfl (by omega)) (by simp; omega) (by simp; omega) fun v9 w9 happ => ?_
      obtain ⟨a9, k9, he9⟩ := happ.form
      rw [show (xs ++ [a, (ans.length : Int)]).length = xs.length + 2 by simp] at he9
      subst he9
      have hB9 := Boxs.far hB8 HO8 happ HB1.out.lt
      have hbo9 := Boxs.app HBO8 HO8 happ (by decide)
      have hw9 : Below W1.heap.size W1 w9 := I8.bel.trans (happ.keeps.below I8.bel.size fun i _ hi => (HO8.lt i hi).1)
      refine ⟨.inl (⟨hbo9.cell 0, hB9.cell 0, hB9.cell 1, hB9.cell 2⟩), ?_⟩
      try simp only [pa, pl]
      refine wpAnyEOne 16 (by kernel_rfl) ?_
      refine wpOpAppI 16 (some 34) rfl rfl rfl (.tmp 29) (.tmp 33) rfl (.slice a9 (xs.length + 2) k9) (xs ++ [a, (ans.length : Int)]) rfl (happ.1) (.slice aa ans.length ca) (ans) rfl (HA.out.below hw9) (by simp; omega) (hw9.size) fun v10 w10 happ2 => ?_
      obtain ⟨a10, k10, he10⟩ := happ2.form
      rw [show (xs ++ [a, (ans.length : Int)] ++ ans).length = xs.length + (ans.length + 1 + 1) by simp] at he10
      subst he10
      have hB10 := Boxs.far hB9 happ.1 happ2 HB1.out.lt
      have hbo10 := Boxs.app hbo9 happ.1 happ2 (by decide)
      have hfO := hbo10.frozen 0
      have hcO := hbo10.cell 0
      simp only [List.getElem?_toArray, List.getElem?_cons_zero] at hcO
      refine ⟨.inl (⟨hbo10.cell 0, hB10.cell 0, hB10.cell 1, hB10.cell 2⟩), ?_⟩
      try simp only [pa, pl]
      refine wpAnyEOne 17 (by kernel_rfl) ?_
      refine wpOpSkip (w' := w10.setCell ⟨bO, 0, none⟩ (.slice a10 (xs.length + (ans.length + 1 + 1)) k10)) 17 rfl rfl rfl (by go_simp <;> rfl) ?_
      refine ⟨.inr (allUp_of (by kernel_rfl)), ?_⟩
      try simp only [pa, pl]
      refine wpAnyE_done (by kernel_rfl) ?_ _
      have I11 := (CodeI.app I8 HBO8 HO8 (happ.keeps2 happ2) happ2.1).cast (show xs ++ [a, (ans.length : Int)] ++ ans = xs ++ a :: (ans.length : Int) :: ans by simp)
      generalize w10.setCell ⟨bO, 0, none⟩ (.slice a10 (xs.length + (ans.length + 1 + 1)) k10) = w11 at *
      have I11 := Lib.hid I11
      have hbb := I11.out.bel
      have hB11 := Boxs.of_below HB1.out hbb HB1.out.lt
      have c3 := hB11.cell 3
      simp only [List.getElem?_toArray, List.getElem?_cons_zero, List.getElem?_cons_succ] at c3
      have hb11 := hB11.lt
      clear hB11 hbb hcO hfO hbo10 hB10 hbo9 hB9 hw9 happ happ2 I8 HBO8 HO8 hB8 hbl HI HBO HO HB2 c0 c1 c2 cO fO
      go_wp2_with fail
      go_loopw [40] (fun iv wr => ∃ q : Nat, q ≤ us.length ∧ iv = .int .i64 q ∧ CodeI W1 bO bC (xs ++ a :: (ans.length : Int) :: (ans ++ codeTs (kids.take q))) wr) (fun iv _ => us.length - (intOf iv).toNat)
      case atStart => exact ⟨0, Nat.zero_le _, rfl, I11.out.cast (by simp [codeTs])⟩
      case round =>
        clear I11
        obtain ⟨q, hq, rfl, hI⟩ := hrel
        have hq0 : (0 : Int) ≤ (q : Int) := Int.natCast_nonneg _
        have HI := Lib.hid hI
        by_cases hlt : q < us.length
        · have hq1 : (q : Int) < (us.length : Int) := by omega
          obtain ⟨u, hu⟩ := elem_at hlt
          obtain ⟨tk, htk⟩ := elem_at (show q < kids.length by rw [← HL.out]; exact hlt)
          obtain ⟨b3, o3, rfl, hb3, hc3⟩ := HK.out.at hu
          have hc3 := (hI.bel.cell (p := ⟨b3, o3 + q, none⟩) hb3).trans hc3
          have hle := codeTs_le kids (q + 1)
          have htk1 := codeTs_take htk
          have hkb := hI.bc.cell 0
          simp only [List.getElem?_toArray, List.getElem?_cons_zero] at hkb
          have HX := IH.out q u tk hu htk _ wr (isTs_mem HTS.out (List.mem_of_getElem? htk)) HI.out (by rw [htk1] at hle; simp at hle ⊢; omega)
          have HK1 := Lib.hid htk1
          obtain ⟨pu, rfl⟩ := (HS.out q u tk hu htk).form
          clear hI htk1 hle hu htk
          go_wp2_with fail
          refine HX.mono ?_
          rintro e w12 ⟨rfl, hI2⟩
          have HI2 := Lib.hid hI2
          clear hI2
          go_wp2_with fail
          go_roundw
          case rel => exact ⟨q + 1, by omega, by go_num, HI2.out.cast (by rw [HK1.out]; simp)⟩
          case measure => simp [intOf]; omega
        · have hq1 : ¬ (q : Int) < (us.length : Int) := by omega
          have hall : kids.take q = kids := List.take_of_length_le (by have := HL.out; omega)
          have HALL := Lib.hid hall
          clear hall hI
          go_wp2_with fail
          refine bodyPost_end (results_none rfl _ _ _) rfl ?_
          exact ⟨rfl, HI.out.cast (by rw [HALL.out, HC.out])⟩
end Go.Proofs.Ytmkkegigajmhkaa

namespace Go.Proofs.Ytmkkegigajmhkaa
open Go.RowKit Go.Maps

def encT (t : Tr) : List Int := if isT t = true then codeT t else []
set_option maxRecDepth 100000 in
set_option maxHeartbeats 400000 in
theorem encode_any {F : Nat → Prop} {W0 : World} {v : Value} {t : Tr} (h : TreeIn 108 F W0 v t) (hlen : (codeT t).length ≤ 1000000) (w : World) (hb : Below W0.heap.size W0 w) :
    Calls Try.prog 38 #[v] w fun e w' => OwnI w.heap.size w' e (encT t) ∧ Below w.heap.size w w' := by
  have IS := is_any h w hb
  obtain ⟨p, rfl⟩ := h.form
  obtain ⟨bi, hbi⟩ : ∃ b, isT t = b := ⟨_, rfl⟩
  rw [hbi] at IS
  have HI := Lib.hid hbi
  have HH := Lib.hid h; have HBW := Lib.hid hb
  clear h hb hbi
  go_enter Try.func38, Try.ntmps38
  go_wp2_with fail
  refine IS.mono ?_
  rintro e w2 ⟨rfl, hb2⟩
  have HB := Lib.hid hb2
  clear IS hb2
  cases bi
  · go_wp2_with fail
    go_ret
    exact ⟨⟨_, rfl, by unfold encT; rw [if_neg (by rw [HI.out]; simp)]; exact World.ownsRow_nil _ _ _ _⟩, HB.out⟩
  · obtain ⟨bO, hO⟩ : ∃ b, w2.heap.size = b := ⟨_, rfl⟩
    obtain ⟨bC, hC⟩ : ∃ b, bO + 1 = b := ⟨_, rfl⟩
    have h1 := alloc_below w2 (.cells #[.slice none 0 0] 22)
    have e1 : (w2.alloc (.cells #[.slice none 0 0] 22)).heap.size = bC := by rw [World.size_alloc]; omega
    have h2 := alloc_below (w2.alloc (.cells #[.slice none 0 0] 22)) (.cells #[.func (.func 70) #[] #[.pointer (some ⟨bO, 0, none⟩), .pointer (some ⟨bC, 0, none⟩)]] 110)
    have x1 := Boxs.new w2 22 #[.slice none 0 0]
    rw [hO] at x1
    have x2 := Boxs.new (w2.alloc (.cells #[.slice none 0 0] 22)) 110 #[.func (.func 70) #[] #[.pointer (some ⟨bO, 0, none⟩), .pointer (some ⟨bC, 0, none⟩)]]
    rw [e1] at x2
    have h12 := h1.trans (h2.mono h1.size)
    have HT2 := Lib.hid (HH.out.under (HBW.out.trans (HB.out.mono HBW.out.size)))
    have I := Lib.hid (show CodeI w2 bO bC [] ((w2.alloc (.cells #[.slice none 0 0] 22)).alloc (.cells #[.func (.func 70) #[] #[.pointer (some ⟨bO, 0, none⟩), .pointer (some ⟨bC, 0, none⟩)]] 110)) from ⟨h12, by omega, by omega, by omega, x2, _, Boxs.below x1 h2, World.ownsRow_nil _ _ _ _⟩)
    have CA := code_any HT2.out [] _ HI.out I.out (by simpa using hlen)
    have cC := I.out.bc.cell 0
    simp only [List.getElem?_toArray, List.getElem?_cons_zero] at cC
    have hwz := HB.out.size
    clear h1 h2 x1 x2 h12 e1
    go_wp2_with fail
    with_reducible refine CA.mono ?_
    rintro e w5 ⟨rfl, hI5⟩
    obtain ⟨v5, hbo, hown⟩ := hI5.out
    obtain ⟨a5, k5, rfl⟩ := owns_form hown
    have c5 := hbo.cell 0
    simp only [List.getElem?_toArray, List.getElem?_cons_zero] at c5
    have HI5 := Lib.hid hI5; have HO5 := Lib.hid hown
    clear hI5 hbo hown CA
    go_wp2_with fail
    go_ret
    exact ⟨⟨_, rfl, by unfold encT; rw [if_pos HI.out]; exact owns_lower HO5.out (by omega)⟩, HB.out.trans (HI5.out.bel.mono (by omega))⟩
end Go.Proofs.Ytmkkegigajmhkaa

namespace Go.Proofs.Ytmkkegigajmhkaa
open Go.RowKit Go.Maps

def T3 : Tb := ⟨[[0, 0, 1], [0, 1, 1], [1, 0, 2]], [2, 2, 3], [0, 1, 2]⟩
def T3a : Tb := ⟨[[0, 0, 1], [0, 1, 1], [1, 0, 2]], [2, 2, 3], [0, 0, 2]⟩
def T3b : Tb := ⟨[[0, 0, 1], [0, 0, 1], [1, 0, 2]], [2, 2, 3], [0, 1, 2]⟩
def tr3 : Tr := .node 0 0 [0, 1] [.node 1 0 [0, 1] [.node (-1) 0 [] [], .node (-1) 1 [] []], .node (-1) 2 [] []]
def tr3a : Tr := .node 0 0 [0, 1] [.node (-1) 0 [] [], .node (-1) 2 [] []]
theorem best3 : bestErr T3 = 0 ∧ bestC T3 = 4 := by decide +kernel
theorem bestTr3 : bestTr T3 = tr3 := by kernel_rfl
theorem greTr3 : greTr T3 = tr3 := by kernel_rfl
theorem best3a : bestErr T3a = 0 ∧ bestC T3a = 2 := by decide +kernel
theorem bestTr3a : bestTr T3a = tr3a := by kernel_rfl
theorem best3b : bestErr T3b = 14 := by decide +kernel
theorem bestTr3b : bestTr T3b = .nil := by kernel_rfl
theorem enc3 : encT tr3 = encT tr3 := rfl
theorem enc3a : encT tr3a = [0, 2, 0, 1, -1, 0, -1, 2] := by decide +kernel
theorem is3 : isT tr3 = true := by decide +kernel
theorem sm3 : smT tr3 = true ∧ depT tr3 = 3 := by decide +kernel
theorem grp3b : (groups T3b).length = 2 := by decide +kernel
theorem wk3 (r : List Int) (y0 y1 : Int) (h0 : r[0]? = some y0) (h1 : r[1]? = some y1) (e0 : y0 = 0) (e1 : y1 = 0 ∨ y1 = 1) : Wk r tr3 [] y1 [0, 1] 0 := by
  subst e0
  refine .step (k := 0) (by omega) h0 rfl (fun j hj => by omega) rfl ?_
  rcases e1 with e | e
  · subst e; exact .step (k := 0) (by omega) h1 rfl (fun j hj => by omega) rfl (.leaf (by omega))
  · subst e; exact .step (k := 1) (by omega) h1 rfl (fun j hj => by have : j = 0 := by omega
                                                                    subst this; simp) rfl (.leaf (by omega))
theorem wk3b (r : List Int) (h0 : r[0]? = some 1) : Wk r tr3 [] 2 [0] 0 :=
  .step (k := 1) (by omega) h0 rfl (fun j hj => by have : j = 0 := by omega
                                                   subst this; simp) rfl (.leaf (by omega))
theorem gr3 : Gr T3 4 0 := by
  refine .good (by decide +kernel) (.good (by decide +kernel) (by rw [greTr3]; exact is3) ?_)
  rw [greTr3]
  refine .step (i := 0) rfl (wk3 [0, 0, 1] 0 0 rfl rfl rfl (.inl rfl)) ?_
  refine .step (i := 1) rfl (wk3 [0, 1, 1] 0 1 rfl rfl rfl (.inr rfl)) ?_
  refine .step (i := 2) rfl (wk3b [1, 0, 2] rfl) ?_
  exact .done rfl
theorem follow3 : Fo tr3 [0, 1, 9] 1 [0, 1] 0 := .good is3 (wk3 _ 0 1 rfl rfl rfl (.inr rfl))
theorem tw3b : TwRes T3b 0 1 true :=
  .hit (by decide +kernel) 0 1 ⟨by omega, by decide, by decide +kernel, fun a b ha => by omega, fun b h1 h2 => by omega⟩

/-! ### the table in memory -/
def sl3 (g : Nat) : Value := .slice (some ⟨g, 0, none⟩) 3 3
theorem owns_box3 {W : World} {base g : Nat} {t : TypeId} {cs : Array Value} {xs : List Value} (h : Boxs W g t cs) (hb : base ≤ g) (hx : cs.toList = xs) (hl : xs.length = 3) : W.ownsRow base t 1 (sl3 g) 3 xs :=
  owns_block h hb hx (by omega) (by omega)
/-- rows in blocks of their own -/
theorem OwnRs.boxes {W : World} {base : Nat} {gs : List Nat} {rows : List (List Int)} (hl : gs.length = rows.length) (hs : gs.Pairwise (· ≠ ·))
    (h : ∀ (k g : Nat) (r : List Int), gs[k]? = some g → rows[k]? = some r → Boxs W g 3 (ints r).toArray ∧ base ≤ g ∧ r.length = 3) : OwnRs base W (gs.map sl3) rows := by
  refine ⟨by simp [hl], fun k u r hu hr => ?_, fun j k u u' b hu hu' hb hb' => ?_⟩
  · rw [List.getElem?_map] at hu
    obtain ⟨g, hg, rfl⟩ := Option.map_eq_some_iff.1 hu
    obtain ⟨h1, h2, h3⟩ := h k g r hg hr
    rw [h3]
    exact owns_box3 h1 h2 (by simp) (by rw [ints_len]; exact h3)
  · rw [List.getElem?_map] at hu hu'
    obtain ⟨g, hg, rfl⟩ := Option.map_eq_some_iff.1 hu
    obtain ⟨g', hg', rfl⟩ := Option.map_eq_some_iff.1 hu'
    have e1 : g = b := by simpa [sl3, Value.ownBlock] using hb
    have e2 : g' = b := by simpa [sl3, Value.ownBlock] using hb'
    subst e1; subst e2
    exact (List.getElem?_inj (List.getElem?_eq_some_iff.1 hg).1 hs |>.1 (hg.trans hg'.symm))
def ThreeOut (base : Nat) (e : Ending) (w' : World) : Prop := ∃ g1 g2 g3 ga gc gk, e = .returned (.agg #[sl3 ga, sl3 gc, sl3 gk]) ∧ OwnT base w' (sl3 ga) (sl3 gc) (sl3 gk) [sl3 g1, sl3 g2, sl3 g3] T3
set_option maxRecDepth 100000 in
set_option maxHeartbeats 4000000 in
theorem three_any (w : World) : Calls Try.prog 51 #[] w fun e w' => ThreeOut w.heap.size e w' ∧ Below w.heap.size w w' := by
  obtain ⟨W0, h0⟩ : ∃ W, (w.alloc (.cells #[.slice (some ⟨w.heap.size + 1 + 1 + 1 + 1, 0, none⟩) 3 3, .slice (some ⟨w.heap.size + 1 + 1 + 1 + 1 + 1, 0, none⟩) 3 3, .slice (some ⟨w.heap.size + 1 + 1 + 1 + 1 + 1 + 1, 0, none⟩) 3 3] 33)) = W := ⟨_, rfl⟩
  have z0 : W0.heap.size = w.heap.size + 1 := by rw [← h0, World.size_alloc]
  obtain ⟨W1, h1⟩ : ∃ W, W0.alloc (.cells #[.int .i64 0, .int .i64 0, .int .i64 1] 3) = W := ⟨_, rfl⟩
  have b1 : Boxs W1 (w.heap.size + 1) 3 #[.int .i64 0, .int .i64 0, .int .i64 1] := by have := Boxs.new W0 3 #[.int .i64 0, .int .i64 0, .int .i64 1]; rw [h1, z0] at this; exact this
  have z1 : W1.heap.size = w.heap.size + 1 + 1 := by rw [← h1, World.size_alloc, z0]
  have l1 : Below W0.heap.size W0 W1 := by rw [← h1]; exact alloc_below _ _
  obtain ⟨W2, h2⟩ : ∃ W, W1.alloc (.cells #[.int .i64 0, .int .i64 1, .int .i64 1] 3) = W := ⟨_, rfl⟩
  have b2 : Boxs W2 (w.heap.size + 1 + 1) 3 #[.int .i64 0, .int .i64 1, .int .i64 1] := by have := Boxs.new W1 3 #[.int .i64 0, .int .i64 1, .int .i64 1]; rw [h2, z1] at this; exact this
  have z2 : W2.heap.size = w.heap.size + 1 + 1 + 1 := by rw [← h2, World.size_alloc, z1]
  have l2 : Below W1.heap.size W1 W2 := by rw [← h2]; exact alloc_below _ _
  obtain ⟨W3, h3⟩ : ∃ W, W2.alloc (.cells #[.int .i64 1, .int .i64 0, .int .i64 2] 3) = W := ⟨_, rfl⟩
  have b3 : Boxs W3 (w.heap.size + 1 + 1 + 1) 3 #[.int .i64 1, .int .i64 0, .int .i64 2] := by have := Boxs.new W2 3 #[.int .i64 1, .int .i64 0, .int .i64 2]; rw [h3, z2] at this; exact this
  have z3 : W3.heap.size = w.heap.size + 1 + 1 + 1 + 1 := by rw [← h3, World.size_alloc, z2]
  have l3 : Below W2.heap.size W2 W3 := by rw [← h3]; exact alloc_below _ _
  obtain ⟨W4, h4⟩ : ∃ W, W3.alloc (.cells #[.slice (some ⟨w.heap.size + 1, 0, none⟩) 3 3, .slice (some ⟨w.heap.size + 1 + 1, 0, none⟩) 3 3, .slice (some ⟨w.heap.size + 1 + 1 + 1, 0, none⟩) 3 3] 22) = W := ⟨_, rfl⟩
  have b4 : Boxs W4 (w.heap.size + 1 + 1 + 1 + 1) 22 #[.slice (some ⟨w.heap.size + 1, 0, none⟩) 3 3, .slice (some ⟨w.heap.size + 1 + 1, 0, none⟩) 3 3, .slice (some ⟨w.heap.size + 1 + 1 + 1, 0, none⟩) 3 3] := by have := Boxs.new W3 22 #[.slice (some ⟨w.heap.size + 1, 0, none⟩) 3 3, .slice (some ⟨w.heap.size + 1 + 1, 0, none⟩) 3 3, .slice (some ⟨w.heap.size + 1 + 1 + 1, 0, none⟩) 3 3]; rw [h4, z3] at this; exact this
  have z4 : W4.heap.size = w.heap.size + 1 + 1 + 1 + 1 + 1 := by rw [← h4, World.size_alloc, z3]
  have l4 : Below W3.heap.size W3 W4 := by rw [← h4]; exact alloc_below _ _
  obtain ⟨W5, h5⟩ : ∃ W, W4.alloc (.cells #[.int .i64 2, .int .i64 2, .int .i64 3] 3) = W := ⟨_, rfl⟩
  have b5 : Boxs W5 (w.heap.size + 1 + 1 + 1 + 1 + 1) 3 #[.int .i64 2, .int .i64 2, .int .i64 3] := by have := Boxs.new W4 3 #[.int .i64 2, .int .i64 2, .int .i64 3]; rw [h5, z4] at this; exact this
  have z5 : W5.heap.size = w.heap.size + 1 + 1 + 1 + 1 + 1 + 1 := by rw [← h5, World.size_alloc, z4]
  have l5 : Below W4.heap.size W4 W5 := by rw [← h5]; exact alloc_below _ _
  obtain ⟨W6, h6⟩ : ∃ W, W5.alloc (.cells #[.int .i64 0, .int .i64 1, .int .i64 2] 3) = W := ⟨_, rfl⟩
  have b6 : Boxs W6 (w.heap.size + 1 + 1 + 1 + 1 + 1 + 1) 3 #[.int .i64 0, .int .i64 1, .int .i64 2] := by have := Boxs.new W5 3 #[.int .i64 0, .int .i64 1, .int .i64 2]; rw [h6, z5] at this; exact this
  have z6 : W6.heap.size = w.heap.size + 1 + 1 + 1 + 1 + 1 + 1 + 1 := by rw [← h6, World.size_alloc, z5]
  have l6 : Below W5.heap.size W5 W6 := by rw [← h6]; exact alloc_below _ _
  have l0 : Below w.heap.size w W0 := by rw [← h0]; exact alloc_below _ _
  have b1 := Boxs.below b1 l2
  have b1 := Boxs.below b1 l3
  have b1 := Boxs.below b1 l4
  have b1 := Boxs.below b1 l5
  have b1 := Boxs.below b1 l6
  have b2 := Boxs.below b2 l3
  have b2 := Boxs.below b2 l4
  have b2 := Boxs.below b2 l5
  have b2 := Boxs.below b2 l6
  have b3 := Boxs.below b3 l4
  have b3 := Boxs.below b3 l5
  have b3 := Boxs.below b3 l6
  have b4 := Boxs.below b4 l5
  have b4 := Boxs.below b4 l6
  have b5 := Boxs.below b5 l6
  have lb := l0
  have lb := lb.trans (l1.mono lb.size)
  have lb := lb.trans (l2.mono lb.size)
  have lb := lb.trans (l3.mono lb.size)
  have lb := lb.trans (l4.mono lb.size)
  have lb := lb.trans (l5.mono lb.size)
  have lb := lb.trans (l6.mono lb.size)
  have hb0 : Boxs W0 w.heap.size 33 #[.slice (some ⟨w.heap.size + 1 + 1 + 1 + 1, 0, none⟩) 3 3, .slice (some ⟨w.heap.size + 1 + 1 + 1 + 1 + 1, 0, none⟩) 3 3, .slice (some ⟨w.heap.size + 1 + 1 + 1 + 1 + 1 + 1, 0, none⟩) 3 3] := by rw [← h0]; exact Boxs.new w 33 _
  have hb0 := Boxs.below hb0 l1
  have hb0 := Boxs.below hb0 l2
  have hb0 := Boxs.below hb0 l3
  have hb0 := Boxs.below hb0 l4
  have hb0 := Boxs.below hb0 l5
  have hb0 := Boxs.below hb0 l6
  have hB := hb0
  have e0 := hB.cell 0; have e1 := hB.cell 1; have e2 := hB.cell 2
  simp only [List.getElem?_toArray, List.getElem?_cons_zero, List.getElem?_cons_succ] at e0 e1 e2
  have HOT : OwnT w.heap.size (W6) (sl3 (w.heap.size + 1 + 1 + 1 + 1)) (sl3 (w.heap.size + 1 + 1 + 1 + 1 + 1)) (sl3 (w.heap.size + 1 + 1 + 1 + 1 + 1 + 1)) [sl3 (w.heap.size + 1), sl3 (w.heap.size + 1 + 1), sl3 (w.heap.size + 1 + 1 + 1)] T3 := by
    refine ⟨owns_box3 b4 (by omega) rfl rfl, ?_⟩
    refine OwnRs.boxes (gs := [w.heap.size + 1 + 1 + 1 + 1 + 1, w.heap.size + 1 + 1 + 1 + 1 + 1 + 1, w.heap.size + 1, w.heap.size + 1 + 1, w.heap.size + 1 + 1 + 1]) rfl ?_ ?_
    · simp only [List.pairwise_cons, List.mem_cons, List.not_mem_nil, or_false, forall_eq_or_imp, forall_eq, List.Pairwise.nil, and_true, false_implies, implies_true]
      omega
    · intro k g r hg hr
      match k, hg, hr with
      | 0, hg, hr => cases hg; cases hr; exact ⟨b5, by omega, rfl⟩
      | 1, hg, hr => cases hg; cases hr; exact ⟨b6, by omega, rfl⟩
      | 2, hg, hr => cases hg; cases hr; exact ⟨b1, by omega, rfl⟩
      | 3, hg, hr => cases hg; cases hr; exact ⟨b2, by omega, rfl⟩
      | 4, hg, hr => cases hg; cases hr; exact ⟨b3, by omega, rfl⟩
  have HOT := Lib.hid HOT; have LB := Lib.hid lb; have E0 := Lib.hid e0; have E1 := Lib.hid e1; have E2 := Lib.hid e2
  have HH := Lib.hid h0
  clear e0 e1 e2 hB hb0 lb b1 b2 b3 b4 b5 b6 l0 l1 l2 l3 l4 l5 l6
  rw [← h6, ← h5, ← h4, ← h3, ← h2, ← h1, ← h0] at HOT LB E0 E1 E2
  clear z0 z1 z2 z3 z4 z5 z6 h6 h5 h4 h3 h2 h1 h0 HH
  go_enter Try.func51, Try.ntmps51
  go_wp2_with fail
  refine bodyPost_ret (v := .agg #[sl3 (w.heap.size + 1 + 1 + 1 + 1), sl3 (w.heap.size + 1 + 1 + 1 + 1 + 1), sl3 (w.heap.size + 1 + 1 + 1 + 1 + 1 + 1)]) ?_ rfl ⟨⟨_, _, _, _, _, _, rfl, HOT.out⟩, LB.out⟩
  simp only [results, Try.results51]
  simp [go_sem, E0.out, E1.out, E2.out]; exact ⟨rfl, rfl, rfl⟩
end Go.Proofs.Ytmkkegigajmhkaa

namespace Go.Proofs.Ytmkkegigajmhkaa
open Go.RowKit Go.Maps

theorem run_equalIn_arr2 {P : Program} (w : World) (d : Nat) (t e : TypeId) (k : IntKind) (a b c f : Int) (i : TypeInfo) (ht : P.underlying t = some (.array 2 e)) (he : P.underlying e = some (.int k)) (hi : P.info? e = some i) (hs : i.size = 1) :
    (Op.equalIn (d + 2) t (.agg #[.int k a, .int k b]) (.agg #[.int k c, .int k f])).run P w = .ok (a == c && b == f) w := by
  have h1 : (Op.equalIn (d + 1) e (.int k a) (.int k c)).run P w = .ok (a == c) w := run_equalIn_int w d e k k a c he
  have h2 : (Op.equalIn (d + 1) e (.int k b) (.int k f)).run P w = .ok (b == f) w := run_equalIn_int w d e k k b f he
  rw [Op.equalIn]
  have hA : ∀ w : World, Sem.run P (isAgg e) w = .ok false w := fun w => by simp [isAgg, run_underlying he]
  simp [run_underlying ht, sizeOf, typeInfo, hi, hs, part, h1, h2, hA, List.range', List.forIn_cons]
  by_cases ha : a = c <;> by_cases hb : b = f <;> simp [ha, hb]
theorem Try.underlying30 : Try.prog.underlying 30 = some (.array 2 3) := by kernel_rfl
/-- equality of pairs, hidden from the walk -/
def eqP (x y : Int × Int) : Bool := decide (x = y)
theorem eqP_self (x : Int × Int) : eqP x x = true := by simp [eqP]
theorem eqP_ne {x y : Int × Int} (h : x ≠ y) : eqP x y = false := by simp [eqP, h]
set_option maxRecDepth 100000 in
@[go_sem high] theorem Try.eqIn30 (w : World) (d : Nat) (a b c f : Int) : (Op.equalIn (d + 2) 30 (.agg #[.int .i64 a, .int .i64 b]) (.agg #[.int .i64 c, .int .i64 f])).run Try.prog w = .ok (eqP (a, b) (c, f)) w := by
  obtain ⟨i0, hi, hz0, hz1, hz2⟩ := info_parts Try.info3
  rw [run_equalIn_arr2 w d 30 3 .i64 a b c f i0 Try.underlying30 Try.underlying3 hi hz1]
  congr 1
  rw [Bool.eq_iff_iff]; simp [eqP]
set_option maxRecDepth 100000 in
set_option maxHeartbeats 4000000 in
theorem lives_any (w : World) : Calls Try.prog 21 #[] w fun e w' => e = .returned (.bool true) ∧ Below w.heap.size w w' := by
  have TH := three_any w
  unfold ThreeOut sl3 at TH
  go_enter Try.func21, Try.ntmps21
  go_wp2_with fail
  refine TH.mono ?_
  rintro e w1 ⟨⟨g1, g2, g3, ga, gc, gk, rfl, hT⟩, hb1⟩
  have BX0 := Boxs.new w1 33 #[.slice (some ⟨ga, 0, none⟩) 3 3, .slice (some ⟨gc, 0, none⟩) 3 3, .slice (some ⟨gk, 0, none⟩) 3 3]
  obtain ⟨B, hB⟩ : ∃ b, w1.heap.size = b := ⟨_, rfl⟩
  have HT := Lib.hid (hT.below (alloc_below w1 (.cells #[.slice (some ⟨ga, 0, none⟩) 3 3, .slice (some ⟨gc, 0, none⟩) 3 3, .slice (some ⟨gk, 0, none⟩) 3 3] 33)))
  have HB := Lib.hid (hb1.alloc hb1.size (.cells #[.slice (some ⟨ga, 0, none⟩) 3 3, .slice (some ⟨gc, 0, none⟩) 3 3, .slice (some ⟨gk, 0, none⟩) 3 3] 33))
  rw [hB] at BX0
  have BX := Lib.hid BX0
  have hn : w.heap.size ≤ B := by have := hb1.size; omega
  clear hT hb1 TH BX0
  have hg2 := ((HT.out.rs.inn 3 _ _ rfl rfl).lt g2 rfl).2
  have hgk := ((HT.out.rs.inn 1 _ _ rfl rfl).lt gk rfl).2
  have c0 := BX.out.cell 0; have c1 := BX.out.cell 1; have c2 := BX.out.cell 2
  have fB := BX.out.frozen 0; have hltB := BX.out.lt
  simp only [List.getElem?_toArray, List.getElem?_cons_zero, List.getElem?_cons_succ] at c0 c1 c2
  go_wp2_with fail
  generalize w1.alloc (.cells #[.slice (some ⟨ga, 0, none⟩) 3 3, .slice (some ⟨gc, 0, none⟩) 3 3, .slice (some ⟨gk, 0, none⟩) 3 3] 33) = w2 at *
  obtain ⟨n2, hn2⟩ : ∃ n, w2.heap.size = n := ⟨_, rfl⟩
  have hn2' : n2 ≤ w2.heap.size := Nat.le_of_eq hn2.symm
  rw [hn2] at hg2 hgk
  have hnn : w.heap.size ≤ n2 := by have := HB.out.size; omega
  clear hB hn2
  have XX := bestP_any _ _ _ T3 w2 HT.out.tb
  unfold SolveOut at XX
  rw [bestTr3, best3.1, best3.2] at XX
  with_reducible refine XX.mono ?_
  rintro e w3 ⟨⟨x, rfl, hx⟩, hb⟩
  obtain ⟨qx, rfl⟩ := hx.form
  have Hx := Lib.hid (hx.le hn2')
  clear hx
  have HT := Lib.hid (HT.out.below hb)
  have BX := Lib.hid (Boxs.below BX.out hb)
  have hsz := HB.out.size
  have HB := Lib.hid (HB.out.trans (hb.mono hsz))
  have hn2' : n2 ≤ w3.heap.size := Nat.le_trans hn2' hb.size
  clear hb c0 c1 c2 fB hltB hsz XX
  have c0 := BX.out.cell 0; have c1 := BX.out.cell 1; have c2 := BX.out.cell 2
  have fB := BX.out.frozen 0; have hltB := BX.out.lt
  simp only [List.getElem?_toArray, List.getElem?_cons_zero, List.getElem?_cons_succ] at c0 c1 c2
  have XX := greedyP_any _ _ _ T3 w3 HT.out.tb
  unfold SolveOut at XX
  go_wp2_with fail
  with_reducible refine XX.mono ?_
  rintro e w4 ⟨⟨cc, xx, ⟨g, rfl, hg⟩, hgr⟩, hb⟩
  obtain ⟨rfl, rfl⟩ := hgr.uniq gr3
  rw [greTr3] at hg
  clear hgr
  obtain ⟨qg, rfl⟩ := hg.form
  have Hg := Lib.hid (hg.le hn2')
  clear hg
  have HT := Lib.hid (HT.out.below hb)
  have BX := Lib.hid (Boxs.below BX.out hb)
  have hsz := HB.out.size
  have HB := Lib.hid (HB.out.trans (hb.mono hsz))
  have hn2' : n2 ≤ w4.heap.size := Nat.le_trans hn2' hb.size
  have Hx := Lib.hid (Hx.out.under hb)
  clear hb c0 c1 c2 fB hltB hsz XX
  have c0 := BX.out.cell 0; have c1 := BX.out.cell 1; have c2 := BX.out.cell 2
  have fB := BX.out.frozen 0; have hltB := BX.out.lt
  simp only [List.getElem?_toArray, List.getElem?_cons_zero, List.getElem?_cons_succ] at c0 c1 c2
  have hrow := HT.out.rs.inn 1 (.slice (some ⟨gk, 0, none⟩) 3 3) _ rfl rfl
  have hcy := hrow.cellAt 1 (by decide)
  have hfy := hrow.frozenAt 1
  have hly := (hrow.lt gk rfl).2
  have hnb := (hrow.lt gk rfl).1
  change w4.cell? ⟨gk, 1, none⟩ = some (.int .i64 _) at hcy
  have hBg : B ≠ gk := fun e => BX.out.not_own hrow (by decide) (by rw [e]; rfl)
  have XX := hrow
  go_wp2_with fail
  have hbs : Below w.heap.size w (w4.setCell ⟨gk, 1, none⟩ (.int .i64 0)) := HB.out.setCell (p := ⟨gk, 1, none⟩) hnb _
  have HTn := HT.out.rs.put (k := 1) (j := 1) rfl rfl 0
  have HTo := ownsRow_setCell_other (a := ⟨gk, 1, none⟩) HT.out.out (fun e => owns_type HT.out.out hrow (by decide) e rfl) (.int .i64 0)
  have HT := Lib.hid (show OwnT w.heap.size _ (.slice (some ⟨ga, 0, none⟩) 3 3) (.slice (some ⟨gc, 0, none⟩) 3 3) (.slice (some ⟨gk, 0, none⟩) 3 3) [.slice (some ⟨g1, 0, none⟩) 3 3, .slice (some ⟨g2, 0, none⟩) 3 3, .slice (some ⟨g3, 0, none⟩) 3 3] T3a from ⟨HTo, HTn⟩)
  have BX := Lib.hid (Boxs.setOther BX.out hBg (.int .i64 0) (o := 1))
  have HB := Lib.hid hbs
  have Hx := Lib.hid (Hx.out.block (W' := w4.setCell ⟨gk, 1, none⟩ (.int .i64 0)) fun i hi hF => Below.heap_setCell _ _ _ _ (by have hF2 : n2 ≤ i := hF; show i ≠ gk; omega))
  have Hg := Lib.hid (Hg.out.block (W' := w4.setCell ⟨gk, 1, none⟩ (.int .i64 0)) fun i hi hF => Below.heap_setCell _ _ _ _ (by have hF2 : n2 ≤ i := hF; show i ≠ gk; omega))
  have hn2' : n2 ≤ (w4.setCell ⟨gk, 1, none⟩ (.int .i64 0)).heap.size := by simpa using hn2'
  clear hrow hcy hfy hly hnb hBg XX hbs HTn HTo c0 c1 c2 fB hltB
  generalize w4.setCell ⟨gk, 1, none⟩ (.int .i64 0) = w5 at *
  have c0 := BX.out.cell 0; have c1 := BX.out.cell 1; have c2 := BX.out.cell 2
  have fB := BX.out.frozen 0; have hltB := BX.out.lt
  simp only [List.getElem?_toArray, List.getElem?_cons_zero, List.getElem?_cons_succ] at c0 c1 c2
  have XX := bestP_any _ _ _ T3a w5 HT.out.tb
  unfold SolveOut at XX
  rw [bestTr3a, best3a.1, best3a.2] at XX
  go_wp2_with fail
  with_reducible refine XX.mono ?_
  rintro e w6 ⟨⟨y, rfl, hy⟩, hb⟩
  obtain ⟨qy, rfl⟩ := hy.form
  have Hy := Lib.hid (hy.le hn2')
  clear hy
  have HT := Lib.hid (HT.out.below hb)
  have BX := Lib.hid (Boxs.below BX.out hb)
  have hsz := HB.out.size
  have HB := Lib.hid (HB.out.trans (hb.mono hsz))
  have hn2' : n2 ≤ w6.heap.size := Nat.le_trans hn2' hb.size
  have Hx := Lib.hid (Hx.out.under hb)
  have Hg := Lib.hid (Hg.out.under hb)
  clear hb c0 c1 c2 fB hltB hsz XX
  have c0 := BX.out.cell 0; have c1 := BX.out.cell 1; have c2 := BX.out.cell 2
  have fB := BX.out.frozen 0; have hltB := BX.out.lt
  simp only [List.getElem?_toArray, List.getElem?_cons_zero, List.getElem?_cons_succ] at c0 c1 c2
  have hr1 := HT.out.rs.inn 1 (.slice (some ⟨gk, 0, none⟩) 3 3) _ rfl rfl
  have hr3 := HT.out.rs.inn 3 (.slice (some ⟨g2, 0, none⟩) 3 3) _ rfl rfl
  have hcy := hr1.cellAt 1 (by decide)
  have hfy := hr1.frozenAt 1
  have hly := (hr1.lt gk rfl).2
  have hnb := (hr1.lt gk rfl).1
  have hcz := hr3.cellAt 1 (by decide)
  have hfz := hr3.frozenAt 1
  have hlz := (hr3.lt g2 rfl).2
  have hnz := (hr3.lt g2 rfl).1
  change w6.cell? ⟨gk, 1, none⟩ = some (.int .i64 _) at hcy
  change w6.cell? ⟨g2, 1, none⟩ = some (.int .i64 _) at hcz
  have hro := HT.out.out.cellAt 1 (by decide)
  change w6.cell? ⟨ga, 1, none⟩ = some (Value.slice (some ⟨g2, 0, none⟩) 3 3) at hro
  have hla := (HT.out.out.lt ga rfl).2
  have hBk : B ≠ gk := fun e => BX.out.not_own hr1 (by decide) (by rw [e]; rfl)
  have hB2 : B ≠ g2 := fun e => BX.out.not_own hr3 (by decide) (by rw [e]; rfl)
  have hk2 : gk ≠ g2 := fun e => absurd (HT.out.rs.dis 1 3 _ _ gk rfl rfl rfl (by rw [e]; rfl)) (by decide)
  have hka : gk ≠ ga := fun e => owns_type hr1 HT.out.out (by decide) rfl (by rw [e]; rfl)
  have XX := hr1
  go_wp2_with fail
  have hbs : Below w.heap.size w ((w6.setCell ⟨gk, 1, none⟩ (.int .i64 1)).setCell ⟨g2, 1, none⟩ (.int .i64 0)) := (HB.out.setCell (p := ⟨gk, 1, none⟩) hnb _).setCell (p := ⟨g2, 1, none⟩) hnz _
  have HTn := HT.out.rs.put (k := 1) (j := 1) rfl rfl 1
  have HTo := ownsRow_setCell_other (a := ⟨gk, 1, none⟩) HT.out.out (fun e => owns_type HT.out.out hr1 (by decide) e rfl) (.int .i64 1)
  have HTn2 := HTn.put (k := 3) (j := 1) rfl rfl 0
  have HTo2 := ownsRow_setCell_other (a := ⟨g2, 1, none⟩) HTo (fun e => owns_type HTo (HTn.inn 3 _ _ rfl rfl) (by decide) e rfl) (.int .i64 0)
  have HT := Lib.hid (show OwnT w.heap.size _ (.slice (some ⟨ga, 0, none⟩) 3 3) (.slice (some ⟨gc, 0, none⟩) 3 3) (.slice (some ⟨gk, 0, none⟩) 3 3) [.slice (some ⟨g1, 0, none⟩) 3 3, .slice (some ⟨g2, 0, none⟩) 3 3, .slice (some ⟨g3, 0, none⟩) 3 3] T3b from ⟨HTo2, HTn2⟩)
  have BX := Lib.hid (Boxs.setOther (Boxs.setOther BX.out hBk (.int .i64 1) (o := 1)) hB2 (.int .i64 0) (o := 1))
  have HB := Lib.hid hbs
  have Hx := Lib.hid ((Hx.out.block (W' := w6.setCell ⟨gk, 1, none⟩ (.int .i64 1)) fun i hi hF => Below.heap_setCell _ _ _ _ (by have hF2 : n2 ≤ i := hF; show i ≠ gk; omega)).block (W' := (w6.setCell ⟨gk, 1, none⟩ (.int .i64 1)).setCell ⟨g2, 1, none⟩ (.int .i64 0)) fun i hi hF => Below.heap_setCell _ _ _ _ (by have hF2 : n2 ≤ i := hF; show i ≠ g2; omega))
  have Hg := Lib.hid ((Hg.out.block (W' := w6.setCell ⟨gk, 1, none⟩ (.int .i64 1)) fun i hi hF => Below.heap_setCell _ _ _ _ (by have hF2 : n2 ≤ i := hF; show i ≠ gk; omega)).block (W' := (w6.setCell ⟨gk, 1, none⟩ (.int .i64 1)).setCell ⟨g2, 1, none⟩ (.int .i64 0)) fun i hi hF => Below.heap_setCell _ _ _ _ (by have hF2 : n2 ≤ i := hF; show i ≠ g2; omega))
  have Hy := Lib.hid ((Hy.out.block (W' := w6.setCell ⟨gk, 1, none⟩ (.int .i64 1)) fun i hi hF => Below.heap_setCell _ _ _ _ (by have hF2 : n2 ≤ i := hF; show i ≠ gk; omega)).block (W' := (w6.setCell ⟨gk, 1, none⟩ (.int .i64 1)).setCell ⟨g2, 1, none⟩ (.int .i64 0)) fun i hi hF => Below.heap_setCell _ _ _ _ (by have hF2 : n2 ≤ i := hF; show i ≠ g2; omega))
  have hn2' : n2 ≤ ((w6.setCell ⟨gk, 1, none⟩ (.int .i64 1)).setCell ⟨g2, 1, none⟩ (.int .i64 0)).heap.size := by simpa using hn2'
  clear hr1 hr3 hcy hfy hly hnb hcz hfz hlz hnz hro hla hBk hB2 hk2 hka XX hbs HTn HTo HTn2 HTo2 c0 c1 c2 fB hltB
  generalize (w6.setCell ⟨gk, 1, none⟩ (.int .i64 1)).setCell ⟨g2, 1, none⟩ (.int .i64 0) = w8 at *
  have c0 := BX.out.cell 0; have c1 := BX.out.cell 1; have c2 := BX.out.cell 2
  have fB := BX.out.frozen 0; have hltB := BX.out.lt
  simp only [List.getElem?_toArray, List.getElem?_cons_zero, List.getElem?_cons_succ] at c0 c1 c2
  have XX := bestP_any _ _ _ T3b w8 HT.out.tb
  unfold SolveOut at XX
  rw [bestTr3b, best3b, (show bestC T3b = 0 by decide +kernel)] at XX
  go_wp2_with fail
  with_reducible refine XX.mono ?_
  rintro e w9 ⟨⟨z, rfl, hz⟩, hb⟩
  obtain rfl := hz.isNil
  clear hz
  have HT := Lib.hid (HT.out.below hb)
  have BX := Lib.hid (Boxs.below BX.out hb)
  have hsz := HB.out.size
  have HB := Lib.hid (HB.out.trans (hb.mono hsz))
  have hn2' : n2 ≤ w9.heap.size := Nat.le_trans hn2' hb.size
  have Hx := Lib.hid (Hx.out.under hb)
  have Hg := Lib.hid (Hg.out.under hb)
  have Hy := Lib.hid (Hy.out.under hb)
  clear hb c0 c1 c2 fB hltB hsz XX
  have c0 := BX.out.cell 0; have c1 := BX.out.cell 1; have c2 := BX.out.cell 2
  have fB := BX.out.frozen 0; have hltB := BX.out.lt
  simp only [List.getElem?_toArray, List.getElem?_cons_zero, List.getElem?_cons_succ] at c0 c1 c2
  have XX := twins_any _ _ _ T3b w9 HT.out.tb
  unfold TwOut at XX
  go_wp2_with fail
  with_reducible refine XX.mono ?_
  rintro e w10 ⟨⟨u1, u2, u3, rfl, htw⟩, hb⟩
  obtain ⟨rfl, rfl, rfl⟩ := htw.uniq tw3b
  clear htw
  have HT := Lib.hid (HT.out.below hb)
  have BX := Lib.hid (Boxs.below BX.out hb)
  have hsz := HB.out.size
  have HB := Lib.hid (HB.out.trans (hb.mono hsz))
  have hn2' : n2 ≤ w10.heap.size := Nat.le_trans hn2' hb.size
  have Hx := Lib.hid (Hx.out.under hb)
  have Hg := Lib.hid (Hg.out.under hb)
  have Hy := Lib.hid (Hy.out.under hb)
  clear hb c0 c1 c2 fB hltB hsz XX
  have c0 := BX.out.cell 0; have c1 := BX.out.cell 1; have c2 := BX.out.cell 2
  have fB := BX.out.frozen 0; have hltB := BX.out.lt
  simp only [List.getElem?_toArray, List.getElem?_cons_zero, List.getElem?_cons_succ] at c0 c1 c2
  have hb00 := alloc_below w10 (.cells #[.int .i64 0, .int .i64 1] 30)
  have hb0 := hb00.trans ((alloc_below (w10.alloc (.cells #[.int .i64 0, .int .i64 1] 30)) (.cells #[.int .i64 0, .int .i64 1, .int .i64 9] 3)).mono hb00.size)
  have XX := follow_any (Hx.out.under hb0) sm3.1 (by rw [sm3.2]; omega) (.slice (some ⟨(w10.alloc (.cells #[.int .i64 0, .int .i64 1] 30)).heap.size, 0, none⟩) 3 3) [0, 1, 9] ((w10.alloc (.cells #[.int .i64 0, .int .i64 1] 30)).alloc (.cells #[.int .i64 0, .int .i64 1, .int .i64 9] 3)) (Below.refl _ _) (Rd_fresh (w10.alloc (.cells #[.int .i64 0, .int .i64 1] 30)) 3 #[.int .i64 0, .int .i64 1, .int .i64 9] 3 rfl (by omega))
  unfold FollowOut at XX
  rw [World.size_alloc] at XX
  have hep : eqP (0, 1) (0, 1) = true := eqP_self _
  go_wp2_with fail
  with_reducible refine XX.mono ?_
  rintro e w11 ⟨⟨c9, q9, x9, vq, rfl, hfo, hown⟩, hb9⟩
  obtain ⟨rfl, rfl, rfl⟩ := hfo.uniq follow3
  have hb := hb0.trans (hb9.mono hb0.size)
  obtain ⟨aq, cq, rfl⟩ := owns_form hown
  have HQ := Lib.hid (owns_ints hown)
  clear hb00 hb0 hb9 hown hfo hep
  have HT := Lib.hid (HT.out.below hb)
  have BX := Lib.hid (Boxs.below BX.out hb)
  have hsz := HB.out.size
  have HB := Lib.hid (HB.out.trans (hb.mono hsz))
  have hn2' : n2 ≤ w11.heap.size := Nat.le_trans hn2' hb.size
  have Hx := Lib.hid (Hx.out.under hb)
  have Hg := Lib.hid (Hg.out.under hb)
  have Hy := Lib.hid (Hy.out.under hb)
  clear hb c0 c1 c2 fB hltB hsz XX
  have c0 := BX.out.cell 0; have c1 := BX.out.cell 1; have c2 := BX.out.cell 2
  have fB := BX.out.frozen 0; have hltB := BX.out.lt
  simp only [List.getElem?_toArray, List.getElem?_cons_zero, List.getElem?_cons_succ] at c0 c1 c2
  have XX := encode_any Hy.out (t := tr3a) (by decide +kernel) w11 (Below.refl _ _)
  unfold OwnI at XX
  go_wp2_with fail
  with_reducible refine XX.mono ?_
  rintro e w12 ⟨⟨vy, rfl, hown⟩, hb⟩
  obtain ⟨ay, cy, rfl⟩ := owns_form hown
  have HEy := Lib.hid (owns_ints hown)
  have HQ := Lib.hid (RdI.below HQ.out hb)
  clear hown
  have HT := Lib.hid (HT.out.below hb)
  have BX := Lib.hid (Boxs.below BX.out hb)
  have hsz := HB.out.size
  have HB := Lib.hid (HB.out.trans (hb.mono hsz))
  have hn2' : n2 ≤ w12.heap.size := Nat.le_trans hn2' hb.size
  have Hx := Lib.hid (Hx.out.under hb)
  have Hg := Lib.hid (Hg.out.under hb)
  have Hy := Lib.hid (Hy.out.under hb)
  clear hb c0 c1 c2 fB hltB hsz XX
  have c0 := BX.out.cell 0; have c1 := BX.out.cell 1; have c2 := BX.out.cell 2
  have fB := BX.out.frozen 0; have hltB := BX.out.lt
  simp only [List.getElem?_toArray, List.getElem?_cons_zero, List.getElem?_cons_succ] at c0 c1 c2
  have hb0 := alloc_below w12 (.cells #[.int .i64 0, .int .i64 2, .int .i64 0, .int .i64 1, .int .i64 (-1), .int .i64 0, .int .i64 (-1), .int .i64 2] 3)
  have XX := sameInts_any (.slice ay (encT tr3a).length cy) (.slice (some ⟨w12.heap.size, 0, none⟩) 8 8) (encT tr3a) ([0, 2, 0, 1, -1, 0, -1, 2]) (w12.alloc (.cells #[.int .i64 0, .int .i64 2, .int .i64 0, .int .i64 1, .int .i64 (-1), .int .i64 0, .int .i64 (-1), .int .i64 2] 3)) (HEy.out.below hb0) (Rd_fresh w12 3 #[.int .i64 0, .int .i64 2, .int .i64 0, .int .i64 1, .int .i64 (-1), .int .i64 0, .int .i64 (-1), .int .i64 2] 8 rfl (by omega))
  rw [show decide (encT tr3a = [0, 2, 0, 1, -1, 0, -1, 2]) = true by decide +kernel] at XX
  go_wp2_with fail
  with_reducible refine XX.mono ?_
  rintro e w13 ⟨rfl, hb9⟩
  have hb := hb0.trans (hb9.mono hb0.size)
  have HQ := Lib.hid (RdI.below HQ.out hb)
  clear hb9 hb0
  have HT := Lib.hid (HT.out.below hb)
  have BX := Lib.hid (Boxs.below BX.out hb)
  have hsz := HB.out.size
  have HB := Lib.hid (HB.out.trans (hb.mono hsz))
  have hn2' : n2 ≤ w13.heap.size := Nat.le_trans hn2' hb.size
  have Hx := Lib.hid (Hx.out.under hb)
  have Hg := Lib.hid (Hg.out.under hb)
  have Hy := Lib.hid (Hy.out.under hb)
  clear hb c0 c1 c2 fB hltB hsz XX
  have c0 := BX.out.cell 0; have c1 := BX.out.cell 1; have c2 := BX.out.cell 2
  have fB := BX.out.frozen 0; have hltB := BX.out.lt
  simp only [List.getElem?_toArray, List.getElem?_cons_zero, List.getElem?_cons_succ] at c0 c1 c2
  have XX := encode_any Hx.out (t := tr3) (by decide +kernel) w13 (Below.refl _ _)
  unfold OwnI at XX
  go_wp2_with fail
  with_reducible refine XX.mono ?_
  rintro e w14 ⟨⟨vx, rfl, hown⟩, hb⟩
  obtain ⟨ax, cx, rfl⟩ := owns_form hown
  have HEx := Lib.hid (owns_ints hown)
  have HQ := Lib.hid (RdI.below HQ.out hb)
  clear hown
  have HT := Lib.hid (HT.out.below hb)
  have BX := Lib.hid (Boxs.below BX.out hb)
  have hsz := HB.out.size
  have HB := Lib.hid (HB.out.trans (hb.mono hsz))
  have hn2' : n2 ≤ w14.heap.size := Nat.le_trans hn2' hb.size
  have Hx := Lib.hid (Hx.out.under hb)
  have Hg := Lib.hid (Hg.out.under hb)
  have Hy := Lib.hid (Hy.out.under hb)
  clear hb c0 c1 c2 fB hltB hsz XX
  have c0 := BX.out.cell 0; have c1 := BX.out.cell 1; have c2 := BX.out.cell 2
  have fB := BX.out.frozen 0; have hltB := BX.out.lt
  simp only [List.getElem?_toArray, List.getElem?_cons_zero, List.getElem?_cons_succ] at c0 c1 c2
  have XX := encode_any Hg.out (t := tr3) (by decide +kernel) w14 (Below.refl _ _)
  unfold OwnI at XX
  go_wp2_with fail
  with_reducible refine XX.mono ?_
  rintro e w15 ⟨⟨vg, rfl, hown⟩, hb⟩
  obtain ⟨ag, cg, rfl⟩ := owns_form hown
  have HEg := Lib.hid (owns_ints hown)
  have HQ := Lib.hid (RdI.below HQ.out hb)
  have HEx := Lib.hid (RdI.below HEx.out hb)
  clear hown
  have HT := Lib.hid (HT.out.below hb)
  have BX := Lib.hid (Boxs.below BX.out hb)
  have hsz := HB.out.size
  have HB := Lib.hid (HB.out.trans (hb.mono hsz))
  have hn2' : n2 ≤ w15.heap.size := Nat.le_trans hn2' hb.size
  have Hx := Lib.hid (Hx.out.under hb)
  have Hg := Lib.hid (Hg.out.under hb)
  have Hy := Lib.hid (Hy.out.under hb)
  clear hb c0 c1 c2 fB hltB hsz XX
  have c0 := BX.out.cell 0; have c1 := BX.out.cell 1; have c2 := BX.out.cell 2
  have fB := BX.out.frozen 0; have hltB := BX.out.lt
  simp only [List.getElem?_toArray, List.getElem?_cons_zero, List.getElem?_cons_succ] at c0 c1 c2
  have XX := sameInts_any (.slice ax (encT tr3).length cx) (.slice ag (encT tr3).length cg) (encT tr3) (encT tr3) w15 (HEx.out) (HEg.out)
  rw [show decide (encT tr3 = encT tr3) = true by decide +kernel] at XX
  go_wp2_with fail
  with_reducible refine XX.mono ?_
  rintro e w16 ⟨rfl, hb9⟩
  have hb := hb9
  have HQ := Lib.hid (RdI.below HQ.out hb)
  clear hb9
  have HT := Lib.hid (HT.out.below hb)
  have BX := Lib.hid (Boxs.below BX.out hb)
  have hsz := HB.out.size
  have HB := Lib.hid (HB.out.trans (hb.mono hsz))
  have hn2' : n2 ≤ w16.heap.size := Nat.le_trans hn2' hb.size
  have Hx := Lib.hid (Hx.out.under hb)
  have Hg := Lib.hid (Hg.out.under hb)
  have Hy := Lib.hid (Hy.out.under hb)
  clear hb c0 c1 c2 fB hltB hsz XX
  have c0 := BX.out.cell 0; have c1 := BX.out.cell 1; have c2 := BX.out.cell 2
  have fB := BX.out.frozen 0; have hltB := BX.out.lt
  simp only [List.getElem?_toArray, List.getElem?_cons_zero, List.getElem?_cons_succ] at c0 c1 c2
  have hb0 := alloc_below w16 (.cells #[.int .i64 0, .int .i64 1] 3)
  have XX := sameInts_any (.slice aq 2 cq) (.slice (some ⟨w16.heap.size, 0, none⟩) 2 2) (([0, 1] : List Int)) ([0, 1]) (w16.alloc (.cells #[.int .i64 0, .int .i64 1] 3)) (HQ.out.below hb0) (Rd_fresh w16 3 #[.int .i64 0, .int .i64 1] 2 rfl (by omega))
  rw [show decide (([0, 1] : List Int) = [0, 1]) = true by decide +kernel] at XX
  go_wp2_with fail
  with_reducible refine XX.mono ?_
  rintro e w17 ⟨rfl, hb9⟩
  have hb := hb0.trans (hb9.mono hb0.size)
  clear hb9 hb0
  have HT := Lib.hid (HT.out.below hb)
  have BX := Lib.hid (Boxs.below BX.out hb)
  have hsz := HB.out.size
  have HB := Lib.hid (HB.out.trans (hb.mono hsz))
  have hn2' : n2 ≤ w17.heap.size := Nat.le_trans hn2' hb.size
  have Hx := Lib.hid (Hx.out.under hb)
  have Hg := Lib.hid (Hg.out.under hb)
  have Hy := Lib.hid (Hy.out.under hb)
  clear hb c0 c1 c2 fB hltB hsz XX
  have c0 := BX.out.cell 0; have c1 := BX.out.cell 1; have c2 := BX.out.cell 2
  have fB := BX.out.frozen 0; have hltB := BX.out.lt
  simp only [List.getElem?_toArray, List.getElem?_cons_zero, List.getElem?_cons_succ] at c0 c1 c2
  have XX := groups_any _ _ _ T3b w17 HT.out.tb
  unfold GrpOut at XX
  go_wp2_with fail
  with_reducible refine XX.mono ?_
  rintro e w18 ⟨⟨vg, ug, rfl, hgr⟩, hb⟩
  obtain ⟨ag9, cg9, rfl⟩ := owns_form hgr.out
  have hg2l : (groups T3b).length = 2 := grp3b
  rw [hg2l]
  clear hgr hg2l
  have HT := Lib.hid (HT.out.below hb)
  have BX := Lib.hid (Boxs.below BX.out hb)
  have hsz := HB.out.size
  have HB := Lib.hid (HB.out.trans (hb.mono hsz))
  have hn2' : n2 ≤ w18.heap.size := Nat.le_trans hn2' hb.size
  have Hx := Lib.hid (Hx.out.under hb)
  have Hg := Lib.hid (Hg.out.under hb)
  have Hy := Lib.hid (Hy.out.under hb)
  clear hb c0 c1 c2 fB hltB hsz XX
  go_wp2_with fail
  go_ret
  exact ⟨rfl, HB.out⟩
end Go.Proofs.Ytmkkegigajmhkaa

