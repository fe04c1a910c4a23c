/- Bent. tables of lists and of styles. Arguments that came in, read as lists; what every row of the seat begins with. -/
import Derived.Test.YtecdkpcapalifaaDoorM12
import Derived.Test.YtecdkpcapalifaaDoorM09
import Derived.Test.YtecdkpcapalifaaDoorM07
import Derived.Test.YtecdkpcapalifaaDoorM13
import Derived.Test.YtecdkpcapalifaaDoorM08
import Derived.Test.YtecdkpcapalifaaDoorRows
import Derived.WalkKit
import Derived.ProofKit
import Derived.Deep.Slices
import Derived.SizedLaws
import Derived.OpenShut
import Derived.Shelf.Vars
import Derived.LaidMore
import Derived.Lay
set_option linter.unusedVariables false
namespace Go.Proofs.YtecdkpcapalifaaDoor
open Go.RowKit Go.Maps

theorem run_append_void {P : Program} (w : World) (t ty e : TypeId) (i : TypeInfo) (ht : P.underlying t = some (.slice e)) (hi : P.info? e = some i) (B : Nat) (a : Option Addr) (c : Nat) :
    (Builtin.append_ #[t, t] ty #[.slice (some ⟨B, 0, none⟩) 0 0, .slice a 0 c]).run P w = .ok (.slice (some ⟨B, 0, none⟩) 0 0) w := by
  cases a <;> simp [Builtin.append_, run_underlying ht, sizeOf, typeInfo, hi, Builtin.lenOf, Builtin.firstCells, loadCells, loadCellsFrom, storeCells]
theorem wpList_append_void {P : Program} {w : World} {ops : Array Oper} {rest : List Oper} {o : Oper} {a : Act} {Q : Exit → Act → World → Prop} (hgd : o.guard = none) (s x : Operand) (t : TypeId)
    (ho : o.op = .call { callee := .builtin .append, args := #[s, x], argTypes := #[t, t] })
    (e : TypeId) (i : TypeInfo) (ht : P.underlying t = some (.slice e)) (hi : P.info? e = some i) (B : Nat) (ad : Option Addr) (c : Nat) (hs : a.eval s = .slice (some ⟨B, 0, none⟩) 0 0) (hx : a.eval x = .slice ad 0 c)
    (h : wpList P ops Q rest (a.put o.dst (.slice (some ⟨B, 0, none⟩) 0 0)) w) :
    wpList P ops Q (o :: rest) a w := by
  refine wpList_plain hgd fun K hK => ?_
  unfold Oper.wp execOp
  simp only [ho, resolve, invoke, builtin, Sem.run_bind, Sem.run_pure, Result.andThen_ok, List.map_toArray, List.map_cons, List.map_nil, hs, hx, run_append_void w t o.type e i ht hi B ad c]
  exact hK _ _ h
theorem exec_append_at {P : Program} {w : World} {o : Oper} {a : Act} (s x : Operand) (t : TypeId)
    (ho : o.op = .call { callee := .builtin .append, args := #[s, x], argTypes := #[t, t] })
    (base : Nat) (e : TypeId) (i : TypeInfo) (z : Value) (size bytes : Nat) (ht : P.underlying t = some (.slice e)) (hi : P.info? e = some i) (hz : i.zero = some z)
    (hsize : i.size = size) (hby : i.bytes = bytes) (hzs : z.cells.size = size) (hsz : 0 < size)
    (v : Value) (n : Nat) (xs : List Value) (hs : a.eval s = v) (hown : w.ownsRow base e size v n xs)
    (ad : Addr) (m c : Nat) (news : List Value) (hx : a.eval x = .slice (some ad) m c) (hl : news.length = m * size) (hnews : ∀ j u, news[j]? = some u → w.cell? (ad.add j) = some u) (h1 : ∀ u ∈ news, u.oneCell' = true)
    (h63 : n + m ≤ maxLen) (hbytes : (n + m) * bytes ≤ 140737488355328) (hbase : base ≤ w.heap.size) :
    ∃ v' w', (execOp a.eval o).run P w = .ok (.value v') w' ∧ w'.ownsRow base e size v' (n + m) (xs ++ news) ∧ w.grownBy w' v.ownBlock := by
  obtain ⟨v', w', hr, h2, h3, _, _⟩ := run_append_own_at (P := P) w base t o.type e i z size bytes ht hi hz hsize hby hzs hsz v n xs hown ad m c news hl hnews h1 h63 hbytes hbase
  refine ⟨v', w', ?_, h2, h3⟩
  unfold execOp
  simp only [ho, resolve, invoke, builtin, Sem.run_bind, Sem.run_pure, Result.andThen_ok, List.map_toArray, List.map_cons, List.map_nil, hs, hx, hr]
theorem tmod_bd (n m : Int) (hm : 0 < m) : -m < n.tmod m ∧ n.tmod m < m := by
  rcases Int.le_total 0 n with h | h
  · rw [Int.tmod_eq_emod_of_nonneg h]
    have h1 := Int.emod_nonneg n (b := m) (by omega)
    have h2 := Int.emod_lt_of_pos n hm
    omega
  · have e : n.tmod m = -((-n).tmod m) := by rw [Int.neg_tmod]; omega
    rw [e, Int.tmod_eq_emod_of_nonneg (by omega)]
    have h1 := Int.emod_nonneg (-n) (b := m) (by omega)
    have h2 := Int.emod_lt_of_pos (-n) hm
    omega
theorem wpAnyHAppend {P : Program} {md : Region.Mode} {ops : Array Oper} {Q : Exit → Act → World → Prop} {S : World → Prop} {fuel : Nat} {listed : Array Bool} {a : Act} {w : World} (i : Nat) (d : Option Nat) {o : Oper} (hr : Region.ready md ops listed = [i]) (hoi : ops[i]? = some o) (hd : o.dst = d)
    (hw : Region.wanted o (yielded ops a.tmps) = true) (s x : Operand) (t : TypeId)
    (ho : o.op = .call { callee := .builtin .append, args := #[s, x], argTypes := #[t, t] })
    (base : Nat) (e : TypeId) (ti : TypeInfo) (z : Value) (size bytes : Nat) (ht : P.underlying t = some (.slice e)) (hi : P.info? e = some ti) (hz : ti.zero = some z)
    (hsize : ti.size = size) (hby : ti.bytes = bytes) (hzs : z.cells.size = size) (hsz : 0 < size)
    (v : Value) (n : Nat) (xs : List Value) (hs : a.eval s = v) (hown : w.ownsRow base e size v n xs)
    (ad : Addr) (m c : Nat) (news : List Value) (hx : a.eval x = .slice (some ad) m c) (hl : news.length = m * size) (hnews : ∀ j u, news[j]? = some u → w.cell? (ad.add j) = some u) (h1 : ∀ u ∈ news, u.oneCell' = true)
    (h63 : n + m ≤ maxLen) (hbytes : (n + m) * bytes ≤ 140737488355328) (hbase : base ≤ w.heap.size)
    (h : ∀ v' w', w'.ownsRow base e size v' (n + m) (xs ++ news) → w.grownBy w' v.ownBlock → S w' ∧ wpAnyH P md ops Q S fuel (listed.setIfInBounds i true) (a.put d v') w') : wpAnyH P md ops Q S (fuel + 1) listed a w := by
  obtain ⟨v', w', h2, h3, h4⟩ := exec_append_at (P := P) (w := w) (o := o) (a := a) s x t ho base e ti z size bytes ht hi hz hsize hby hzs hsz v n xs hs hown ad m c news hx hl hnews h1 h63 hbytes hbase
  exact wpAnyHOne i d hr hoi hd hw h2 (h v' w' h3 h4).1 (h v' w' h3 h4).2
def BdL (M : Int) (l : List Sp) : Prop := ∀ x ∈ l, -M ≤ x.1 ∧ x.1 ≤ M ∧ -M ≤ x.2 ∧ x.2 ≤ M
theorem prs_set0 (A : List Sp) (x y b : Int) (B : List Sp) : (prs (A ++ (x, y) :: B)).set (A.length * 2) (.int .i64 b) = prs (A ++ (b, y) :: B) := by
  rw [prs_app, prs_app, List.set_append_right _ _ (by rw [prs_len]; omega)]
  congr 1
  rw [prs_len, Nat.sub_self]
  rfl
theorem prs_set1 (A : List Sp) (x y b : Int) (B : List Sp) : (prs (A ++ (x, y) :: B)).set (A.length * 2 + 1) (.int .i64 b) = prs (A ++ (x, b) :: B) := by
  rw [prs_app, prs_app, List.set_append_right _ _ (by rw [prs_len]; omega)]
  congr 1
  rw [prs_len, show A.length * 2 + 1 - A.length * 2 = 1 by omega]
  rfl
theorem split_at {l : List Sp} {k : Nat} (h : k < l.length) : ∃ A f t B, l = A ++ (f, t) :: B ∧ A.length = k := by
  refine ⟨l.take k, (l[k]).1, (l[k]).2, l.drop (k + 1), ?_, by rw [List.length_take]; omega⟩
  show l = l.take k ++ l[k] :: l.drop (k + 1)
  rw [List.getElem_cons_drop, List.take_append_drop]
theorem owns_part {w : World} {base : Nat} {g cap n : Nat} {A B : List Sp} (h : w.ownsRow base 68 2 (.slice (some ⟨g, 0, none⟩) n cap) n (prs (A ++ B))) : w.ownsRow base 68 2 (.slice (some ⟨g, 0, none⟩) A.length cap) A.length (prs A) := by
  have h0 := h.1
  rw [prs_len, List.length_append] at h0
  rcases h.2 with ⟨he, _⟩ | ⟨g', cap', cur, he, hb, hg, hn, hc, hs, ht⟩
  · cases he
  · obtain ⟨rfl, rfl⟩ : g = g' ∧ cap = cap' := by simpa using he
    refine ⟨prs_len A, .inr ⟨g, cap, cur, rfl, hb, hg, by omega, hc, hs, ?_⟩⟩
    have := congrArg (List.take (A.length * 2)) ht
    rw [List.take_take, prs_app, show min (A.length * 2) (n * 2) = A.length * 2 by omega, ← prs_len A, List.take_left] at this
    rw [← prs_len A]; exact this
theorem BdL.mono {M N : Int} {l : List Sp} (h : BdL M l) (hMN : M ≤ N) : BdL N l := fun x hx => by have := h x hx; omega
theorem BdL_app {M : Int} {A B : List Sp} : BdL M (A ++ B) ↔ BdL M A ∧ BdL M B := by
  unfold BdL
  constructor
  · exact fun h => ⟨fun x hx => h x (List.mem_append_left _ hx), fun x hx => h x (List.mem_append_right _ hx)⟩
  · rintro ⟨h1, h2⟩ x hx
    rcases List.mem_append.1 hx with h | h
    · exact h1 x h
    · exact h2 x h
theorem BdL_cons {M : Int} {x y : Int} {B : List Sp} : BdL M ((x, y) :: B) ↔ (-M ≤ x ∧ x ≤ M ∧ -M ≤ y ∧ y ≤ M) ∧ BdL M B := by
  unfold BdL
  constructor
  · exact fun h => ⟨h (x, y) (List.mem_cons_self ..), fun z hz => h z (List.mem_cons_of_mem _ hz)⟩
  · rintro ⟨h1, h2⟩ z hz
    rcases List.mem_cons.1 hz with h | h
    · rw [h]; exact h1
    · exact h2 z h
theorem BdL_nil {M : Int} : BdL M [] := fun x hx => by cases hx
def BentOut (M : Int) (n : Nat) (w : World) (e : Ending) (w' : World) : Prop :=
  ∃ v, e = .returned v ∧ ∃ L, w'.ownsRow w.heap.size 68 2 v L.length (prs L) ∧ BdL (M + 1) L ∧ L.length ≤ n + 1 ∧ Below w.heap.size w w'

set_option maxRecDepth 100000 in
set_option maxHeartbeats 4000000 in
theorem bent_nil (v : Value) (l : List Sp) (how n M : Int) (w : World) (h : RdP w v l) (hl : l.length ≤ 1000) (hM : 1000 ≤ M) (hM9 : M ≤ 1000000) (hb : BdL M l) (h1 : -9223372036854775808 ≤ how) (h2 : how ≤ 9223372036854775807) (h3 : -9223372036854775808 ≤ n) (h4 : n ≤ 9223372036854775807) (hnil : l = []) :
    Calls Tryd.prog 14 #[v, .int .i64 how, .int .i64 n] w (BentOut M l.length w) := by
  obtain ⟨i0, hi0, hz0, hz1, hz2⟩ := info_parts Tryd.info68
  have HI := Lib.hid hi0; have HZ0 := Lib.hid hz0; have HZ1 := Lib.hid hz1; have HZ2 := Lib.hid hz2
  clear hi0 hz0 hz1 hz2
  subst hnil
  obtain ⟨a0, c0, rfl, _⟩ := h.open
  have hr9 := tmod_bd n 9 (by omega)
  have hr5 := tmod_bd n 5 (by omega)
  have OB : (w.alloc (.cells #[] 68)).ownsRow w.heap.size 68 2 (.slice (some ⟨w.heap.size, 0, none⟩) 0 0) 0 (prs []) := owns_block (Boxs.new w 68 #[]) (Nat.le_refl _) rfl rfl (by omega)
  have OB1 := OB.alloc (.cells #[.int .i64 (n.tmod 9), .int .i64 (n.tmod 5)] 68)
  have HO := Lib.hid OB1
  have hnw := Lib.hid (show ∀ j u, [Value.int .i64 (n.tmod 9), .int .i64 (n.tmod 5)][j]? = some u → ((w.alloc (.cells #[] 68)).alloc (.cells #[.int .i64 (n.tmod 9), .int .i64 (n.tmod 5)] 68)).cell? ((⟨w.heap.size + 1, 0, none⟩ : Addr).add j) = some u by
    rw [show w.heap.size + 1 = (w.alloc (.cells #[] 68)).heap.size by simp]; exact World.news_of_block (cs := #[.int .i64 (n.tmod 9), .int .i64 (n.tmod 5)]) (t := 68) (fr := (0, 0)) (heap_alloc_new _ _))
  clear OB OB1 h hb hl
  have w9 : IntKind.i64.wrap (n.tmod 9) = n.tmod 9 := by rw [IntKind.wrap_i64]; omega
  have w5 : IntKind.i64.wrap (n.tmod 5) = n.tmod 5 := by rw [IntKind.wrap_i64]; omega
  go_enter Tryd.func14, Tryd.ntmps14
  go_wp2_with (at_builtin; first | refine wpList_append_void rfl _ _ _ rfl 68 i0 Tryd.underlying28 HI.out w.heap.size a0 c0 rfl rfl ?_ | (refine wpList_append_at rfl _ _ _ rfl w.heap.size 68 i0 _ 2 16 Tryd.underlying28 HI.out HZ0.out HZ1.out HZ2.out rfl (by omega) _ 0 (prs []) rfl HO.out ⟨w.heap.size + 1, 0, none⟩ 1 1 [.int .i64 (n.tmod 9), .int .i64 (n.tmod 5)] rfl rfl hnw.out (by simp [Value.oneCell']) (by unfold maxLen; omega) (by omega) (by simp; omega) ?_; intro v2 w2 hown2 hg2))
  have HG := Lib.hid (((((Below.refl w.heap.size w).alloc (Nat.le_refl _) (.cells #[] 68)).alloc (by simp) (.cells #[.int .i64 (n.tmod 9), .int .i64 (n.tmod 5)] 68))).grown hg2 (by simp; omega) (fun j e => by cases e; exact Nat.le_refl _))
  have hbd := Lib.hid (show BdL (M + 1) [(n.tmod 9, n.tmod 5)] from BdL_cons.2 ⟨⟨by omega, by omega, by omega, by omega⟩, BdL_nil⟩)
  clear hg2
  obtain ⟨a2, c2, rfl⟩ := owns_slice hown2
  go_wp2_with fail
  go_ret
  exact ⟨_, rfl, [(n.tmod 9, n.tmod 5)], hown2, hbd.out, by simp, HG.out⟩

set_option maxRecDepth 100000 in
set_option maxHeartbeats 4000000 in
theorem bent_0 (v : Value) (l : List Sp) (how n M : Int) (w : World) (h : RdP w v l) (hl : l.length ≤ 1000) (hM : 1000 ≤ M) (hM9 : M ≤ 1000000) (hb : BdL M l) (h1 : -9223372036854775808 ≤ how) (h2 : how ≤ 9223372036854775807) (h3 : -9223372036854775808 ≤ n) (h4 : n ≤ 9223372036854775807) (hne : l ≠ []) (hr : around how 7 = 0) :
    Calls Tryd.prog 14 #[v, .int .i64 how, .int .i64 n] w (BentOut M l.length w) := by
  obtain ⟨i0, hi0, hz0, hz1, hz2⟩ := info_parts Tryd.info68
  have HI := Lib.hid hi0; have HZ0 := Lib.hid hz0; have HZ1 := Lib.hid hz1; have HZ2 := Lib.hid hz2
  clear hi0 hz0 hz1 hz2
  have B0 := (Below.refl w.heap.size w).alloc (Nat.le_refl _) (.cells #[] 68)
  obtain ⟨ad0, c0, rfl, hnw⟩ := (h.below B0).news hne
  obtain ⟨len, hlen⟩ : ∃ len, l.length = len := ⟨_, rfl⟩
  have hlen0 : 0 < len := by rw [← hlen]; exact List.length_pos_iff.2 hne
  rw [hlen] at hl ⊢
  have OB : (w.alloc (.cells #[] 68)).ownsRow w.heap.size 68 2 (.slice (some ⟨w.heap.size, 0, none⟩) 0 0) 0 (prs []) := owns_block (Boxs.new w 68 #[]) (Nat.le_refl _) rfl rfl (by omega)
  have HO := Lib.hid OB; have HNW := Lib.hid hnw; have HB0 := Lib.hid B0
  have HLN := Lib.hid (show (prs l).length = len * 2 by rw [prs_len, hlen])
  have HBD := Lib.hid hb
  have HLEN := Lib.hid hlen
  clear OB hnw B0 h hne hb hlen
  obtain ⟨k, hk, hk9⟩ : ∃ k : Nat, around n (len : Int) = k ∧ k < len := ⟨(around n len).toNat, by have := around_bd n len (by omega); omega, by have := around_bd n len (by omega); omega⟩
  have AR := fun W => around_any n len W h3 h4 (by omega) (by omega)
  have AH := fun W => around_any how 7 W h1 h2 (by omega) (by omega)
  rw [hk] at AR
  rw [hr] at AH
  clear hk hr
  have hlen0i : (0 : Int) < (len : Int) := by omega
  have hk0 : (0 : Int) ≤ (k : Int) := by omega
  have hki : (k : Int) < (len : Int) := by omega
  have hleni : (len : Int) ≤ 1000 := by omega
  go_enter Tryd.func14, Tryd.ntmps14
  go_wp2_with (at_builtin; refine wpList_append_at rfl _ _ _ rfl w.heap.size 68 i0 _ 2 16 Tryd.underlying28 HI.out HZ0.out HZ1.out HZ2.out rfl (by omega) _ 0 (prs []) rfl HO.out ad0 len c0 (prs l) rfl HLN.out HNW.out (prs_one _) (by unfold maxLen; omega) (by omega) (by simp) ?_; intro v2 w2 hown2 hg2; rw [Nat.zero_add] at hown2; obtain ⟨g, cap, rfl, hgb, hgl⟩ := hown2.form hlen0)
  have HG2 := Lib.hid (HB0.out.grown hg2 (by simp) (fun j e => by cases e; exact Nat.le_refl _))
  rw [show prs [] ++ prs l = prs l from rfl] at hown2
  obtain ⟨A, f, t, B, hlAB, hA⟩ := split_at (l := l) (k := k) (by rw [HLEN.out]; exact hk9)
  have HBL := HBD.out
  rw [hlAB] at hown2 HBL
  have hAB : A.length + B.length + 1 = len := by have := HLEN.out; rw [hlAB] at this; simp at this; omega
  obtain ⟨hbA, hbB⟩ := BdL_app.1 HBL
  obtain ⟨⟨hf1, hf2, ht1, ht2⟩, hbB⟩ := BdL_cons.1 hbB
  have HO2 := Lib.hid hown2
  have cf := hown2.cellAt (k * 2) (by omega)
  have ct := hown2.cellAt (k * 2 + 1) (by omega)
  rw [show (prs (A ++ (f, t) :: B))[k * 2]? = some (.int .i64 f) from prs_at _ k 0 (f, t) (by rw [← hA]; simp) (by omega)] at cf
  rw [show (prs (A ++ (f, t) :: B))[k * 2 + 1]? = some (.int .i64 t) from prs_at _ k 1 (f, t) (by rw [← hA]; simp) (by omega)] at ct
  have ff := hown2.frozenAt (k * 2)
  have ft := hown2.frozenAt (k * 2 + 1)
  have hs2 := HG2.out.size
  have HBA := Lib.hid hbA; have HBB := Lib.hid hbB
  clear hown2 hg2 HBL hbA hbB HO HNW HLN HB0 HBD
  refine (AR _).mono ?_
  rintro e w3 ⟨rfl, rfl⟩
  go_wp2_with fail
  refine (AH _).mono ?_
  rintro e w3 ⟨rfl, rfl⟩
  have hst := (HO2.out.stored (k * 2 + 1) (.int .i64 (t + 1))).1
  rw [← hA, prs_set1, hA] at hst
  have HST := Lib.hid hst
  clear hst
  have hwt : IntKind.i64.wrap (t + 1) = t + 1 := by rw [IntKind.wrap_i64]; omega
  go_wp2_with fail
  go_ret
  refine ⟨_, rfl, A ++ (f, t + 1) :: B, ?_, BdL_app.2 ⟨HBA.out.mono (by omega), BdL_cons.2 ⟨⟨by omega, by omega, by omega, by omega⟩, HBB.out.mono (by omega)⟩⟩, by simp; omega, HG2.out.setCell (p := ⟨g, _, none⟩) hgb _⟩
  rw [show (A ++ (f, t + 1) :: B).length = len by simp; omega]
  exact HST.out

set_option maxRecDepth 100000 in
set_option maxHeartbeats 4000000 in
theorem bent_1 (v : Value) (l : List Sp) (how n M : Int) (w : World) (h : RdP w v l) (hl : l.length ≤ 1000) (hM : 1000 ≤ M) (hM9 : M ≤ 1000000) (hb : BdL M l) (h1 : -9223372036854775808 ≤ how) (h2 : how ≤ 9223372036854775807) (h3 : -9223372036854775808 ≤ n) (h4 : n ≤ 9223372036854775807) (hne : l ≠ []) (hr : around how 7 = 1) :
    Calls Tryd.prog 14 #[v, .int .i64 how, .int .i64 n] w (BentOut M l.length w) := by
  obtain ⟨i0, hi0, hz0, hz1, hz2⟩ := info_parts Tryd.info68
  have HI := Lib.hid hi0; have HZ0 := Lib.hid hz0; have HZ1 := Lib.hid hz1; have HZ2 := Lib.hid hz2
  clear hi0 hz0 hz1 hz2
  have B0 := (Below.refl w.heap.size w).alloc (Nat.le_refl _) (.cells #[] 68)
  obtain ⟨ad0, c0, rfl, hnw⟩ := (h.below B0).news hne
  obtain ⟨len, hlen⟩ : ∃ len, l.length = len := ⟨_, rfl⟩
  have hlen0 : 0 < len := by rw [← hlen]; exact List.length_pos_iff.2 hne
  rw [hlen] at hl ⊢
  have OB : (w.alloc (.cells #[] 68)).ownsRow w.heap.size 68 2 (.slice (some ⟨w.heap.size, 0, none⟩) 0 0) 0 (prs []) := owns_block (Boxs.new w 68 #[]) (Nat.le_refl _) rfl rfl (by omega)
  have HO := Lib.hid OB; have HNW := Lib.hid hnw; have HB0 := Lib.hid B0
  have HLN := Lib.hid (show (prs l).length = len * 2 by rw [prs_len, hlen])
  have HBD := Lib.hid hb
  have HLEN := Lib.hid hlen
  clear OB hnw B0 h hne hb hlen
  obtain ⟨k, hk, hk9⟩ : ∃ k : Nat, around n (len : Int) = k ∧ k < len := ⟨(around n len).toNat, by have := around_bd n len (by omega); omega, by have := around_bd n len (by omega); omega⟩
  have AR := fun W => around_any n len W h3 h4 (by omega) (by omega)
  have AH := fun W => around_any how 7 W h1 h2 (by omega) (by omega)
  rw [hk] at AR
  rw [hr] at AH
  clear hk hr
  have hlen0i : (0 : Int) < (len : Int) := by omega
  have hk0 : (0 : Int) ≤ (k : Int) := by omega
  have hki : (k : Int) < (len : Int) := by omega
  have hleni : (len : Int) ≤ 1000 := by omega
  go_enter Tryd.func14, Tryd.ntmps14
  go_wp2_with (at_builtin; refine wpList_append_at rfl _ _ _ rfl w.heap.size 68 i0 _ 2 16 Tryd.underlying28 HI.out HZ0.out HZ1.out HZ2.out rfl (by omega) _ 0 (prs []) rfl HO.out ad0 len c0 (prs l) rfl HLN.out HNW.out (prs_one _) (by unfold maxLen; omega) (by omega) (by simp) ?_; intro v2 w2 hown2 hg2; rw [Nat.zero_add] at hown2; obtain ⟨g, cap, rfl, hgb, hgl⟩ := hown2.form hlen0)
  have HG2 := Lib.hid (HB0.out.grown hg2 (by simp) (fun j e => by cases e; exact Nat.le_refl _))
  rw [show prs [] ++ prs l = prs l from rfl] at hown2
  obtain ⟨A, f, t, B, hlAB, hA⟩ := split_at (l := l) (k := k) (by rw [HLEN.out]; exact hk9)
  have HBL := HBD.out
  rw [hlAB] at hown2 HBL
  have hAB : A.length + B.length + 1 = len := by have := HLEN.out; rw [hlAB] at this; simp at this; omega
  obtain ⟨hbA, hbB⟩ := BdL_app.1 HBL
  obtain ⟨⟨hf1, hf2, ht1, ht2⟩, hbB⟩ := BdL_cons.1 hbB
  have HO2 := Lib.hid hown2
  have cf := hown2.cellAt (k * 2) (by omega)
  have ct := hown2.cellAt (k * 2 + 1) (by omega)
  rw [show (prs (A ++ (f, t) :: B))[k * 2]? = some (.int .i64 f) from prs_at _ k 0 (f, t) (by rw [← hA]; simp) (by omega)] at cf
  rw [show (prs (A ++ (f, t) :: B))[k * 2 + 1]? = some (.int .i64 t) from prs_at _ k 1 (f, t) (by rw [← hA]; simp) (by omega)] at ct
  have ff := hown2.frozenAt (k * 2)
  have ft := hown2.frozenAt (k * 2 + 1)
  have hs2 := HG2.out.size
  have HBA := Lib.hid hbA; have HBB := Lib.hid hbB
  clear hown2 hg2 HBL hbA hbB HO HNW HLN HB0 HBD
  refine (AR _).mono ?_
  rintro e w3 ⟨rfl, rfl⟩
  go_wp2_with fail
  refine (AH _).mono ?_
  rintro e w3 ⟨rfl, rfl⟩
  have hst := (HO2.out.stored (k * 2) (.int .i64 (f - 1))).1
  rw [← hA, prs_set0, hA] at hst
  have HST := Lib.hid hst
  clear hst
  have hwt : IntKind.i64.wrap (f - 1) = f - 1 := by rw [IntKind.wrap_i64]; omega
  go_wp2_with fail
  go_ret
  refine ⟨_, rfl, A ++ (f - 1, t) :: B, ?_, BdL_app.2 ⟨HBA.out.mono (by omega), BdL_cons.2 ⟨⟨by omega, by omega, by omega, by omega⟩, HBB.out.mono (by omega)⟩⟩, by simp; omega, HG2.out.setCell (p := ⟨g, _, none⟩) hgb _⟩
  rw [show (A ++ (f - 1, t) :: B).length = len by simp; omega]
  exact HST.out

set_option maxRecDepth 100000 in
set_option maxHeartbeats 4000000 in
theorem bent_2 (v : Value) (l : List Sp) (how n M : Int) (w : World) (h : RdP w v l) (hl : l.length ≤ 1000) (hM : 1000 ≤ M) (hM9 : M ≤ 1000000) (hb : BdL M l) (h1 : -9223372036854775808 ≤ how) (h2 : how ≤ 9223372036854775807) (h3 : -9223372036854775808 ≤ n) (h4 : n ≤ 9223372036854775807) (hne : l ≠ []) (hr : around how 7 = 2) :
    Calls Tryd.prog 14 #[v, .int .i64 how, .int .i64 n] w (BentOut M l.length w) := by
  obtain ⟨i0, hi0, hz0, hz1, hz2⟩ := info_parts Tryd.info68
  have HI := Lib.hid hi0; have HZ0 := Lib.hid hz0; have HZ1 := Lib.hid hz1; have HZ2 := Lib.hid hz2
  clear hi0 hz0 hz1 hz2
  have B0 := (Below.refl w.heap.size w).alloc (Nat.le_refl _) (.cells #[] 68)
  obtain ⟨ad0, c0, rfl, hnw⟩ := (h.below B0).news hne
  obtain ⟨len, hlen⟩ : ∃ len, l.length = len := ⟨_, rfl⟩
  have hlen0 : 0 < len := by rw [← hlen]; exact List.length_pos_iff.2 hne
  rw [hlen] at hl ⊢
  have OB : (w.alloc (.cells #[] 68)).ownsRow w.heap.size 68 2 (.slice (some ⟨w.heap.size, 0, none⟩) 0 0) 0 (prs []) := owns_block (Boxs.new w 68 #[]) (Nat.le_refl _) rfl rfl (by omega)
  have HO := Lib.hid OB; have HNW := Lib.hid hnw; have HB0 := Lib.hid B0
  have HLN := Lib.hid (show (prs l).length = len * 2 by rw [prs_len, hlen])
  have HBD := Lib.hid hb
  have HLEN := Lib.hid hlen
  clear OB hnw B0 h hne hb hlen
  obtain ⟨k, hk, hk9⟩ : ∃ k : Nat, around n (len : Int) = k ∧ k < len := ⟨(around n len).toNat, by have := around_bd n len (by omega); omega, by have := around_bd n len (by omega); omega⟩
  have AR := fun W => around_any n len W h3 h4 (by omega) (by omega)
  have AH := fun W => around_any how 7 W h1 h2 (by omega) (by omega)
  rw [hk] at AR
  rw [hr] at AH
  clear hk hr
  have hlen0i : (0 : Int) < (len : Int) := by omega
  have hk0 : (0 : Int) ≤ (k : Int) := by omega
  have hki : (k : Int) < (len : Int) := by omega
  have hleni : (len : Int) ≤ 1000 := by omega
  go_enter Tryd.func14, Tryd.ntmps14
  go_wp2_with (at_builtin; refine wpList_append_at rfl _ _ _ rfl w.heap.size 68 i0 _ 2 16 Tryd.underlying28 HI.out HZ0.out HZ1.out HZ2.out rfl (by omega) _ 0 (prs []) rfl HO.out ad0 len c0 (prs l) rfl HLN.out HNW.out (prs_one _) (by unfold maxLen; omega) (by omega) (by simp) ?_; intro v2 w2 hown2 hg2; rw [Nat.zero_add] at hown2; obtain ⟨g, cap, rfl, hgb, hgl⟩ := hown2.form hlen0)
  have HG2 := Lib.hid (HB0.out.grown hg2 (by simp) (fun j e => by cases e; exact Nat.le_refl _))
  rw [show prs [] ++ prs l = prs l from rfl] at hown2
  obtain ⟨A, f, t, B, hlAB, hA⟩ := split_at (l := l) (k := k) (by rw [HLEN.out]; exact hk9)
  have HBL := HBD.out
  rw [hlAB] at hown2 HBL
  have hAB : A.length + B.length + 1 = len := by have := HLEN.out; rw [hlAB] at this; simp at this; omega
  obtain ⟨hbA, hbB⟩ := BdL_app.1 HBL
  obtain ⟨⟨hf1, hf2, ht1, ht2⟩, hbB⟩ := BdL_cons.1 hbB
  have HO2 := Lib.hid hown2
  have cf := hown2.cellAt (k * 2) (by omega)
  have ct := hown2.cellAt (k * 2 + 1) (by omega)
  rw [show (prs (A ++ (f, t) :: B))[k * 2]? = some (.int .i64 f) from prs_at _ k 0 (f, t) (by rw [← hA]; simp) (by omega)] at cf
  rw [show (prs (A ++ (f, t) :: B))[k * 2 + 1]? = some (.int .i64 t) from prs_at _ k 1 (f, t) (by rw [← hA]; simp) (by omega)] at ct
  have ff := hown2.frozenAt (k * 2)
  have ft := hown2.frozenAt (k * 2 + 1)
  have hs2 := HG2.out.size
  have HBA := Lib.hid hbA; have HBB := Lib.hid hbB
  clear hown2 hg2 HBL hbA hbB HO HNW HLN HB0 HBD
  refine (AR _).mono ?_
  rintro e w3 ⟨rfl, rfl⟩
  go_wp2_with fail
  refine (AH _).mono ?_
  rintro e w3 ⟨rfl, rfl⟩
  have hst := (((show (w2.drewN 1).ownsRow w.heap.size 68 2 (.slice (some ⟨g, 0, none⟩) len cap) len (prs (A ++ (f, t) :: B)) from HO2.out).stored (k * 2) (.int .i64 t)).1.stored (k * 2 + 1) (.int .i64 f)).1
  rw [← hA, prs_set0, prs_set1, hA] at hst
  have HST := Lib.hid hst
  clear hst
  have cf1 : (w2.drewN 1).cell? ⟨g, k * 2, none⟩ = some (.int .i64 f) := cf
  have ct1 : (w2.drewN 1).cell? ⟨g, k * 2 + 1, none⟩ = some (.int .i64 t) := ct
  go_wp2_with fail
  refine wp_region_held (S := fun _ => True) (by kernel_rfl) ?_
  have hdr : (w2).drew = { w2 with drawn := (w2).drawn + 1 } := rfl
  rw [← hdr]
  clear hdr
  refine wpAnyHTake 0 (some 59) (.slice (some ⟨g, 0, none⟩) len cap) rfl rfl (by kernel_rfl) (by kernel_rfl) (by kernel_rfl) (fun _ _ _ h => h) (by rfl) (fun _ _ => by rfl) (trivial) ?_
  simp only [Act.put, List.setIfInBounds_toArray, List.set_cons_zero, List.set_cons_succ]
  refine wpAnyHTake 1 (some 60) (.int .i64 (k : Int)) rfl rfl (by kernel_rfl) (by kernel_rfl) (by kernel_rfl) (fun _ _ _ h => h) (by rfl) (fun _ _ => by rfl) (trivial) ?_
  simp only [Act.put, List.setIfInBounds_toArray, List.set_cons_zero, List.set_cons_succ]
  refine wpAnyHTake 2 (some 61) (.slice (some ⟨g, 0, none⟩) len cap) rfl rfl (by kernel_rfl) (by kernel_rfl) (by kernel_rfl) (fun _ _ _ h => h) (by rfl) (fun _ _ => by rfl) (trivial) ?_
  simp only [Act.put, List.setIfInBounds_toArray, List.set_cons_zero, List.set_cons_succ]
  refine wpAnyHTake 3 (some 62) (.int .i64 (k : Int)) rfl rfl (by kernel_rfl) (by kernel_rfl) (by kernel_rfl) (fun _ _ _ h => h) (by rfl) (fun _ _ => by rfl) (trivial) ?_
  simp only [Act.put, List.setIfInBounds_toArray, List.set_cons_zero, List.set_cons_succ]
  refine wpAnyHTake 4 (some 63) (.pointer (some ⟨g, k * 2, none⟩)) rfl rfl (by kernel_rfl) (by kernel_rfl) (by kernel_rfl) (fun _ _ _ h => h) (by rfl) (fun _ _ => by go_simp) (trivial) ?_
  simp only [Act.put, List.setIfInBounds_toArray, List.set_cons_zero, List.set_cons_succ]
  refine wpAnyHTake 5 (some 64) (.pointer (some ⟨g, k * 2 + 1, none⟩)) rfl rfl (by kernel_rfl) (by kernel_rfl) (by kernel_rfl) (fun _ _ _ h => h) (by rfl) (fun _ _ => by go_simp) (trivial) ?_
  simp only [Act.put, List.setIfInBounds_toArray, List.set_cons_zero, List.set_cons_succ]
  refine wpAnyHTake 7 (some 66) (.slice (some ⟨g, 0, none⟩) len cap) rfl rfl (by kernel_rfl) (by kernel_rfl) (by kernel_rfl) (fun _ _ _ h => h) (by rfl) (fun _ _ => by rfl) (trivial) ?_
  simp only [Act.put, List.setIfInBounds_toArray, List.set_cons_zero, List.set_cons_succ]
  refine wpAnyHTake 8 (some 67) (.int .i64 (k : Int)) rfl rfl (by kernel_rfl) (by kernel_rfl) (by kernel_rfl) (fun _ _ _ h => h) (by rfl) (fun _ _ => by rfl) (trivial) ?_
  simp only [Act.put, List.setIfInBounds_toArray, List.set_cons_zero, List.set_cons_succ]
  refine wpAnyHTake 9 (some 68) (.pointer (some ⟨g, k * 2, none⟩)) rfl rfl (by kernel_rfl) (by kernel_rfl) (by kernel_rfl) (fun _ _ _ h => h) (by rfl) (fun _ _ => by go_simp) (trivial) ?_
  simp only [Act.put, List.setIfInBounds_toArray, List.set_cons_zero, List.set_cons_succ]
  refine wpAnyHTake 10 (some 69) (.pointer (some ⟨g, k * 2, none⟩)) rfl rfl (by kernel_rfl) (by kernel_rfl) (by kernel_rfl) (fun _ _ _ h => h) (by rfl) (fun _ _ => by go_simp) (trivial) ?_
  simp only [Act.put, List.setIfInBounds_toArray, List.set_cons_zero, List.set_cons_succ]
  refine wpAnyHBoth 6 11 (by kernel_rfl) ?_ ?_
  · refine wpOpRun' (w' := w2.drewN 1) (v := .int .i64 t) (some 65) rfl rfl (by rfl) (by go_simp <;> rfl) ⟨trivial, ?_⟩
    simp only [Act.put, List.setIfInBounds_toArray, List.set_cons_zero, List.set_cons_succ]
    refine wpAnyHOne 11 (some 70) (w' := w2.drewN 1) (v := .int .i64 f) (by kernel_rfl) rfl rfl (by rfl) (by go_simp <;> rfl) trivial ?_
    simp only [Act.put, List.setIfInBounds_toArray, List.set_cons_zero, List.set_cons_succ]
    refine wpAnyHOne 12 (some 71) (w' := w2.drewN 1) (v := .agg #[.int .i64 t, .int .i64 f]) (by kernel_rfl) rfl rfl (by rfl) (by go_simp <;> rfl) trivial ?_
    simp only [Act.put, List.setIfInBounds_toArray, List.set_cons_zero, List.set_cons_succ]
    refine wpAnyHTake 13 (some 72) (.pointer (some ⟨g, k * 2, none⟩)) rfl rfl (by kernel_rfl) (by kernel_rfl) (by kernel_rfl) (fun _ _ _ h => h) (by rfl) (fun _ _ => by go_simp) (trivial) ?_
    simp only [Act.put, List.setIfInBounds_toArray, List.set_cons_zero, List.set_cons_succ]
    refine wpAnyHSkip 14 none (w' := ((w2.drewN 1).setCell ⟨g, k * 2, none⟩ (.int .i64 t)).setCell ⟨g, k * 2 + 1, none⟩ (.int .i64 f)) (by kernel_rfl) rfl rfl (by rfl) (execOp_store 68 (.tmp 72) (.tmp 71) rfl rfl rfl (by go_simp <;> rfl)) trivial ?_
    simp only [Act.put]
    refine wpAnyH_done (by kernel_rfl) ?_ _
    go_wp2_with fail
    go_ret
    refine ⟨_, rfl, A ++ (t, f) :: B, ?_, BdL_app.2 ⟨HBA.out.mono (by omega), BdL_cons.2 ⟨⟨by omega, by omega, by omega, by omega⟩, HBB.out.mono (by omega)⟩⟩, by simp; omega, ((Below.dn HG2.out 1).setCell (p := ⟨g, _, none⟩) hgb _).setCell (p := ⟨g, _, none⟩) hgb _⟩
    rw [show (A ++ (t, f) :: B).length = len by simp; omega]
    exact HST.out
  · refine wpOpRun' (w' := w2.drewN 1) (v := .int .i64 f) (some 70) rfl rfl (by rfl) (by go_simp <;> rfl) ⟨trivial, ?_⟩
    simp only [Act.put, List.setIfInBounds_toArray, List.set_cons_zero, List.set_cons_succ]
    refine wpAnyHOne 6 (some 65) (w' := w2.drewN 1) (v := .int .i64 t) (by kernel_rfl) rfl rfl (by rfl) (by go_simp <;> rfl) trivial ?_
    simp only [Act.put, List.setIfInBounds_toArray, List.set_cons_zero, List.set_cons_succ]
    refine wpAnyHOne 12 (some 71) (w' := w2.drewN 1) (v := .agg #[.int .i64 t, .int .i64 f]) (by kernel_rfl) rfl rfl (by rfl) (by go_simp <;> rfl) trivial ?_
    simp only [Act.put, List.setIfInBounds_toArray, List.set_cons_zero, List.set_cons_succ]
    refine wpAnyHTake 13 (some 72) (.pointer (some ⟨g, k * 2, none⟩)) rfl rfl (by kernel_rfl) (by kernel_rfl) (by kernel_rfl) (fun _ _ _ h => h) (by rfl) (fun _ _ => by go_simp) (trivial) ?_
    simp only [Act.put, List.setIfInBounds_toArray, List.set_cons_zero, List.set_cons_succ]
    refine wpAnyHSkip 14 none (w' := ((w2.drewN 1).setCell ⟨g, k * 2, none⟩ (.int .i64 t)).setCell ⟨g, k * 2 + 1, none⟩ (.int .i64 f)) (by kernel_rfl) rfl rfl (by rfl) (execOp_store 68 (.tmp 72) (.tmp 71) rfl rfl rfl (by go_simp <;> rfl)) trivial ?_
    simp only [Act.put]
    refine wpAnyH_done (by kernel_rfl) ?_ _
    go_wp2_with fail
    go_ret
    refine ⟨_, rfl, A ++ (t, f) :: B, ?_, BdL_app.2 ⟨HBA.out.mono (by omega), BdL_cons.2 ⟨⟨by omega, by omega, by omega, by omega⟩, HBB.out.mono (by omega)⟩⟩, by simp; omega, ((Below.dn HG2.out 1).setCell (p := ⟨g, _, none⟩) hgb _).setCell (p := ⟨g, _, none⟩) hgb _⟩
    rw [show (A ++ (t, f) :: B).length = len by simp; omega]
    exact HST.out

set_option maxRecDepth 100000 in
set_option maxHeartbeats 4000000 in
theorem bent_3 (v : Value) (l : List Sp) (how n M : Int) (w : World) (h : RdP w v l) (hl : l.length ≤ 1000) (hM : 1000 ≤ M) (hM9 : M ≤ 1000000) (hb : BdL M l) (h1 : -9223372036854775808 ≤ how) (h2 : how ≤ 9223372036854775807) (h3 : -9223372036854775808 ≤ n) (h4 : n ≤ 9223372036854775807) (hne : l ≠ []) (hr : around how 7 = 3) :
    Calls Tryd.prog 14 #[v, .int .i64 how, .int .i64 n] w (BentOut M l.length w) := by
  obtain ⟨i0, hi0, hz0, hz1, hz2⟩ := info_parts Tryd.info68
  have HI := Lib.hid hi0; have HZ0 := Lib.hid hz0; have HZ1 := Lib.hid hz1; have HZ2 := Lib.hid hz2
  clear hi0 hz0 hz1 hz2
  have B0 := (Below.refl w.heap.size w).alloc (Nat.le_refl _) (.cells #[] 68)
  obtain ⟨ad0, c0, rfl, hnw⟩ := (h.below B0).news hne
  obtain ⟨len, hlen⟩ : ∃ len, l.length = len := ⟨_, rfl⟩
  have hlen0 : 0 < len := by rw [← hlen]; exact List.length_pos_iff.2 hne
  rw [hlen] at hl ⊢
  have OB : (w.alloc (.cells #[] 68)).ownsRow w.heap.size 68 2 (.slice (some ⟨w.heap.size, 0, none⟩) 0 0) 0 (prs []) := owns_block (Boxs.new w 68 #[]) (Nat.le_refl _) rfl rfl (by omega)
  have HO := Lib.hid OB; have HNW := Lib.hid hnw; have HB0 := Lib.hid B0
  have HLN := Lib.hid (show (prs l).length = len * 2 by rw [prs_len, hlen])
  have HBD := Lib.hid hb
  have HLEN := Lib.hid hlen
  clear OB hnw B0 h hne hb hlen
  obtain ⟨k, hk, hk9⟩ : ∃ k : Nat, around n (len : Int) = k ∧ k < len := ⟨(around n len).toNat, by have := around_bd n len (by omega); omega, by have := around_bd n len (by omega); omega⟩
  have AR := fun W => around_any n len W h3 h4 (by omega) (by omega)
  have AH := fun W => around_any how 7 W h1 h2 (by omega) (by omega)
  rw [hk] at AR
  rw [hr] at AH
  clear hk hr
  have hlen0i : (0 : Int) < (len : Int) := by omega
  have hk0 : (0 : Int) ≤ (k : Int) := by omega
  have hki : (k : Int) < (len : Int) := by omega
  have hleni : (len : Int) ≤ 1000 := by omega
  go_enter Tryd.func14, Tryd.ntmps14
  go_wp2_with (at_builtin; refine wpList_append_at rfl _ _ _ rfl w.heap.size 68 i0 _ 2 16 Tryd.underlying28 HI.out HZ0.out HZ1.out HZ2.out rfl (by omega) _ 0 (prs []) rfl HO.out ad0 len c0 (prs l) rfl HLN.out HNW.out (prs_one _) (by unfold maxLen; omega) (by omega) (by simp) ?_; intro v2 w2 hown2 hg2; rw [Nat.zero_add] at hown2; obtain ⟨g, cap, rfl, hgb, hgl⟩ := hown2.form hlen0)
  have HG2 := Lib.hid (HB0.out.grown hg2 (by simp) (fun j e => by cases e; exact Nat.le_refl _))
  rw [show prs [] ++ prs l = prs l from rfl] at hown2
  obtain ⟨A, f, t, B, hlAB, hA⟩ := split_at (l := l) (k := k) (by rw [HLEN.out]; exact hk9)
  have HBL := HBD.out
  rw [hlAB] at hown2 HBL
  have hAB : A.length + B.length + 1 = len := by have := HLEN.out; rw [hlAB] at this; simp at this; omega
  obtain ⟨hbA, hbB⟩ := BdL_app.1 HBL
  obtain ⟨⟨hf1, hf2, ht1, ht2⟩, hbB⟩ := BdL_cons.1 hbB
  have HO2 := Lib.hid hown2
  have cf := hown2.cellAt (k * 2) (by omega)
  have ct := hown2.cellAt (k * 2 + 1) (by omega)
  rw [show (prs (A ++ (f, t) :: B))[k * 2]? = some (.int .i64 f) from prs_at _ k 0 (f, t) (by rw [← hA]; simp) (by omega)] at cf
  rw [show (prs (A ++ (f, t) :: B))[k * 2 + 1]? = some (.int .i64 t) from prs_at _ k 1 (f, t) (by rw [← hA]; simp) (by omega)] at ct
  have ff := hown2.frozenAt (k * 2)
  have ft := hown2.frozenAt (k * 2 + 1)
  have hs2 := HG2.out.size
  have HBA := Lib.hid hbA; have HBB := Lib.hid hbB
  clear hown2 hg2 HBL hbA hbB HO HNW HLN HB0 HBD
  refine (AR _).mono ?_
  rintro e w3 ⟨rfl, rfl⟩
  go_wp2_with fail
  refine (AH _).mono ?_
  rintro e w3 ⟨rfl, rfl⟩
  have OB1 := HO2.out.alloc (.cells #[.int .i64 f, .int .i64 t] 68)
  have HO := Lib.hid OB1
  have hnw := Lib.hid (show ∀ j u, [Value.int .i64 f, .int .i64 t][j]? = some u → (w2.alloc (.cells #[.int .i64 f, .int .i64 t] 68)).cell? ((⟨w2.heap.size, 0, none⟩ : Addr).add j) = some u by
    exact World.news_of_block (cs := #[.int .i64 f, .int .i64 t]) (t := 68) (fr := (0, 0)) (heap_alloc_new _ _))
  have hall := HG2.out.alloc hs2 (.cells #[.int .i64 f, .int .i64 t] 68)
  have HAL := Lib.hid hall
  clear OB1 hall
  go_wp2_with (at_builtin; refine wpList_append_at rfl _ _ _ rfl w.heap.size 68 i0 _ 2 16 Tryd.underlying28 HI.out HZ0.out HZ1.out HZ2.out rfl (by omega) _ len (prs (A ++ (f, t) :: B)) rfl HO.out ⟨w2.heap.size, 0, none⟩ 1 1 [.int .i64 f, .int .i64 t] rfl rfl hnw.out (by simp [Value.oneCell']) (by unfold maxLen; omega) (by omega) (by simp; omega) ?_; intro v3 w3 hown3 hg3)
  have hown4 : w3.ownsRow w.heap.size 68 2 v3 (len + 1) (prs (A ++ (f, t) :: B ++ [(f, t)])) := by rw [prs_snoc]; exact hown3
  have HG3 := Lib.hid (HAL.out.grown hg3 (by simp; omega) (fun j e => by cases e; exact hgb))
  clear hown3 hg3
  obtain ⟨a3, c3, rfl⟩ := owns_slice hown4
  have HOW := Lib.hid hown4
  clear hown4
  go_wp2_with fail
  go_ret
  refine ⟨_, rfl, A ++ (f, t) :: B ++ [(f, t)], ?_, BdL_app.2 ⟨BdL_app.2 ⟨HBA.out.mono (by omega), BdL_cons.2 ⟨⟨by omega, by omega, by omega, by omega⟩, HBB.out.mono (by omega)⟩⟩, BdL_cons.2 ⟨⟨by omega, by omega, by omega, by omega⟩, BdL_nil⟩⟩, by simp; omega, HG3.out⟩
  rw [show (A ++ (f, t) :: B ++ [((f, t) : Sp)]).length = len + 1 by simp; omega]
  exact HOW.out

set_option maxRecDepth 100000 in
set_option maxHeartbeats 4000000 in
theorem bent_6 (v : Value) (l : List Sp) (how n M : Int) (w : World) (h : RdP w v l) (hl : l.length ≤ 1000) (hM : 1000 ≤ M) (hM9 : M ≤ 1000000) (hb : BdL M l) (h1 : -9223372036854775808 ≤ how) (h2 : how ≤ 9223372036854775807) (h3 : -9223372036854775808 ≤ n) (h4 : n ≤ 9223372036854775807) (hne : l ≠ []) (hr : around how 7 = 6) :
    Calls Tryd.prog 14 #[v, .int .i64 how, .int .i64 n] w (BentOut M l.length w) := by
  obtain ⟨i0, hi0, hz0, hz1, hz2⟩ := info_parts Tryd.info68
  have HI := Lib.hid hi0; have HZ0 := Lib.hid hz0; have HZ1 := Lib.hid hz1; have HZ2 := Lib.hid hz2
  clear hi0 hz0 hz1 hz2
  have B0 := (Below.refl w.heap.size w).alloc (Nat.le_refl _) (.cells #[] 68)
  obtain ⟨ad0, c0, rfl, hnw⟩ := (h.below B0).news hne
  obtain ⟨len, hlen⟩ : ∃ len, l.length = len := ⟨_, rfl⟩
  have hlen0 : 0 < len := by rw [← hlen]; exact List.length_pos_iff.2 hne
  rw [hlen] at hl ⊢
  have OB : (w.alloc (.cells #[] 68)).ownsRow w.heap.size 68 2 (.slice (some ⟨w.heap.size, 0, none⟩) 0 0) 0 (prs []) := owns_block (Boxs.new w 68 #[]) (Nat.le_refl _) rfl rfl (by omega)
  have HO := Lib.hid OB; have HNW := Lib.hid hnw; have HB0 := Lib.hid B0
  have HLN := Lib.hid (show (prs l).length = len * 2 by rw [prs_len, hlen])
  have HBD := Lib.hid hb
  have HLEN := Lib.hid hlen
  clear OB hnw B0 h hne hb hlen
  obtain ⟨k, hk, hk9⟩ : ∃ k : Nat, around n (len : Int) = k ∧ k < len := ⟨(around n len).toNat, by have := around_bd n len (by omega); omega, by have := around_bd n len (by omega); omega⟩
  have AR := fun W => around_any n len W h3 h4 (by omega) (by omega)
  have AH := fun W => around_any how 7 W h1 h2 (by omega) (by omega)
  rw [hk] at AR
  rw [hr] at AH
  clear hk hr
  have hlen0i : (0 : Int) < (len : Int) := by omega
  have hk0 : (0 : Int) ≤ (k : Int) := by omega
  have hki : (k : Int) < (len : Int) := by omega
  have hleni : (len : Int) ≤ 1000 := by omega
  go_enter Tryd.func14, Tryd.ntmps14
  go_wp2_with (at_builtin; refine wpList_append_at rfl _ _ _ rfl w.heap.size 68 i0 _ 2 16 Tryd.underlying28 HI.out HZ0.out HZ1.out HZ2.out rfl (by omega) _ 0 (prs []) rfl HO.out ad0 len c0 (prs l) rfl HLN.out HNW.out (prs_one _) (by unfold maxLen; omega) (by omega) (by simp) ?_; intro v2 w2 hown2 hg2; rw [Nat.zero_add] at hown2; obtain ⟨g, cap, rfl, hgb, hgl⟩ := hown2.form hlen0)
  have HG2 := Lib.hid (HB0.out.grown hg2 (by simp) (fun j e => by cases e; exact Nat.le_refl _))
  rw [show prs [] ++ prs l = prs l from rfl] at hown2
  obtain ⟨A, f, t, B, hlAB, hA⟩ := split_at (l := l) (k := k) (by rw [HLEN.out]; exact hk9)
  have HBL := HBD.out
  rw [hlAB] at hown2 HBL
  have hAB : A.length + B.length + 1 = len := by have := HLEN.out; rw [hlAB] at this; simp at this; omega
  obtain ⟨hbA, hbB⟩ := BdL_app.1 HBL
  obtain ⟨⟨hf1, hf2, ht1, ht2⟩, hbB⟩ := BdL_cons.1 hbB
  have HO2 := Lib.hid hown2
  have cf := hown2.cellAt (k * 2) (by omega)
  have ct := hown2.cellAt (k * 2 + 1) (by omega)
  rw [show (prs (A ++ (f, t) :: B))[k * 2]? = some (.int .i64 f) from prs_at _ k 0 (f, t) (by rw [← hA]; simp) (by omega)] at cf
  rw [show (prs (A ++ (f, t) :: B))[k * 2 + 1]? = some (.int .i64 t) from prs_at _ k 1 (f, t) (by rw [← hA]; simp) (by omega)] at ct
  have ff := hown2.frozenAt (k * 2)
  have ft := hown2.frozenAt (k * 2 + 1)
  have hs2 := HG2.out.size
  have HBA := Lib.hid hbA; have HBB := Lib.hid hbB
  clear hown2 hg2 HBL hbA hbB HO HNW HLN HB0 HBD
  refine (AR _).mono ?_
  rintro e w3 ⟨rfl, rfl⟩
  go_wp2_with fail
  refine (AH _).mono ?_
  rintro e w3 ⟨rfl, rfl⟩
  have OB1 := HO2.out.alloc (.cells #[.int .i64 999, .int .i64 999] 68)
  have HO := Lib.hid OB1
  have hnw := Lib.hid (show ∀ j u, [Value.int .i64 999, .int .i64 999][j]? = some u → (w2.alloc (.cells #[.int .i64 999, .int .i64 999] 68)).cell? ((⟨w2.heap.size, 0, none⟩ : Addr).add j) = some u by
    exact World.news_of_block (cs := #[.int .i64 999, .int .i64 999]) (t := 68) (fr := (0, 0)) (heap_alloc_new _ _))
  have hall := HG2.out.alloc hs2 (.cells #[.int .i64 999, .int .i64 999] 68)
  have HAL := Lib.hid hall
  clear OB1 hall
  go_wp2_with (at_builtin; refine wpList_append_at rfl _ _ _ rfl w.heap.size 68 i0 _ 2 16 Tryd.underlying28 HI.out HZ0.out HZ1.out HZ2.out rfl (by omega) _ len (prs (A ++ (f, t) :: B)) rfl HO.out ⟨w2.heap.size, 0, none⟩ 1 1 [.int .i64 999, .int .i64 999] rfl rfl hnw.out (by simp [Value.oneCell']) (by unfold maxLen; omega) (by omega) (by simp; omega) ?_; intro v3 w3 hown3 hg3)
  have hown4 : w3.ownsRow w.heap.size 68 2 v3 (len + 1) (prs (A ++ (f, t) :: B ++ [(999, 999)])) := by rw [prs_snoc]; exact hown3
  have HG3 := Lib.hid (HAL.out.grown hg3 (by simp; omega) (fun j e => by cases e; exact hgb))
  clear hown3 hg3
  obtain ⟨a3, c3, rfl⟩ := owns_slice hown4
  have HOW := Lib.hid hown4
  clear hown4
  go_wp2_with fail
  go_ret
  refine ⟨_, rfl, A ++ (f, t) :: B ++ [(999, 999)], ?_, BdL_app.2 ⟨BdL_app.2 ⟨HBA.out.mono (by omega), BdL_cons.2 ⟨⟨by omega, by omega, by omega, by omega⟩, HBB.out.mono (by omega)⟩⟩, BdL_cons.2 ⟨⟨by omega, by omega, by omega, by omega⟩, BdL_nil⟩⟩, by simp; omega, HG3.out⟩
  rw [show (A ++ (f, t) :: B ++ [((999, 999) : Sp)]).length = len + 1 by simp; omega]
  exact HOW.out

set_option maxRecDepth 100000 in
set_option maxHeartbeats 4000000 in
theorem bent_4 (v : Value) (l : List Sp) (how n M : Int) (w : World) (h : RdP w v l) (hl : l.length ≤ 1000) (hM : 1000 ≤ M) (hM9 : M ≤ 1000000) (hb : BdL M l) (h1 : -9223372036854775808 ≤ how) (h2 : how ≤ 9223372036854775807) (h3 : -9223372036854775808 ≤ n) (h4 : n ≤ 9223372036854775807) (hne : l ≠ []) (hr : around how 7 = 4) :
    Calls Tryd.prog 14 #[v, .int .i64 how, .int .i64 n] w (BentOut M l.length w) := by
  obtain ⟨i0, hi0, hz0, hz1, hz2⟩ := info_parts Tryd.info68
  have HI := Lib.hid hi0; have HZ0 := Lib.hid hz0; have HZ1 := Lib.hid hz1; have HZ2 := Lib.hid hz2
  clear hi0 hz0 hz1 hz2
  have B0 := (Below.refl w.heap.size w).alloc (Nat.le_refl _) (.cells #[] 68)
  obtain ⟨ad0, c0, rfl, hnw⟩ := (h.below B0).news hne
  obtain ⟨len, hlen⟩ : ∃ len, l.length = len := ⟨_, rfl⟩
  have hlen0 : 0 < len := by rw [← hlen]; exact List.length_pos_iff.2 hne
  rw [hlen] at hl ⊢
  have OB : (w.alloc (.cells #[] 68)).ownsRow w.heap.size 68 2 (.slice (some ⟨w.heap.size, 0, none⟩) 0 0) 0 (prs []) := owns_block (Boxs.new w 68 #[]) (Nat.le_refl _) rfl rfl (by omega)
  have HO := Lib.hid OB; have HNW := Lib.hid hnw; have HB0 := Lib.hid B0
  have HLN := Lib.hid (show (prs l).length = len * 2 by rw [prs_len, hlen])
  have HBD := Lib.hid hb
  have HLEN := Lib.hid hlen
  clear OB hnw B0 h hne hb hlen
  obtain ⟨k, hk, hk9⟩ : ∃ k : Nat, around n (len : Int) = k ∧ k < len := ⟨(around n len).toNat, by have := around_bd n len (by omega); omega, by have := around_bd n len (by omega); omega⟩
  have AR := fun W => around_any n len W h3 h4 (by omega) (by omega)
  have AH := fun W => around_any how 7 W h1 h2 (by omega) (by omega)
  rw [hk] at AR
  rw [hr] at AH
  clear hk hr
  have hlen0i : (0 : Int) < (len : Int) := by omega
  have hk0 : (0 : Int) ≤ (k : Int) := by omega
  have hki : (k : Int) < (len : Int) := by omega
  have hleni : (len : Int) ≤ 1000 := by omega
  go_enter Tryd.func14, Tryd.ntmps14
  go_wp2_with (at_builtin; refine wpList_append_at rfl _ _ _ rfl w.heap.size 68 i0 _ 2 16 Tryd.underlying28 HI.out HZ0.out HZ1.out HZ2.out rfl (by omega) _ 0 (prs []) rfl HO.out ad0 len c0 (prs l) rfl HLN.out HNW.out (prs_one _) (by unfold maxLen; omega) (by omega) (by simp) ?_; intro v2 w2 hown2 hg2; rw [Nat.zero_add] at hown2; obtain ⟨g, cap, rfl, hgb, hgl⟩ := hown2.form hlen0)
  have HG2 := Lib.hid (HB0.out.grown hg2 (by simp) (fun j e => by cases e; exact Nat.le_refl _))
  rw [show prs [] ++ prs l = prs l from rfl] at hown2
  obtain ⟨A, f, t, B, hlAB, hA⟩ := split_at (l := l) (k := k) (by rw [HLEN.out]; exact hk9)
  have HBL := HBD.out
  rw [hlAB] at hown2 HBL
  have hAB : A.length + B.length + 1 = len := by have := HLEN.out; rw [hlAB] at this; simp at this; omega
  obtain ⟨hbA, hbB⟩ := BdL_app.1 HBL
  obtain ⟨⟨hf1, hf2, ht1, ht2⟩, hbB⟩ := BdL_cons.1 hbB
  have HO2 := Lib.hid hown2
  have cf := hown2.cellAt (k * 2) (by omega)
  have ct := hown2.cellAt (k * 2 + 1) (by omega)
  rw [show (prs (A ++ (f, t) :: B))[k * 2]? = some (.int .i64 f) from prs_at _ k 0 (f, t) (by rw [← hA]; simp) (by omega)] at cf
  rw [show (prs (A ++ (f, t) :: B))[k * 2 + 1]? = some (.int .i64 t) from prs_at _ k 1 (f, t) (by rw [← hA]; simp) (by omega)] at ct
  have ff := hown2.frozenAt (k * 2)
  have ft := hown2.frozenAt (k * 2 + 1)
  have hs2 := HG2.out.size
  have HBA := Lib.hid hbA; have HBB := Lib.hid hbB
  clear hown2 hg2 HBL hbA hbB HO HNW HLN HB0 HBD
  refine (AR _).mono ?_
  rintro e w3 ⟨rfl, rfl⟩
  go_wp2_with fail
  refine (AH _).mono ?_
  rintro e w3 ⟨rfl, rfl⟩
  have hq4 : -9223372036854775808 ≤ n.tdiv 4 ∧ n.tdiv 4 ≤ 9223372036854775807 := by
    rcases Int.le_total 0 n with h0 | h0
    · rw [Int.tdiv_eq_ediv_of_nonneg h0]; omega
    · have e : n.tdiv 4 = -((-n).tdiv 4) := by rw [Int.neg_tdiv]; omega
      rw [e, Int.tdiv_eq_ediv_of_nonneg (by omega)]; omega
  have hwq : IntKind.i64.wrap (n.tdiv 4) = n.tdiv 4 := by rw [IntKind.wrap_i64]; omega
  obtain ⟨m, hm, hm9⟩ : ∃ m : Nat, around (n.tdiv 4) 4 = m ∧ m < 4 := ⟨(around (n.tdiv 4) 4).toNat, by have := around_bd (n.tdiv 4) 4 (by omega); omega, by have := around_bd (n.tdiv 4) 4 (by omega); omega⟩
  have A4 := fun W => around_any (n.tdiv 4) 4 W hq4.1 hq4.2 (by omega) (by omega)
  rw [hm] at A4
  have hm9i : (m : Int) < 4 := by omega
  have bx := Boxs.new w2 3 #[.int .i64 0, .int .i64 999, .int .i64 1000, .int .i64 (-1)]
  obtain ⟨y, hy, hin⟩ := tbl_in bx (L := [0, 999, 1000, -1]) rfl m hm9
  have hy1 : -1 ≤ y ∧ y ≤ 1000 := by
    simp only [List.mem_cons, List.not_mem_nil, or_false] at hin
    omega
  have hst := (HO2.out.stored (k * 2 + 1) (.int .i64 y)).1
  rw [← hA, prs_set1, hA] at hst
  have HST := Lib.hid (hst.alloc (.cells #[.int .i64 0, .int .i64 999, .int .i64 1000, .int .i64 (-1)] 3))
  clear hst bx hm
  go_wp2_with fail
  refine (A4 _).mono ?_
  rintro e w3 ⟨rfl, rfl⟩
  go_wp2_with fail
  go_ret
  refine ⟨_, rfl, A ++ (f, y) :: B, ?_, BdL_app.2 ⟨HBA.out.mono (by omega), BdL_cons.2 ⟨⟨by omega, by omega, by omega, by omega⟩, HBB.out.mono (by omega)⟩⟩, by simp; omega, (HG2.out.setCell (p := ⟨g, _, none⟩) hgb _).alloc (by simp; omega) _⟩
  rw [show (A ++ (f, y) :: B).length = len by simp; omega]
  exact HST.out

set_option maxRecDepth 100000 in
set_option maxHeartbeats 4000000 in
theorem bent_5 (v : Value) (l : List Sp) (how n M : Int) (w : World) (h : RdP w v l) (hl : l.length ≤ 1000) (hM : 1000 ≤ M) (hM9 : M ≤ 1000000) (hb : BdL M l) (h1 : -9223372036854775808 ≤ how) (h2 : how ≤ 9223372036854775807) (h3 : -9223372036854775808 ≤ n) (h4 : n ≤ 9223372036854775807) (hne : l ≠ []) (hr : around how 7 = 5) :
    Calls Tryd.prog 14 #[v, .int .i64 how, .int .i64 n] w (BentOut M l.length w) := by
  obtain ⟨i0, hi0, hz0, hz1, hz2⟩ := info_parts Tryd.info68
  have HI := Lib.hid hi0; have HZ0 := Lib.hid hz0; have HZ1 := Lib.hid hz1; have HZ2 := Lib.hid hz2
  clear hi0 hz0 hz1 hz2
  have B0 := (Below.refl w.heap.size w).alloc (Nat.le_refl _) (.cells #[] 68)
  obtain ⟨ad0, c0, rfl, hnw⟩ := (h.below B0).news hne
  obtain ⟨len, hlen⟩ : ∃ len, l.length = len := ⟨_, rfl⟩
  have hlen0 : 0 < len := by rw [← hlen]; exact List.length_pos_iff.2 hne
  rw [hlen] at hl ⊢
  have OB : (w.alloc (.cells #[] 68)).ownsRow w.heap.size 68 2 (.slice (some ⟨w.heap.size, 0, none⟩) 0 0) 0 (prs []) := owns_block (Boxs.new w 68 #[]) (Nat.le_refl _) rfl rfl (by omega)
  have HO := Lib.hid OB; have HNW := Lib.hid hnw; have HB0 := Lib.hid B0
  have HLN := Lib.hid (show (prs l).length = len * 2 by rw [prs_len, hlen])
  have HBD := Lib.hid hb
  have HLEN := Lib.hid hlen
  clear OB hnw B0 h hne hb hlen
  obtain ⟨k, hk, hk9⟩ : ∃ k : Nat, around n (len : Int) = k ∧ k < len := ⟨(around n len).toNat, by have := around_bd n len (by omega); omega, by have := around_bd n len (by omega); omega⟩
  have AR := fun W => around_any n len W h3 h4 (by omega) (by omega)
  have AH := fun W => around_any how 7 W h1 h2 (by omega) (by omega)
  rw [hk] at AR
  rw [hr] at AH
  clear hk hr
  have hlen0i : (0 : Int) < (len : Int) := by omega
  have hk0 : (0 : Int) ≤ (k : Int) := by omega
  have hki : (k : Int) < (len : Int) := by omega
  have hleni : (len : Int) ≤ 1000 := by omega
  go_enter Tryd.func14, Tryd.ntmps14
  go_wp2_with (at_builtin; refine wpList_append_at rfl _ _ _ rfl w.heap.size 68 i0 _ 2 16 Tryd.underlying28 HI.out HZ0.out HZ1.out HZ2.out rfl (by omega) _ 0 (prs []) rfl HO.out ad0 len c0 (prs l) rfl HLN.out HNW.out (prs_one _) (by unfold maxLen; omega) (by omega) (by simp) ?_; intro v2 w2 hown2 hg2; rw [Nat.zero_add] at hown2; obtain ⟨g, cap, rfl, hgb, hgl⟩ := hown2.form hlen0)
  have HG2 := Lib.hid (HB0.out.grown hg2 (by simp) (fun j e => by cases e; exact Nat.le_refl _))
  rw [show prs [] ++ prs l = prs l from rfl] at hown2
  obtain ⟨A, f, t, B, hlAB, hA⟩ := split_at (l := l) (k := k) (by rw [HLEN.out]; exact hk9)
  have HBL := HBD.out
  rw [hlAB] at hown2 HBL
  have hAB : A.length + B.length + 1 = len := by have := HLEN.out; rw [hlAB] at this; simp at this; omega
  obtain ⟨hbA, hbB⟩ := BdL_app.1 HBL
  obtain ⟨⟨hf1, hf2, ht1, ht2⟩, hbB⟩ := BdL_cons.1 hbB
  have HO2 := Lib.hid hown2
  have cf := hown2.cellAt (k * 2) (by omega)
  have ct := hown2.cellAt (k * 2 + 1) (by omega)
  rw [show (prs (A ++ (f, t) :: B))[k * 2]? = some (.int .i64 f) from prs_at _ k 0 (f, t) (by rw [← hA]; simp) (by omega)] at cf
  rw [show (prs (A ++ (f, t) :: B))[k * 2 + 1]? = some (.int .i64 t) from prs_at _ k 1 (f, t) (by rw [← hA]; simp) (by omega)] at ct
  have ff := hown2.frozenAt (k * 2)
  have ft := hown2.frozenAt (k * 2 + 1)
  have hs2 := HG2.out.size
  have HBA := Lib.hid hbA; have HBB := Lib.hid hbB
  clear hown2 hg2 HBL hbA hbB HO HNW HLN HB0 HBD
  refine (AR _).mono ?_
  rintro e w3 ⟨rfl, rfl⟩
  go_wp2_with fail
  refine (AH _).mono ?_
  rintro e w3 ⟨rfl, rfl⟩
  have hOA := owns_part HO2.out
  rw [hA] at hOA
  have HOA := Lib.hid (show (w2.drewN 1).ownsRow w.heap.size 68 2 (.slice (some ⟨g, 0, none⟩) k cap) k (prs A) from hOA)
  have hcap : len ≤ cap := by
    rcases HO2.out.2 with ⟨he, _⟩ | ⟨g', cap', cur, he, _, _, hn, _⟩
    · cases he
    · obtain ⟨rfl, rfl⟩ : g = g' ∧ cap = cap' := by simpa using he
      exact hn
  have hnB : ∃ ad : Addr, (ad = if cap = k + 1 then ⟨g, 0, none⟩ else ⟨g, (k + 1) * 2, none⟩) ∧ ∀ j u, (prs B)[j]? = some u → w2.cell? (ad.add j) = some u := by
    by_cases hc : cap = k + 1
    · refine ⟨_, (if_pos hc).symm, fun j u hj => ?_⟩
      have h9 := (List.getElem?_eq_some_iff.1 hj).1
      rw [prs_len] at h9
      omega
    · refine ⟨_, (if_neg hc).symm, fun j u hj => ?_⟩
      have h9 := World.ownsRow.cells HO2.out (g := g) rfl ((k + 1) * 2 + j) u (by
        rw [show A ++ (f, t) :: B = (A ++ [(f, t)]) ++ B by simp, prs_app, List.getElem?_append_right (by rw [prs_len]; simp; omega), prs_len]
        rw [show (k + 1) * 2 + j - (A ++ [(f, t)]).length * 2 = j by simp; omega]
        exact hj)
      have e1 : (⟨g, 0, none⟩ : Addr).add ((k + 1) * 2 + j) = ⟨g, (k + 1) * 2 + j, none⟩ := by unfold Addr.add; split <;> simp_all
      have e2 : (⟨g, (k + 1) * 2, none⟩ : Addr).add j = ⟨g, (k + 1) * 2 + j, none⟩ := by unfold Addr.add; split <;> simp_all
      rw [e1] at h9
      rw [e2]
      exact h9
  obtain ⟨ad, had, hnw⟩ := hnB
  have HNW := Lib.hid (show ∀ j u, (prs B)[j]? = some u → (w2.drewN 1).cell? (ad.add j) = some u from hnw)
  have HAD := Lib.hid had
  have hk1i : (k : Int) + 1 ≤ (len : Int) := by omega
  have hwk : IntKind.i64.wrap ((k : Int) + 1) = (k : Int) + 1 := by rw [IntKind.wrap_i64]; omega
  have hcapi : (len : Int) ≤ (cap : Int) := by omega
  have hck : (k : Int) ≤ (cap : Int) := by omega
  have hck2 : ¬ cap < k := by omega
  have hk10 : (0 : Int) ≤ (k : Int) + 1 := by omega
  clear hOA had hnw
  go_wp2_with fail
  refine wp_region_held (S := fun _ => True) (by kernel_rfl) ?_
  have hdr : (w2).drew = { w2 with drawn := (w2).drawn + 1 } := rfl
  rw [← hdr]
  clear hdr
  refine wpAnyHTake 0 (some 96) (.slice (some ⟨g, 0, none⟩) len cap) rfl rfl (by kernel_rfl) (by kernel_rfl) (by kernel_rfl) (fun _ _ _ h => h) (by rfl) (fun _ _ => by rfl) (trivial) ?_
  simp only [Act.put, List.setIfInBounds_toArray, List.set_cons_zero, List.set_cons_succ]
  refine wpAnyHTake 1 (some 97) (.int .i64 (k : Int)) rfl rfl (by kernel_rfl) (by kernel_rfl) (by kernel_rfl) (fun _ _ _ h => h) (by rfl) (fun _ _ => by rfl) (trivial) ?_
  simp only [Act.put, List.setIfInBounds_toArray, List.set_cons_zero, List.set_cons_succ]
  refine wpAnyHTake 2 (some 98) (.slice (some ⟨g, 0, none⟩) k cap) rfl rfl (by kernel_rfl) (by kernel_rfl) (by kernel_rfl) (fun _ _ _ h => h) (by rfl) (fun _ _ => by go_simp) (trivial) ?_
  simp only [Act.put, List.setIfInBounds_toArray, List.set_cons_zero, List.set_cons_succ]
  refine wpAnyHTake 3 (some 99) (.slice (some ⟨g, 0, none⟩) len cap) rfl rfl (by kernel_rfl) (by kernel_rfl) (by kernel_rfl) (fun _ _ _ h => h) (by rfl) (fun _ _ => by rfl) (trivial) ?_
  simp only [Act.put, List.setIfInBounds_toArray, List.set_cons_zero, List.set_cons_succ]
  refine wpAnyHTake 4 (some 100) (.int .i64 (k : Int)) rfl rfl (by kernel_rfl) (by kernel_rfl) (by kernel_rfl) (fun _ _ _ h => h) (by rfl) (fun _ _ => by rfl) (trivial) ?_
  simp only [Act.put, List.setIfInBounds_toArray, List.set_cons_zero, List.set_cons_succ]
  refine wpAnyHTake 5 (some 101) (.int .i64 ((k : Int) + 1)) rfl rfl (by kernel_rfl) (by kernel_rfl) (by kernel_rfl) (fun _ _ _ h => h) (by rfl) (fun _ _ => by go_simp) (trivial) ?_
  simp only [Act.put, List.setIfInBounds_toArray, List.set_cons_zero, List.set_cons_succ]
  refine wpAnyHTake 6 (some 102) (.slice (some ad) (len - (k + 1)) (cap - (k + 1))) rfl rfl (by kernel_rfl) (by kernel_rfl) (by kernel_rfl) (fun _ _ _ h => h) (by rfl) (fun _ _ => by go_simp; rw [HAD.out]; split <;> rfl) (trivial) ?_
  simp only [Act.put, List.setIfInBounds_toArray, List.set_cons_zero, List.set_cons_succ]
  have hm : B.length = len - (k + 1) := by omega
  refine wpAnyHAppend 7 (some 103) (by kernel_rfl) rfl rfl (by rfl) (.tmp 98) (.tmp 102) 28 rfl w.heap.size 68 i0 _ 2 16 Tryd.underlying28 HI.out HZ0.out HZ1.out HZ2.out rfl (by omega) _ k (prs A) rfl HOA.out ad (len - (k + 1)) (cap - (k + 1)) (prs B) rfl (by rw [prs_len]; omega) HNW.out (prs_one _) (by unfold maxLen; omega) (by omega) (by simp; omega) ?_
  intro v3 w3 hown3 hg3
  refine ⟨trivial, ?_⟩
  simp only [Act.put, List.setIfInBounds_toArray, List.set_cons_zero, List.set_cons_succ]
  rw [← prs_app] at hown3
  have HG3 := Lib.hid ((Below.dn HG2.out 1).grown hg3 (by simp; omega) (fun j e => by cases e; exact hgb))
  obtain ⟨a3, c3, rfl⟩ := owns_slice hown3
  have HOW := Lib.hid hown3
  clear hown3 hg3
  refine wpAnyHTake 8 (some 7) (.slice a3 (k + (len - (k + 1))) c3) rfl rfl (by kernel_rfl) (by kernel_rfl) (by kernel_rfl) (fun _ _ _ h => h) (by rfl) (fun _ _ => by rfl) (trivial) ?_
  simp only [Act.put, List.setIfInBounds_toArray, List.set_cons_zero, List.set_cons_succ]
  refine wpAnyH_done (by kernel_rfl) ?_ _
  go_wp2_with fail
  go_ret
  refine ⟨_, rfl, A ++ B, ?_, BdL_app.2 ⟨HBA.out.mono (by omega), HBB.out.mono (by omega)⟩, by simp; omega, HG3.out⟩
  rw [show (A ++ B).length = k + (len - (k + 1)) by simp; omega]
  exact HOW.out

theorem bent_any (v : Value) (l : List Sp) (how n M : Int) (w : World) (h : RdP w v l) (hl : l.length ≤ 1000) (hM : 1000 ≤ M) (hM9 : M ≤ 1000000) (hb : BdL M l) (h1 : -9223372036854775808 ≤ how) (h2 : how ≤ 9223372036854775807) (h3 : -9223372036854775808 ≤ n) (h4 : n ≤ 9223372036854775807) :
    Calls Tryd.prog 14 #[v, .int .i64 how, .int .i64 n] w (BentOut M l.length w) := by
  by_cases hne : l = []
  · exact bent_nil v l how n M w h hl hM hM9 hb h1 h2 h3 h4 hne
  · have hr := around_bd how 7 (by omega)
    have hr7 : around how 7 = 0 ∨ around how 7 = 1 ∨ around how 7 = 2 ∨ around how 7 = 3 ∨ around how 7 = 4 ∨ around how 7 = 5 ∨ around how 7 = 6 := by omega
    rcases hr7 with h9 | h9 | h9 | h9 | h9 | h9 | h9
    · exact bent_0 v l how n M w h hl hM hM9 hb h1 h2 h3 h4 hne h9
    · exact bent_1 v l how n M w h hl hM hM9 hb h1 h2 h3 h4 hne h9
    · exact bent_2 v l how n M w h hl hM hM9 hb h1 h2 h3 h4 hne h9
    · exact bent_3 v l how n M w h hl hM hM9 hb h1 h2 h3 h4 hne h9
    · exact bent_4 v l how n M w h hl hM hM9 hb h1 h2 h3 h4 hne h9
    · exact bent_5 v l how n M w h hl hM hM9 hb h1 h2 h3 h4 hne h9
    · exact bent_6 v l how n M w h hl hM hM9 hb h1 h2 h3 h4 hne h9
end Go.Proofs.YtecdkpcapalifaaDoor

namespace Go.Proofs.YtecdkpcapalifaaDoor
open Go.RowKit Go.Maps

/-- a table of lists -/
def TabP (W : World) (B n : Nat) (P : List Sp → Prop) : Prop := B < W.heap.size ∧ ∀ k, k < n → ∃ a c L, W.cell? ⟨B, k, none⟩ = some (.slice a L.length c) ∧ RdP W (.slice a L.length c) L ∧ P L
theorem TabP.below {W W' : World} {B n : Nat} {P : List Sp → Prop} (h : TabP W B n P) (hb : Below W.heap.size W W') : TabP W' B n P :=
  ⟨Nat.lt_of_lt_of_le h.1 hb.size, fun k hk => by
    obtain ⟨a, c, L, h1, h2, h3⟩ := h.2 k hk
    exact ⟨a, c, L, (hb.cell (p := ⟨B, k, none⟩) h.1).trans h1, h2.below hb, h3⟩⟩
theorem RdP.form {w : World} {v : Value} {L : List Sp} (h : RdP w v L) : ∃ a c, v = .slice a L.length c := by
  obtain ⟨a, c, rfl, _⟩ := h.open
  exact ⟨a, c, rfl⟩
theorem tab4 {w : World} {t : TypeId} {va vb vc vd : Value} {A B C D : List Sp} {P : List Sp → Prop} (ha : RdP w va A) (hb : RdP w vb B) (hc : RdP w vc C) (hd : RdP w vd D) (pa : P A) (pb : P B) (pc : P C) (pd : P D) :
    TabP (w.alloc (.cells #[va, vb, vc, vd] t)) w.heap.size 4 P := by
  have bx := Boxs.new w t #[va, vb, vc, vd]
  have bl := (Below.refl w.heap.size w).alloc (Nat.le_refl _) (.cells #[va, vb, vc, vd] t)
  refine ⟨bx.lt, fun k hk => ?_⟩
  obtain ⟨a1, c1, rfl⟩ := ha.form
  obtain ⟨a2, c2, rfl⟩ := hb.form
  obtain ⟨a3, c3, rfl⟩ := hc.form
  obtain ⟨a4, c4, rfl⟩ := hd.form
  match k, hk with
  | 0, _ => exact ⟨_, _, A, bx.cell 0, ha.below bl, pa⟩
  | 1, _ => exact ⟨_, _, B, bx.cell 1, hb.below bl, pb⟩
  | 2, _ => exact ⟨_, _, C, bx.cell 2, hc.below bl, pc⟩
  | 3, _ => exact ⟨_, _, D, bx.cell 3, hd.below bl, pd⟩
/-- a style in a block, from offset o on -/
def StyC (W : World) (B o : Nat) (s : Sty) : Prop := W.cell? ⟨B, o, none⟩ = some (.int .i64 s.k) ∧ W.cell? ⟨B, o + 1, none⟩ = some (.bool s.nx) ∧ W.cell? ⟨B, o + 2, none⟩ = some (.int .i64 s.row) ∧ W.cell? ⟨B, o + 3, none⟩ = some (.int .i64 s.pas)
theorem StyC.below {W W' : World} {B o : Nat} {s : Sty} {n : Nat} (h : StyC W B o s) (hb : Below n W W') (hB : B < n) : StyC W' B o s :=
  ⟨(hb.cell (p := ⟨B, o, none⟩) hB).trans h.1, (hb.cell (p := ⟨B, o + 1, none⟩) hB).trans h.2.1, (hb.cell (p := ⟨B, o + 2, none⟩) hB).trans h.2.2.1, (hb.cell (p := ⟨B, o + 3, none⟩) hB).trans h.2.2.2⟩
/-- a table of two styles -/
def TabS (W : World) (B : Nat) (P : Sty → Prop) : Prop := B < W.heap.size ∧ ∀ k, k < 2 → ∃ s, StyC W B (k * 4) s ∧ P s
theorem TabS.below {W W' : World} {B : Nat} {P : Sty → Prop} (h : TabS W B P) (hb : Below W.heap.size W W') : TabS W' B P :=
  ⟨Nat.lt_of_lt_of_le h.1 hb.size, fun k hk => by
    obtain ⟨s, h1, h2⟩ := h.2 k hk
    exact ⟨s, h1.below hb h.1, h2⟩⟩
theorem tabS2 {w : World} {t : TypeId} {s1 s2 : Sty} {P : Sty → Prop} (p1 : P s1) (p2 : P s2) :
    TabS (w.alloc (.cells #[.int .i64 s1.k, .bool s1.nx, .int .i64 s1.row, .int .i64 s1.pas, .int .i64 s2.k, .bool s2.nx, .int .i64 s2.row, .int .i64 s2.pas] t)) w.heap.size P := by
  have bx := Boxs.new w t #[.int .i64 s1.k, .bool s1.nx, .int .i64 s1.row, .int .i64 s1.pas, .int .i64 s2.k, .bool s2.nx, .int .i64 s2.row, .int .i64 s2.pas]
  refine ⟨bx.lt, fun k hk => ?_⟩
  match k, hk with
  | 0, _ => exact ⟨s1, ⟨bx.cell 0, bx.cell 1, bx.cell 2, bx.cell 3⟩, p1⟩
  | 1, _ => exact ⟨s2, ⟨bx.cell 4, bx.cell 5, bx.cell 6, bx.cell 7⟩, p2⟩
def inI (xs : List Int) : Prop := ∀ x, x ∈ xs → -9223372036854775808 ≤ x ∧ x ≤ 9223372036854775807
theorem nrm_BdL {L : List Sp} (h : nrm L = true) : BdL 1000 L := fun x hx => by have := nrm_bd h x hx; omega
end Go.Proofs.YtecdkpcapalifaaDoor

namespace Go.Proofs.YtecdkpcapalifaaDoor
open Go.ChangeShapes Go.WideShapes Go.ChangeAt Go.RowKit

theorem addr_add (b off i : Nat) : (⟨b, off, none⟩ : Addr).add i = ⟨b, off + i, none⟩ := by
  unfold Addr.add
  split
  · next h => subst h; rfl
  · rfl
theorem spot_none {W : World} {a : Addr} {v : Value} (h : W.cell? a = some v) : a.spot = none := by
  unfold World.cell? at h
  split at h
  · split at h
    · cases h
    · rename_i hs; simpa using hs
  · cases h

section
variable {H : Type} {enc : TypeId × Value → H} {W : World}

theorem rd_ints0 {fuel : Nat} {v : Value} {x : DataW H × List MemPlace} (h : DataW.trod enc Tryd.prog W 0 (fun _ => true) true fuel 22 [v] = some x) :
    ∃ xs : List Int, RdI W v xs ∧ inI xs := by
  rcases open_ints Tryd.underlying22 Tryd.underlying3 (by kernel_rfl) h with ⟨hcs, _⟩ | ⟨x, l, c, zs, hcs, _, hl, hm, hz, _, hcell, hwz⟩
  · cases hcs
    exact ⟨[], RdI.none W, fun x hx => by cases hx⟩
  · cases hcs
    have hzl : zs.length = c := by simpa using hz
    have hc9 : c ≤ 9223372036854775807 := by unfold maxLen at hm; omega
    have htl : (zs.take l).length = l := by rw [List.length_take, hzl, Nat.min_eq_left hl]
    refine ⟨zs.take l, ⟨some x, c, by rw [ints_len, htl], by rw [ints_len, htl]; exact hl, hc9, ?_⟩, fun y hy => bounds_i64 (hwz y (List.mem_of_mem_take hy))⟩
    rcases Nat.eq_zero_or_pos l with h0 | hp
    · left; rw [ints_len, htl, h0]
    · right
      have h00 := hcell 0 (by omega)
      obtain ⟨xb, xo, xs⟩ := x
      have hsp : xs = none := by
        have := spot_none h00
        unfold Addr.add at this
        simpa using this
      subst hsp
      have hlt : xb < W.heap.size := by
        have := World.block_lt_of_cell? _ _ h00
        rw [addr_add] at this; exact this
      refine ⟨xb, xo, rfl, hlt, fun j u hu => ?_⟩
      unfold ints at hu
      rw [List.getElem?_map] at hu
      obtain ⟨y, hy, rfl⟩ := Option.map_eq_some_iff.1 hu
      rw [List.getElem?_take] at hy
      split at hy
      · obtain ⟨h1, h2⟩ := List.getElem?_eq_some_iff.1 hy
        have := hcell j h1
        rw [addr_add] at this
        rw [this, List.getD_eq_getElem?_getD, hy]; rfl
      · cases hy
set_option maxRecDepth 100000 in
theorem rd_list {base : Nat} {v : Value} {d : DataW H} {p : List MemPlace} (hv : Value.okWide Tryd.prog W .any base 22 v) (h : DataW.Trod enc Tryd.prog W 0 (fun _ => true) true 22 v d p) : ∃ xs : List Int, RdI W v xs ∧ inI xs := by
  obtain ⟨a, len, cap, rfl⟩ := okWide_slice Tryd.underlying22 hv
  obtain ⟨fuel, hf⟩ := h
  exact rd_ints0 hf
end

theorem ml_of {W : World} (h : W.ShapedOpen Tryd.prog) : ML W :=
  cell_of_shapedOpen_int (g := 0) (t := 3) (zero := #[.int .i64 0]) h (of_decide_eq_true (by kernel_rfl)) (by kernel_rfl) rfl (by kernel_rfl) (by kernel_rfl) Tryd.underlying3
theorem met (os : Os) (args : Array Value) : laidMetH Tryd.prog Rows.spanNormalRow.laid ((World.laidAll Tryd.prog os Rows.spanNormalRow.laid).forCall (fun _ _ => 0) ⟨#[], args, []⟩).memory := by
  rw [MakeChecks.laidMetH_plain _ _ _ (by kernel_rfl)]; exact laidMet_laidAll _ (by kernel_rfl) (by kernel_rfl)
end Go.Proofs.YtecdkpcapalifaaDoor

