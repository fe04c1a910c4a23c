/- The disk: settle. -/
import Derived.Test.YtdanhfanepmhkaaDf
import Derived.Stop.BytesEq
import Derived.Laws.IdiomCopy
namespace Go.Proofs.Ytdanhfanepmhkaa
open Go.RowKit Go.Maps

theorem Boxs.cells {b : Nat} {t : TypeId} : ∀ (vs : List Value) (o : Nat) {W : World} {cs : Array Value}, Boxs W b t cs → o + vs.length ≤ cs.size →
    ∃ C : Array Value, Boxs (W.setCells b o vs) b t C ∧ C.toList = cs.toList.take o ++ vs ++ cs.toList.drop (o + vs.length)
  | [], o, W, cs, h, _ => ⟨cs, h, by simp⟩
  | v :: r, o, W, cs, h, ho => by
    rw [List.length_cons] at ho
    obtain ⟨C, h1, h2⟩ := Boxs.cells r (o + 1) (h.put o v) (by simpa using by omega)
    refine ⟨C, h1, ?_⟩
    have hl : o < cs.toList.length := by simpa using by omega
    have e1 : (cs.toList.set o v).take (o + 1) = cs.toList.take o ++ [v] := by
      rw [List.take_succ_eq_append_getElem (by simpa using hl), List.take_set_of_le (Nat.le_refl _)]
      simp
    have e2 : (cs.toList.set o v).drop (o + 1 + r.length) = cs.toList.drop (o + 1 + r.length) := List.drop_set_of_lt (by omega)
    rw [h2, Array.toList_setIfInBounds, e1, e2]
    simp [Nat.add_comm, Nat.add_left_comm]

theorem Keeps.setCells {F : Nat → Prop} {a : World} {g : Nat} (hg : F g) : ∀ (vs : List Value) (o : Nat) {b : World}, Keeps F a b → Keeps F a (b.setCells g o vs)
  | [], _, _, h => h
  | v :: r, o, _, h => Keeps.setCells hg r (o + 1) (h.setCell (p := ⟨g, o, none⟩) hg v)

def mix (m : Nat) (s t : ByteArray) : ByteArray := ⟨(s.data.toList.take m ++ t.data.toList.drop m).toArray⟩
theorem bytesV_mix (m : Nat) (s t : ByteArray) : bytesV (mix m s t) = (bytesV s).take m ++ (bytesV t).drop m := by
  simp [bytesV, mix, List.map_take, List.map_drop]
theorem mix_size {m : Nat} {s t : ByteArray} (hs : s.size = 64) (ht : t.size = 64) (hm : m ≤ 64) : (mix m s t).size = 64 := by
  rw [← bytesV_len, bytesV_mix, List.length_append, List.length_take, List.length_drop, bytesV_len, bytesV_len]; omega

theorem flat_parts (S : List ByteArray) (hS : ∀ s, s ∈ S → s.size = 64) (k m : Nat) (hm : m ≤ 64) (t u : ByteArray) (hk : S[k]? = some t) :
    (S.set k u).flatMap bytesV = (S.flatMap bytesV).take (k * 64) ++ bytesV u ++ (S.flatMap bytesV).drop (k * 64 + 64) ∧
    (S.flatMap bytesV).drop (k * 64 + m) = (bytesV t).drop m ++ (S.flatMap bytesV).drop (k * 64 + 64) := by
  induction S generalizing k with
  | nil => simp at hk
  | cons a r ih =>
    have ha : (bytesV a).length = 64 := by rw [bytesV_len]; exact hS a (by simp)
    cases k with
    | zero =>
      simp at hk; subst hk
      simp only [List.set_cons_zero, List.flatMap_cons, Nat.zero_mul, Nat.zero_add, List.take_zero, List.nil_append]
      rw [List.drop_append_of_le_length (by omega), List.drop_append_of_le_length (by omega), List.drop_of_length_le (by omega : (bytesV a).length ≤ 64)]
      simp
    | succ k =>
      simp at hk
      obtain ⟨h1, h2⟩ := ih (fun s hs => hS s (by simp [hs])) k hk
      have e1 : ∀ x, (bytesV a ++ r.flatMap bytesV).drop ((k + 1) * 64 + x) = (r.flatMap bytesV).drop (k * 64 + x) := fun x => by
        rw [show (k + 1) * 64 + x = (bytesV a).length + (k * 64 + x) by omega, List.drop_length_add_append]
      have e2 : (bytesV a ++ r.flatMap bytesV).take ((k + 1) * 64) = bytesV a ++ (r.flatMap bytesV).take (k * 64) := by
        rw [show (k + 1) * 64 = (bytesV a).length + k * 64 by omega, List.take_length_add_append]
      simp only [List.set_cons_succ, List.flatMap_cons]
      rw [e1, e1, e2, h1, h2]
      simp

theorem Blk.mixed {w : World} {g : Nat} {S : List ByteArray} (h : Blk w g S) {k m : Nat} {s t : ByteArray} (hk : S[k]? = some t) (hs : s.size = 64) (hm : m ≤ 64) : Blk (w.setCells g (k * 64) ((bytesV s).take m)) g (S.set k (mix m s t)) := by
  obtain ⟨C, h1, ⟨R, h2⟩, h3⟩ := h
  have ht := h3 t (List.mem_of_getElem? hk)
  obtain ⟨e1, e2⟩ := flat_parts S h3 k m hm t (mix m s t) hk
  have hl : ((bytesV s).take m).length = m := by rw [List.length_take, bytesV_len]; omega
  have hlf : k * 64 + 64 ≤ (S.flatMap bytesV).length := by
    have e3 := congrArg List.length (flat_parts S h3 k 0 (by omega) t t hk).2
    rw [List.length_append, List.length_drop, List.length_drop, List.length_drop, bytesV_len, ht] at e3
    omega
  have hlen : k * 64 + 64 ≤ C.size := by
    have hc : C.size = (S.flatMap bytesV ++ R).length := by rw [← h2]; simp
    rw [hc, List.length_append]; omega
  obtain ⟨C', g1, g2⟩ := Boxs.cells ((bytesV s).take m) (k * 64) h1 (by rw [hl]; omega)
  refine ⟨C', g1, ⟨R, ?_⟩, fun x hx => ?_⟩
  · rw [g2, hl, h2, e1, List.take_append_of_le_length (by omega), List.drop_append_of_le_length (by omega), e2, bytesV_mix]
    simp
  · rcases List.mem_or_eq_of_mem_set hx with hx | rfl
    · exact h3 x hx
    · exact mix_size hs ht hm

theorem mix_self (m : Nat) (t : ByteArray) : mix m t t = t := by
  unfold mix
  rw [List.take_append_drop]
theorem set_same {α : Type} {l : List α} {k : Nat} {t : α} (h : l[k]? = some t) : l.set k t = l := by
  obtain ⟨hk, e⟩ := List.getElem?_eq_some_iff.1 h
  rw [← e]
  exact List.set_getElem_self hk

theorem neq_blk {s t : ByteArray} (hs : s.size = 64) (ht : t.size = 64) (w : World) : (binOp .neq 74 (blkV s) (blkV t)).run Try.prog w = .ok (.bool (!(s.data.toList == t.data.toList))) w := by
  have := run_equalIn_bytes (P := Try.prog) w 9998 74 5 64 Try.underlying74 Try.underlying5 (fun w => by exact (by simp)) s.data.toList t.data.toList (by simpa using hs) (by simpa using ht)
  have e : ∀ x : ByteArray, (bytesV x).toArray = (x.data.toList.map Extern.Stop.cell).toArray := fun _ => rfl
  unfold blkV
  rw [run_neq_struct, e, e, this]
  rfl

theorem pendD_del (P : Nat → Option ByteArray) (k : Nat) : (fun j => if j = k then none else pendD P j) = pendD (fun j => if j = k then none else P j) := by
  funext j
  unfold pendD
  by_cases h : j = k <;> simp [h]

theorem plainBool_inv {v : Value} {x : Bool} {ps : List MemPlace} (h : plainElem (H := Unit) Try.prog 4 v = some (.lit (.bool x), ps)) : v = .bool x := by
  unfold plainElem at h
  simp only [Try.underlying4] at h
  cases v with
  | bool y => cases h; rfl
  | _ => cases h
theorem execOp_neq {ρ : Operand → Value} {o : Oper} (x y : Operand) (ho : o.op = .binOp .neq 74 x y 74) {w : World} {a b : ByteArray} (hx : ρ x = blkV a) (hy : ρ y = blkV b) (ha : a.size = 64) (hb : b.size = 64) :
    (execOp ρ o).run Try.prog w = .ok (.value (.bool (!(a.data.toList == b.data.toList)))) w := by
  unfold execOp
  simp only [ho, hx, hy, Sem.run_bind, Sem.run_pure]
  rw [show blkV a = .agg (bytesV a).toArray from rfl, show blkV b = .agg (bytesV b).toArray from rfl, run_eqGuard_agg w .neq 74 x y _ _ (by kernel_rfl), Result.andThen_ok]
  rw [show Value.agg (bytesV a).toArray = blkV a from rfl, show Value.agg (bytesV b).toArray = blkV b from rfl, neq_blk ha hb]
  rfl
theorem wpAnyHPass {P : Program} {md : Region.Mode} {ops : Array Oper} {Q : Exit → Act → World → Prop} {S : World → Prop} {fuel : Nat} {listed : Array Bool} {a : Act} {w : World} (i : Nat) (d : Option Nat) {o : Oper} (hi : ops[i]? = some o) (hd : o.dst = d)
    (hs : Region.noSelect ops = true) (hf : Region.free md ops listed i = true) (hr : (Region.ready md ops listed).contains i = true)
    (hQ : ∀ c a w, Q (.panic c) (a.put d undef) w → Q (.panic c) a w) (hw : Region.wanted o (yielded ops a.tmps) = false) (hS : S w)
    (h : wpAnyH P md ops Q S fuel (listed.setIfInBounds i true) (a.put d undef) w) : wpAnyH P md ops Q S (fuel + 1) listed a w := by
  subst hd
  exact wpAnyH_take hi hs hf hr hQ (.inr ⟨hw, rfl⟩) hS h

theorem DskAt.setBlk {w w' : World} {A : At} {D : Dk} (h : DskAt w A D) {S : List ByteArray} (hb : Blk w' A.g S) (hk : Keeps (fun b => b = A.g) w w') (hl : S.length = D.S.length) : DskAt w' A { D with S := S } := by
  have h1 := h.box.keeps hk h.dg
  have h2 := h.pend.keeps hk (fun e => h.gp e.symm)
  have h3 := h.worn.keeps hk (fun e => h.gw e.symm)
  exact ⟨by rw [← hl] at h1; exact h1, hb, by rw [← hl] at h2; exact h2, by rw [← hl] at h3; exact h3, h.pw, by have := h.len; dsimp only; omega, by have := h.pos; dsimp only; omega, h.psz, h.lo, h.hi⟩

def Dk.settle (D : Dk) (k : Nat) (n : Int) : Dk :=
  { D with P := fun j => if j = k then none else D.P j, S := if D.W k = true then D.S else D.S.set k (mix (max 0 (min n 64)).toNat (D.at k) ((D.S[k]?).getD zero64)) }

set_option maxRecDepth 100000 in
set_option maxHeartbeats 4000000 in
theorem settle_any (A : At) (D : Dk) (k : Nat) (n : Int) (w : World) (h : DskAt w A D) (hk : k < D.S.length) {s : ByteArray} (hP : D.P k = some s) :
    Calls Try.prog 51 #[.pointer (some ⟨A.d, 0, none⟩), .int .i64 (k : Int), .int .i64 n] w fun e w' => e = .returned (.tuple #[]) ∧ DskAt w' A (D.settle k n) ∧ Keeps A.F w w' := by
  obtain ⟨t, ht⟩ : ∃ t, D.S[k]? = some t := ⟨_, List.getElem?_eq_getElem hk⟩
  have hsz := h.psz k s hP
  have htz : t.size = 64 := by obtain ⟨C, _, _, h3⟩ := h.blk; exact h3 t (List.mem_of_getElem? ht)
  obtain ⟨v, ps, hlk, hv⟩ := h.pend.look (t := 68) Try.underlying68 (zero74 w) (Rb_mk zero64) hk (by have := h.len; omega)
  have hv' : v = blkV s := by
    unfold pendD at hv; rw [hP] at hv; exact Rb_inv hv
  subst hv'
  clear hv
  have hlen := h.len
  have c1 := h.box.cell 1
  simp at c1
  have ha := (Keeps.refl (fun _ => False) w).alloc (.cells (bytesV s).toArray 74)
  have h1 := h.keeps ha (fun _ _ h => h)
  have c1' := h1.box.cell 1
  simp at c1'
  have HS := Lib.hid hsz; have H1 := Lib.hid h1; have HT := Lib.hid ht; have HTZ := Lib.hid htz; have HPP := Lib.hid hP; have HA := Lib.hid ha; have H := Lib.hid h
  clear hsz h1 ht htz hP ha h
  go_enter Try.func51, Try.ntmps51
  go_wp2_with (first | (refine wpList_store_row rfl 74 (.tmp 6) (.tmp 12) rfl w.heap.size (bytesV s).toArray rfl rfl 74 _ (heap_alloc_last w _) (by rw [sz64 HS.out]; exact size74) (by rw [sz64 HS.out]; rfl) (all_one _) ?_; rw [World.setRow_alloc_new]) | (refine wpMap_del _ Try.underlying68 rfl _ _ rfl A.p D.S.length (pendD D.P) rfl H1.out.pend (by omega) k hk rfl ?_; intro w2 hm hg))
  have hm' : MapIs Rb w2 A.p D.S.length (pendD fun j => if j = k then none else D.P j) := by rw [← pendD_del]; exact hm
  have h2 := H1.out.setPend hm' hg (fun j u hj => by
    by_cases e : j = k
    · rw [if_pos e] at hj; cases hj
    · rw [if_neg e] at hj; exact H.out.psz j u hj)
  have hb2 : Lib.Bytes w2 w.heap.size 0 s := fun i hi => by
    have hb := box_bytes (V := w) rfl s i hi
    exact (World.cell?_of_block (hg.block _ (World.block_lt_of_cell? _ _ hb) (fun e => by have := H.out.pend.lt; have := Option.some.inj e; dsimp only at this; omega))).trans hb
  have hK2 : Keeps A.F w w2 := (HA.out.mono (fun _ _ h => h.elim)).trans (Keeps.mapP hg)
  generalize hD1 : ({ D with P := fun j => if j = k then none else D.P j } : Dk) = D1 at h2
  obtain ⟨W0, hW0⟩ : ∃ W0, W0 = w2.drew := ⟨_, rfl⟩
  have k0 : Keeps (fun _ => False) w2 W0 := by rw [hW0]; exact (Keeps.refl _ _).drew
  have h3 := h2.keeps k0 (fun _ _ h => h)
  have hb3 : Lib.Bytes W0 w.heap.size 0 s := by rw [hW0]; exact hb2
  have eS : D1.S = D.S := by rw [← hD1]
  have eW : D1.W = D.W := by rw [← hD1]
  have d0 := h3.box.cell 0
  have d2 := h3.box.cell 2
  simp at d0 d2
  obtain ⟨v2, ps2, hlw, hv2⟩ := h3.worn.look (t := 69) Try.underlying69 (z := .bool false) (by go_simp) (plainElem_bool Try.underlying4 false) (by rw [eS]; exact hk) (by rw [eS]; omega)
  by_cases hw : D.W k = true
  · have e2 : v2 = .bool true := plainBool_inv (ps := ps2) (by rw [hv2, eW]; unfold wornD; rw [if_pos hw]; rfl)
    subst e2
    have hr : D.settle k n = D1 := by unfold Dk.settle; rw [if_pos hw, ← hD1]
    have HR := Lib.hid hr; have H3 := Lib.hid h3; have HB3 := Lib.hid hb3; have HK := Lib.hid (hK2.trans (k0.mono (fun _ _ h => h.elim))); have HD1 := Lib.hid hD1
    clear hr h3 hb3 hK2 hD1 hw hv2 h2 hb2 hm hm' hg eW eS
    refine wp_region_held (S := fun W => W = W0) (by kernel_rfl) ?_
    have hdr : w2.drew = { w2 with drawn := w2.drawn + 1 } := rfl
    rw [← hdr, ← hW0]
    clear hdr hW0 k0
    refine wpAnyHTake 0 (some 18) (.pointer (some ⟨A.d, 0, none⟩)) rfl rfl (by kernel_rfl) (by kernel_rfl) (by kernel_rfl) (fun _ _ _ h => h) (by rfl) (fun _ _ => by rfl) (rfl) ?_
    simp only [Act.put, List.setIfInBounds_toArray, List.set_cons_zero, List.set_cons_succ]
    refine wpAnyHTake 1 (some 19) (.pointer (some ⟨A.d, 0, none⟩)) rfl rfl (by kernel_rfl) (by kernel_rfl) (by kernel_rfl) (fun _ _ _ h => h) (by rfl) (fun _ _ => by rfl) (rfl) ?_
    simp only [Act.put, List.setIfInBounds_toArray, List.set_cons_zero, List.set_cons_succ]
    refine wpAnyHTake 2 (some 20) (.pointer (some ⟨A.d, 2, none⟩)) rfl rfl (by kernel_rfl) (by kernel_rfl) (by kernel_rfl) (fun _ _ _ h => h) (by rfl) (fun _ _ => by rfl) (rfl) ?_
    simp only [Act.put, List.setIfInBounds_toArray, List.set_cons_zero, List.set_cons_succ]
    refine wpAnyHTake 3 (some 21) (.map (some A.w)) rfl rfl (by kernel_rfl) (by kernel_rfl) (by kernel_rfl) (fun _ _ _ h => h) (by rfl) (fun _ e => by subst e; go_simp) (rfl) ?_
    simp only [Act.put, List.setIfInBounds_toArray, List.set_cons_zero, List.set_cons_succ]
    refine wpAnyHTake 4 (some 22) (.int .i64 k) rfl rfl (by kernel_rfl) (by kernel_rfl) (by kernel_rfl) (fun _ _ _ h => h) (by rfl) (fun _ _ => by rfl) (rfl) ?_
    simp only [Act.put, List.setIfInBounds_toArray, List.set_cons_zero, List.set_cons_succ]
    refine wpAnyHTake 5 (some 23) (.bool true) rfl rfl (by kernel_rfl) (by kernel_rfl) (by kernel_rfl) (fun _ _ _ h => h) (by rfl) (fun _ e => by subst e; go_simp) (rfl) ?_
    simp only [Act.put, List.setIfInBounds_toArray, List.set_cons_zero, List.set_cons_succ]
    refine wpAnyHTake 6 (some 24) (.bool false) rfl rfl (by kernel_rfl) (by kernel_rfl) (by kernel_rfl) (fun _ _ _ h => h) (by rfl) (fun _ _ => by rfl) (rfl) ?_
    simp only [Act.put, List.setIfInBounds_toArray, List.set_cons_zero, List.set_cons_succ]
    refine wpAnyHTake 7 (some 25) (.bool false) rfl rfl (by kernel_rfl) (by kernel_rfl) (by kernel_rfl) (fun _ _ _ h => h) (by rfl) (fun _ _ => by rfl) (rfl) ?_
    simp only [Act.put, List.setIfInBounds_toArray, List.set_cons_zero, List.set_cons_succ]
    refine wpAnyHPass 8 (some 26) rfl rfl (by kernel_rfl) (by kernel_rfl) (by kernel_rfl) (fun _ _ _ h => h) (by rfl) rfl ?_
    simp only [Act.put, List.setIfInBounds_toArray, List.set_cons_zero, List.set_cons_succ]
    refine wpAnyHPass 9 (some 27) rfl rfl (by kernel_rfl) (by kernel_rfl) (by kernel_rfl) (fun _ _ _ h => h) (by rfl) rfl ?_
    simp only [Act.put, List.setIfInBounds_toArray, List.set_cons_zero, List.set_cons_succ]
    refine wpAnyHPass 10 (some 28) rfl rfl (by kernel_rfl) (by kernel_rfl) (by kernel_rfl) (fun _ _ _ h => h) (by rfl) rfl ?_
    simp only [Act.put, List.setIfInBounds_toArray, List.set_cons_zero, List.set_cons_succ]
    refine wpAnyHPass 11 (some 29) rfl rfl (by kernel_rfl) (by kernel_rfl) (by kernel_rfl) (fun _ _ _ h => h) (by rfl) rfl ?_
    simp only [Act.put, List.setIfInBounds_toArray, List.set_cons_zero, List.set_cons_succ]
    refine wpAnyHPass 12 (some 30) rfl rfl (by kernel_rfl) (by kernel_rfl) (by kernel_rfl) (fun _ _ _ h => h) (by rfl) rfl ?_
    simp only [Act.put, List.setIfInBounds_toArray, List.set_cons_zero, List.set_cons_succ]
    refine wpAnyHPass 13 (some 31) rfl rfl (by kernel_rfl) (by kernel_rfl) (by kernel_rfl) (fun _ _ _ h => h) (by rfl) rfl ?_
    simp only [Act.put, List.setIfInBounds_toArray, List.set_cons_zero, List.set_cons_succ]
    refine wpAnyHPass 14 (some 32) rfl rfl (by kernel_rfl) (by kernel_rfl) (by kernel_rfl) (fun _ _ _ h => h) (by rfl) rfl ?_
    simp only [Act.put, List.setIfInBounds_toArray, List.set_cons_zero, List.set_cons_succ]
    refine wpAnyHPass 15 (some 33) rfl rfl (by kernel_rfl) (by kernel_rfl) (by kernel_rfl) (fun _ _ _ h => h) (by rfl) rfl ?_
    simp only [Act.put, List.setIfInBounds_toArray, List.set_cons_zero, List.set_cons_succ]
    refine wpAnyHPass 16 (some 34) rfl rfl (by kernel_rfl) (by kernel_rfl) (by kernel_rfl) (fun _ _ _ h => h) (by rfl) rfl ?_
    simp only [Act.put, List.setIfInBounds_toArray, List.set_cons_zero, List.set_cons_succ]
    refine wpAnyHTake 17 (some 35) (.bool false) rfl rfl (by kernel_rfl) (by kernel_rfl) (by kernel_rfl) (fun _ _ _ h => h) (by rfl) (fun _ _ => by rfl) (rfl) ?_
    simp only [Act.put, List.setIfInBounds_toArray, List.set_cons_zero, List.set_cons_succ]
    refine wpAnyH_done (by kernel_rfl) ?_ _
    rename_i K hK
    refine hK _ _ ?_
    go_wp2_with fail
    go_end0
    exact ⟨rfl, by rw [HR.out]; exact H3.out, HK.out⟩
  · have hw' : D.W k = false := by simpa using hw
    have e2 : v2 = .bool false := plainBool_inv (ps := ps2) (by rw [hv2, eW]; unfold wornD; rw [if_neg hw]; rfl)
    subst e2
    have hts : D1.S[k]? = some t := by rw [eS]; exact HT.out
    have hbt := h3.blk.bytes hts
    have hr : D.settle k n = { D1 with S := D1.S.set k (mix (max 0 (min n 64)).toNat s t) } := by
      unfold Dk.settle
      rw [if_neg hw, ← hD1]
      simp only [Dk.at, HT.out, HPP.out, Option.getD_some]
    have HK := hK2.trans (k0.mono (fun _ _ h => h.elim))
    have hK1 : (k : Int) < D1.S.length := by rw [eS]; omega
    have hb4 := load_blk HS.out hb3
    have hb5 := load_blk HTZ.out hbt
    have HR := Lib.hid hr; have H3 := Lib.hid h3; have HB3 := Lib.hid hb3; have HD1 := Lib.hid hD1; have HBT := Lib.hid hbt
    have HK' := Lib.hid HK; have HB4 := Lib.hid hb4; have HB5 := Lib.hid hb5
    clear hb4 hb5 hr h3 hb3 hK2 hD1 hw hv2 h2 hb2 hm hm' hg eW HK
    refine wp_region_held (S := fun W => W = W0) (by kernel_rfl) ?_
    have hdr : w2.drew = { w2 with drawn := w2.drawn + 1 } := rfl
    rw [← hdr, ← hW0]
    clear hdr hW0 k0
    refine wpAnyHTake 0 (some 18) (.pointer (some ⟨A.d, 0, none⟩)) rfl rfl (by kernel_rfl) (by kernel_rfl) (by kernel_rfl) (fun _ _ _ h => h) (by rfl) (fun _ _ => by rfl) (rfl) ?_
    simp only [Act.put, List.setIfInBounds_toArray, List.set_cons_zero, List.set_cons_succ]
    refine wpAnyHTake 1 (some 19) (.pointer (some ⟨A.d, 0, none⟩)) rfl rfl (by kernel_rfl) (by kernel_rfl) (by kernel_rfl) (fun _ _ _ h => h) (by rfl) (fun _ _ => by rfl) (rfl) ?_
    simp only [Act.put, List.setIfInBounds_toArray, List.set_cons_zero, List.set_cons_succ]
    refine wpAnyHTake 2 (some 20) (.pointer (some ⟨A.d, 2, none⟩)) rfl rfl (by kernel_rfl) (by kernel_rfl) (by kernel_rfl) (fun _ _ _ h => h) (by rfl) (fun _ _ => by rfl) (rfl) ?_
    simp only [Act.put, List.setIfInBounds_toArray, List.set_cons_zero, List.set_cons_succ]
    refine wpAnyHTake 3 (some 21) (.map (some A.w)) rfl rfl (by kernel_rfl) (by kernel_rfl) (by kernel_rfl) (fun _ _ _ h => h) (by rfl) (fun _ e => by subst e; go_simp) (rfl) ?_
    simp only [Act.put, List.setIfInBounds_toArray, List.set_cons_zero, List.set_cons_succ]
    refine wpAnyHTake 4 (some 22) (.int .i64 k) rfl rfl (by kernel_rfl) (by kernel_rfl) (by kernel_rfl) (fun _ _ _ h => h) (by rfl) (fun _ _ => by rfl) (rfl) ?_
    simp only [Act.put, List.setIfInBounds_toArray, List.set_cons_zero, List.set_cons_succ]
    refine wpAnyHTake 5 (some 23) (.bool false) rfl rfl (by kernel_rfl) (by kernel_rfl) (by kernel_rfl) (fun _ _ _ h => h) (by rfl) (fun _ e => by subst e; go_simp) (rfl) ?_
    simp only [Act.put, List.setIfInBounds_toArray, List.set_cons_zero, List.set_cons_succ]
    refine wpAnyHTake 6 (some 24) (.bool true) rfl rfl (by kernel_rfl) (by kernel_rfl) (by kernel_rfl) (fun _ _ _ h => h) (by rfl) (fun _ _ => by rfl) (rfl) ?_
    simp only [Act.put, List.setIfInBounds_toArray, List.set_cons_zero, List.set_cons_succ]
    refine wpAnyHTake 7 (some 25) (.bool true) rfl rfl (by kernel_rfl) (by kernel_rfl) (by kernel_rfl) (fun _ _ _ h => h) (by rfl) (fun _ _ => by rfl) (rfl) ?_
    simp only [Act.put, List.setIfInBounds_toArray, List.set_cons_zero, List.set_cons_succ]
    refine wpAnyHTake 8 (some 26) (blkV s) rfl rfl (by kernel_rfl) (by kernel_rfl) (by kernel_rfl) (fun _ _ _ h => h) (by rfl) (fun _ e => by subst e; exact execOp_load_mid _ _ rfl rfl HB4.out) (rfl) ?_
    simp only [Act.put, List.setIfInBounds_toArray, List.set_cons_zero, List.set_cons_succ]
    refine wpAnyHTake 9 (some 27) (.pointer (some ⟨A.d, 0, none⟩)) rfl rfl (by kernel_rfl) (by kernel_rfl) (by kernel_rfl) (fun _ _ _ h => h) (by rfl) (fun _ _ => by rfl) (rfl) ?_
    simp only [Act.put, List.setIfInBounds_toArray, List.set_cons_zero, List.set_cons_succ]
    refine wpAnyHTake 10 (some 28) (.pointer (some ⟨A.d, 0, none⟩)) rfl rfl (by kernel_rfl) (by kernel_rfl) (by kernel_rfl) (fun _ _ _ h => h) (by rfl) (fun _ _ => by rfl) (rfl) ?_
    simp only [Act.put, List.setIfInBounds_toArray, List.set_cons_zero, List.set_cons_succ]
    refine wpAnyHTake 11 (some 29) (.pointer (some ⟨A.d, 0, none⟩)) rfl rfl (by kernel_rfl) (by kernel_rfl) (by kernel_rfl) (fun _ _ _ h => h) (by rfl) (fun _ _ => by rfl) (rfl) ?_
    simp only [Act.put, List.setIfInBounds_toArray, List.set_cons_zero, List.set_cons_succ]
    refine wpAnyHTake 12 (some 30) (.slice (some ⟨A.g, 0, none⟩) D1.S.length A.c) rfl rfl (by kernel_rfl) (by kernel_rfl) (by kernel_rfl) (fun _ _ _ h => h) (by rfl) (fun _ e => by subst e; go_simp) (rfl) ?_
    simp only [Act.put, List.setIfInBounds_toArray, List.set_cons_zero, List.set_cons_succ]
    refine wpAnyHTake 13 (some 31) (.int .i64 k) rfl rfl (by kernel_rfl) (by kernel_rfl) (by kernel_rfl) (fun _ _ _ h => h) (by rfl) (fun _ _ => by rfl) (rfl) ?_
    simp only [Act.put, List.setIfInBounds_toArray, List.set_cons_zero, List.set_cons_succ]
    refine wpAnyHTake 14 (some 32) (.pointer (some ⟨A.g, k * 64, none⟩)) rfl rfl (by kernel_rfl) (by kernel_rfl) (by kernel_rfl) (fun _ _ _ h => h) (by rfl) (fun _ e => by subst e; go_simp) (rfl) ?_
    simp only [Act.put, List.setIfInBounds_toArray, List.set_cons_zero, List.set_cons_succ]
    refine wpAnyHTake 15 (some 33) (blkV t) rfl rfl (by kernel_rfl) (by kernel_rfl) (by kernel_rfl) (fun _ _ _ h => h) (by rfl) (fun _ e => by subst e; exact execOp_load_mid _ _ rfl rfl HB5.out) (rfl) ?_
    simp only [Act.put, List.setIfInBounds_toArray, List.set_cons_zero, List.set_cons_succ]
    refine wpAnyHTake 16 (some 34) (.bool (!(s.data.toList == t.data.toList))) rfl rfl (by kernel_rfl) (by kernel_rfl) (by kernel_rfl) (fun _ _ _ h => h) (by rfl) (fun _ e => by subst e; exact execOp_neq _ _ rfl rfl rfl HS.out HTZ.out) (rfl) ?_
    simp only [Act.put, List.setIfInBounds_toArray, List.set_cons_zero, List.set_cons_succ]
    refine wpAnyHTake 17 (some 35) (.bool (!(s.data.toList == t.data.toList))) rfl rfl (by kernel_rfl) (by kernel_rfl) (by kernel_rfl) (fun _ _ _ h => h) (by rfl) (fun _ e => by subst e; go_simp) (rfl) ?_
    simp only [Act.put, List.setIfInBounds_toArray, List.set_cons_zero, List.set_cons_succ]
    refine wpAnyH_done (by kernel_rfl) ?_ _
    rename_i K hK
    refine hK _ _ ?_
    clear hK
    cases hq : (s.data.toList == t.data.toList) with
    | true =>
      have hst : s = t := by
        have := beq_iff_eq.1 hq
        have h2 : s.data = t.data := Array.toList_inj.1 this
        cases s; cases t; cases h2; rfl
      have hSS : D1.S.set k (mix (max 0 (min n 64)).toNat s t) = D1.S := by
        rw [hst, mix_self]
        exact set_same hts
      rw [hSS] at HR
      clear hSS hst
      go_wp2_with fail
      go_end0
      exact ⟨rfl, by rw [HR.out]; exact H3.out, HK'.out⟩
    | false =>
      have hm1 : max 0 (min n 64) ≤ 64 := by omega
      have hm0 : 0 ≤ max 0 (min n 64) := by omega
      go_wp2_with fail
      obtain ⟨W1, hW1⟩ : ∃ W1, W1 = W0.drew := ⟨_, rfl⟩
      have hdr : W0.drew = { W0 with drawn := W0.drawn + 1 } := rfl
      obtain ⟨m, hmm⟩ : ∃ m : Nat, (m : Int) = max 0 (min n 64) := ⟨(max 0 (min n 64)).toNat, by omega⟩
      have hm64 : m ≤ 64 := by omega
      have hmt : (max 0 (min n 64)).toNat = m := by omega
      have d0' : W1.cell? ⟨A.d, 0, none⟩ = some (.slice (some ⟨A.g, 0, none⟩) D1.S.length A.c) := by rw [hW1]; exact d0
      have k1 : Keeps (fun _ => False) W0 W1 := by rw [hW1]; exact (Keeps.refl _ _).drew
      have H5 := Lib.hid (H3.out.keeps k1 (fun _ _ h => h))
      have HL : ((bytesV s).take m).length = m := by rw [List.length_take, bytesV_len, HS.out]; omega
      have hcc : ∀ j, j < m → ∃ u, W1.cell? ⟨A.g, k * 64 + j, none⟩ = some u := fun j hj => ⟨_, (World.cell?_of_block (k1.block _ (World.block_lt_of_cell? _ _ (HBT.out j (by rw [HTZ.out]; omega))) (fun h => h))).trans (HBT.out j (by rw [HTZ.out]; omega))⟩
      have hsrc : ∀ j v, ((bytesV s).take m)[j]? = some v → W1.cell? ((⟨w.heap.size, 0, none⟩ : Addr).add j) = some v := fun j v hv => by
        rw [Addr.add_mid]
        refine range_bytes (fun i hi => ?_) j v ((List.getElem?_take_of_lt (by have := (List.getElem?_eq_some_iff.1 hv).1; rw [HL] at this; exact this)).symm.trans hv)
        rw [hW1]; exact HB3.out i hi
      have hfr : ∀ o, W1.frozen? ⟨A.g, o, none⟩ = false := by
        obtain ⟨C, hC, _⟩ := H5.out.blk
        exact hC.frozen
      have hcopy : ∀ ty, (Builtin.copy_ #[72, 72] ty #[.slice (some ⟨A.g, k * 64, none⟩) m 64, .slice (some ⟨w.heap.size, 0, none⟩) 64 64]).run Try.prog W1 = .ok (.int .i64 m) (W1.setCells A.g (k * 64) ((bytesV s).take m)) := fun ty => by
        have := run_copy_cells (P := Try.prog) W1 72 72 ty 5 A.g (k * 64) m 64 ⟨w.heap.size, 0, none⟩ 64 64 ((bytesV s).take m) Try.underlying72 (by kernel_rfl) (by rw [HL]; exact (Nat.min_eq_right hm64).symm)
          hsrc (fun j hj => by rw [HL] at hj; obtain ⟨u, hu⟩ := hcc j hj; rw [hu]; rfl) (fun j hj => hfr _) (fun v hv => bytesV_one s v (List.mem_of_mem_take hv))
        rw [HL] at this
        exact this
      have HCP := Lib.hid hcopy
      have HW1 := Lib.hid hW1
      have dE : (W1.setCells A.g (k * 64) ((bytesV s).take m)).cell? ⟨A.d, 0, none⟩ = some (.slice (some ⟨A.g, 0, none⟩) D1.S.length A.c) :=
        (World.cell?_setCells_out _ _ _ _ _ (fun e => absurd e H3.out.dg)).trans d0'
      refine wp_region_held (S := fun W => W.cell? ⟨A.d, 0, none⟩ = some (.slice (some ⟨A.g, 0, none⟩) D1.S.length A.c)) (by kernel_rfl) ?_
      rw [← hdr, ← hW1]
      clear hdr hW1 hlw d0 hcopy k1 hsrc hfr hcc
      refine wpAnyHTake 0 (some 36) (.pointer (some ⟨A.d, 0, none⟩)) rfl rfl (by kernel_rfl) (by kernel_rfl) (by kernel_rfl) (fun _ _ _ h => h) (by rfl) (fun _ _ => by rfl) (d0') ?_
      simp only [Act.put, List.setIfInBounds_toArray, List.set_cons_zero, List.set_cons_succ]
      refine wpAnyHTake 1 (some 37) (.pointer (some ⟨A.d, 0, none⟩)) rfl rfl (by kernel_rfl) (by kernel_rfl) (by kernel_rfl) (fun _ _ _ h => h) (by rfl) (fun _ _ => by rfl) (d0') ?_
      simp only [Act.put, List.setIfInBounds_toArray, List.set_cons_zero, List.set_cons_succ]
      refine wpAnyHTake 2 (some 38) (.pointer (some ⟨A.d, 0, none⟩)) rfl rfl (by kernel_rfl) (by kernel_rfl) (by kernel_rfl) (fun _ _ _ h => h) (by rfl) (fun _ _ => by rfl) (d0') ?_
      simp only [Act.put, List.setIfInBounds_toArray, List.set_cons_zero, List.set_cons_succ]
      refine wpAnyHTake 3 (some 39) (.slice (some ⟨A.g, 0, none⟩) D1.S.length A.c) rfl rfl (by kernel_rfl) (by kernel_rfl) (by kernel_rfl) (fun _ _ _ h => h) (by rfl) (fun _ e => by go_simp) (d0') ?_
      simp only [Act.put, List.setIfInBounds_toArray, List.set_cons_zero, List.set_cons_succ]
      refine wpAnyHTake 4 (some 40) (.int .i64 k) rfl rfl (by kernel_rfl) (by kernel_rfl) (by kernel_rfl) (fun _ _ _ h => h) (by rfl) (fun _ _ => by rfl) (d0') ?_
      simp only [Act.put, List.setIfInBounds_toArray, List.set_cons_zero, List.set_cons_succ]
      refine wpAnyHTake 5 (some 41) (.pointer (some ⟨A.g, k * 64, none⟩)) rfl rfl (by kernel_rfl) (by kernel_rfl) (by kernel_rfl) (fun _ _ _ h => h) (by rfl) (fun _ _ => by go_simp) (d0') ?_
      simp only [Act.put, List.setIfInBounds_toArray, List.set_cons_zero, List.set_cons_succ]
      refine wpAnyHTake 6 (some 42) (.int .i64 n) rfl rfl (by kernel_rfl) (by kernel_rfl) (by kernel_rfl) (fun _ _ _ h => h) (by rfl) (fun _ _ => by rfl) (d0') ?_
      simp only [Act.put, List.setIfInBounds_toArray, List.set_cons_zero, List.set_cons_succ]
      refine wpAnyHTake 7 (some 43) (.int .i64 (min n 64)) rfl rfl (by kernel_rfl) (by kernel_rfl) (by kernel_rfl) (fun _ _ _ h => h) (by rfl) (fun _ _ => by go_simp) (d0') ?_
      simp only [Act.put, List.setIfInBounds_toArray, List.set_cons_zero, List.set_cons_succ]
      refine wpAnyHTake 8 (some 44) (.int .i64 (max 0 (min n 64))) rfl rfl (by kernel_rfl) (by kernel_rfl) (by kernel_rfl) (fun _ _ _ h => h) (by rfl) (fun _ _ => by go_simp) (d0') ?_
      simp only [Act.put, List.setIfInBounds_toArray, List.set_cons_zero, List.set_cons_succ]
      refine wpAnyHTake 9 (some 45) (.slice (some ⟨A.g, k * 64, none⟩) m 64) rfl rfl (by kernel_rfl) (by kernel_rfl) (by kernel_rfl) (fun _ _ _ h => h) (by rfl) (fun _ _ => by go_simp) (d0') ?_
      simp only [Act.put, List.setIfInBounds_toArray, List.set_cons_zero, List.set_cons_succ]
      refine wpAnyHTake 10 (some 46) (.slice (some ⟨w.heap.size, 0, none⟩) 64 64) rfl rfl (by kernel_rfl) (by kernel_rfl) (by kernel_rfl) (fun _ _ _ h => h) (by rfl) (fun _ _ => by go_simp) (d0') ?_
      simp only [Act.put, List.setIfInBounds_toArray, List.set_cons_zero, List.set_cons_succ]
      refine wpAnyHOne 11 (some 47) (w' := W1.setCells A.g (k * 64) ((bytesV s).take m)) (v := .int .i64 m) (by kernel_rfl) rfl rfl (by rfl) (by have hcp := HCP.out; go_simp) dE ?_
      simp only [Act.put, List.setIfInBounds_toArray, List.set_cons_zero, List.set_cons_succ]
      refine wpAnyH_done (by kernel_rfl) ?_ _
      go_end0
      refine ⟨rfl, ?_, ?_⟩
      · rw [HR.out, hmt]
        exact H5.out.setBlk (Blk.mixed H5.out.blk hts HS.out hm64) (Keeps.setCells (F := fun b => b = A.g) rfl _ _ (Keeps.refl _ _)) (by rw [List.length_set])
      · exact HK'.out.trans ((Keeps.setCells (F := A.F) (.inr (.inl rfl)) _ _ (HW1.out ▸ (Keeps.refl _ _).drew)))
end Go.Proofs.Ytdanhfanepmhkaa
