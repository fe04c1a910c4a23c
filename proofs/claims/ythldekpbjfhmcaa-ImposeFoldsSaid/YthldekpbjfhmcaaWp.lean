import Derived.Test.YthldekpbjfhmcaaWo
import Derived.Deep.CutRange
import Derived.Deep.CutBlock
import Derived.Deep.AppendLies
namespace Go.Proofs.Ythldekpbjfhmcaa
open Go.RowKit Go.Shelf
attribute [local go_sem] Oper.semAt_some

theorem dn2 (w : World) (a b : Nat) : ∃ n, (w.drewN a).drewN b = w.drewN n := ⟨a + b, by simp⟩

def mark (D : Nat) : Deferred := { target := .collected D, args := #[] }

/-- the marks of the loops over iterators are taken one by one -/
theorem leaves_marks {fn : Func} {tmps : Array Value} {R : Ending → World → Prop} (B : Nat) (Good : World → Prop) (v : Value) (hr : ∀ W, Good W → (results fn tmps).run Try.prog W = .ok v W ∧ R (.returned v) W)
    (hG : ∀ W D, B ≤ D → Good W → W.heap[D]? = some (.deferred (some [])) → Good (W.putObj D (.deferred none))) :
    ∀ (Ds : List Nat) (W : World), Good W → Ds.Nodup → (∀ D, D ∈ Ds → B ≤ D ∧ W.heap[D]? = some (.deferred (some []))) → LeavesInM Fence.wide 9 Try.prog fn tmps R (Ds.map mark) .returning W
  | [], W, hW, _, _ => ⟨v, hr W hW⟩
  | D :: Ds, W, hW, hn, hD => by
    refine ⟨by simp, .inl ⟨D, _, rfl, run_takeDeferred (hD D (by simp)).2, ?_⟩⟩
    have hn' := List.nodup_cons.1 hn
    refine leaves_marks B Good v hr hG Ds _ (hG W D (hD D (by simp)).1 hW (hD D (by simp)).2) hn'.2 fun D' hD' => ⟨(hD D' (by simp [hD'])).1, ?_⟩
    rw [World.putObj_heap_other (fun e => hn'.1 (by rw [← e]; exact hD'))]
    exact (hD D' (by simp [hD'])).2

def bw (pre : List (Nat × Sh)) : List Int := pre.flatMap fun x => [x.2.b1, x.2.f0]
theorem bw_len (pre : List (Nat × Sh)) : (bw pre).length = pre.length * 2 := flat_len _ 2 (fun _ => rfl) pre
theorem bw_bwI (g : List Sh) : bw (bwI g g.length) = bwd g := by
  have := bwI_snd g g.length (Nat.le_refl _)
  rw [List.take_length] at this
  unfold bw bwd; rw [← this, List.flatMap_map]

/-- what holds at the head of a round of Read -/
def ReadRel (w : World) (xs : List Sh) (wr : World) (l q : Value) (Ds : List Nat) : Prop :=
  ∃ (rest : List Sh) (f : Nat) (qi : Int) (acc : List Int) (v : Value), RdS w l rest ∧ rest.length ≤ xs.length ∧ rest.length ≤ f ∧ 0 ≤ qi ∧ qi + rest.length ≤ xs.length ∧ q = .int .i64 qi ∧ acc.length + 4 * rest.length = 4 * xs.length ∧ readL xs = readF f qi rest acc ∧
    Boxed wr w.heap.size 28 v ∧ wr.ownsRow w.heap.size 3 1 v acc.length (ints acc) ∧ Below w.heap.size w wr ∧ Ds.Nodup ∧ (∀ D, D ∈ Ds → w.heap.size ≤ D ∧ wr.heap[D]? = some (.deferred (some [])))

theorem RdS.opens {w : World} {v : Value} {xs : List Sh} (h : RdS w v xs) : ∃ a cap, v = .slice a xs.length cap ∧ xs.length ≤ cap ∧ cap ≤ 9223372036854775807 ∧
    (0 < xs.length → ∃ b off, a = some ⟨b, off, none⟩ ∧ b < w.heap.size ∧ ∀ k x, xs[k]? = some x → w.cell? ⟨b, off + k * 5, none⟩ = some (.int .i64 x.q) ∧ w.cell? ⟨b, off + k * 5 + 1, none⟩ = some (.int .i64 x.f0)
      ∧ w.cell? ⟨b, off + k * 5 + 2, none⟩ = some (.int .i64 x.f1) ∧ w.cell? ⟨b, off + k * 5 + 3, none⟩ = some (.int .i64 x.b0) ∧ w.cell? ⟨b, off + k * 5 + 4, none⟩ = some (.int .i64 x.b1)) := by
  obtain ⟨h1, a, cap, h2, h3, h4, h5⟩ := h
  refine ⟨a, cap, h2, h3, h4, fun hp => ?_⟩
  rcases h5 with ⟨h5, h6⟩ | ⟨b, off, h5, h6, h7⟩
  · omega
  · refine ⟨b, off, h5, h6, fun k x hk => ⟨?_, ?_, ?_, ?_, ?_⟩⟩
    · have := h7 (k * 5 + 0) _ (flat_at sh 5 (fun _ => rfl) xs k 0 x hk (by omega)); exact this
    · have := h7 (k * 5 + 1) _ (flat_at sh 5 (fun _ => rfl) xs k 1 x hk (by omega)); exact this
    · have := h7 (k * 5 + 2) _ (flat_at sh 5 (fun _ => rfl) xs k 2 x hk (by omega)); exact this
    · have := h7 (k * 5 + 3) _ (flat_at sh 5 (fun _ => rfl) xs k 3 x hk (by omega)); exact this
    · have := h7 (k * 5 + 4) _ (flat_at sh 5 (fun _ => rfl) xs k 4 x hk (by omega)); exact this

/-- cells that read so make a slice -/
theorem RdS_mk {w : World} {b off n cap : Nat} {xs : List Sh} (hn : xs.length = n) (hc : n ≤ cap) (hc' : cap ≤ 9223372036854775807) (hb : b < w.heap.size)
    (h : ∀ k x, xs[k]? = some x → w.cell? ⟨b, off + k * 5, none⟩ = some (.int .i64 x.q) ∧ w.cell? ⟨b, off + k * 5 + 1, none⟩ = some (.int .i64 x.f0)
      ∧ w.cell? ⟨b, off + k * 5 + 2, none⟩ = some (.int .i64 x.f1) ∧ w.cell? ⟨b, off + k * 5 + 3, none⟩ = some (.int .i64 x.b0) ∧ w.cell? ⟨b, off + k * 5 + 4, none⟩ = some (.int .i64 x.b1)) :
    RdS w (.slice (some ⟨b, off, none⟩) n cap) xs := by
  unfold RdS
  refine ⟨by unfold shs; rw [flat_len sh 5 (fun _ => rfl)], _, cap, by rw [hn], by omega, hc', .inr ⟨b, off, rfl, hb, fun j u hu => ?_⟩⟩
  have hj : j < (shs xs).length := (List.getElem?_eq_some_iff.1 hu).1
  unfold shs at hj hu
  rw [flat_len sh 5 (fun _ => rfl)] at hj
  obtain ⟨x, hx⟩ := elem_at (l := xs) (k := j / 5) (by omega)
  obtain ⟨g0, g1, g2, g3, g4⟩ := h _ x hx
  have hm : j % 5 < 5 := Nat.mod_lt _ (by omega)
  have e : j / 5 * 5 + j % 5 = j := by omega
  have hu' := flat_at sh 5 (fun _ => rfl) xs (j / 5) (j % 5) x hx hm
  rw [e, hu] at hu'
  have hj5 : j % 5 = 0 ∨ j % 5 = 1 ∨ j % 5 = 2 ∨ j % 5 = 3 ∨ j % 5 = 4 := by omega
  rcases hj5 with h5 | h5 | h5 | h5 | h5 <;> rw [h5] at hu' e <;> (simp only [sh] at hu'; have := Option.some.inj hu'; subst this; rw [← e])
  · exact g0
  · exact g1
  · exact g2
  · exact g3
  · exact g4

def sliceLen : Value → Nat | .slice _ n _ => n | _ => 0

set_option maxRecDepth 100000 in
set_option maxHeartbeats 4000000 in
theorem read_any (v1 : Value) (xs : List Sh) (w : World) (h1 : RdS w v1 xs) (hn : xs.length * 40 ≤ 140737488351232) :
    Calls Try.prog 11 #[v1] w fun e w' => ∃ v, e = .returned (.tuple #[v, .int .i64 (readL xs).2]) ∧ OwnI w' w.heap.size v (readL xs).1 ∧ Below w.heap.size w w' := by
  obtain ⟨i0, hi0, hz0, hz1, hz2⟩ := info_parts Try.info3
  have HI := Lib.hid hi0; have HZ0 := Lib.hid hz0; have HZ1 := Lib.hid hz1; have HZ2 := Lib.hid hz2
  have H1 := Lib.hid h1
  clear hi0 hz0 hz1 hz2 h1
  refine (callsIn_wide (n := 9)).1 ?_
  refine callsIn_of_wp_marks Try.func11 rfl trivial ?_ rfl
  refine wpIn_wide.2 ?_
  simp only [Try.ntmps11, List.size_toArray, List.length_cons, List.length_nil, Nat.reduceAdd, Nat.reduceSub, Array.replicate_succ, Array.replicate_zero, List.push_toArray, List.append_toArray, List.nil_append, List.cons_append]
  go_wp2
  refine wp_loop (fun a wr => ∃ (u0 u2 u3 u5 u6 u8 u9 u10 u11 u12 u13 u14 u15 u16 u17 u18 u19 u20 u21 u22 u23 u24 u25 u26 u27 u28 u29 u30 u31 u32 u33 u34 u35 u36 u37 u38 u39 u40 u41 u42 u43 u44 u45 u46 u47 u48 u49 u50 u51 u52 u53 u54 u55 u56 u57 u58 u59 u60 u61 u62 u63 u64 u65 u66 u67 u68 u69 u70 u71 u72 u73 u74 u75 : Value) (Ds : List Nat), ReadRel w xs wr u0 u5 Ds ∧ a = { tmps := #[u0, undef, u2, u3, .pointer (some ⟨w.heap.size, 0, none⟩), u5, u6, undef, u8, u9, u10, u11, u12, u13, u14, u15, u16, u17, u18, u19, u20, u21, u22, u23, u24, u25, u26, u27, u28, u29, u30, u31, u32, u33, u34, u35, u36, u37, u38, u39, u40, u41, u42, u43, u44, u45, u46, u47, u48, u49, u50, u51, u52, u53, u54, u55, u56, u57, u58, u59, u60, u61, u62, u63, u64, u65, u66, u67, u68, u69, u70, u71, u72, u73, u74, u75, undef], defers := Ds.map mark }) (fun a _ => sliceLen (a.tmps.getD 0 undef)) ?h0 ?round
  case h0 =>
    refine ⟨_, _, _, _, _, _, _, _, _, _, _, _, _, _, _, _, _, _, _, _, _, _, _, _, _, _, _, _, _, _, _, _, _, _, _, _, _, _, _, _, _, _, _, _, _, _, _, _, _, _, _, _, _, _, _, _, _, _, _, _, _, _, _, _, _, _, _, _, _, _, _, _, _, [], ⟨xs, xs.length, 0, [], .slice none 0 0, H1.out, by omega, by omega, by omega, by omega, rfl, by simp, rfl, Boxed.new _ _ _, World.ownsRow_nil _ _ _ _, (Below.refl _ _).alloc (Nat.le_refl _) _, by simp, by simp⟩, rfl⟩
  case round =>
    intro aa wr hinv
    obtain ⟨u0, hinv⟩ := hinv
    obtain ⟨u2, hinv⟩ := hinv
    obtain ⟨u3, hinv⟩ := hinv
    obtain ⟨u5, hinv⟩ := hinv
    obtain ⟨u6, hinv⟩ := hinv
    obtain ⟨u8, hinv⟩ := hinv
    obtain ⟨u9, hinv⟩ := hinv
    obtain ⟨u10, hinv⟩ := hinv
    obtain ⟨u11, hinv⟩ := hinv
    obtain ⟨u12, hinv⟩ := hinv
    obtain ⟨u13, hinv⟩ := hinv
    obtain ⟨u14, hinv⟩ := hinv
    obtain ⟨u15, hinv⟩ := hinv
    obtain ⟨u16, hinv⟩ := hinv
    obtain ⟨u17, hinv⟩ := hinv
    obtain ⟨u18, hinv⟩ := hinv
    obtain ⟨u19, hinv⟩ := hinv
    obtain ⟨u20, hinv⟩ := hinv
    obtain ⟨u21, hinv⟩ := hinv
    obtain ⟨u22, hinv⟩ := hinv
    obtain ⟨u23, hinv⟩ := hinv
    obtain ⟨u24, hinv⟩ := hinv
    obtain ⟨u25, hinv⟩ := hinv
    obtain ⟨u26, hinv⟩ := hinv
    obtain ⟨u27, hinv⟩ := hinv
    obtain ⟨u28, hinv⟩ := hinv
    obtain ⟨u29, hinv⟩ := hinv
    obtain ⟨u30, hinv⟩ := hinv
    obtain ⟨u31, hinv⟩ := hinv
    obtain ⟨u32, hinv⟩ := hinv
    obtain ⟨u33, hinv⟩ := hinv
    obtain ⟨u34, hinv⟩ := hinv
    obtain ⟨u35, hinv⟩ := hinv
    obtain ⟨u36, hinv⟩ := hinv
    obtain ⟨u37, hinv⟩ := hinv
    obtain ⟨u38, hinv⟩ := hinv
    obtain ⟨u39, hinv⟩ := hinv
    obtain ⟨u40, hinv⟩ := hinv
    obtain ⟨u41, hinv⟩ := hinv
    obtain ⟨u42, hinv⟩ := hinv
    obtain ⟨u43, hinv⟩ := hinv
    obtain ⟨u44, hinv⟩ := hinv
    obtain ⟨u45, hinv⟩ := hinv
    obtain ⟨u46, hinv⟩ := hinv
    obtain ⟨u47, hinv⟩ := hinv
    obtain ⟨u48, hinv⟩ := hinv
    obtain ⟨u49, hinv⟩ := hinv
    obtain ⟨u50, hinv⟩ := hinv
    obtain ⟨u51, hinv⟩ := hinv
    obtain ⟨u52, hinv⟩ := hinv
    obtain ⟨u53, hinv⟩ := hinv
    obtain ⟨u54, hinv⟩ := hinv
    obtain ⟨u55, hinv⟩ := hinv
    obtain ⟨u56, hinv⟩ := hinv
    obtain ⟨u57, hinv⟩ := hinv
    obtain ⟨u58, hinv⟩ := hinv
    obtain ⟨u59, hinv⟩ := hinv
    obtain ⟨u60, hinv⟩ := hinv
    obtain ⟨u61, hinv⟩ := hinv
    obtain ⟨u62, hinv⟩ := hinv
    obtain ⟨u63, hinv⟩ := hinv
    obtain ⟨u64, hinv⟩ := hinv
    obtain ⟨u65, hinv⟩ := hinv
    obtain ⟨u66, hinv⟩ := hinv
    obtain ⟨u67, hinv⟩ := hinv
    obtain ⟨u68, hinv⟩ := hinv
    obtain ⟨u69, hinv⟩ := hinv
    obtain ⟨u70, hinv⟩ := hinv
    obtain ⟨u71, hinv⟩ := hinv
    obtain ⟨u72, hinv⟩ := hinv
    obtain ⟨u73, hinv⟩ := hinv
    obtain ⟨u74, hinv⟩ := hinv
    obtain ⟨u75, hinv⟩ := hinv
    obtain ⟨Ds, hrel, ha⟩ := hinv
    subst ha
    obtain ⟨rest, f, qi, acc, v, hl, hr1, hr2, hq0, hq1, rfl, hacc, hR, hbox, hrow, hB, hnd, hDs⟩ := hrel
    obtain ⟨a1, c1, rfl, hcap, hcap2, hel⟩ := hl.opens
    have HACC := Lib.hid hacc; have HR := Lib.hid hR; have HBOX := Lib.hid hbox; have HROW := Lib.hid hrow; have HB := Lib.hid hB; have HND := Lib.hid hnd; have HDS := Lib.hid hDs; have HL := Lib.hid hl
    have hbs := hB.size
    have hv := hbox.cell
    clear hacc hR hbox hrow hB hnd hDs hl
    by_cases hlt : 0 < rest.length
    · obtain ⟨b1, o1, rfl, hb1, hels⟩ := hel hlt
      obtain ⟨x, hx⟩ := elem_at hlt
      have HEL := Lib.hid hels
      have e0 : w.cell? ⟨b1, o1, none⟩ = some (.int .i64 x.q) := by simpa using (hels 0 x hx).1
      have g0 := (HB.out.cell (p := ⟨b1, o1, none⟩) hb1).trans e0
      clear e0
      have HX := Lib.hid hx
      clear hx hel hels
      go_upto_block 2 with (fail)
      go_cut [6] from 14 to 31 (fun v6 w' => ∃ m : Nat, 1 ≤ m ∧ m ≤ rest.length ∧ v6 = .int .i64 m ∧ runLen rest = m ∧ ∃ nq, w' = wr.drewN nq)
      case first =>
        go_wp2_with fail
        obtain ⟨wo, rfl⟩ : ∃ wo : World, wo = wr := ⟨_, rfl⟩
        go_loopw [6] (fun e wr => ∃ j : Nat, 1 ≤ j ∧ j ≤ rest.length ∧ e = .int .i64 j ∧ (∀ s, s ∈ rest.take j → s.q = x.q) ∧ ∃ nq, wr = wo.drewN nq) (fun e _ => rest.length - (intOf e).toNat)
        case atStart => exact ⟨1, by omega, by omega, rfl, by (intro s hs; rw [List.take_add_one, HX.out] at hs; simp at hs; rw [hs]), 0, rfl⟩
        case round =>
          obtain ⟨j, hj1, hj, rfl, hall, nq, rfl⟩ := hrel
          have HALL := Lib.hid hall; clear hall
          by_cases hlt2 : j < rest.length
          · obtain ⟨y, hy⟩ := elem_at hlt2
            have gy := (HB.out.cell (p := ⟨b1, o1 + j * 5, none⟩) hb1).trans (HEL.out j y hy).1
            have HY := Lib.hid hy
            clear hy
            have hd : decide ((j : Int) < (rest.length : Int)) = true := by simp; omega
            by_cases hyx : y.q = x.q
            · have hyb : (y.q == x.q) = true := by simpa using hyx
              have hall2 : ∀ s, s ∈ rest.take (j + 1) → s.q = x.q := by
                intro s hs
                rw [List.take_add_one, HY.out] at hs
                simp only [Option.toList_some, List.mem_append, List.mem_singleton] at hs
                rcases hs with hs | rfl
                · exact HALL.out s hs
                · exact hyx
              have HA2 := Lib.hid hall2
              clear hall2 hyx
              go_wp2
              go_quiet (fail)
              go_wp2
              go_roundw
              case rel => exact ⟨j + 1, by omega, by omega, by go_num, HA2.out, _, rfl⟩
              case measure => simp [intOf]; omega
            · have hyb : (y.q == x.q) = false := by simpa using hyx
              have hrun : runLen rest = j := runLen_eq _ x _ HX.out (by omega) (by omega) HALL.out (fun y' hy' => by
                rw [HY.out] at hy'
                rw [← Option.some.inj hy']; exact hyx)
              have HRUN := Lib.hid hrun
              clear hrun hyx
              go_wp2
              go_quiet (fail)
              go_wp2
              go_meet
              case rel => exact ⟨j, hj1, by omega, rfl, HRUN.out, dn2 _ _ _⟩
          · have hd : decide ((j : Int) < (rest.length : Int)) = false := by simp; omega
            have hrun : runLen rest = j := runLen_eq _ x _ HX.out (by omega) (by omega) HALL.out (fun y' hy' => by
                rw [List.getElem?_eq_none (by omega)] at hy'; cases hy')
            have HRUN := Lib.hid hrun
            clear hrun
            go_wp2
            go_quiet (fail)
            go_wp2
            go_meet
            case rel => exact ⟨j, by omega, by omega, rfl, HRUN.out, dn2 _ _ _⟩
      case rest =>
        obtain ⟨m, hm1, hm2, rfl, hrun, nq, rfl⟩ := hcut
        have HRUN := Lib.hid hrun
        clear hrun
        have hrp := readF_step (q := qi) (acc := acc) HX.out hr2 HRUN.out
        by_cases hqq : x.q = qi
        · obtain ⟨f', hf', hRR⟩ := hrp hqq
          have HF' := Lib.hid hf'; have HRR := Lib.hid (HR.out.trans hRR)
          have hqb : (x.q != qi) = false := by simpa using hqq
          have hgl : (rest.take m).length = m := by rw [List.length_take]; omega
          have HGL := Lib.hid hgl
          clear hf' hRR hrp hqq hgl
          go_upto_block 4 with (fail)
          obtain ⟨wo, rfl⟩ : ∃ wo : World, wo = wr := ⟨_, rfl⟩
          go_cut [6] from 8 to 75 (fun v6 w' => v6 = .int .i64 m ∧ ∃ v3 : Value, Boxed w' w.heap.size 28 v3 ∧ w'.ownsRow w.heap.size 3 1 v3 (acc ++ fwd (rest.take m)).length (ints (acc ++ fwd (rest.take m))) ∧ Below w.heap.size w w' ∧ KeepsOthers wo w')
          case first =>
            go_wp2_with fail
            go_loopw [42] (fun i wr3 => ∃ (j : Nat) (v3 : Value), j ≤ m ∧ i = .int .i64 j ∧ Boxed wr3 w.heap.size 28 v3 ∧ wr3.ownsRow w.heap.size 3 1 v3 (acc ++ fwd (rest.take j)).length (ints (acc ++ fwd (rest.take j))) ∧ Below w.heap.size w wr3 ∧ KeepsOthers wo wr3) (fun i _ => m - (intOf i).toNat)
            case atStart => exact ⟨0, v, by omega, rfl, HBOX.out, by simpa [fwd] using (show (wo.drewN nq).ownsRow w.heap.size 3 1 v acc.length (ints acc) from HROW.out), Below.dn HB.out _, ⟨Nat.le_refl _, fun _ _ h _ => h⟩⟩
            case round =>
              obtain ⟨j, v3, hj, rfl, hbox3, hrow3, hbl3, hko3⟩ := hrel
              by_cases hlt3 : j < m
              · obtain ⟨y, hy⟩ := elem_at (l := rest) (k := j) (by omega)
                obtain ⟨e0, e1, e2, e3, e4⟩ := HEL.out j y hy
                have z0 := (hbl3.cell (p := ⟨b1, o1 + j * 5, none⟩) hb1).trans e0
                have z1 := (hbl3.cell (p := ⟨b1, o1 + j * 5 + 1, none⟩) hb1).trans e1
                have z2 := (hbl3.cell (p := ⟨b1, o1 + j * 5 + 2, none⟩) hb1).trans e2
                have z3 := (hbl3.cell (p := ⟨b1, o1 + j * 5 + 3, none⟩) hb1).trans e3
                have z4 := (hbl3.cell (p := ⟨b1, o1 + j * 5 + 4, none⟩) hb1).trans e4
                have hc3 := hbox3.cell
                have hcA := fun o => cell_al o hc3
                have hbs3 := hbl3.size
                have hll : (acc ++ fwd (rest.take j)).length ≤ 4 * xs.length := by
                  rw [List.length_append, fwd_len, List.length_take]; have := HACC.out; omega
                have hT : acc ++ fwd (rest.take (j + 1)) = (acc ++ fwd (rest.take j)) ++ [y.f1, y.b0] := by rw [fwd_snoc rest j y hy, List.append_assoc]
                have HT := Lib.hid hT
                have HB3 := Lib.hid hbox3; have HR3 := Lib.hid hrow3; have HL3 := Lib.hid hbl3; have HK3 := Lib.hid hko3
                clear e0 e1 e2 e3 e4 hT hy hbox3 hrow3 hbl3 hko3 hv g0
                generalize hL : acc ++ fwd (rest.take j) = L at *
                have HLL := Lib.hid hL; clear hL
                go_wp2_with (at_builtin; refine wpList_append_lies _ rfl _ _ _ rfl w.heap.size 3 i0 _ 1 8 Try.underlying28 HI.out HZ0.out HZ1.out HZ2.out rfl (by omega) _ L.length (ints L) rfl ((HR3.out.alloc _).alloc _) ⟨wr.heap.size + 1, 0, none⟩ 2 2 [.int .i64 y.f1, .int .i64 y.b0] rfl rfl (World.news_of_block (cs := #[.int .i64 y.f1, .int .i64 y.b0]) (t := 3) (fr := (0, 0)) (by rw [← World.size_alloc wr (.cells #[.int .i64 y.q, .int .i64 y.f0, .int .i64 y.f1, .int .i64 y.b0, .int .i64 y.b1] 54)]; exact heap_alloc_new _ _)) (by simp [Value.oneCell']) (by omega) (by unfold maxLen; omega) (by omega) (by simp; omega) (wr.heap.size + 2) (by simp) ?_; intro gg cap w5 hown1 hgrow hat hltg; obtain ⟨hv1, hv2, hr2', hk2, hb2⟩ := (HB3.out.alloc (.cells #[.int .i64 y.q, .int .i64 y.f0, .int .i64 y.f1, .int .i64 y.b0, .int .i64 y.b1] 54)).appended (by decide) (HR3.out.alloc _) (by simp; omega) (Nat.le_refl _) hown1 hgrow; have hc1 := hv1.cell; have hf1 := hv1.frozen)
                have HV2 := Lib.hid hv2; have HRR2 := Lib.hid hr2'; have HK2 := Lib.hid hk2; have HB2 := Lib.hid hb2
                go_roundw
                case rel => exact ⟨j + 1, _, by omega, by go_num, HV2.out, by rw [HT.out, List.length_append]; simpa [ints] using HRR2.out, (HL3.out.alloc hbs3 _).trans HB2.out, (HK3.out.trans (KeepsOthers.alloc _ _)).trans HK2.out⟩
                case measure => simp [intOf]; omega
              · have hjm : j = m := by omega
                have HB3 := Lib.hid hbox3; have HR3 := Lib.hid hrow3; have HL3 := Lib.hid hbl3; have HK3 := Lib.hid hko3; have HJM := Lib.hid hjm
                clear hbox3 hrow3 hbl3 hko3 hv g0 hjm
                go_wp2
                go_meet
                case rel => exact ⟨rfl, v3, HB3.out, by rw [← HJM.out]; exact HR3.out, HL3.out, HK3.out⟩
          case rest =>
            obtain ⟨rfl, v3, hbox3, hrow3, hbl3, hko3⟩ := hcut
            have HB3 := Lib.hid hbox3; have HR3 := Lib.hid hrow3; have HL3 := Lib.hid hbl3; have HK3 := Lib.hid hko3
            have hbs3 := hbl3.size
            clear hbox3 hrow3 hbl3 hko3 hv g0
            go_wp2_with (go_at_call 39; refine (back_any _ _ _ _).mono ?_; rintro e w4 ⟨rfl, rfl⟩)
            have hB0 : Below w.heap.size w (wc.alloc (.cells #[(.slice (some ⟨b1, o1, none⟩) m c1)] 22)) := HL3.out.alloc hbs3 _
            have bO := HB3.out.alloc (.cells #[(.slice (some ⟨b1, o1, none⟩) m c1)] 22)
            have bR := HR3.out.alloc (.cells #[(.slice (some ⟨b1, o1, none⟩) m c1)] 22)
            have bN := Boxs.new wc 22 #[(.slice (some ⟨b1, o1, none⟩) m c1)]
            have hD0 : ∀ D, D ∈ Ds → (wc.alloc (.cells #[(.slice (some ⟨b1, o1, none⟩) m c1)] 22)).heap[D]? = some (.deferred (some [])) := fun D hD =>
              (HK3.out.trans (KeepsOthers.alloc _ _)).same D _ (HDS.out D hD).2 rfl
            have hsz : (wc.alloc (.cells #[(.slice (some ⟨b1, o1, none⟩) m c1)] 22)).heap.size = wc.heap.size + 1 := by simp
            have hBlt := HB3.out.lt
            obtain ⟨W0, hW0⟩ : ∃ W0, wc.alloc (.cells #[(.slice (some ⟨b1, o1, none⟩) m c1)] 22) = W0 := ⟨_, rfl⟩
            rw [hW0] at bO bR bN hB0 hD0 hsz ⊢
            clear hW0
            have hel0 : ∀ k y, (rest.take m)[k]? = some y → W0.cell? ⟨b1, o1 + k * 5, none⟩ = some (.int .i64 y.q) ∧ W0.cell? ⟨b1, o1 + k * 5 + 1, none⟩ = some (.int .i64 y.f0) ∧ W0.cell? ⟨b1, o1 + k * 5 + 2, none⟩ = some (.int .i64 y.f1) ∧ W0.cell? ⟨b1, o1 + k * 5 + 3, none⟩ = some (.int .i64 y.b0) ∧ W0.cell? ⟨b1, o1 + k * 5 + 4, none⟩ = some (.int .i64 y.b1) := by
              intro k y hk
              rw [List.getElem?_take] at hk
              split at hk
              · obtain ⟨e0, e1, e2, e3, e4⟩ := HEL.out k y hk
                exact ⟨(hB0.cell (p := ⟨b1, o1 + k * 5, none⟩) hb1).trans e0, (hB0.cell (p := ⟨b1, o1 + k * 5 + 1, none⟩) hb1).trans e1, (hB0.cell (p := ⟨b1, o1 + k * 5 + 2, none⟩) hb1).trans e2, (hB0.cell (p := ⟨b1, o1 + k * 5 + 3, none⟩) hb1).trans e3, (hB0.cell (p := ⟨b1, o1 + k * 5 + 4, none⟩) hb1).trans e4⟩
              · cases hk
            refine (wpIn_wide (n := 9)).1 ?_
            refine wpIn_rangeFunc_ownH rfl (by omega) (gf := 48) (lb := #[.pointer (some ⟨wc.heap.size, 0, none⟩)]) rfl trivial (enters_of Try.func48 (by kernel_rfl) rfl)
              (back1_stops 8 (by omega) wc.heap.size b1 o1 m c1 (rest.take m) HGL.out (by omega) W0 (by omega) (by have := hB0.size; omega) (bN.cell 0) hel0) (fun h1 h2 => ⟨h1.1.trans h2.1, h1.2.trans h2.2⟩)
              (fun W l o o' hl ho hc hw => ⟨keepB_b (w := W0) (by omega) W l o o' hl ho hc hw, keepB_b (w := W0) (by have := hB0.size; omega) W l o o' hl ho hc hw⟩) (Below.refl _ _) (fun _ => rfl)
              (fun pre W => (∃ v, Boxed W w.heap.size 28 v ∧ W.ownsRow w.heap.size 3 1 v (acc ++ fwd (rest.take m) ++ bw pre).length (ints (acc ++ fwd (rest.take m) ++ bw pre)) ∧ True) ∧ (Boxs W wc.heap.size 22 #[(.slice (some ⟨b1, o1, none⟩) m c1)] ∧ ((∀ D, D ∈ Ds → W.heap[D]? = some (.deferred (some []))) ∧ Below w.heap.size w W)))
              (fun _ _ _ => False)
              (OwnFrom.and (Own.from (holdsRow_own w.heap.size w.heap.size 28 3 1 (fun pre : List (Nat × Sh) => (acc ++ fwd (rest.take m) ++ bw pre).length) (fun pre => ints (acc ++ fwd (rest.take m) ++ bw pre)) (fun _ _ => True)) _) (OwnFrom.and (Own.from (boxs_own _ _ _) _) (OwnFrom.and (fun _ X Y row hs hg hr D hD => (hg.block D (Array.getElem?_eq_some_iff.1 (hs D hD)).1 (fun e => by have h1 := (hr D e.symm).1; have h2 := (Array.getElem?_eq_some_iff.1 (hD0 D hD)).1; omega)).trans (hs D hD)) (ownFrom_below (Nat.le_refl _) (by have := hB0.size; omega)))))
              (fun _ _ _ _ _ hs _ _ => hs)
              ⟨⟨_, bO, by simpa [bw] using bR, trivial⟩, bN, hD0, hB0⟩
              (fun x a' W => ∃ Bx, wc.heap.size + 1 ≤ Bx ∧ Boxs W Bx 54 #[.int .i64 x.2.q, .int .i64 x.2.f0, .int .i64 x.2.f1, .int .i64 x.2.b0, .int .i64 x.2.b1] ∧ a' = { tmps := #[.slice (some ⟨b1, o1, none⟩) rest.length c1, undef, u2, u3, .pointer (some ⟨w.heap.size, 0, none⟩), .int .i64 qi, .int .i64 m, undef, u8, u9, .pointer (some ⟨Bx, 0, none⟩), u11, u12, u13, u14, u15, u16, u17, u18, u19, u20, u21, u22, u23, u24, u25, u26, u27, u28, u29, u30, u31, u32, u33, u34, u35, u36, u37, u38, u39, u40, u41, u42, u43, u44, u45, u46, u47, u48, u49, u50, u51, u52, u53, u54, u55, .slice (some ⟨b1, o1, none⟩) rest.length c1, .int .i64 m, .slice (some ⟨b1, o1, none⟩) m c1, .func (.func 48) #[] #[.pointer (some ⟨wc.heap.size, 0, none⟩)], .int .i64 x.1, .agg #[.int .i64 x.2.q, .int .i64 x.2.f0, .int .i64 x.2.f1, .int .i64 x.2.b0, .int .i64 x.2.b1], u62, u63, u64, u65, u66, u67, u68, u69, u70, u71, u72, u73, u74, u75, undef], defers := [] }) ?hAx ?assign ?body ?done ?stop
            case hAx =>
              rintro x a' _ X Y row ⟨Bx, g1, g2, g3⟩ hg hr
              exact ⟨Bx, g1, boxs_own Bx 54 (fun _ : Unit => #[.int .i64 x.2.q, .int .i64 x.2.f0, .int .i64 x.2.f1, .int .i64 x.2.b0, .int .i64 x.2.b1]) () X Y row g2 hg (fun r e => (hr r e).2), g3⟩
            case assign =>
              rintro l pre x W K ⟨⟨v, hv, hrow, _⟩, hN, hM, hB⟩ hK
              simp only [bEnc]
              gi_wp2
              exact hK _ _ ((KeepsOthers.alloc _ _).from _) ⟨keepB_boxs hN (hN.alloc _) (by simp), KeepB.of_below ((Below.refl _ W).alloc (Nat.le_refl _) _) (by have := hB.size; omega)⟩ ⟨⟨v, hv.alloc _, hrow.alloc _, trivial⟩, hN.alloc _, fun D hD => (KeepsOthers.alloc W _).same D _ (hM D hD) rfl, hB.alloc hB.size _⟩ ⟨W.heap.size, by have := hN.lt; omega, Boxs.new W 54 _, rfl⟩
            case body =>
              rintro l pre x a' W hl ⟨r, hr⟩ ⟨⟨v, hv, hrow, _⟩, hN, hM, hB⟩ ⟨Bx, hBx, bX, rfl⟩ hlt
              have hc := hv.cell
              have x1 : W.cell? ⟨Bx, 1, none⟩ = some (.int .i64 x.2.f0) := bX.cell 1
              have x4 : W.cell? ⟨Bx, 4, none⟩ = some (.int .i64 x.2.b1) := bX.cell 4
              have hBs := hB.size
              have hll : (acc ++ fwd (rest.take m) ++ bw pre).length + 2 ≤ 4 * xs.length := by
                rw [List.length_append, List.length_append, fwd_len, bw_len, List.length_take]; have := HACC.out; omega
              have e : acc ++ fwd (rest.take m) ++ bw (pre ++ [x]) = (acc ++ fwd (rest.take m) ++ bw pre) ++ [x.2.b1, x.2.f0] := by simp [bw]
              have HE := Lib.hid e
              clear e
              generalize hL : acc ++ fwd (rest.take m) ++ bw pre = L at *
              clear hL
              gi_wp2_with (gi_at_builtin; refine wpListIn_append_own _ rfl _ _ 28 rfl w.heap.size 3 i0 _ 1 8 Try.underlying28 HI.out HZ0.out HZ1.out HZ2.out rfl (by decide) _ _ _ rfl (hrow.alloc _) ⟨W.heap.size, 0, none⟩ 2 2 [.int .i64 x.2.b1, .int .i64 x.2.f0] rfl rfl (World.news_of_block (cs := #[.int .i64 x.2.b1, .int .i64 x.2.f0]) (t := 3) (fr := (0, 0)) (heap_alloc_new W _)) (by simp [Value.oneCell']) (by unfold maxLen; omega) (by omega) (by simp; omega) ?_; intro v' w1' hown' hgrow _; obtain ⟨g', cap', rfl⟩ := ownsRow_succ hown'; obtain ⟨hv1, hv2, hr2', hk2, hb2⟩ := hv.appended (by decide) hrow hBs (Nat.le_refl _) hown' hgrow; have hc1 := hv1.cell; have hf1 := hv1.frozen)
              have hN2 := fun v' => hN.appended (v' := v') (by decide) (show wc.heap.size ≠ w.heap.size by omega) hrow hgrow
              refine ⟨hk2.from _, ⟨keepB_boxs hN (hN2 _) hb2.size, KeepB.of_below hb2 hb1⟩, ⟨_, hv2, ?_, trivial⟩, hN2 _, fun D hD => hk2.same D _ (hM D hD) rfl, hB.trans hb2⟩
              rw [HE.out, List.length_append]
              simpa [ints] using hr2'
            case done =>
              rintro D ys W hD rfl ⟨⟨v, hv, hrow, _⟩, hN, hM, hB⟩ hK
              have hbwd : bw (bwI (rest.take m) m) = bwd (rest.take m) := by have := bw_bwI (rest.take m); rwa [HGL.out] at this
              rw [hbwd] at hrow
              have HV := Lib.hid hv; have HROW4 := Lib.hid hrow; have HM := Lib.hid hM; have HB4 := Lib.hid hB; have HK4 := Lib.hid hK
              have HKM := hD0
              clear hv hrow hN hM hB hK hbwd hD0 hel0
              have hdrop : (rest.drop m).length = rest.length - m := List.length_drop
              have HDROP := Lib.hid hdrop
              have hHacc : (acc ++ fwd (rest.take m) ++ bwd (rest.take m)).length + 4 * (rest.drop m).length = 4 * xs.length := by
                rw [List.length_append, List.length_append, fwd_len, bwd_len, HGL.out, hdrop]; have := HACC.out; omega
              have HHA := Lib.hid hHacc
              have hnD : D ∉ Ds := fun hd => by have := (Array.getElem?_eq_some_iff.1 (HKM D hd)).1; omega
              have HND2 := Lib.hid hnD
              have hB0s := hB0.size
              have HB0 := Lib.hid hB0s
              clear hdrop hHacc hnD HKM hB0 hB0s
              have hrel : ∀ sv : Value, RdS w sv (rest.drop m) → ReadRel w xs W sv (.int .i64 (qi + 1)) (D :: Ds) := fun sv hsv =>
                ⟨rest.drop m, f', qi + 1, acc ++ fwd (rest.take m) ++ bwd (rest.take m), v, hsv, by rw [HDROP.out]; omega, HF'.out, by omega, by rw [HDROP.out]; omega, rfl, HHA.out, HRR.out, HV.out, HROW4.out, HB4.out, List.nodup_cons.2 ⟨HND2.out, HND.out⟩, fun D' hD' => by
                  rcases List.mem_cons.1 hD' with rfl | h
                  · exact ⟨by have := HB0.out; omega, HK4.out⟩
                  · exact ⟨(HDS.out D' h).1, HM.out D' h⟩⟩
              have HREL := Lib.hid hrel
              clear hrel
              by_cases hmc : m = c1
              · have hrl : rest.length = m := by omega
                have hnil : rest.drop m = [] := List.drop_eq_nil_of_le (by omega)
                have HNIL := Lib.hid hnil
                clear hnil
                go_wp2
                refine ⟨⟨_, _, _, _, _, _, _, _, _, _, _, _, _, _, _, _, _, _, _, _, _, _, _, _, _, _, _, _, _, _, _, _, _, _, _, _, _, _, _, _, _, _, _, _, _, _, _, _, _, _, _, _, _, _, _, _, _, _, _, _, _, _, _, _, _, _, _, _, _, _, _, _, _, D :: Ds, HREL.out _ ?_, rfl⟩, by simp [sliceLen]; omega⟩
                rw [HNIL.out]
                exact RdS_mk (by simp) (by omega) (by omega) hb1 (by simp)
              · go_wp2
                refine ⟨⟨_, _, _, _, _, _, _, _, _, _, _, _, _, _, _, _, _, _, _, _, _, _, _, _, _, _, _, _, _, _, _, _, _, _, _, _, _, _, _, _, _, _, _, _, _, _, _, _, _, _, _, _, _, _, _, _, _, _, _, _, _, _, _, _, _, _, _, _, _, _, _, _, _, D :: Ds, HREL.out _ ?_, rfl⟩, by simp [sliceLen]; omega⟩
                refine RdS_mk HDROP.out (by omega) (by omega) hb1 fun k y hk => ?_
                rw [List.getElem?_drop] at hk
                have := HEL.out _ _ hk
                rw [show (m + k) * 5 = m * 5 + k * 5 by omega, ← Nat.add_assoc] at this
                exact this
            case stop =>
              rintro D c pre W _ _ h _
              exact h.elim
        · have hqb : (x.q != qi) = true := by simpa using hqq
          have hRe : readL xs = ([], 2) := by rw [HR.out]; exact readF_bad HX.out hr2 hqq
          have HRE := Lib.hid hRe
          clear hRe hrp hqq
          go_wp2
          refine leaves_marks w.heap.size (fun W => Below w.heap.size w W) (.tuple #[.slice none 0 0, .int .i64 2]) (fun W h => ⟨results_tmp2 (t := 2) (u := 3) rfl _ _ _, .slice none 0 0, by rw [HRE.out], by rw [HRE.out]; exact OwnI.nil _ _, h⟩) (fun W D hD h hd => h.trans (belowK_b (w := w) (Nat.le_refl _) W D _ _ hD hd rfl rfl)) Ds _ (Below.dn HB.out _) HND.out HDS.out
    · have hre : rest = [] := List.eq_nil_of_length_eq_zero (by omega)
      have hRe : readL xs = (acc, 0) := by rw [HR.out, hre, readF_nil]
      have HRE := Lib.hid hRe
      clear hRe hre hel
      go_wp2
      refine leaves_marks w.heap.size (fun W => OwnI W w.heap.size v acc ∧ Below w.heap.size w W) (.tuple #[v, .int .i64 0]) (fun W h => ⟨results_tmp2 (t := 2) (u := 3) rfl _ _ _, v, by rw [HRE.out], by rw [HRE.out]; exact h.1, h.2⟩) (fun W D hD h hd => ⟨ownsRow_putObj h.1 _ hd rfl, h.2.trans (belowK_b (w := w) (Nat.le_refl _) W D _ _ hD hd rfl rfl)⟩) Ds _ ⟨HROW.out, HB.out⟩ HND.out HDS.out
end Go.Proofs.Ythldekpbjfhmcaa
