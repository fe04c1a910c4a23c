/- tables of strings; what Parse gives. The walk of SpanBack. -/
import Derived.Test.YtecdkpcapalifaaDoorM14
set_option linter.unusedVariables false
namespace Go.Proofs.YtecdkpcapalifaaDoor
open Go.RowKit Go.Maps

theorem bs_of (S : ByteArray) : ∃ t, S = bs t := ⟨S.data.toList, by unfold bs; simp⟩
theorem parseS_some {s : Sty} {t : List UInt8} {l : List Sp} (h : parseS s t = some l) : nrm l = true ∧ formL s l = t := by
  unfold parseS at h
  split at h
  · rename_i h0
    cases h
    exact ⟨rfl, h0.symm ▸ rfl⟩
  · split at h
    · cases h
    · split at h
      · rename_i hc
        cases h
        exact hc
      · cases h
theorem parseV_nrm (s : Sty) (t : List UInt8) : nrm (parseV s t) = true := by
  unfold parseV
  cases h : parseS s t with
  | none => rfl
  | some l => exact (parseS_some h).1
theorem parseV'_nrm (s : Sty) (t : List UInt8) : nrm (parseV' s t) = true := by
  by_cases hs : okSty s
  · rw [parseV'_ok hs]; exact parseV_nrm s t
  · rw [parseV'_bad hs]; rfl
theorem parseV'_len (s : Sty) (t : List UInt8) : (parseV' s t).length ≤ 500 := nrm_len (parseV'_nrm s t)
/-- a table of strings -/
def TabT (W : World) (T n : Nat) : Prop := T < W.heap.size ∧ ∀ k, k < n → ∃ u, W.cell? ⟨T, k, none⟩ = some (.string (bs u)) ∧ u.length ≤ 1000
theorem TabT.below {W W' : World} {T n : Nat} (h : TabT W T n) (hb : Below W.heap.size W W') : TabT W' T n :=
  ⟨Nat.lt_of_lt_of_le h.1 hb.size, fun k hk => by
    obtain ⟨u, h1, h2⟩ := h.2 k hk
    exact ⟨u, (hb.cell (p := ⟨T, k, none⟩) h.1).trans h1, h2⟩⟩
theorem tabT_of_owns {w : World} {base : Nat} {g n c : Nat} {xs : List (List UInt8)} (h : w.ownsRow base 9 1 (.slice (some ⟨g, 0, none⟩) n c) n (xs.map fun u => .string (bs u))) (hl : ∀ u ∈ xs, u.length ≤ 1000) : TabT w g n := by
  have hn : xs.length = n := by have := h.1; simpa using this
  refine ⟨?_, fun k hk => ?_⟩
  · rcases h.2 with ⟨he, _⟩ | ⟨g', cap', cur, he, _, hg, _⟩
    · cases he
    · obtain ⟨rfl, rfl⟩ : g = g' ∧ c = cap' := by simpa using he
      exact (Array.getElem?_eq_some_iff.1 hg).1
  · have hk' : k < xs.length := by omega
    have := World.ownsRow.cells h (g := g) rfl k (.string (bs xs[k])) (by rw [List.getElem?_map, List.getElem?_eq_getElem hk']; rfl)
    have hadd : (⟨g, 0, none⟩ : Addr).add k = ⟨g, k, none⟩ := by unfold Addr.add; split <;> simp_all
    rw [hadd] at this
    exact ⟨_, this, hl _ (List.getElem_mem hk')⟩
end Go.Proofs.YtecdkpcapalifaaDoor

namespace Go.Proofs.YtecdkpcapalifaaDoor
open Go.RowKit Go.Maps

theorem parse_fine {s : Sty} {u : List UInt8} (h : parseE s u = 0) : parseS s u = some (parseV s u) := by
  unfold parseE at h
  unfold parseV
  cases hp : parseS s u with
  | none => rw [hp] at h; simp at h
  | some l => rfl
theorem parse_two (s : Sty) (u : List UInt8) : parseE s u = 0 ∨ parseE s u = 2 := by
  unfold parseE
  split <;> simp
theorem back_fine {s : Sty} {u : List UInt8} (hs : okSty s) (h : parseE s u = 0) : printE s (parseV s u) = 0 ∧ printT s (parseV s u) = u := by
  have hp := parse_fine h
  obtain ⟨h1, h2⟩ := parseS_some hp
  have := print_good (s := s) (l := parseV s u) hs h1 (by rw [h2]; exact hp)
  rw [h2] at this
  exact this
/-- a style in a block of its own -/
def StyB (W : World) (A : Nat) (s : Sty) : Prop := A < W.heap.size ∧ StyC W A 0 s
theorem StyB.below {W W' : World} {A : Nat} {s : Sty} (h : StyB W A s) (hb : Below W.heap.size W W') : StyB W' A s := ⟨Nat.lt_of_lt_of_le h.1 hb.size, h.2.below hb h.1⟩
theorem StyB.cells {W : World} {A : Nat} {k row pas : Int} {nx : Bool} (h : StyB W A ⟨k, nx, row, pas⟩) : W.cell? ⟨A, 0, none⟩ = some (.int .i64 k) ∧ W.cell? ⟨A, 1, none⟩ = some (.bool nx) ∧ W.cell? ⟨A, 2, none⟩ = some (.int .i64 row) ∧ W.cell? ⟨A, 3, none⟩ = some (.int .i64 pas) := h.2
theorem StyB.grown {W W' : World} {A : Nat} {s : Sty} {row : Option Nat} (h : StyB W A s) (hg : W.grownBy W' row) (hne : some A ≠ row) : StyB W' A s :=
  ⟨Nat.lt_of_lt_of_le h.1 hg.size, (hg.cell_far ⟨A, 0, none⟩ h.1 hne).trans h.2.1, (hg.cell_far ⟨A, 1, none⟩ h.1 hne).trans h.2.2.1, (hg.cell_far ⟨A, 2, none⟩ h.1 hne).trans h.2.2.2.1, (hg.cell_far ⟨A, 3, none⟩ h.1 hne).trans h.2.2.2.2⟩
theorem styB_new (w : World) (t : TypeId) (k row pas : Int) (nx : Bool) : StyB (w.alloc (.cells #[.int .i64 k, .bool nx, .int .i64 row, .int .i64 pas] t)) w.heap.size ⟨k, nx, row, pas⟩ := by
  have bx := Boxs.new w t #[.int .i64 k, .bool nx, .int .i64 row, .int .i64 pas]
  exact ⟨bx.lt, bx.cell 0, bx.cell 1, bx.cell 2, bx.cell 3⟩

set_option maxRecDepth 100000 in
set_option maxHeartbeats 16000000 in
theorem spanBack_any (v0 : Value) (xs : List Int) (m how n : Int) (RAW : ByteArray) (w : World) (h0 : RdI w v0 xs) (i0 : inI xs) (hml : ML w) (hraw9 : RAW.size ≤ 140737488355328)
    (hm1 : -9223372036854775808 ≤ m) (hm2 : m ≤ 9223372036854775807) (h1 : -9223372036854775808 ≤ how) (h2 : how ≤ 9223372036854775807) (h5 : -9223372036854775808 ≤ n) (h6 : n ≤ 9223372036854775807) :
    Calls Tryd.prog 6 #[v0, .int .i64 m, .int .i64 how, .int .i64 n, .string RAW] w fun e w' => e = .returned (.bool true) ∧ Below w.heap.size w w' := by
  have HML := Lib.hid hml
  have hlt := hml.lt
  have H0 := Lib.hid h0
  have MA := made_any m w hm1 hm2
  obtain ⟨a0, c0, hv0, _⟩ := h0.open
  subst hv0
  obtain ⟨tr, rfl⟩ := bs_of RAW
  obtain ⟨i9, hi9, hz0, hz1, hz2⟩ := info_parts Tryd.info9
  have HI := Lib.hid hi9; have HZ0 := Lib.hid hz0; have HZ1 := Lib.hid hz1; have HZ2 := Lib.hid hz2
  clear hi9 hz0 hz1 hz2 hml h0
  go_enter Tryd.func6, Tryd.ntmps6
  go_wp2_with fail
  refine MA.mono ?_
  rintro e w1 ⟨s1, hs1m, rfl, hb1⟩
  obtain ⟨k1, nx1, row1, pas1⟩ := s1
  unfold styV
  dsimp only
  have ST := style_any k1 row1 pas1 nx1 w1
  have HOK := Lib.hid hs1m.1
  have HB1 := Lib.hid hb1
  clear MA hb1 hs1m
  go_wp2_with fail
  refine ST.mono ?_
  rintro e w2 ⟨rfl, hb2⟩
  have HBD := Lib.hid ((HB1.out.trans (hb2.mono HB1.out.size)).alloc (by have := HB1.out.size; have := hb2.size; omega) (.cells #[.int .i64 k1, .bool nx1, .int .i64 row1, .int .i64 pas1] 36))
  have GA := Lib.hid (styB_new w2 36 k1 row1 pas1 nx1)
  have LA := list_any _ xs (w2.alloc (.cells #[.int .i64 k1, .bool nx1, .int .i64 row1, .int .i64 pas1] 36)) (H0.out.below HBD.out) i0
  clear ST hb2 HB1 H0
  go_wp2_with fail
  generalize w2.alloc (.cells #[.int .i64 k1, .bool nx1, .int .i64 row1, .int .i64 pas1] 36) = w3 at *
  obtain ⟨A, hA⟩ : ∃ A, w2.heap.size = A := ⟨_, rfl⟩
  rw [hA] at GA ⊢
  clear hA
  refine LA.mono ?_
  rintro e w4 ⟨va, rfl, L, hown, hnrm, hll, hb1⟩
  have HBD := Lib.hid (HBD.out.trans (hb1.mono HBD.out.size)); have GA := Lib.hid (GA.out.below hb1)
  have OW := own_any _ L w4 (RdP_of_owns hown) (by omega)
  obtain ⟨aa, ca, rfl⟩ := owns_slice hown
  clear LA hown hb1
  go_wp2_with fail
  refine OW.mono ?_
  rintro e w5 ⟨vl, rfl, hown, hb1⟩
  have HBD := Lib.hid (HBD.out.trans (hb1.mono HBD.out.size)); have GA := Lib.hid (GA.out.below hb1)
  have rl := RdP_of_owns hown
  obtain ⟨al, cl, rfl⟩ := owns_slice hown
  have HL := Lib.hid rl
  have hfl := formL_len ⟨k1, nx1, row1, pas1⟩ L
  have PR := print_any ⟨k1, nx1, row1, pas1⟩ _ L w5 rl (by omega) (fun _ _ => by omega) (HML.out.below HBD.out hlt)
  clear OW hown hb1 rl
  obtain ⟨c0, c1, c2, c3⟩ := GA.out.cells
  go_wp2_with fail
  refine PR.mono ?_
  rintro e w6 ⟨rfl, hb1⟩
  have HBD := Lib.hid (HBD.out.trans (hb1.mono HBD.out.size)); have GA := Lib.hid (GA.out.below hb1); have HL := Lib.hid (HL.out.below hb1)
  clear PR hb1 c0 c1 c2 c3
  by_cases hp : parseS ⟨k1, nx1, row1, pas1⟩ (formL ⟨k1, nx1, row1, pas1⟩ L) = some L
  · obtain ⟨q1, q2⟩ := print_good (s := ⟨k1, nx1, row1, pas1⟩) (l := L) HOK.out hnrm hp
    rw [q1, q2]
    have PA := parse_any ⟨k1, nx1, row1, pas1⟩ (formL ⟨k1, nx1, row1, pas1⟩ L) w6 HOK.out (by omega) (HML.out.below HBD.out hlt)
    have pe : parseE ⟨k1, nx1, row1, pas1⟩ (formL ⟨k1, nx1, row1, pas1⟩ L) = 0 := by unfold parseE; rw [hp]; rfl
    have pv : parseV ⟨k1, nx1, row1, pas1⟩ (formL ⟨k1, nx1, row1, pas1⟩ L) = L := by unfold parseV; rw [hp]; rfl
    unfold ParseOut at PA
    rw [pe, pv] at PA
    obtain ⟨tt, htt⟩ : ∃ tt, formL ⟨k1, nx1, row1, pas1⟩ L = tt := ⟨_, rfl⟩
    rw [htt] at PA hfl ⊢
    have ht9 : tt.length ≤ 200 := by omega
    clear q1 q2 pe pv hp htt hfl hnrm
    obtain ⟨c0, c1, c2, c3⟩ := GA.out.cells
    go_wp2_with fail
    refine PA.mono ?_
    rintro e w7 ⟨vx, rfl, rx, hb1⟩
    have HBD := Lib.hid (HBD.out.trans (hb1.mono HBD.out.size)); have GA := Lib.hid (GA.out.below hb1); have HL := Lib.hid (HL.out.below hb1)
    have MD := model_any _ L w7 rx (by omega)
    obtain ⟨ax, cx, rfl⟩ := rx.form
    clear PA rx hb1 c0 c1 c2 c3
    go_wp2_with fail
    refine MD.mono ?_
    rintro e w8 ⟨vm, rfl, hown, hb1⟩
    have HBD := Lib.hid (HBD.out.trans (hb1.mono HBD.out.size)); have GA := Lib.hid (GA.out.below hb1); have HL := Lib.hid (HL.out.below hb1)
    have HM := Lib.hid (RdP_of_owns hown)
    obtain ⟨am, cm, rfl⟩ := owns_slice hown
    have MD := model_any _ L w8 HL.out (by omega)
    clear hown hb1
    go_wp2_with fail
    refine MD.mono ?_
    rintro e w9 ⟨vn, rfl, hown, hb1⟩
    have HBD := Lib.hid (HBD.out.trans (hb1.mono HBD.out.size)); have GA := Lib.hid (GA.out.below hb1)
    have SM := same_any _ vn L L w9 (HM.out.below hb1) (RdP_of_owns hown)
    rw [show decide (L = L) = true from decide_eq_true rfl] at SM
    obtain ⟨an, cn, rfl⟩ := owns_slice hown
    clear MD hown hb1 HM HL
    go_wp2_with fail
    refine SM.mono ?_
    rintro e w10 ⟨rfl, hb1⟩
    have HBD := Lib.hid (HBD.out.trans (hb1.mono HBD.out.size)); have GA := Lib.hid (GA.out.below hb1)
    have TO := torn_any (bs tt) how n w10 (by rw [bs_size]; omega) h1 h2 h5 h6
    clear SM hb1
    go_wp2_with fail
    refine TO.mono ?_
    rintro e w11 ⟨tb, rfl, htb, hb1⟩
    have HBD := Lib.hid (HBD.out.trans (hb1.mono HBD.out.size)); have GA := Lib.hid (GA.out.below hb1)
    obtain ⟨fb, rfl⟩ := bs_of tb
    rw [bs_size, bs_size] at htb
    clear hb1 TO
    have hlr := bs_size tr
    have OB : (w11.alloc (.cells #[.string (bs tt), .string (bs fb)] 9)).ownsRow w.heap.size 9 1 (.slice (some ⟨w11.heap.size, 0, none⟩) 2 2) 2 ([tt, fb].map fun u => .string (bs u)) := owns_block (Boxs.new w11 9 #[.string (bs tt), .string (bs fb)]) HBD.out.size rfl rfl (by omega)
    have hall : ∀ u ∈ ([tt, fb] : List (List UInt8)), u.length ≤ 1000 := by
      intro u hu
      simp only [List.mem_cons, List.not_mem_nil, or_false] at hu
      rcases hu with rfl | rfl <;> omega
    have hs11 := HBD.out.size
    have hA11 := GA.out.1
    have HBD := Lib.hid (HBD.out.alloc HBD.out.size (.cells #[.string (bs tt), .string (bs fb)] 9))
    have GA := Lib.hid (GA.out.below ((Below.refl _ _).alloc (Nat.le_refl _) (.cells #[.string (bs tt), .string (bs fb)] 9)))
    by_cases hr200 : tr.length ≤ 200
    · have HO := Lib.hid (OB.alloc (.cells #[.string (bs tr)] 9))
      have HBD := Lib.hid (HBD.out.alloc HBD.out.size (.cells #[.string (bs tr)] 9))
      have GA := Lib.hid (GA.out.below ((Below.refl _ _).alloc (Nat.le_refl _) (.cells #[.string (bs tr)] 9)))
      have HAL := Lib.hid (show ∀ u ∈ ([tt, fb] ++ [tr] : List (List UInt8)), u.length ≤ 1000 from fun u hu => by
        rcases List.mem_append.1 hu with h | h
        · exact hall u h
        · rw [List.mem_singleton.1 h]; omega)
      have hnw := Lib.hid (show ∀ j u, [Value.string (bs tr)][j]? = some u → ((w11.alloc (.cells #[.string (bs tt), .string (bs fb)] 9)).alloc (.cells #[.string (bs tr)] 9)).cell? ((⟨w11.heap.size + 1, 0, none⟩ : Addr).add j) = some u by
        rw [show w11.heap.size + 1 = (w11.alloc (.cells #[.string (bs tt), .string (bs fb)] 9)).heap.size by simp]; exact World.news_of_block (cs := #[.string (bs tr)]) (t := 9) (fr := (0, 0)) (heap_alloc_new _ _))
      have hrl : ((bs tr).size : Int) ≤ 200 := by omega
      clear OB hall
      go_wp2_with (at_builtin; refine wpList_append_at rfl _ _ _ rfl w.heap.size 9 i9 _ 1 16 Tryd.underlying45 HI.out HZ0.out HZ1.out HZ2.out rfl (by omega) _ 2 ([tt, fb].map fun u => .string (bs u)) rfl HO.out ⟨w11.heap.size + 1, 0, none⟩ 1 1 [.string (bs tr)] rfl rfl hnw.out (by simp [Value.oneCell']) (by unfold maxLen; omega) (by omega) (by simp; omega) ?_; intro vt wt hownt hgt; obtain ⟨g, cap, rfl, hgb, hgl⟩ := hownt.form (by omega))
      have HB9 := Lib.hid (HBD.out.grown hgt (by simp; omega) (fun j e => by cases e; exact hs11))
      have GA := Lib.hid (GA.out.grown hgt (by show some A ≠ some w11.heap.size; simp; omega))
      have HTT := Lib.hid (tabT_of_owns (show wt.ownsRow w.heap.size 9 1 (.slice (some ⟨g, 0, none⟩) 3 cap) 3 (([tt, fb] ++ [tr]).map fun u => .string (bs u)) from hownt) HAL.out)
      clear hgt hownt HBD HAL hnw HO
      go_loopw [18] (fun i wr => ∃ k : Nat, k ≤ 3 ∧ i = .int .i64 k ∧ TabT wr g 3 ∧ StyB wr A ⟨k1, nx1, row1, pas1⟩ ∧ Below w.heap.size w wr) (fun i _ => 3 - (intOf i).toNat)
      case atStart => exact ⟨0, by omega, rfl, HTT.out, GA.out, HB9.out⟩
      case round =>
        obtain ⟨k, hk, rfl, htab, hta, hbl⟩ := hrel
        have hk9 : (k : Int) ≤ 3 := by omega
        have hk0 : (0 : Int) ≤ (k : Int) := by omega
        by_cases hk4 : k < 3
        · have hk4i : (k : Int) < 3 := by omega
          have HTT := Lib.hid htab; have HA := Lib.hid hta; have HBL := Lib.hid hbl
          clear htab hta hbl
          go_wp2_with fail
          obtain ⟨u, hcl, hul⟩ := HTT.out.2 k hk4
          have SB : ∀ {W W' : World}, (StyB W A ⟨k1, nx1, row1, pas1⟩ ∧ g < W.heap.size ∧ W.cell? ⟨g, k, none⟩ = some (.string (bs u))) → Below W.heap.size W W' → (StyB W' A ⟨k1, nx1, row1, pas1⟩ ∧ g < W'.heap.size ∧ W'.cell? ⟨g, k, none⟩ = some (.string (bs u))) := fun h hb => ⟨h.1.below hb, Nat.lt_of_lt_of_le h.2.1 hb.size, (hb.cell (p := ⟨g, k, none⟩) h.2.1).trans h.2.2⟩
          have HBD := Lib.hid (Below.dn (Below.refl wr.heap.size wr) 1)
          have PA := parse_any ⟨k1, nx1, row1, pas1⟩ u (wr.drewN 1) HOK.out hul (HML.out.below (HBL.out.trans (HBD.out.mono HBL.out.size)) hlt)
          have G1 := Lib.hid (show StyB (wr.drewN 1) A ⟨k1, nx1, row1, pas1⟩ ∧ g < (wr.drewN 1).heap.size ∧ (wr.drewN 1).cell? ⟨g, k, none⟩ = some (.string (bs u)) from ⟨HA.out, HTT.out.1, hcl⟩)
          clear hcl
          refine wp_region_held (S := fun W => StyB W A ⟨k1, nx1, row1, pas1⟩ ∧ g < W.heap.size ∧ W.cell? ⟨g, k, none⟩ = some (.string (bs u))) (by kernel_rfl) ?_
          have hdr : (wr).drew = { wr with drawn := (wr).drawn + 1 } := rfl
          rw [← hdr]
          clear hdr
          refine wpAnyHTake 0 (some 73) (.agg #[.int .i64 k1, .bool nx1, .int .i64 row1, .int .i64 pas1]) rfl rfl (by kernel_rfl) (by kernel_rfl) (by kernel_rfl) (fun _ _ _ h => h) (by rfl) (fun W hW => by obtain ⟨⟨_, c0, c1, c2, c3⟩, _, c4⟩ := hW; dsimp only at c0 c1 c2 c3; go_simp) (G1.out) ?_
          simp only [Act.put, List.setIfInBounds_toArray, List.set_cons_zero, List.set_cons_succ]
          refine wpAnyHTake 1 (some 74) (.slice (some ⟨g, 0, none⟩) 3 cap) rfl rfl (by kernel_rfl) (by kernel_rfl) (by kernel_rfl) (fun _ _ _ h => h) (by rfl) (fun _ _ => by rfl) (G1.out) ?_
          simp only [Act.put, List.setIfInBounds_toArray, List.set_cons_zero, List.set_cons_succ]
          refine wpAnyHTake 2 (some 75) (.int .i64 (k : Int)) rfl rfl (by kernel_rfl) (by kernel_rfl) (by kernel_rfl) (fun _ _ _ h => h) (by rfl) (fun _ _ => by rfl) (G1.out) ?_
          simp only [Act.put, List.setIfInBounds_toArray, List.set_cons_zero, List.set_cons_succ]
          refine wpAnyHTake 3 (some 76) (.pointer (some ⟨g, k, none⟩)) rfl rfl (by kernel_rfl) (by kernel_rfl) (by kernel_rfl) (fun _ _ _ h => h) (by rfl) (fun _ _ => by go_simp) (G1.out) ?_
          simp only [Act.put, List.setIfInBounds_toArray, List.set_cons_zero, List.set_cons_succ]
          refine wpAnyHTake 4 (some 77) (.string (bs u)) rfl rfl (by kernel_rfl) (by kernel_rfl) (by kernel_rfl) (fun _ _ _ h => h) (by rfl) (fun W hW => by obtain ⟨⟨_, c0, c1, c2, c3⟩, _, c4⟩ := hW; dsimp only at c0 c1 c2 c3; go_simp) (G1.out) ?_
          simp only [Act.put, List.setIfInBounds_toArray, List.set_cons_zero, List.set_cons_succ]
          refine wpAnyHCall 5 (some 78) 23 #[.agg #[.int .i64 k1, .bool nx1, .int .i64 row1, .int .i64 pas1], .string (bs u)] (by kernel_rfl) rfl rfl (by rfl) (by go_simp) (PA) ?_
          rintro e xc2 ⟨vx, rfl, rx, hb9⟩
          have G2 := Lib.hid (SB G1.out hb9)
          have HBD := Lib.hid (HBD.out.trans (hb9.mono HBD.out.size))
          obtain ⟨ax, cx, rfl⟩ := rx.form
          have HX := Lib.hid rx
          clear rx
          clear hb9 PA
          refine ⟨_, rfl, G2.out, ?_⟩
          simp only [Act.put, List.setIfInBounds_toArray, List.set_cons_zero, List.set_cons_succ]
          refine wpAnyHTake 6 (some 72) (.tuple #[.slice ax (parseV ⟨k1, nx1, row1, pas1⟩ u).length cx, .int .i64 (parseE ⟨k1, nx1, row1, pas1⟩ u)]) rfl rfl (by kernel_rfl) (by kernel_rfl) (by kernel_rfl) (fun _ _ _ h => h) (by rfl) (fun _ _ => by rfl) (G2.out) ?_
          simp only [Act.put, List.setIfInBounds_toArray, List.set_cons_zero, List.set_cons_succ]
          refine wpAnyHTake 7 (some 79) (.slice ax (parseV ⟨k1, nx1, row1, pas1⟩ u).length cx) rfl rfl (by kernel_rfl) (by kernel_rfl) (by kernel_rfl) (fun _ _ _ h => h) (by rfl) (fun _ _ => by rfl) (G2.out) ?_
          simp only [Act.put, List.setIfInBounds_toArray, List.set_cons_zero, List.set_cons_succ]
          refine wpAnyHTake 8 (some 80) (.int .i64 (parseE ⟨k1, nx1, row1, pas1⟩ u)) rfl rfl (by kernel_rfl) (by kernel_rfl) (by kernel_rfl) (fun _ _ _ h => h) (by rfl) (fun _ _ => by rfl) (G2.out) ?_
          simp only [Act.put, List.setIfInBounds_toArray, List.set_cons_zero, List.set_cons_succ]
          refine wpAnyHTake 9 (some 19) (.slice ax (parseV ⟨k1, nx1, row1, pas1⟩ u).length cx) rfl rfl (by kernel_rfl) (by kernel_rfl) (by kernel_rfl) (fun _ _ _ h => h) (by rfl) (fun _ _ => by rfl) (G2.out) ?_
          simp only [Act.put, List.setIfInBounds_toArray, List.set_cons_zero, List.set_cons_succ]
          refine wpAnyHTake 10 (some 20) (.int .i64 (parseE ⟨k1, nx1, row1, pas1⟩ u)) rfl rfl (by kernel_rfl) (by kernel_rfl) (by kernel_rfl) (fun _ _ _ h => h) (by rfl) (fun _ _ => by rfl) (G2.out) ?_
          simp only [Act.put, List.setIfInBounds_toArray, List.set_cons_zero, List.set_cons_succ]
          refine wpAnyH_done (by kernel_rfl) ?_ _
          rcases parse_two ⟨k1, nx1, row1, pas1⟩ u with hpe | hpe
          · obtain ⟨b1, b2⟩ := back_fine HOK.out hpe
            have hpf := (parseS_some (parse_fine hpe)).2
            have PR := print_any ⟨k1, nx1, row1, pas1⟩ _ (parseV ⟨k1, nx1, row1, pas1⟩ u) xc2 HX.out (by have := nrm_len (parseV_nrm ⟨k1, nx1, row1, pas1⟩ u); omega) (fun _ _ => by rw [hpf]; exact hul) (HML.out.below (HBL.out.trans (HBD.out.mono HBL.out.size)) hlt)
            rw [b1, b2] at PR
            rw [hpe]
            clear b1 b2 hpf
            obtain ⟨⟨_, c0, c1, c2, c3⟩, _, c4⟩ := G2.out
            dsimp only at c0 c1 c2 c3
            go_wp2_with fail
            refine PR.mono ?_
            rintro e y1 ⟨rfl, hb9⟩
            have HBD := Lib.hid (HBD.out.trans (hb9.mono HBD.out.size))
            have c5 := (SB G2.out hb9).2.2
            clear hb9 PR c0 c1 c2 c3 c4
            go_wp2_with fail
            go_roundw
            case rel => exact ⟨k + 1, by omega, by go_num, HTT.out.below HBD.out, HA.out.below HBD.out, HBL.out.trans (HBD.out.mono HBL.out.size)⟩
            case measure => simp [intOf]; omega
          · rw [hpe]
            go_wp2_with fail
            go_roundw
            case rel => exact ⟨k + 1, by omega, by go_num, HTT.out.below HBD.out, HA.out.below HBD.out, HBL.out.trans (HBD.out.mono HBL.out.size)⟩
            case measure => simp [intOf]; omega
        · have hk4i : ¬ (k : Int) < 3 := by omega
          have LV := lives_any wr (HML.out.below hbl hlt)
          have HBL := Lib.hid hbl
          clear htab hta hbl
          go_wp2_with fail
          refine LV.mono ?_
          rintro e w19 ⟨rfl, hb9⟩
          have HBM := Lib.hid (HBL.out.trans (hb9.mono HBL.out.size))
          clear hb9 LV
          go_wp2_with fail
          go_ret
          exact ⟨rfl, HBM.out⟩
    · have HTT := Lib.hid (tabT_of_owns OB hall)
      have hrl : ¬ ((bs tr).size : Int) ≤ 200 := by omega
      have HB9 := HBD
      clear OB hall HBD
      go_wp2_with fail
      generalize w11.alloc (.cells #[.string (bs tt), .string (bs fb)] 9) = wt at *
      obtain ⟨g, hg⟩ : ∃ g, w11.heap.size = g := ⟨_, rfl⟩
      rw [hg] at HTT ⊢
      clear hg
      go_loopw [18] (fun i wr => ∃ k : Nat, k ≤ 2 ∧ i = .int .i64 k ∧ TabT wr g 2 ∧ StyB wr A ⟨k1, nx1, row1, pas1⟩ ∧ Below w.heap.size w wr) (fun i _ => 2 - (intOf i).toNat)
      case atStart => exact ⟨0, by omega, rfl, HTT.out, GA.out, HB9.out⟩
      case round =>
        obtain ⟨k, hk, rfl, htab, hta, hbl⟩ := hrel
        have hk9 : (k : Int) ≤ 2 := by omega
        have hk0 : (0 : Int) ≤ (k : Int) := by omega
        by_cases hk4 : k < 2
        · have hk4i : (k : Int) < 2 := by omega
          have HTT := Lib.hid htab; have HA := Lib.hid hta; have HBL := Lib.hid hbl
          clear htab hta hbl
          go_wp2_with fail
          obtain ⟨u, hcl, hul⟩ := HTT.out.2 k hk4
          have SB : ∀ {W W' : World}, (StyB W A ⟨k1, nx1, row1, pas1⟩ ∧ g < W.heap.size ∧ W.cell? ⟨g, k, none⟩ = some (.string (bs u))) → Below W.heap.size W W' → (StyB W' A ⟨k1, nx1, row1, pas1⟩ ∧ g < W'.heap.size ∧ W'.cell? ⟨g, k, none⟩ = some (.string (bs u))) := fun h hb => ⟨h.1.below hb, Nat.lt_of_lt_of_le h.2.1 hb.size, (hb.cell (p := ⟨g, k, none⟩) h.2.1).trans h.2.2⟩
          have HBD := Lib.hid (Below.dn (Below.refl wr.heap.size wr) 1)
          have PA := parse_any ⟨k1, nx1, row1, pas1⟩ u (wr.drewN 1) HOK.out hul (HML.out.below (HBL.out.trans (HBD.out.mono HBL.out.size)) hlt)
          have G1 := Lib.hid (show StyB (wr.drewN 1) A ⟨k1, nx1, row1, pas1⟩ ∧ g < (wr.drewN 1).heap.size ∧ (wr.drewN 1).cell? ⟨g, k, none⟩ = some (.string (bs u)) from ⟨HA.out, HTT.out.1, hcl⟩)
          clear hcl
          refine wp_region_held (S := fun W => StyB W A ⟨k1, nx1, row1, pas1⟩ ∧ g < W.heap.size ∧ W.cell? ⟨g, k, none⟩ = some (.string (bs u))) (by kernel_rfl) ?_
          have hdr : (wr).drew = { wr with drawn := (wr).drawn + 1 } := rfl
          rw [← hdr]
          clear hdr
          refine wpAnyHTake 0 (some 73) (.agg #[.int .i64 k1, .bool nx1, .int .i64 row1, .int .i64 pas1]) rfl rfl (by kernel_rfl) (by kernel_rfl) (by kernel_rfl) (fun _ _ _ h => h) (by rfl) (fun W hW => by obtain ⟨⟨_, c0, c1, c2, c3⟩, _, c4⟩ := hW; dsimp only at c0 c1 c2 c3; go_simp) (G1.out) ?_
          simp only [Act.put, List.setIfInBounds_toArray, List.set_cons_zero, List.set_cons_succ]
          refine wpAnyHTake 1 (some 74) (.slice (some ⟨g, 0, none⟩) 2 2) rfl rfl (by kernel_rfl) (by kernel_rfl) (by kernel_rfl) (fun _ _ _ h => h) (by rfl) (fun _ _ => by rfl) (G1.out) ?_
          simp only [Act.put, List.setIfInBounds_toArray, List.set_cons_zero, List.set_cons_succ]
          refine wpAnyHTake 2 (some 75) (.int .i64 (k : Int)) rfl rfl (by kernel_rfl) (by kernel_rfl) (by kernel_rfl) (fun _ _ _ h => h) (by rfl) (fun _ _ => by rfl) (G1.out) ?_
          simp only [Act.put, List.setIfInBounds_toArray, List.set_cons_zero, List.set_cons_succ]
          refine wpAnyHTake 3 (some 76) (.pointer (some ⟨g, k, none⟩)) rfl rfl (by kernel_rfl) (by kernel_rfl) (by kernel_rfl) (fun _ _ _ h => h) (by rfl) (fun _ _ => by go_simp) (G1.out) ?_
          simp only [Act.put, List.setIfInBounds_toArray, List.set_cons_zero, List.set_cons_succ]
          refine wpAnyHTake 4 (some 77) (.string (bs u)) rfl rfl (by kernel_rfl) (by kernel_rfl) (by kernel_rfl) (fun _ _ _ h => h) (by rfl) (fun W hW => by obtain ⟨⟨_, c0, c1, c2, c3⟩, _, c4⟩ := hW; dsimp only at c0 c1 c2 c3; go_simp) (G1.out) ?_
          simp only [Act.put, List.setIfInBounds_toArray, List.set_cons_zero, List.set_cons_succ]
          refine wpAnyHCall 5 (some 78) 23 #[.agg #[.int .i64 k1, .bool nx1, .int .i64 row1, .int .i64 pas1], .string (bs u)] (by kernel_rfl) rfl rfl (by rfl) (by go_simp) (PA) ?_
          rintro e xc2 ⟨vx, rfl, rx, hb9⟩
          have G2 := Lib.hid (SB G1.out hb9)
          have HBD := Lib.hid (HBD.out.trans (hb9.mono HBD.out.size))
          obtain ⟨ax, cx, rfl⟩ := rx.form
          have HX := Lib.hid rx
          clear rx
          clear hb9 PA
          refine ⟨_, rfl, G2.out, ?_⟩
          simp only [Act.put, List.setIfInBounds_toArray, List.set_cons_zero, List.set_cons_succ]
          refine wpAnyHTake 6 (some 72) (.tuple #[.slice ax (parseV ⟨k1, nx1, row1, pas1⟩ u).length cx, .int .i64 (parseE ⟨k1, nx1, row1, pas1⟩ u)]) rfl rfl (by kernel_rfl) (by kernel_rfl) (by kernel_rfl) (fun _ _ _ h => h) (by rfl) (fun _ _ => by rfl) (G2.out) ?_
          simp only [Act.put, List.setIfInBounds_toArray, List.set_cons_zero, List.set_cons_succ]
          refine wpAnyHTake 7 (some 79) (.slice ax (parseV ⟨k1, nx1, row1, pas1⟩ u).length cx) rfl rfl (by kernel_rfl) (by kernel_rfl) (by kernel_rfl) (fun _ _ _ h => h) (by rfl) (fun _ _ => by rfl) (G2.out) ?_
          simp only [Act.put, List.setIfInBounds_toArray, List.set_cons_zero, List.set_cons_succ]
          refine wpAnyHTake 8 (some 80) (.int .i64 (parseE ⟨k1, nx1, row1, pas1⟩ u)) rfl rfl (by kernel_rfl) (by kernel_rfl) (by kernel_rfl) (fun _ _ _ h => h) (by rfl) (fun _ _ => by rfl) (G2.out) ?_
          simp only [Act.put, List.setIfInBounds_toArray, List.set_cons_zero, List.set_cons_succ]
          refine wpAnyHTake 9 (some 19) (.slice ax (parseV ⟨k1, nx1, row1, pas1⟩ u).length cx) rfl rfl (by kernel_rfl) (by kernel_rfl) (by kernel_rfl) (fun _ _ _ h => h) (by rfl) (fun _ _ => by rfl) (G2.out) ?_
          simp only [Act.put, List.setIfInBounds_toArray, List.set_cons_zero, List.set_cons_succ]
          refine wpAnyHTake 10 (some 20) (.int .i64 (parseE ⟨k1, nx1, row1, pas1⟩ u)) rfl rfl (by kernel_rfl) (by kernel_rfl) (by kernel_rfl) (fun _ _ _ h => h) (by rfl) (fun _ _ => by rfl) (G2.out) ?_
          simp only [Act.put, List.setIfInBounds_toArray, List.set_cons_zero, List.set_cons_succ]
          refine wpAnyH_done (by kernel_rfl) ?_ _
          rcases parse_two ⟨k1, nx1, row1, pas1⟩ u with hpe | hpe
          · obtain ⟨b1, b2⟩ := back_fine HOK.out hpe
            have hpf := (parseS_some (parse_fine hpe)).2
            have PR := print_any ⟨k1, nx1, row1, pas1⟩ _ (parseV ⟨k1, nx1, row1, pas1⟩ u) xc2 HX.out (by have := nrm_len (parseV_nrm ⟨k1, nx1, row1, pas1⟩ u); omega) (fun _ _ => by rw [hpf]; exact hul) (HML.out.below (HBL.out.trans (HBD.out.mono HBL.out.size)) hlt)
            rw [b1, b2] at PR
            rw [hpe]
            clear b1 b2 hpf
            obtain ⟨⟨_, c0, c1, c2, c3⟩, _, c4⟩ := G2.out
            dsimp only at c0 c1 c2 c3
            go_wp2_with fail
            refine PR.mono ?_
            rintro e y1 ⟨rfl, hb9⟩
            have HBD := Lib.hid (HBD.out.trans (hb9.mono HBD.out.size))
            have c5 := (SB G2.out hb9).2.2
            clear hb9 PR c0 c1 c2 c3 c4
            go_wp2_with fail
            go_roundw
            case rel => exact ⟨k + 1, by omega, by go_num, HTT.out.below HBD.out, HA.out.below HBD.out, HBL.out.trans (HBD.out.mono HBL.out.size)⟩
            case measure => simp [intOf]; omega
          · rw [hpe]
            go_wp2_with fail
            go_roundw
            case rel => exact ⟨k + 1, by omega, by go_num, HTT.out.below HBD.out, HA.out.below HBD.out, HBL.out.trans (HBD.out.mono HBL.out.size)⟩
            case measure => simp [intOf]; omega
        · have hk4i : ¬ (k : Int) < 2 := by omega
          have LV := lives_any wr (HML.out.below hbl hlt)
          have HBL := Lib.hid hbl
          clear htab hta hbl
          go_wp2_with fail
          refine LV.mono ?_
          rintro e w19 ⟨rfl, hb9⟩
          have HBM := Lib.hid (HBL.out.trans (hb9.mono HBL.out.size))
          clear hb9 LV
          go_wp2_with fail
          go_ret
          exact ⟨rfl, HBM.out⟩
  · obtain ⟨q1, q2⟩ := print_clash (s := ⟨k1, nx1, row1, pas1⟩) (l := L) HOK.out hnrm hp
    rw [q1, q2]
    have TO := torn_any (bs []) how n w6 (by rw [bs_size]; simp) h1 h2 h5 h6
    obtain ⟨tt, htt⟩ : ∃ tt : List UInt8, [] = tt := ⟨_, rfl⟩
    have ht9 : tt.length ≤ 200 := by rw [← htt]; simp
    rw [htt] at TO ⊢
    clear q1 q2 hp hfl hnrm HL htt
    go_wp2_with fail
    refine TO.mono ?_
    rintro e w11 ⟨tb, rfl, htb, hb1⟩
    have HBD := Lib.hid (HBD.out.trans (hb1.mono HBD.out.size)); have GA := Lib.hid (GA.out.below hb1)
    obtain ⟨fb, rfl⟩ := bs_of tb
    rw [bs_size, bs_size] at htb
    clear hb1 TO
    have hlr := bs_size tr
    have OB : (w11.alloc (.cells #[.string (bs tt), .string (bs fb)] 9)).ownsRow w.heap.size 9 1 (.slice (some ⟨w11.heap.size, 0, none⟩) 2 2) 2 ([tt, fb].map fun u => .string (bs u)) := owns_block (Boxs.new w11 9 #[.string (bs tt), .string (bs fb)]) HBD.out.size rfl rfl (by omega)
    have hall : ∀ u ∈ ([tt, fb] : List (List UInt8)), u.length ≤ 1000 := by
      intro u hu
      simp only [List.mem_cons, List.not_mem_nil, or_false] at hu
      rcases hu with rfl | rfl <;> omega
    have hs11 := HBD.out.size
    have hA11 := GA.out.1
    have HBD := Lib.hid (HBD.out.alloc HBD.out.size (.cells #[.string (bs tt), .string (bs fb)] 9))
    have GA := Lib.hid (GA.out.below ((Below.refl _ _).alloc (Nat.le_refl _) (.cells #[.string (bs tt), .string (bs fb)] 9)))
    by_cases hr200 : tr.length ≤ 200
    · have HO := Lib.hid (OB.alloc (.cells #[.string (bs tr)] 9))
      have HBD := Lib.hid (HBD.out.alloc HBD.out.size (.cells #[.string (bs tr)] 9))
      have GA := Lib.hid (GA.out.below ((Below.refl _ _).alloc (Nat.le_refl _) (.cells #[.string (bs tr)] 9)))
      have HAL := Lib.hid (show ∀ u ∈ ([tt, fb] ++ [tr] : List (List UInt8)), u.length ≤ 1000 from fun u hu => by
        rcases List.mem_append.1 hu with h | h
        · exact hall u h
        · rw [List.mem_singleton.1 h]; omega)
      have hnw := Lib.hid (show ∀ j u, [Value.string (bs tr)][j]? = some u → ((w11.alloc (.cells #[.string (bs tt), .string (bs fb)] 9)).alloc (.cells #[.string (bs tr)] 9)).cell? ((⟨w11.heap.size + 1, 0, none⟩ : Addr).add j) = some u by
        rw [show w11.heap.size + 1 = (w11.alloc (.cells #[.string (bs tt), .string (bs fb)] 9)).heap.size by simp]; exact World.news_of_block (cs := #[.string (bs tr)]) (t := 9) (fr := (0, 0)) (heap_alloc_new _ _))
      have hrl : ((bs tr).size : Int) ≤ 200 := by omega
      clear OB hall
      go_wp2_with (at_builtin; refine wpList_append_at rfl _ _ _ rfl w.heap.size 9 i9 _ 1 16 Tryd.underlying45 HI.out HZ0.out HZ1.out HZ2.out rfl (by omega) _ 2 ([tt, fb].map fun u => .string (bs u)) rfl HO.out ⟨w11.heap.size + 1, 0, none⟩ 1 1 [.string (bs tr)] rfl rfl hnw.out (by simp [Value.oneCell']) (by unfold maxLen; omega) (by omega) (by simp; omega) ?_; intro vt wt hownt hgt; obtain ⟨g, cap, rfl, hgb, hgl⟩ := hownt.form (by omega))
      have HB9 := Lib.hid (HBD.out.grown hgt (by simp; omega) (fun j e => by cases e; exact hs11))
      have GA := Lib.hid (GA.out.grown hgt (by show some A ≠ some w11.heap.size; simp; omega))
      have HTT := Lib.hid (tabT_of_owns (show wt.ownsRow w.heap.size 9 1 (.slice (some ⟨g, 0, none⟩) 3 cap) 3 (([tt, fb] ++ [tr]).map fun u => .string (bs u)) from hownt) HAL.out)
      clear hgt hownt HBD HAL hnw HO
      go_loopw [18] (fun i wr => ∃ k : Nat, k ≤ 3 ∧ i = .int .i64 k ∧ TabT wr g 3 ∧ StyB wr A ⟨k1, nx1, row1, pas1⟩ ∧ Below w.heap.size w wr) (fun i _ => 3 - (intOf i).toNat)
      case atStart => exact ⟨0, by omega, rfl, HTT.out, GA.out, HB9.out⟩
      case round =>
        obtain ⟨k, hk, rfl, htab, hta, hbl⟩ := hrel
        have hk9 : (k : Int) ≤ 3 := by omega
        have hk0 : (0 : Int) ≤ (k : Int) := by omega
        by_cases hk4 : k < 3
        · have hk4i : (k : Int) < 3 := by omega
          have HTT := Lib.hid htab; have HA := Lib.hid hta; have HBL := Lib.hid hbl
          clear htab hta hbl
          go_wp2_with fail
          obtain ⟨u, hcl, hul⟩ := HTT.out.2 k hk4
          have SB : ∀ {W W' : World}, (StyB W A ⟨k1, nx1, row1, pas1⟩ ∧ g < W.heap.size ∧ W.cell? ⟨g, k, none⟩ = some (.string (bs u))) → Below W.heap.size W W' → (StyB W' A ⟨k1, nx1, row1, pas1⟩ ∧ g < W'.heap.size ∧ W'.cell? ⟨g, k, none⟩ = some (.string (bs u))) := fun h hb => ⟨h.1.below hb, Nat.lt_of_lt_of_le h.2.1 hb.size, (hb.cell (p := ⟨g, k, none⟩) h.2.1).trans h.2.2⟩
          have HBD := Lib.hid (Below.dn (Below.refl wr.heap.size wr) 1)
          have PA := parse_any ⟨k1, nx1, row1, pas1⟩ u (wr.drewN 1) HOK.out hul (HML.out.below (HBL.out.trans (HBD.out.mono HBL.out.size)) hlt)
          have G1 := Lib.hid (show StyB (wr.drewN 1) A ⟨k1, nx1, row1, pas1⟩ ∧ g < (wr.drewN 1).heap.size ∧ (wr.drewN 1).cell? ⟨g, k, none⟩ = some (.string (bs u)) from ⟨HA.out, HTT.out.1, hcl⟩)
          clear hcl
          refine wp_region_held (S := fun W => StyB W A ⟨k1, nx1, row1, pas1⟩ ∧ g < W.heap.size ∧ W.cell? ⟨g, k, none⟩ = some (.string (bs u))) (by kernel_rfl) ?_
          have hdr : (wr).drew = { wr with drawn := (wr).drawn + 1 } := rfl
          rw [← hdr]
          clear hdr
          refine wpAnyHTake 0 (some 73) (.agg #[.int .i64 k1, .bool nx1, .int .i64 row1, .int .i64 pas1]) rfl rfl (by kernel_rfl) (by kernel_rfl) (by kernel_rfl) (fun _ _ _ h => h) (by rfl) (fun W hW => by obtain ⟨⟨_, c0, c1, c2, c3⟩, _, c4⟩ := hW; dsimp only at c0 c1 c2 c3; go_simp) (G1.out) ?_
          simp only [Act.put, List.setIfInBounds_toArray, List.set_cons_zero, List.set_cons_succ]
          refine wpAnyHTake 1 (some 74) (.slice (some ⟨g, 0, none⟩) 3 cap) rfl rfl (by kernel_rfl) (by kernel_rfl) (by kernel_rfl) (fun _ _ _ h => h) (by rfl) (fun _ _ => by rfl) (G1.out) ?_
          simp only [Act.put, List.setIfInBounds_toArray, List.set_cons_zero, List.set_cons_succ]
          refine wpAnyHTake 2 (some 75) (.int .i64 (k : Int)) rfl rfl (by kernel_rfl) (by kernel_rfl) (by kernel_rfl) (fun _ _ _ h => h) (by rfl) (fun _ _ => by rfl) (G1.out) ?_
          simp only [Act.put, List.setIfInBounds_toArray, List.set_cons_zero, List.set_cons_succ]
          refine wpAnyHTake 3 (some 76) (.pointer (some ⟨g, k, none⟩)) rfl rfl (by kernel_rfl) (by kernel_rfl) (by kernel_rfl) (fun _ _ _ h => h) (by rfl) (fun _ _ => by go_simp) (G1.out) ?_
          simp only [Act.put, List.setIfInBounds_toArray, List.set_cons_zero, List.set_cons_succ]
          refine wpAnyHTake 4 (some 77) (.string (bs u)) rfl rfl (by kernel_rfl) (by kernel_rfl) (by kernel_rfl) (fun _ _ _ h => h) (by rfl) (fun W hW => by obtain ⟨⟨_, c0, c1, c2, c3⟩, _, c4⟩ := hW; dsimp only at c0 c1 c2 c3; go_simp) (G1.out) ?_
          simp only [Act.put, List.setIfInBounds_toArray, List.set_cons_zero, List.set_cons_succ]
          refine wpAnyHCall 5 (some 78) 23 #[.agg #[.int .i64 k1, .bool nx1, .int .i64 row1, .int .i64 pas1], .string (bs u)] (by kernel_rfl) rfl rfl (by rfl) (by go_simp) (PA) ?_
          rintro e xc2 ⟨vx, rfl, rx, hb9⟩
          have G2 := Lib.hid (SB G1.out hb9)
          have HBD := Lib.hid (HBD.out.trans (hb9.mono HBD.out.size))
          obtain ⟨ax, cx, rfl⟩ := rx.form
          have HX := Lib.hid rx
          clear rx
          clear hb9 PA
          refine ⟨_, rfl, G2.out, ?_⟩
          simp only [Act.put, List.setIfInBounds_toArray, List.set_cons_zero, List.set_cons_succ]
          refine wpAnyHTake 6 (some 72) (.tuple #[.slice ax (parseV ⟨k1, nx1, row1, pas1⟩ u).length cx, .int .i64 (parseE ⟨k1, nx1, row1, pas1⟩ u)]) rfl rfl (by kernel_rfl) (by kernel_rfl) (by kernel_rfl) (fun _ _ _ h => h) (by rfl) (fun _ _ => by rfl) (G2.out) ?_
          simp only [Act.put, List.setIfInBounds_toArray, List.set_cons_zero, List.set_cons_succ]
          refine wpAnyHTake 7 (some 79) (.slice ax (parseV ⟨k1, nx1, row1, pas1⟩ u).length cx) rfl rfl (by kernel_rfl) (by kernel_rfl) (by kernel_rfl) (fun _ _ _ h => h) (by rfl) (fun _ _ => by rfl) (G2.out) ?_
          simp only [Act.put, List.setIfInBounds_toArray, List.set_cons_zero, List.set_cons_succ]
          refine wpAnyHTake 8 (some 80) (.int .i64 (parseE ⟨k1, nx1, row1, pas1⟩ u)) rfl rfl (by kernel_rfl) (by kernel_rfl) (by kernel_rfl) (fun _ _ _ h => h) (by rfl) (fun _ _ => by rfl) (G2.out) ?_
          simp only [Act.put, List.setIfInBounds_toArray, List.set_cons_zero, List.set_cons_succ]
          refine wpAnyHTake 9 (some 19) (.slice ax (parseV ⟨k1, nx1, row1, pas1⟩ u).length cx) rfl rfl (by kernel_rfl) (by kernel_rfl) (by kernel_rfl) (fun _ _ _ h => h) (by rfl) (fun _ _ => by rfl) (G2.out) ?_
          simp only [Act.put, List.setIfInBounds_toArray, List.set_cons_zero, List.set_cons_succ]
          refine wpAnyHTake 10 (some 20) (.int .i64 (parseE ⟨k1, nx1, row1, pas1⟩ u)) rfl rfl (by kernel_rfl) (by kernel_rfl) (by kernel_rfl) (fun _ _ _ h => h) (by rfl) (fun _ _ => by rfl) (G2.out) ?_
          simp only [Act.put, List.setIfInBounds_toArray, List.set_cons_zero, List.set_cons_succ]
          refine wpAnyH_done (by kernel_rfl) ?_ _
          rcases parse_two ⟨k1, nx1, row1, pas1⟩ u with hpe | hpe
          · obtain ⟨b1, b2⟩ := back_fine HOK.out hpe
            have hpf := (parseS_some (parse_fine hpe)).2
            have PR := print_any ⟨k1, nx1, row1, pas1⟩ _ (parseV ⟨k1, nx1, row1, pas1⟩ u) xc2 HX.out (by have := nrm_len (parseV_nrm ⟨k1, nx1, row1, pas1⟩ u); omega) (fun _ _ => by rw [hpf]; exact hul) (HML.out.below (HBL.out.trans (HBD.out.mono HBL.out.size)) hlt)
            rw [b1, b2] at PR
            rw [hpe]
            clear b1 b2 hpf
            obtain ⟨⟨_, c0, c1, c2, c3⟩, _, c4⟩ := G2.out
            dsimp only at c0 c1 c2 c3
            go_wp2_with fail
            refine PR.mono ?_
            rintro e y1 ⟨rfl, hb9⟩
            have HBD := Lib.hid (HBD.out.trans (hb9.mono HBD.out.size))
            have c5 := (SB G2.out hb9).2.2
            clear hb9 PR c0 c1 c2 c3 c4
            go_wp2_with fail
            go_roundw
            case rel => exact ⟨k + 1, by omega, by go_num, HTT.out.below HBD.out, HA.out.below HBD.out, HBL.out.trans (HBD.out.mono HBL.out.size)⟩
            case measure => simp [intOf]; omega
          · rw [hpe]
            go_wp2_with fail
            go_roundw
            case rel => exact ⟨k + 1, by omega, by go_num, HTT.out.below HBD.out, HA.out.below HBD.out, HBL.out.trans (HBD.out.mono HBL.out.size)⟩
            case measure => simp [intOf]; omega
        · have hk4i : ¬ (k : Int) < 3 := by omega
          have LV := lives_any wr (HML.out.below hbl hlt)
          have HBL := Lib.hid hbl
          clear htab hta hbl
          go_wp2_with fail
          refine LV.mono ?_
          rintro e w19 ⟨rfl, hb9⟩
          have HBM := Lib.hid (HBL.out.trans (hb9.mono HBL.out.size))
          clear hb9 LV
          go_wp2_with fail
          go_ret
          exact ⟨rfl, HBM.out⟩
    · have HTT := Lib.hid (tabT_of_owns OB hall)
      have hrl : ¬ ((bs tr).size : Int) ≤ 200 := by omega
      have HB9 := HBD
      clear OB hall HBD
      go_wp2_with fail
      generalize w11.alloc (.cells #[.string (bs tt), .string (bs fb)] 9) = wt at *
      obtain ⟨g, hg⟩ : ∃ g, w11.heap.size = g := ⟨_, rfl⟩
      rw [hg] at HTT ⊢
      clear hg
      go_loopw [18] (fun i wr => ∃ k : Nat, k ≤ 2 ∧ i = .int .i64 k ∧ TabT wr g 2 ∧ StyB wr A ⟨k1, nx1, row1, pas1⟩ ∧ Below w.heap.size w wr) (fun i _ => 2 - (intOf i).toNat)
      case atStart => exact ⟨0, by omega, rfl, HTT.out, GA.out, HB9.out⟩
      case round =>
        obtain ⟨k, hk, rfl, htab, hta, hbl⟩ := hrel
        have hk9 : (k : Int) ≤ 2 := by omega
        have hk0 : (0 : Int) ≤ (k : Int) := by omega
        by_cases hk4 : k < 2
        · have hk4i : (k : Int) < 2 := by omega
          have HTT := Lib.hid htab; have HA := Lib.hid hta; have HBL := Lib.hid hbl
          clear htab hta hbl
          go_wp2_with fail
          obtain ⟨u, hcl, hul⟩ := HTT.out.2 k hk4
          have SB : ∀ {W W' : World}, (StyB W A ⟨k1, nx1, row1, pas1⟩ ∧ g < W.heap.size ∧ W.cell? ⟨g, k, none⟩ = some (.string (bs u))) → Below W.heap.size W W' → (StyB W' A ⟨k1, nx1, row1, pas1⟩ ∧ g < W'.heap.size ∧ W'.cell? ⟨g, k, none⟩ = some (.string (bs u))) := fun h hb => ⟨h.1.below hb, Nat.lt_of_lt_of_le h.2.1 hb.size, (hb.cell (p := ⟨g, k, none⟩) h.2.1).trans h.2.2⟩
          have HBD := Lib.hid (Below.dn (Below.refl wr.heap.size wr) 1)
          have PA := parse_any ⟨k1, nx1, row1, pas1⟩ u (wr.drewN 1) HOK.out hul (HML.out.below (HBL.out.trans (HBD.out.mono HBL.out.size)) hlt)
          have G1 := Lib.hid (show StyB (wr.drewN 1) A ⟨k1, nx1, row1, pas1⟩ ∧ g < (wr.drewN 1).heap.size ∧ (wr.drewN 1).cell? ⟨g, k, none⟩ = some (.string (bs u)) from ⟨HA.out, HTT.out.1, hcl⟩)
          clear hcl
          refine wp_region_held (S := fun W => StyB W A ⟨k1, nx1, row1, pas1⟩ ∧ g < W.heap.size ∧ W.cell? ⟨g, k, none⟩ = some (.string (bs u))) (by kernel_rfl) ?_
          have hdr : (wr).drew = { wr with drawn := (wr).drawn + 1 } := rfl
          rw [← hdr]
          clear hdr
          refine wpAnyHTake 0 (some 73) (.agg #[.int .i64 k1, .bool nx1, .int .i64 row1, .int .i64 pas1]) rfl rfl (by kernel_rfl) (by kernel_rfl) (by kernel_rfl) (fun _ _ _ h => h) (by rfl) (fun W hW => by obtain ⟨⟨_, c0, c1, c2, c3⟩, _, c4⟩ := hW; dsimp only at c0 c1 c2 c3; go_simp) (G1.out) ?_
          simp only [Act.put, List.setIfInBounds_toArray, List.set_cons_zero, List.set_cons_succ]
          refine wpAnyHTake 1 (some 74) (.slice (some ⟨g, 0, none⟩) 2 2) rfl rfl (by kernel_rfl) (by kernel_rfl) (by kernel_rfl) (fun _ _ _ h => h) (by rfl) (fun _ _ => by rfl) (G1.out) ?_
          simp only [Act.put, List.setIfInBounds_toArray, List.set_cons_zero, List.set_cons_succ]
          refine wpAnyHTake 2 (some 75) (.int .i64 (k : Int)) rfl rfl (by kernel_rfl) (by kernel_rfl) (by kernel_rfl) (fun _ _ _ h => h) (by rfl) (fun _ _ => by rfl) (G1.out) ?_
          simp only [Act.put, List.setIfInBounds_toArray, List.set_cons_zero, List.set_cons_succ]
          refine wpAnyHTake 3 (some 76) (.pointer (some ⟨g, k, none⟩)) rfl rfl (by kernel_rfl) (by kernel_rfl) (by kernel_rfl) (fun _ _ _ h => h) (by rfl) (fun _ _ => by go_simp) (G1.out) ?_
          simp only [Act.put, List.setIfInBounds_toArray, List.set_cons_zero, List.set_cons_succ]
          refine wpAnyHTake 4 (some 77) (.string (bs u)) rfl rfl (by kernel_rfl) (by kernel_rfl) (by kernel_rfl) (fun _ _ _ h => h) (by rfl) (fun W hW => by obtain ⟨⟨_, c0, c1, c2, c3⟩, _, c4⟩ := hW; dsimp only at c0 c1 c2 c3; go_simp) (G1.out) ?_
          simp only [Act.put, List.setIfInBounds_toArray, List.set_cons_zero, List.set_cons_succ]
          refine wpAnyHCall 5 (some 78) 23 #[.agg #[.int .i64 k1, .bool nx1, .int .i64 row1, .int .i64 pas1], .string (bs u)] (by kernel_rfl) rfl rfl (by rfl) (by go_simp) (PA) ?_
          rintro e xc2 ⟨vx, rfl, rx, hb9⟩
          have G2 := Lib.hid (SB G1.out hb9)
          have HBD := Lib.hid (HBD.out.trans (hb9.mono HBD.out.size))
          obtain ⟨ax, cx, rfl⟩ := rx.form
          have HX := Lib.hid rx
          clear rx
          clear hb9 PA
          refine ⟨_, rfl, G2.out, ?_⟩
          simp only [Act.put, List.setIfInBounds_toArray, List.set_cons_zero, List.set_cons_succ]
          refine wpAnyHTake 6 (some 72) (.tuple #[.slice ax (parseV ⟨k1, nx1, row1, pas1⟩ u).length cx, .int .i64 (parseE ⟨k1, nx1, row1, pas1⟩ u)]) rfl rfl (by kernel_rfl) (by kernel_rfl) (by kernel_rfl) (fun _ _ _ h => h) (by rfl) (fun _ _ => by rfl) (G2.out) ?_
          simp only [Act.put, List.setIfInBounds_toArray, List.set_cons_zero, List.set_cons_succ]
          refine wpAnyHTake 7 (some 79) (.slice ax (parseV ⟨k1, nx1, row1, pas1⟩ u).length cx) rfl rfl (by kernel_rfl) (by kernel_rfl) (by kernel_rfl) (fun _ _ _ h => h) (by rfl) (fun _ _ => by rfl) (G2.out) ?_
          simp only [Act.put, List.setIfInBounds_toArray, List.set_cons_zero, List.set_cons_succ]
          refine wpAnyHTake 8 (some 80) (.int .i64 (parseE ⟨k1, nx1, row1, pas1⟩ u)) rfl rfl (by kernel_rfl) (by kernel_rfl) (by kernel_rfl) (fun _ _ _ h => h) (by rfl) (fun _ _ => by rfl) (G2.out) ?_
          simp only [Act.put, List.setIfInBounds_toArray, List.set_cons_zero, List.set_cons_succ]
          refine wpAnyHTake 9 (some 19) (.slice ax (parseV ⟨k1, nx1, row1, pas1⟩ u).length cx) rfl rfl (by kernel_rfl) (by kernel_rfl) (by kernel_rfl) (fun _ _ _ h => h) (by rfl) (fun _ _ => by rfl) (G2.out) ?_
          simp only [Act.put, List.setIfInBounds_toArray, List.set_cons_zero, List.set_cons_succ]
          refine wpAnyHTake 10 (some 20) (.int .i64 (parseE ⟨k1, nx1, row1, pas1⟩ u)) rfl rfl (by kernel_rfl) (by kernel_rfl) (by kernel_rfl) (fun _ _ _ h => h) (by rfl) (fun _ _ => by rfl) (G2.out) ?_
          simp only [Act.put, List.setIfInBounds_toArray, List.set_cons_zero, List.set_cons_succ]
          refine wpAnyH_done (by kernel_rfl) ?_ _
          rcases parse_two ⟨k1, nx1, row1, pas1⟩ u with hpe | hpe
          · obtain ⟨b1, b2⟩ := back_fine HOK.out hpe
            have hpf := (parseS_some (parse_fine hpe)).2
            have PR := print_any ⟨k1, nx1, row1, pas1⟩ _ (parseV ⟨k1, nx1, row1, pas1⟩ u) xc2 HX.out (by have := nrm_len (parseV_nrm ⟨k1, nx1, row1, pas1⟩ u); omega) (fun _ _ => by rw [hpf]; exact hul) (HML.out.below (HBL.out.trans (HBD.out.mono HBL.out.size)) hlt)
            rw [b1, b2] at PR
            rw [hpe]
            clear b1 b2 hpf
            obtain ⟨⟨_, c0, c1, c2, c3⟩, _, c4⟩ := G2.out
            dsimp only at c0 c1 c2 c3
            go_wp2_with fail
            refine PR.mono ?_
            rintro e y1 ⟨rfl, hb9⟩
            have HBD := Lib.hid (HBD.out.trans (hb9.mono HBD.out.size))
            have c5 := (SB G2.out hb9).2.2
            clear hb9 PR c0 c1 c2 c3 c4
            go_wp2_with fail
            go_roundw
            case rel => exact ⟨k + 1, by omega, by go_num, HTT.out.below HBD.out, HA.out.below HBD.out, HBL.out.trans (HBD.out.mono HBL.out.size)⟩
            case measure => simp [intOf]; omega
          · rw [hpe]
            go_wp2_with fail
            go_roundw
            case rel => exact ⟨k + 1, by omega, by go_num, HTT.out.below HBD.out, HA.out.below HBD.out, HBL.out.trans (HBD.out.mono HBL.out.size)⟩
            case measure => simp [intOf]; omega
        · have hk4i : ¬ (k : Int) < 2 := by omega
          have LV := lives_any wr (HML.out.below hbl hlt)
          have HBL := Lib.hid hbl
          clear htab hta hbl
          go_wp2_with fail
          refine LV.mono ?_
          rintro e w19 ⟨rfl, hb9⟩
          have HBM := Lib.hid (HBL.out.trans (hb9.mono HBL.out.size))
          clear hb9 LV
          go_wp2_with fail
          go_ret
          exact ⟨rfl, HBM.out⟩
end Go.Proofs.YtecdkpcapalifaaDoor

