/- Made: a valid table made of numbers. Plain: worlds with the rows of earlier ones get their classes. -/
import Derived.Test.YtmkkegigajmhkaaN05
import Derived.IntWalk
set_option linter.unusedVariables false
namespace Go.Proofs.Ytmkkegigajmhkaa
open Go.RowKit Go.Maps

def lsF {α : Type} (f : Nat → α) (n : Nat) : List α := (List.range n).map f
theorem lsF_len {α : Type} (f : Nat → α) (n : Nat) : (lsF f n).length = n := by simp [lsF]
theorem lsF_succ {α : Type} (f : Nat → α) (n : Nat) : lsF f (n + 1) = lsF f n ++ [f n] := by simp [lsF, List.range_succ]
theorem lsF_mem {α : Type} {f : Nat → α} {n : Nat} {x : α} (h : x ∈ lsF f n) : ∃ k, k < n ∧ f k = x := by
  unfold lsF at h
  obtain ⟨k, hk, e⟩ := List.mem_map.1 h
  exact ⟨k, List.mem_range.1 hk, e⟩
def nW (l : List Int) : Nat := (1 + atF l 0 7).toNat
def nA (l : List Int) : Nat := (atF l 1 6).toNat
def costF (l : List Int) (k : Nat) : Int := 1 + atF l (2 + (k : Int)) 5
def clsF (l : List Int) (i : Nat) : Int := atF l (7 + (i : Int)) 5
def cellF (l : List Int) (i k : Nat) : Int := atF l (14 + 5 * (i : Int) + (k : Int)) 3
def madeT (l : List Int) : Tb := ⟨lsF (fun i => lsF (cellF l i) (nA l)) (nW l), lsF (costF l) (nA l), lsF (clsF l) (nW l)⟩
theorem atF_bd (l : List Int) (i m : Int) (hm : 0 < m) : 0 ≤ atF l i m ∧ atF l i m < m := by
  unfold atF
  split
  · omega
  · split
    · exact around_bd _ _ hm
    · omega
theorem nW_bd (l : List Int) : 1 ≤ nW l ∧ nW l ≤ 7 := by have := atF_bd l 0 7 (by omega); unfold nW; omega
theorem nA_bd (l : List Int) : nA l ≤ 5 := by have := atF_bd l 1 6 (by omega); unfold nA; omega
theorem made_ok (l : List Int) : OkT (madeT l) := by
  have h1 := nW_bd l
  have h2 := nA_bd l
  unfold madeT
  refine ⟨?_, ?_, ?_, ?_, fun r hr => ?_, fun c hc => ?_, fun c hc => ?_⟩
  · rw [lsF_len]; omega
  · rw [lsF_len]; omega
  · rw [lsF_len]; omega
  · rw [lsF_len, lsF_len]
  · obtain ⟨i, _, rfl⟩ := lsF_mem hr
    rw [lsF_len, lsF_len]
  · obtain ⟨i, _, rfl⟩ := lsF_mem hc
    have := atF_bd l (2 + (i : Int)) 5 (by omega)
    unfold costF
    omega
  · obtain ⟨i, _, rfl⟩ := lsF_mem hc
    have := atF_bd l (7 + (i : Int)) 5 (by omega)
    unfold clsF
    omega

set_option maxRecDepth 100000 in
set_option maxHeartbeats 8000000 in
theorem made_any (v : Value) (l : List Int) (w : World) (h : RdI w v l) (il : inI l) :
    Calls Try.prog 10 #[v] w fun e w' => CopyOut w.heap.size (madeT l) e w' ∧ Below w.heap.size w w' := by
  obtain ⟨a, c, rfl⟩ := h.form
  have AT := Lib.hid (fun (W : World) (i m : Int) (hb : Below w.heap.size w W) (hi : 0 ≤ i) (hi' : i ≤ 1000000000) (hm : 0 < m) (hm' : m ≤ 1000000000) => at_any (.slice a l.length c) l i m W (h.below hb) il hi hi' hm hm')
  have HBX := Lib.hid ((alloc_below w (.cells #[.slice none 0 0, .slice none 0 0, .slice none 0 0] 25)).alloc (by rw [World.size_alloc]; omega) (.cells #[.slice none 0 0, .slice none 0 0, .slice none 0 0] 25))
  have HT2 := Lib.hid (Boxs.below (Boxs.new w 25 #[.slice none 0 0, .slice none 0 0, .slice none 0 0]) (alloc_below _ (.cells #[.slice none 0 0, .slice none 0 0, .slice none 0 0] 25)))
  have HT3 := Lib.hid (show Boxs ((w.alloc (.cells #[.slice none 0 0, .slice none 0 0, .slice none 0 0] 25)).alloc (.cells #[.slice none 0 0, .slice none 0 0, .slice none 0 0] 25)) (w.heap.size + 1) 25 #[.slice none 0 0, .slice none 0 0, .slice none 0 0] from by have := Boxs.new (w.alloc (.cells #[.slice none 0 0, .slice none 0 0, .slice none 0 0] 25)) 25 #[.slice none 0 0, .slice none 0 0, .slice none 0 0]; rwa [World.size_alloc] at this)
  clear h
  go_enter Try.func10, Try.ntmps10
  go_wp2_with fail
  obtain ⟨b, hb3⟩ : ∃ B, w.heap.size + 1 = B := ⟨_, rfl⟩
  obtain ⟨B2, hB2⟩ : ∃ B, w.heap.size = B := ⟨_, rfl⟩
  have hwb : w.heap.size ≤ b := by omega
  have hwB2 : w.heap.size ≤ B2 := by omega
  have hbB2 : b ≠ B2 := by omega
  rw [hb3] at HT3 ⊢
  rw [hB2] at HT2 ⊢
  generalize (w.alloc (.cells #[.slice none 0 0, .slice none 0 0, .slice none 0 0] 25)).alloc (.cells #[.slice none 0 0, .slice none 0 0, .slice none 0 0] 25) = w1 at *
  have HM := Lib.hid (show MT w.heap.size w w1 b B2 #[.slice none 0 0, .slice none 0 0, .slice none 0 0] #[.slice none 0 0, .slice none 0 0, .slice none 0 0] (.slice none 0 0) 0 [] [.slice none 0 0, .slice none 0 0] [[], []] from ⟨hwb, hwB2, hbB2, HBX.out.size, HBX.out, HT3.out, HT2.out, World.ownsRow_nil _ _ _ _, OwnRs.nils _ _ 2⟩)
  clear HT2 HT3 HBX hb3
  refine (AT.out _ 0 7 HM.out.bel (by omega) (by omega) (by omega) (by omega)).mono ?_
  rintro e w2 ⟨rfl, hb9⟩
  have HM := Lib.hid (HM.out.below hb9)
  have hW := nW_bd l
  have hA := nA_bd l
  have eW : 1 + atF l 0 7 = ((nW l : Nat) : Int) := by have := atF_bd l 0 7 (by omega); unfold nW; omega
  have eA : atF l 1 6 = ((nA l : Nat) : Int) := by have := atF_bd l 1 6 (by omega); unfold nA; omega
  have hb7 := atF_bd l 0 7 (by omega)
  have EW := Lib.hid eW
  obtain ⟨x0, hx0⟩ : ∃ x, atF l 0 7 = x := ⟨_, rfl⟩
  rw [hx0] at EW hb7 ⊢
  clear hb9 hx0 eW
  go_wp2_with fail
  refine (AT.out _ 1 6 HM.out.bel (by omega) (by omega) (by omega) (by omega)).mono ?_
  rintro e w3 ⟨rfl, hb9⟩
  have HM := Lib.hid (HM.out.below hb9)
  rw [EW.out, eA]
  clear hb9 EW eA hb7
  have hT : madeT l = ⟨lsF (fun i => lsF (cellF l i) (nA l)) (nW l), lsF (costF l) (nA l), lsF (clsF l) (nW l)⟩ := rfl
  obtain ⟨nw, hnw⟩ : ∃ n, nW l = n := ⟨_, rfl⟩
  obtain ⟨na, hna⟩ : ∃ n, nA l = n := ⟨_, rfl⟩
  rw [hnw, hna] at hT
  rw [hnw] at hW ⊢
  rw [hna] at hA ⊢
  have HT := Lib.hid hT
  clear hT hnw hna
  go_wp2_with fail
  go_loopw [6] (fun i wr => ∃ (k : Nat) (vc : Value), k ≤ na ∧ i = .int .i64 k ∧ MT w.heap.size w wr b B2 #[.slice none 0 0, vc, .slice none 0 0] #[.slice none 0 0, .slice none 0 0, .slice none 0 0] (.slice none 0 0) 0 [] [vc, .slice none 0 0] [lsF (costF l) k, []]) (fun i _ => na - (intOf i).toNat)
  case atStart => exact ⟨0, .slice none 0 0, Nat.zero_le _, rfl, HM.out⟩
  case round =>
    clear HM
    obtain ⟨k, vc, hk, rfl, hm⟩ := hrel
    have hk0 : (0 : Int) ≤ (k : Int) := Int.natCast_nonneg _
    have HM := Lib.hid hm
    obtain ⟨av, cv, hvc⟩ := owns_form (hm.row (k := 0) rfl rfl)
    rw [lsF_len] at hvc
    subst hvc
    by_cases hlt : k < na
    · have hk1 : (k : Int) < (na : Int) := by omega
      have cb := hm.cell 1
      simp at cb
      clear hm
      go_wp2_with fail
      refine wp_region_E (fun W => W.cell? ⟨b, 1, none⟩ = some (.slice av k cv)) (by kernel_rfl) ?_
      have hdr : (wr).drew = { wr with drawn := (wr).drawn + 1 } := rfl
      rw [← hdr]
      clear hdr
      have hm1 := HM.out.dn
      have hsz1 := hm1.sz
      change wpAnyE _ _ _ _ _ _ _ _ (wr.drewN 1)
      refine tg 0 20 rfl rfl (.pointer (some ⟨b, 1, none⟩)) cb ?_
      try simp only [pa, pl]
      refine tk 1 21 rfl rfl (.slice av k cv) (fun W hW => by have cb := hW; go_simp) cb ?_
      try simp only [pa, pl]
      refine tm 2 22 rfl rfl (.slice a l.length c) cb ?_
      try simp only [pa, pl]
      refine tm 3 23 rfl rfl (.int .i64 (k : Int)) cb ?_
      try simp only [pa, pl]
      refine tk 4 24 rfl rfl (.int .i64 (2 + (k : Int))) (fun _ _ => by go_simp; exact IntWalk.i64_in _ (by omega)) cb ?_
      try simp only [pa, pl]
      refine wpAnyEOne 5 (by kernel_rfl) ?_
      refine wpOpCall (some 25) 37 #[.slice a l.length c, .int .i64 (2 + (k : Int)), .int .i64 5] rfl rfl rfl (by go_simp) (AT.out _ (2 + (k : Int)) 5 hm1.bel (by omega) (by omega) (by omega) (by omega)) ?_
      rintro e w2 ⟨rfl, hb9⟩
      have hm2 := hm1.below hb9
      have hsz2 := hm2.sz
      have hz := atF_bd l (2 + (k : Int)) 5 (by omega)
      have hz5 : 1 + atF l (2 + (k : Int)) 5 = costF l k := rfl
      have hcb : 1 ≤ costF l k ∧ costF l k ≤ 5 := by rw [← hz5]; omega
      have hm3 := hm2.alloc (.cells #[.int .i64 (costF l k)] 3)
      have cb2 := hm2.cell 1
      have cb3 := hm3.cell 1
      simp at cb2 cb3
      refine ⟨_, rfl, ?_⟩
      refine ⟨.inl (cb2), ?_⟩
      try simp only [pa, pl]
      refine tk 6 26 rfl rfl (.int .i64 (costF l k)) (fun _ _ => by rw [← hz5]; go_simp; exact IntWalk.i64_in _ (by omega)) cb2 ?_
      try simp only [pa, pl]
      refine wpAnyEOne 7 (by kernel_rfl) ?_
      refine wpOpRun' (v := .slice (some ⟨w2.heap.size, 0, none⟩) 1 1) (w' := w2.alloc (.cells #[.int .i64 (costF l k)] 3)) (some 27) rfl rfl rfl (by go_simp <;> rfl) ?_
      refine ⟨.inl (cb3), ?_⟩
      try simp only [pa, pl]
      refine wpAnyEOne 8 (by kernel_rfl) ?_
      refine wpOpAppI (base := w.heap.size) 8 (some 28) rfl rfl rfl (.tmp 21) (.tmp 27) rfl (.slice av k cv) (lsF (costF l) k) rfl (hm3.row (k := 0) rfl rfl) (.slice (some ⟨w2.heap.size, 0, none⟩) 1 1) [costF l k] rfl (Rd_fresh w2 3 #[.int .i64 (costF l k)] 1 rfl (by omega)) (by rw [lsF_len]; simp; omega) (by simp; omega) fun v4 w4 happ => ?_
      rw [← lsF_succ] at happ
      have hm4 := hm3.appI 0 rfl happ
      rw [lsF_len] at happ
      obtain ⟨a4, k4, rfl⟩ := happ.form
      have cb4 := hm4.cell 1
      have y1 := hm4.box.frozen 1
      simp at cb4
      have hblt := hm4.box.lt
      have hm9 := hm4.put 1 (.slice a4 (k + 1) k4)
      simp only [List.setIfInBounds_toArray, List.set_cons_zero, List.set_cons_succ] at hm9
      refine ⟨.inl (cb4), ?_⟩
      try simp only [pa, pl]
      refine tg 9 29 rfl rfl (.pointer (some ⟨b, 1, none⟩)) cb4 ?_
      try simp only [pa, pl]
      refine wpAnyEOne 10 (by kernel_rfl) ?_
      refine wpOpSkip (w' := w4.setCell ⟨b, 1, none⟩ (.slice a4 (k + 1) k4)) 10 rfl rfl rfl (by go_simp <;> rfl) ?_
      refine ⟨.inr (allUp_of (by kernel_rfl)), ?_⟩
      try simp only [pa, pl]
      refine wpAnyE_done (by kernel_rfl) ?_ _
      have HM := Lib.hid hm9
      clear hm9
      go_wp2_with fail
      go_roundw
      case rel => exact ⟨k + 1, _, by omega, by go_num, HM.out⟩
      case measure => simp [intOf]; omega
    · obtain rfl : k = na := by omega
      have hk1 : ¬ (k : Int) < (k : Int) := by omega
      clear hm
      go_wp2_with fail
      go_loopw [7] (fun iv wr => ∃ (i : Nat) (va vk : Value) (us : List Value), i ≤ nw ∧ iv = .int .i64 i ∧ MT w.heap.size w wr b B2 #[va, .slice av k cv, vk] #[.slice none 0 0, .slice none 0 0, .slice none 0 0] va i us (.slice av k cv :: vk :: us) (lsF (costF l) k :: lsF (clsF l) i :: lsF (fun i => lsF (cellF l i) k) i)) (fun iv _ => nw - (intOf iv).toNat)
      case atStart => exact ⟨0, .slice none 0 0, .slice none 0 0, [], Nat.zero_le _, rfl, HM.out⟩
      case round =>
        clear HM
        obtain ⟨i, va, vk, us, hi, rfl, hm⟩ := hrel
        have hi0 : (0 : Int) ≤ (i : Int) := Int.natCast_nonneg _
        have HM := Lib.hid hm
        by_cases hil : i < nw
        · have hi1 : (i : Int) < (nw : Int) := by omega
          have hi5 : (0 : Int) ≤ 5 * (i : Int) := by omega
          clear hm
          go_wp2_with fail
          go_loopw [8, 9] (fun rv jv wr => ∃ j : Nat, j ≤ k ∧ jv = .int .i64 j ∧ MT w.heap.size w wr b B2 #[va, .slice av k cv, vk] #[.slice none 0 0, .slice none 0 0, .slice none 0 0] va i us ((.slice av k cv :: vk :: us) ++ [rv]) ((lsF (costF l) k :: lsF (clsF l) i :: lsF (fun i => lsF (cellF l i) k) i) ++ [lsF (cellF l i) j])) (fun _ jv _ => k - (intOf jv).toNat)
          case atStart => exact ⟨0, Nat.zero_le _, rfl, HM.out.nilL⟩
          case round =>
            clear HM
            obtain ⟨j, hj, rfl, hm⟩ := hrel
            have hj0 : (0 : Int) ≤ (j : Int) := Int.natCast_nonneg _
            obtain ⟨ar, cr, hrv⟩ := owns_form hm.rs.last
            rw [lsF_len] at hrv
            subst hrv
            have HM := Lib.hid hm
            by_cases hjl : j < k
            · have hj1 : (j : Int) < (k : Int) := by omega
              clear hm
              go_wp2_with fail
              refine (AT.out _ (14 + 5 * (i : Int) + (j : Int)) 3 HM.out.bel (by omega) (by omega) (by omega) (by omega)).mono ?_
              rintro e w5 ⟨rfl, hb9⟩
              have HM := Lib.hid (HM.out.below hb9)
              have hsz5 := HM.out.sz
              rw [show atF l (14 + 5 * (i : Int) + (j : Int)) 3 = cellF l i j from rfl]
              clear hb9
              go_wp2_with (at_builtin; refine wpList_appI (base := w.heap.size) rfl _ _ rfl (.slice ar j cr) (lsF (cellF l i) j) rfl (HM.out.alloc (.cells #[.int .i64 (cellF l i j)] 3)).rs.last (.slice (some ⟨w5.heap.size, 0, none⟩) 1 1) [cellF l i j] rfl (Rd_fresh w5 3 #[.int .i64 (cellF l i j)] 1 rfl (by omega)) (by rw [lsF_len]; simp; omega) (by simp; omega) ?_; intro v6 w6 happ)
              rw [← lsF_succ] at happ
              have hm6 := (HM.out.alloc (.cells #[.int .i64 (cellF l i j)] 3)).appL happ
              have HM := Lib.hid hm6
              clear hm6 happ
              go_roundw
              case rel => exact ⟨j + 1, by omega, by go_num, HM.out⟩
              case measure => simp [intOf]; omega
            · obtain rfl : j = k := by omega
              have hj1 : ¬ (j : Int) < (j : Int) := by omega
              obtain ⟨ao, co, hvo⟩ := owns_form hm.out
              obtain ⟨ak, ck, hvk⟩ := owns_form (hm.row (k := 1) rfl rfl)
              rw [lsF_len] at hvk
              subst hvo hvk
              have cb := hm.cell 0
              simp at cb
              clear hm
              rename World => w5
              have hsz5 := HM.out.sz
              go_wp2_with (at_builtin; refine wpList_appR (base := w.heap.size) rfl _ _ rfl (.slice ao i co) i us rfl (HM.out.alloc (.cells #[.slice ar j cr] 22)).out (.slice (some ⟨w5.heap.size, 0, none⟩) 1 1) [.slice ar j cr] rfl (Rd_fresh w5 22 #[.slice ar j cr] 1 rfl (by omega)) (by simp [Value.oneCell']) (by simp; omega) (by simp; omega) ?_; intro v6 w6 happ; have hm6 := (HM.out.alloc (.cells #[.slice ar j cr] 22)).appR happ; obtain ⟨a6, k6, rfl⟩ := happ.form; have HM6 := Lib.hid hm6; have cb6 := hm6.cell 0; have yb6 := hm6.box.frozen 0; have lb6 := hm6.box.lt; simp at cb6; clear hm6 happ)
              have hm7 := HM6.out.put 0 (.slice a6 (i + 1) k6)
              simp only [List.setIfInBounds_toArray, List.set_cons_zero] at hm7
              obtain ⟨W7, hW7⟩ : ∃ W7, w6.setCell ⟨b, 0, none⟩ (.slice a6 (i + 1) k6) = W7 := ⟨_, rfl⟩
              rw [hW7] at hm7 ⊢
              have cb := hm7.cell 2
              simp at cb
              have HM := Lib.hid hm7
              clear hm7 hW7 HM6 cb6 yb6 lb6
              refine wp_region_E (fun W => W.cell? ⟨b, 2, none⟩ = some (.slice ak i ck)) (by kernel_rfl) ?_
              have hdr : (W7).drew = { W7 with drawn := (W7).drawn + 1 } := rfl
              rw [← hdr]
              clear hdr
              have hm1 := HM.out.dn
              have hsz1 := hm1.sz
              change wpAnyE _ _ _ _ _ _ _ _ (W7.drewN 1)
              refine tg 0 56 rfl rfl (.pointer (some ⟨b, 2, none⟩)) cb ?_
              try simp only [pa, pl]
              refine tk 1 57 rfl rfl (.slice ak i ck) (fun W hW => by have cb := hW; go_simp) cb ?_
              try simp only [pa, pl]
              refine tm 2 58 rfl rfl (.slice a l.length c) cb ?_
              try simp only [pa, pl]
              refine tm 3 59 rfl rfl (.int .i64 (i : Int)) cb ?_
              try simp only [pa, pl]
              refine tk 4 60 rfl rfl (.int .i64 (7 + (i : Int))) (fun _ _ => by go_simp; exact IntWalk.i64_in _ (by omega)) cb ?_
              try simp only [pa, pl]
              refine wpAnyEOne 5 (by kernel_rfl) ?_
              refine wpOpCall (some 61) 37 #[.slice a l.length c, .int .i64 (7 + (i : Int)), .int .i64 5] rfl rfl rfl (by go_simp) (AT.out _ (7 + (i : Int)) 5 hm1.bel (by omega) (by omega) (by omega) (by omega)) ?_
              rintro e w2 ⟨rfl, hb9⟩
              have hm2 := hm1.below hb9
              have hsz2 := hm2.sz
              rw [show atF l (7 + (i : Int)) 5 = clsF l i from rfl]
              have hm3 := hm2.alloc (.cells #[.int .i64 (clsF l i)] 3)
              have cb2 := hm2.cell 2
              have cb3 := hm3.cell 2
              simp at cb2 cb3
              refine ⟨_, rfl, ?_⟩
              refine ⟨.inl (cb2), ?_⟩
              try simp only [pa, pl]
              refine wpAnyEOne 6 (by kernel_rfl) ?_
              refine wpOpRun' (v := .slice (some ⟨w2.heap.size, 0, none⟩) 1 1) (w' := w2.alloc (.cells #[.int .i64 (clsF l i)] 3)) (some 62) rfl rfl rfl (by go_simp <;> rfl) ?_
              refine ⟨.inl (cb3), ?_⟩
              try simp only [pa, pl]
              refine wpAnyEOne 7 (by kernel_rfl) ?_
              refine wpOpAppI (base := w.heap.size) 7 (some 63) rfl rfl rfl (.tmp 57) (.tmp 62) rfl (.slice ak i ck) (lsF (clsF l) i) rfl (hm3.row (k := 1) rfl rfl) (.slice (some ⟨w2.heap.size, 0, none⟩) 1 1) [clsF l i] rfl (Rd_fresh w2 3 #[.int .i64 (clsF l i)] 1 rfl (by omega)) (by rw [lsF_len]; simp; omega) (by simp; omega) fun v4 w4 happ => ?_
              rw [← lsF_succ] at happ
              have hm4 := hm3.appI 1 rfl happ
              rw [lsF_len] at happ
              obtain ⟨a4, k4, rfl⟩ := happ.form
              have cb4 := hm4.cell 2
              have y1 := hm4.box.frozen 2
              simp at cb4
              have hblt := hm4.box.lt
              have hm9 := hm4.put 2 (.slice a4 (i + 1) k4)
              simp only [List.setIfInBounds_toArray, List.set_cons_zero, List.set_cons_succ] at hm9
              refine ⟨.inl (cb4), ?_⟩
              try simp only [pa, pl]
              refine tg 8 64 rfl rfl (.pointer (some ⟨b, 2, none⟩)) cb4 ?_
              try simp only [pa, pl]
              refine wpAnyEOne 9 (by kernel_rfl) ?_
              refine wpOpSkip (w' := w4.setCell ⟨b, 2, none⟩ (.slice a4 (i + 1) k4)) 9 rfl rfl rfl (by go_simp <;> rfl) ?_
              refine ⟨.inr (allUp_of (by kernel_rfl)), ?_⟩
              try simp only [pa, pl]
              refine wpAnyE_done (by kernel_rfl) ?_ _
              have HM := Lib.hid (show MT w.heap.size w _ b B2 _ _ _ (i + 1) (us ++ [.slice ar j cr]) (_ :: _ :: (us ++ [.slice ar j cr])) (lsF (costF l) j :: lsF (clsF l) (i + 1) :: lsF (fun i => lsF (cellF l i) j) (i + 1)) from by rw [lsF_succ (fun i => lsF (cellF l i) j)]; exact hm9)
              clear hm9
              go_wp2_with fail
              go_roundw
              case rel => exact ⟨i + 1, _, _, _, by omega, by go_num, HM.out⟩
              case measure => simp [intOf]; omega
        · obtain rfl : i = nw := by omega
          have hi1 : ¬ (i : Int) < (i : Int) := by omega
          obtain ⟨ao, co, hvo⟩ := owns_form hm.out
          obtain ⟨ak, ck, hvk⟩ := owns_form (hm.row (k := 1) rfl rfl)
          rw [lsF_len] at hvk
          subst hvo hvk
          have z0 := hm.cell 0
          have z1 := hm.cell 1
          have z2 := hm.cell 2
          simp at z0 z1 z2
          have x0 := hm.res.cell 0
          have x1 := hm.res.cell 1
          have x2 := hm.res.cell 2
          have y0 := hm.res.frozen 0
          have y1 := hm.res.frozen 1
          have y2 := hm.res.frozen 2
          have hltr := hm.res.lt
          simp at x0 x1 x2
          clear hm
          go_wp2_with fail
          have hm3 := ((HM.out.putres 0 (.slice ao i co)).putres 1 (.slice av k cv)).putres 2 (.slice ak i ck)
          have e0 := hm3.res.cell 0
          have e1 := hm3.res.cell 1
          have e2 := hm3.res.cell 2
          simp at e0 e1 e2
          subst hB2
          refine bodyPost_ret (v := .agg #[.slice ao i co, .slice av k cv, .slice ak i ck]) ?_ rfl ⟨⟨_, _, _, us, rfl, ?_⟩, ?_⟩
          · simp only [results, Try.results10]
            simp [go_sem, e0, e1, e2]
          · rw [HT.out]
            exact ⟨by have := hm3.out; rw [lsF_len]; exact this, hm3.rs⟩
          · exact hm3.bel
end Go.Proofs.Ytmkkegigajmhkaa

namespace Go.Proofs.Ytmkkegigajmhkaa
open Go.RowKit Go.Maps

def stepIn (h : Int) (c : List Int) (x : Int) : List Int := c.set x.toNat (c[h.toNat]?.getD 0)
def plainG (c : List Int) (g : List Int) : List Int := g.foldl (stepIn (g.headD 0)) c
def plainC (T : Tb) (i : Nat) : List Int := ((groups T).take i).foldl plainG T.cls
def plainT (T : Tb) : Tb := ⟨T.rows, T.costs, (groups T).foldl plainG T.cls⟩
theorem stepIn_len (h : Int) (c : List Int) (x : Int) : (stepIn h c x).length = c.length := by unfold stepIn; simp
theorem foldIn_len (h : Int) (g : List Int) : ∀ c : List Int, (g.foldl (stepIn h) c).length = c.length := by
  induction g with
  | nil => intro c; rfl
  | cons a r ih => intro c; rw [List.foldl_cons, ih, stepIn_len]
theorem plainG_len (c g : List Int) : (plainG c g).length = c.length := foldIn_len _ _ _
theorem foldG_len (G : List (List Int)) : ∀ c : List Int, (G.foldl plainG c).length = c.length := by
  induction G with
  | nil => intro c; rfl
  | cons a r ih => intro c; rw [List.foldl_cons, ih, plainG_len]
theorem foldl_take {α β : Type} {f : β → α → β} {l : List α} {k : Nat} {x : α} (h : l[k]? = some x) (c : β) : (l.take (k + 1)).foldl f c = f ((l.take k).foldl f c) x := by
  rw [take_succ_at h, List.foldl_append]; rfl
theorem OwnRR.setBelow {base : Nat} {W : World} {v : Value} {us : List Value} {rows : List (List Int)} (h : OwnRR base W v us rows) {g j : Nat} (hg : g < base) (x : Value) : OwnRR base (W.setCell ⟨g, j, none⟩ x) v us rows :=
  ⟨ownsRow_setCell_below (a := ⟨g, j, none⟩) h.out hg x, fun k u r hu hr => ownsRow_setCell_below (a := ⟨g, j, none⟩) (h.inn k u r hu hr) hg x, h.dis⟩

set_option maxRecDepth 100000 in
set_option maxHeartbeats 8000000 in
theorem plain_any (va vc vk : Value) (T : Tb) (w : World) (h : TbR w va vc vk T) (ho : OkT T) :
    Calls Try.prog 12 #[.agg #[va, vc, vk]] w fun e w' => CopyOut w.heap.size (plainT T) e w' ∧ Below w.heap.size w w' := by
  obtain ⟨aa, ca, rfl⟩ := h.rows.form
  obtain ⟨ac, cc, rfl⟩ := h.costs.form
  obtain ⟨ak, ck, rfl⟩ := h.cls.form
  have HBX := Lib.hid ((alloc_below w (.cells #[.slice aa T.rows.length ca, .slice ac T.costs.length cc, .slice ak T.cls.length ck] 25)).alloc (by rw [World.size_alloc]; omega) (.cells #[.slice none 0 0, .slice none 0 0, .slice none 0 0] 25))
  have HTB := h.below HBX.out
  have HT2 := Lib.hid (show Boxs ((w.alloc (.cells #[.slice aa T.rows.length ca, .slice ac T.costs.length cc, .slice ak T.cls.length ck] 25)).alloc (.cells #[.slice none 0 0, .slice none 0 0, .slice none 0 0] 25)) (w.heap.size + 1) 25 #[.slice none 0 0, .slice none 0 0, .slice none 0 0] from by have := Boxs.new (w.alloc (.cells #[.slice aa T.rows.length ca, .slice ac T.costs.length cc, .slice ak T.cls.length ck] 25)) 25 #[.slice none 0 0, .slice none 0 0, .slice none 0 0]; rwa [World.size_alloc] at this)
  have hlens : T.rows.length ≤ 1000 ∧ T.costs.length ≤ 1000 ∧ T.cls.length ≤ 1000 ∧ ∀ r, r ∈ T.rows → r.length ≤ 1000 := ⟨by have := ho.r64; omega, by have := ho.c64; omega, by have := ho.kl; have := ho.r64; omega, fun r hr => by have := ho.rl r hr; have := ho.c64; omega⟩
  have CP := copy_any (.slice aa T.rows.length ca) (.slice ac T.costs.length cc) (.slice ak T.cls.length ck) T ((w.alloc (.cells #[.slice aa T.rows.length ca, .slice ac T.costs.length cc, .slice ak T.cls.length ck] 25)).alloc (.cells #[.slice none 0 0, .slice none 0 0, .slice none 0 0] 25)) HTB hlens
  have HO := Lib.hid ho
  clear h HTB hlens ho
  go_enter Try.func12, Try.ntmps12
  go_wp2_with fail
  obtain ⟨B2, hB2⟩ : ∃ B, w.heap.size + 1 = B := ⟨_, rfl⟩
  have hwB2 : w.heap.size ≤ B2 := by omega
  rw [hB2] at HT2 ⊢
  generalize (w.alloc (.cells #[.slice aa T.rows.length ca, .slice ac T.costs.length cc, .slice ak T.cls.length ck] 25)).alloc (.cells #[.slice none 0 0, .slice none 0 0, .slice none 0 0] 25) = w1 at *
  refine CP.mono ?_
  rintro e w2 ⟨⟨ua, uc, uk, us, rfl, hown⟩, hb9⟩
  have hs1 : w.heap.size ≤ w1.heap.size := HBX.out.size
  have HOT := Lib.hid (hown.le hs1)
  have HB2 := Lib.hid (HBX.out.trans (hb9.mono hs1))
  have HT2 := Lib.hid (Boxs.below HT2.out hb9)
  obtain ⟨aa1, ca1, rfl⟩ := owns_form hown.out
  obtain ⟨ac1, cc1, rfl⟩ := owns_form (hown.rs.inn 0 _ _ rfl rfl)
  obtain ⟨ak1, ck1, rfl⟩ := owns_form (hown.rs.inn 1 _ _ rfl rfl)
  clear hown hb9 CP HBX hs1
  go_wp2_with fail
  have hs2 : w.heap.size ≤ w2.heap.size := HB2.out.size
  have hltB2 := HT2.out.lt
  have HM := Lib.hid (MT.of (HOT.out.below (alloc_below w2 (.cells #[.slice aa1 T.rows.length ca1, .slice ac1 T.costs.length cc1, .slice ak1 T.cls.length ck1] 25))) (Nat.le_refl _) (HB2.out.alloc hs2 (.cells #[.slice aa1 T.rows.length ca1, .slice ac1 T.costs.length cc1, .slice ak1 T.cls.length ck1] 25)) hs2 hwB2 (Nat.ne_of_gt hltB2) (Boxs.new w2 25 #[.slice aa1 T.rows.length ca1, .slice ac1 T.costs.length cc1, .slice ak1 T.cls.length ck1]) (Boxs.below HT2.out (alloc_below w2 _)))
  obtain ⟨b, hb⟩ : ∃ b, w2.heap.size = b := ⟨_, rfl⟩
  rw [hb] at HM ⊢
  clear hb HB2 HT2 HOT
  generalize w2.alloc (.cells #[.slice aa1 T.rows.length ca1, .slice ac1 T.costs.length cc1, .slice ak1 T.cls.length ck1] 25) = w3 at *
  have hown1 := (HM.out.row (k := 1) rfl rfl)
  obtain ⟨gk, ck, hv⟩ := ownsRow_some hown1 (by have := HO.out.r1; have := HO.out.kl; omega)
  have hgk := (hown1.lt gk (by rw [hv]; rfl)).2
  cases hv
  have GR := rgroups_any (.slice aa1 T.rows.length ca1) (.slice ac1 T.costs.length cc1) (.slice (some ⟨gk, 0, none⟩) T.cls.length ck1) T w3 HM.out.ownT.tb
  refine GR.mono ?_
  rintro e w4 ⟨⟨vg, ug, rfl, hgr⟩, hb9⟩
  have HM := Lib.hid (HM.out.below hb9)
  obtain ⟨n1, hn1⟩ : ∃ n, w3.heap.size = n := ⟨_, rfl⟩
  obtain ⟨ag, cg, rfl⟩ := owns_form hgr.out
  rw [hn1] at hgr hgk
  have HG := Lib.hid hgr
  have hgo : GrpOk T T.rows.length (groups T) := by unfold groups; rw [if_pos ((okT_iff T).2 HO.out)]; exact grpOk_N T _
  have HGO := Lib.hid hgo
  have hgl : (groups T).length ≤ 64 := by have := hgo.len; have := HO.out.r64; omega
  have HKL := Lib.hid HO.out.kl
  have hr64 := HO.out.r64
  clear hgr hb9 GR hown1 hn1 hgo
  go_wp2_with fail
  go_loopw [5] (fun iv wr => ∃ i : Nat, i ≤ (groups T).length ∧ iv = .int .i64 i ∧ MT w.heap.size w wr b B2 #[.slice aa1 T.rows.length ca1, .slice ac1 T.costs.length cc1, .slice (some ⟨gk, 0, none⟩) T.cls.length ck1] #[.slice none 0 0, .slice none 0 0, .slice none 0 0] (.slice aa1 T.rows.length ca1) T.rows.length us (.slice ac1 T.costs.length cc1 :: .slice (some ⟨gk, 0, none⟩) T.cls.length ck1 :: us) (T.costs :: plainC T i :: T.rows) ∧ OwnRR n1 wr (.slice ag (groups T).length cg) ug (groups T)) (fun iv _ => (groups T).length - (intOf iv).toNat)
  case atStart => exact ⟨0, Nat.zero_le _, rfl, HM.out, HG.out⟩
  case round =>
    clear HM HG
    obtain ⟨i, hi, rfl, hm, hg⟩ := hrel
    have hi0 : (0 : Int) ≤ (i : Int) := Int.natCast_nonneg _
    have HM := Lib.hid hm; have HG := Lib.hid hg
    by_cases hil : i < (groups T).length
    · have hi1 : (i : Int) < ((groups T).length : Int) := by omega
      obtain ⟨g, hgi⟩ := elem_at hil
      obtain ⟨u, hu, hou⟩ := hg.row hgi
      obtain ⟨hgne, hgm⟩ := HGO.out.mem g (List.mem_of_getElem? hgi)
      have hg64 : g.length ≤ 64 := by have := HGO.out.glen g (List.mem_of_getElem? hgi); omega
      obtain ⟨gu, cu, rfl⟩ := ownsRow_some hou (List.length_pos_iff.2 hgne)
      obtain ⟨gg, cg', hv⟩ := ownsRow_some hg.out (by omega)
      cases hv
      have HGI := Lib.hid hgi; have HU := Lib.hid hu; have HGM := Lib.hid hgm
      clear hm hg hu hou hgi hgm
      go_wp2_with fail
      go_loopw [6] (fun kv wr => ∃ k : Nat, k ≤ g.length ∧ kv = .int .i64 k ∧ MT w.heap.size w wr b B2 #[.slice aa1 T.rows.length ca1, .slice ac1 T.costs.length cc1, .slice (some ⟨gk, 0, none⟩) T.cls.length ck1] #[.slice none 0 0, .slice none 0 0, .slice none 0 0] (.slice aa1 T.rows.length ca1) T.rows.length us (.slice ac1 T.costs.length cc1 :: .slice (some ⟨gk, 0, none⟩) T.cls.length ck1 :: us) (T.costs :: (g.take k).foldl (stepIn (g.headD 0)) (plainC T i) :: T.rows) ∧ OwnRR n1 wr (.slice (some ⟨gg, 0, none⟩) (groups T).length cg) ug (groups T)) (fun kv _ => g.length - (intOf kv).toNat)
      case atStart => exact ⟨0, Nat.zero_le _, rfl, HM.out, HG.out⟩
      case round =>
        clear HM HG
        obtain ⟨k, hk, rfl, hm, hg⟩ := hrel
        have hk0 : (0 : Int) ≤ (k : Int) := Int.natCast_nonneg _
        have HM := Lib.hid hm; have HG := Lib.hid hg
        have cg1 := hg.out.cellAt i (by omega)
        rw [HU.out] at cg1
        have hou := hg.inn i _ g HU.out HGI.out
        by_cases hkl2 : k < g.length
        · have hk1 : (k : Int) < (g.length : Int) := by omega
          obtain ⟨x, hx⟩ := elem_at hkl2
          have hxb := HGM.out x (List.mem_of_getElem? hx)
          have hkl := HKL.out
          obtain ⟨m, rfl⟩ : ∃ m : Nat, x = m := ⟨x.toNat, by omega⟩
          obtain ⟨h0, rest, hgx⟩ : ∃ x rest, g = x :: rest := by cases g with | nil => exact absurd rfl hgne | cons a r => exact ⟨a, r, rfl⟩
          have hhb := HGM.out h0 (by rw [hgx]; simp)
          obtain ⟨h, rfl⟩ : ∃ m : Nat, h0 = m := ⟨h0.toNat, by omega⟩
          have hhd : g.headD 0 = (h : Int) := by rw [hgx]; rfl
          have hg0 : g[0]? = some (h : Int) := by rw [hgx]; rfl
          have hlc : ((g.take k).foldl (stepIn (g.headD 0)) (plainC T i)).length = T.cls.length := by rw [foldIn_len]; unfold plainC; rw [foldG_len]
          have hok := hm.row (k := 1) rfl rfl
          have hst := foldl_take (f := stepIn (g.headD 0)) hx (plainC T i)
          obtain ⟨cl, hcl⟩ : ∃ c, (g.take k).foldl (stepIn (g.headD 0)) (plainC T i) = c := ⟨_, rfl⟩
          rw [hcl] at hst hlc hok
          obtain ⟨y, hy⟩ := elem_at (show h < cl.length by omega)
          have hstep : stepIn (g.headD 0) cl (m : Int) = cl.set m y := by unfold stepIn; rw [hhd]; simp [hy]
          rw [hstep] at hst
          have cx := own_cell hou hx
          have ch := own_cell hou hg0
          have hok2 := hok
          rw [hlc] at hok
          have cy := own_cell hok hy
          have cz := hok.cellAt m (by omega)
          obtain ⟨z, hz⟩ := elem_at (show m < cl.length by omega)
          rw [show (ints cl)[m]? = some (.int .i64 z) by unfold ints; rw [List.getElem?_map, hz]; rfl] at cz
          have cb := hm.cell 2
          simp at cb
          have yy := hok.frozenAt m
          have lty := (hok.lt gk rfl).2
          have hm2 : (m : Int) < (T.cls.length : Int) := by omega
          have hh2 : (h : Int) < (T.cls.length : Int) := by omega
          have hm0 : (0 : Int) ≤ (m : Int) := Int.natCast_nonneg _
          have hh0 : (0 : Int) ≤ (h : Int) := Int.natCast_nonneg _
          have hgn : g ≠ [] := hgne
          rw [hcl] at hm
          have HM := Lib.hid hm
          have HST := Lib.hid hst
          have HP := Lib.hid (show ((T.costs :: cl :: T.rows)[1]? = some cl) from rfl)
          clear hkl hm hg hou hx hgx hhd hg0 hlc hst hcl hy hstep hok hok2 hz hxb hhb
          go_wp2_with fail
          refine wp_region_E (fun W => W.cell? ⟨b, 2, none⟩ = some (.slice (some ⟨gk, 0, none⟩) T.cls.length ck1) ∧ W.cell? ⟨gg, i, none⟩ = some (.slice (some ⟨gu, 0, none⟩) g.length cu) ∧ W.cell? ⟨gu, k, none⟩ = some (.int .i64 (m : Int)) ∧ W.cell? ⟨gu, 0, none⟩ = some (.int .i64 (h : Int)) ∧ W.cell? ⟨gk, h, none⟩ = some (.int .i64 y)) (by kernel_rfl) ?_
          have hdr : (wr).drew = { wr with drawn := (wr).drawn + 1 } := rfl
          rw [← hdr]
          clear hdr
          change wpAnyE _ _ _ _ _ _ _ _ (wr.drewN 1)
          refine tg 0 26 rfl rfl (.pointer (some ⟨b, 2, none⟩)) ⟨cb, cg1, cx, ch, cy⟩ ?_
          try simp only [pa, pl]
          refine tk 1 27 rfl rfl (.slice (some ⟨gk, 0, none⟩) T.cls.length ck1) (fun W hW => by obtain ⟨cb, cg1, cx, ch, cy⟩ := hW; go_simp) ⟨cb, cg1, cx, ch, cy⟩ ?_
          try simp only [pa, pl]
          refine tm 2 28 rfl rfl (.slice (some ⟨gg, 0, none⟩) (groups T).length cg) ⟨cb, cg1, cx, ch, cy⟩ ?_
          try simp only [pa, pl]
          refine tm 3 29 rfl rfl (.int .i64 (i : Int)) ⟨cb, cg1, cx, ch, cy⟩ ?_
          try simp only [pa, pl]
          refine tg 4 30 rfl rfl (.pointer (some ⟨gg, i, none⟩)) ⟨cb, cg1, cx, ch, cy⟩ ?_
          try simp only [pa, pl]
          refine tk 5 31 rfl rfl (.slice (some ⟨gu, 0, none⟩) g.length cu) (fun W hW => by obtain ⟨cb, cg1, cx, ch, cy⟩ := hW; go_simp) ⟨cb, cg1, cx, ch, cy⟩ ?_
          try simp only [pa, pl]
          refine tm 6 32 rfl rfl (.int .i64 (k : Int)) ⟨cb, cg1, cx, ch, cy⟩ ?_
          try simp only [pa, pl]
          refine tg 7 33 rfl rfl (.pointer (some ⟨gu, k, none⟩)) ⟨cb, cg1, cx, ch, cy⟩ ?_
          try simp only [pa, pl]
          refine tk 8 34 rfl rfl (.int .i64 (m : Int)) (fun W hW => by obtain ⟨cb, cg1, cx, ch, cy⟩ := hW; go_simp) ⟨cb, cg1, cx, ch, cy⟩ ?_
          try simp only [pa, pl]
          refine tg 9 35 rfl rfl (.pointer (some ⟨b, 2, none⟩)) ⟨cb, cg1, cx, ch, cy⟩ ?_
          try simp only [pa, pl]
          refine tk 10 36 rfl rfl (.slice (some ⟨gk, 0, none⟩) T.cls.length ck1) (fun W hW => by obtain ⟨cb, cg1, cx, ch, cy⟩ := hW; go_simp) ⟨cb, cg1, cx, ch, cy⟩ ?_
          try simp only [pa, pl]
          refine tm 11 37 rfl rfl (.slice (some ⟨gg, 0, none⟩) (groups T).length cg) ⟨cb, cg1, cx, ch, cy⟩ ?_
          try simp only [pa, pl]
          refine tm 12 38 rfl rfl (.int .i64 (i : Int)) ⟨cb, cg1, cx, ch, cy⟩ ?_
          try simp only [pa, pl]
          refine tg 13 39 rfl rfl (.pointer (some ⟨gg, i, none⟩)) ⟨cb, cg1, cx, ch, cy⟩ ?_
          try simp only [pa, pl]
          refine tk 14 40 rfl rfl (.slice (some ⟨gu, 0, none⟩) g.length cu) (fun W hW => by obtain ⟨cb, cg1, cx, ch, cy⟩ := hW; go_simp) ⟨cb, cg1, cx, ch, cy⟩ ?_
          try simp only [pa, pl]
          refine tg 15 41 rfl rfl (.pointer (some ⟨gu, 0, none⟩)) ⟨cb, cg1, cx, ch, cy⟩ ?_
          try simp only [pa, pl]
          refine tk 16 42 rfl rfl (.int .i64 (h : Int)) (fun W hW => by obtain ⟨cb, cg1, cx, ch, cy⟩ := hW; go_simp) ⟨cb, cg1, cx, ch, cy⟩ ?_
          try simp only [pa, pl]
          refine tg 17 43 rfl rfl (.pointer (some ⟨gk, h, none⟩)) ⟨cb, cg1, cx, ch, cy⟩ ?_
          try simp only [pa, pl]
          refine tk 18 44 rfl rfl (.int .i64 y) (fun W hW => by obtain ⟨cb, cg1, cx, ch, cy⟩ := hW; go_simp) ⟨cb, cg1, cx, ch, cy⟩ ?_
          try simp only [pa, pl]
          refine tg 19 45 rfl rfl (.pointer (some ⟨gk, m, none⟩)) ⟨cb, cg1, cx, ch, cy⟩ ?_
          try simp only [pa, pl]
          refine wpAnyEOne 20 (by kernel_rfl) ?_
          refine wpOpSkip (w' := (wr.drewN 1).setCell ⟨gk, m, none⟩ (.int .i64 y)) 20 rfl rfl rfl (by go_simp <;> rfl) ?_
          refine ⟨.inr (allUp_of (by kernel_rfl)), ?_⟩
          try simp only [pa, pl]
          refine wpAnyE_done (by kernel_rfl) ?_ _
          have HM := Lib.hid (HM.out.dn.puti (k := 1) (j := m) rfl rfl y)
          have HG := Lib.hid ((HG.out.below (Below.dn (Below.refl _ _) 1)).setBelow (j := m) hgk (.int .i64 y))
          clear cg1 cx ch cy cz cb yy lty
          go_wp2_with fail
          go_roundw
          case rel => exact ⟨k + 1, by omega, by go_num, by rw [HST.out]; exact HM.out, HG.out⟩
          case measure => simp [intOf]; omega
        · obtain rfl : k = g.length := by omega
          have hk1 : ¬ (g.length : Int) < (g.length : Int) := by omega
          have hst : plainC T (i + 1) = g.foldl (stepIn (g.headD 0)) (plainC T i) := by unfold plainC; rw [foldl_take HGI.out]; rfl
          have HST := Lib.hid hst
          rw [List.take_length] at hm
          have HM := Lib.hid hm
          clear hm hg hou hst
          go_wp2_with fail
          go_roundw
          case rel => exact ⟨i + 1, by omega, by go_num, by rw [HST.out]; exact HM.out, HG.out⟩
          case measure => simp [intOf]; omega
    · obtain rfl : i = (groups T).length := by omega
      have hi1 : ¬ ((groups T).length : Int) < ((groups T).length : Int) := by omega
      have z0 := hm.cell 0
      have z1 := hm.cell 1
      have z2 := hm.cell 2
      simp at z0 z1 z2
      have x0 := hm.res.cell 0
      have x1 := hm.res.cell 1
      have x2 := hm.res.cell 2
      have y0 := hm.res.frozen 0
      have y1 := hm.res.frozen 1
      have y2 := hm.res.frozen 2
      have hltr := hm.res.lt
      simp at x0 x1 x2
      have hpl : plainC T (groups T).length = (plainT T).cls := by unfold plainC plainT; rw [List.take_length]
      have HPL := Lib.hid hpl
      clear hm hg hpl
      go_wp2_with fail
      have hm3 := ((HM.out.putres 0 (.slice aa1 T.rows.length ca1)).putres 1 (.slice ac1 T.costs.length cc1)).putres 2 (.slice (some ⟨gk, 0, none⟩) T.cls.length ck1)
      have e0 := hm3.res.cell 0
      have e1 := hm3.res.cell 1
      have e2 := hm3.res.cell 2
      simp at e0 e1 e2
      refine bodyPost_ret (v := .agg #[.slice aa1 T.rows.length ca1, .slice ac1 T.costs.length cc1, .slice (some ⟨gk, 0, none⟩) T.cls.length ck1]) ?_ rfl ⟨⟨_, _, _, us, rfl, ?_⟩, ?_⟩
      · simp only [results, Try.results12]
        simp [go_sem, e0, e1, e2]
      · exact ⟨hm3.out, by have := hm3.rs; rw [HPL.out] at this; exact this⟩
      · exact hm3.bel
end Go.Proofs.Ytmkkegigajmhkaa

