/- Weak. -/
import Derived.Test.YtidojiegkdchpaaAt
import Derived.Scope
namespace Go.Proofs.Ytidojiegkdchpaa
open Go.RowKit Go.Shelf Go.Maps
attribute [local go_sem] Oper.semAt_some

def hitF (m by' : Int) : Option Nat := (List.range m.toNat).find? fun d => decide (1 ≤ d) && decide ((by' * (d : Int)) % m = 0)
theorem hit_none {m b : Int} (h : ∀ d : Nat, 1 ≤ d → (d : Int) < m → (b * (d : Int)) % m ≠ 0) : hitF m b = none := by
  unfold hitF
  rw [List.find?_eq_none]
  intro d hd
  have := List.mem_range.1 hd
  simp only [Bool.and_eq_true, decide_eq_true_eq, not_and]
  intro h1
  exact h d h1 (by omega)
theorem hit_some {m b : Int} {d : Nat} (h1 : 1 ≤ d) (h2 : (d : Int) < m) (h3 : (b * (d : Int)) % m = 0) (h : ∀ j : Nat, 1 ≤ j → j < d → (b * (j : Int)) % m ≠ 0) : hitF m b = some d := by
  unfold hitF
  rw [List.find?_range_eq_some]
  refine ⟨by simp [h1, h3], List.mem_range.2 (by omega), fun j hj => ?_⟩
  simp only [Bool.not_eq_true', Bool.and_eq_false_iff, decide_eq_false_iff_not]
  by_cases hj1 : 1 ≤ j
  · exact .inr (h j hj1 hj)
  · exact .inl hj1
def noHit (m : Int) (l : List Slip) : Prop := ∀ y, y ∈ l → hitF m y.2.2 = none
theorem noHit_nil (m : Int) : noHit m [] := fun y hy => by cases hy
theorem noHit_snoc {m : Int} {l : List Slip} {x : Slip} (h : noHit m l) (hx : hitF m x.2.2 = none) : noHit m (l ++ [x]) := by
  intro y hy
  rcases List.mem_append.1 hy with e | e
  · exact h y e
  · rw [List.mem_singleton.1 e]; exact hx
def weakR (ws : List Int) (m : Int) : Option (Nat × Int × Nat) := (spL ws).findSome? fun x => (hitF m x.2.2).map fun d => (x.1, x.2.1, d)
def weakV (ws : List Int) (m : Int) : Option (Nat × Int × Nat) := if errF ws m ≠ 0 then none else weakR ws m
def flV : Option (Nat × Int × Nat) → Value
  | none => .agg #[.int .i64 0, .int .i64 0, .int .i64 0, .int .i64 0]
  | some (a, o, d) => .agg #[.int .i64 a, .int .i64 o, .int .i64 0, .int .i64 d]
theorem weak_none {ws : List Int} {m : Int} (h : ∀ x, x ∈ spL ws → hitF m x.2.2 = none) : weakR ws m = none := by
  unfold weakR
  rw [List.findSome?_eq_none_iff]
  intro x hx
  rw [h x hx]; rfl
theorem weak_some {ws : List Int} {m : Int} {pre : List Slip} {x : Slip} {d : Nat} (hp : pre ++ [x] <+: spL ws) (h : ∀ y, y ∈ pre → hitF m y.2.2 = none) (hd : hitF m x.2.2 = some d) : weakR ws m = some (x.1, x.2.1, d) := by
  unfold weakR
  obtain ⟨r, hr⟩ := hp
  rw [← hr, List.append_assoc, List.findSome?_append]
  have : pre.findSome? (fun x => (hitF m x.2.2).map fun d => (x.1, x.2.1, d)) = none := by
    rw [List.findSome?_eq_none_iff]
    intro y hy
    rw [h y hy]; rfl
  rw [this, Option.none_or, List.singleton_append, List.findSome?_cons, hd]
  rfl
theorem mul_bd2 {x y : Int} (h1 : -1024 ≤ x) (h2 : x ≤ 1024) (h3 : 0 ≤ y) (h4 : y ≤ 1024) : -1048576 ≤ x * y ∧ x * y ≤ 1048576 := by
  have a := Int.mul_le_mul_of_nonneg_right h2 h3
  have b := Int.mul_le_mul_of_nonneg_right h1 h3
  omega
theorem tmod_zero {a m : Int} : a.tmod m = 0 ↔ a % m = 0 := by
  rw [← Int.dvd_iff_tmod_eq_zero, ← Int.dvd_iff_emod_eq_zero]
theorem ret_fbi {a b : Value} {x y : Bool} {c d : Int} (h : a = b) (h' : x = y) (h2 : c = d) : Ending.returned (.tuple #[a, .bool x, .int .i64 c]) = .returned (.tuple #[b, .bool y, .int .i64 d]) := by rw [h, h', h2]

theorem results_fl {tmps : Array Value} {w : World} {B : Nat} (hp : tmps.getD 4 undef = .pointer (some ⟨B, 0, none⟩)) {v0 v1 v2 v3 : Value} (hb : Boxs w B 35 #[v0, v1, v2, v3]) :
    (results Try.f17 tmps).run Try.prog w = .ok (.tuple #[.agg #[v0, v1, v2, v3], tmps.getD 5 undef, tmps.getD 6 undef]) w := by
  have hp' : tmps[4]?.getD undef = .pointer (some ⟨B, 0, none⟩) := by rw [← hp]; simp
  have d0 := hb.cell 0
  have d1 := hb.cell 1
  have d2 := hb.cell 2
  have d3 := hb.cell 3
  simp at d0 d1 d2 d3
  simp only [results, Try.results17]
  simp [go_sem, hp', d0, d1, d2, d3]
theorem results_fr {tmps : Array Value} {w : World} {B : Nat} (hp : tmps.getD 4 undef = .pointer (some ⟨B, 0, none⟩)) {v0 v1 v2 v3 : Value} (hb : Boxs w B 38 #[v0, v1, v2, v3]) :
    (results Try.f18 tmps).run Try.prog w = .ok (.tuple #[.agg #[v0, v1, v2, v3], tmps.getD 5 undef, tmps.getD 6 undef]) w := by
  have hp' : tmps[4]?.getD undef = .pointer (some ⟨B, 0, none⟩) := by rw [← hp]; simp
  have d0 := hb.cell 0
  have d1 := hb.cell 1
  have d2 := hb.cell 2
  have d3 := hb.cell 3
  simp at d0 d1 d2 d3
  simp only [results, Try.results18]
  simp [go_sem, hp', d0, d1, d2, d3]
theorem Boxs.same {W : World} {B : Nat} {t : TypeId} {cs cs' : Array Value} (h : Boxs W B t cs) (e : cs = cs') : Boxs W B t cs' := e ▸ h

set_option maxRecDepth 100000 in
set_option maxHeartbeats 4000000 in
theorem weak_any (v : Value) (ws : List Int) (m : Int) (w : World) (h : RdI w v ws) :
    Calls Try.prog 17 #[v, .int .i64 m] w fun e w' => e = .returned (.tuple #[flV (weakV ws m), .bool (weakV ws m).isSome, .int .i64 (errF ws m)]) ∧ Below w.heap.size w w' := by
  have P0 := proper_any v ws m ((w.alloc (.cells #[.int .i64 m] 3)).alloc (.cells #[.int .i64 0, .int .i64 0, .int .i64 0, .int .i64 0] 35)) (h.below (((Below.refl _ w).alloc (Nat.le_refl _) _).alloc (by simp) _))
  obtain ⟨a, c, rfl, l1, f⟩ := h.open
  have F := Lib.hid f
  clear h f
  have B1 := (Boxs.new w 3 #[.int .i64 m]).alloc (.cells #[.int .i64 0, .int .i64 0, .int .i64 0, .int .i64 0] 35)
  have B2 := Boxs.new (w.alloc (.cells #[.int .i64 m] 3)) 35 #[.int .i64 0, .int .i64 0, .int .i64 0, .int .i64 0]
  rw [World.size_alloc] at B2
  have BB := ((Below.refl w.heap.size w).alloc (Nat.le_refl _) (.cells #[.int .i64 m] 3)).alloc (by simp) (.cells #[.int .i64 0, .int .i64 0, .int .i64 0, .int .i64 0] 35)
  have hsz0 : ((w.alloc (.cells #[.int .i64 m] 3)).alloc (.cells #[.int .i64 0, .int .i64 0, .int .i64 0, .int .i64 0] 35)).heap.size = w.heap.size + 2 := by simp
  have c1 := B1.cell 0
  simp at c1
  by_cases he : errF ws m = 0
  · obtain ⟨z1, z2, z3, z4⟩ := errF_0 he
    have hwv : weakV ws m = weakR ws m := if_neg (by simp [he])
    rw [hwv, he]
    rw [he] at P0
    have hmid : mid 1024 ws := fun x hx => by have := z4 x hx; omega
    have HMID := Lib.hid hmid
    clear hwv he z4 hmid
    refine (callsIn_wide (n := 9)).1 ?_
    refine callsIn_of_wp_marks Try.func17 rfl trivial ?_ rfl
    simp only [Try.ntmps17, List.size_toArray, List.length_cons, List.length_nil, Nat.reduceAdd, Nat.reduceSub, Array.replicate_succ, Array.replicate_zero, List.push_toArray, List.append_toArray, List.nil_append, List.cons_append]
    gi_wp2_with fail
    refine wpIn_wide.2 (wp_scope_straight ((wpIn_wide (n := 9)).1 ?_))
    gi_wp2_with (first | (refine ⟨trivial, ?_⟩; gi_at_call 34; refine (callsIn_wide.2 P0).mono ?_; rintro e w1 ⟨rfl, hb1⟩))
    refine wpIn_label ?_
    gi_wp2_with (first | (refine ⟨trivial, ?_⟩; gi_at_call 37; refine (callsIn_wide.2 (slips_any _ _ _ _)).mono ?_; rintro e w2 ⟨rfl, rfl⟩))
    have hs1 : w.heap.size + 2 ≤ w1.heap.size := by have := hb1.size; omega
    have A3 : Boxs w1 w.heap.size 3 #[.int .i64 m] := (hb1.block _ B1.lt).trans B1
    have A4 : Boxs w1 (w.heap.size + 1) 35 #[.int .i64 0, .int .i64 0, .int .i64 0, .int .i64 0] := (hb1.block _ B2.lt).trans B2
    have AB : Below w.heap.size w w1 := BB.trans (hb1.mono (by omega))
    have C3 := ((A3.alloc (.cells #[.int .i64 0, .int .i64 0, .int .i64 0, .int .i64 0] 35)).alloc (.cells #[.bool false] 4)).alloc (.cells #[.slice a ws.length c] 22)
    have C4 := ((A4.alloc (.cells #[.int .i64 0, .int .i64 0, .int .i64 0, .int .i64 0] 35)).alloc (.cells #[.bool false] 4)).alloc (.cells #[.slice a ws.length c] 22)
    have C8 := ((Boxs.new w1 35 #[.int .i64 0, .int .i64 0, .int .i64 0, .int .i64 0]).alloc (.cells #[.bool false] 4)).alloc (.cells #[.slice a ws.length c] 22)
    have C9 := (Boxs.new (w1.alloc (.cells #[.int .i64 0, .int .i64 0, .int .i64 0, .int .i64 0] 35)) 4 #[.bool false]).alloc (.cells #[.slice a ws.length c] 22)
    have CN := Boxs.new ((w1.alloc (.cells #[.int .i64 0, .int .i64 0, .int .i64 0, .int .i64 0] 35)).alloc (.cells #[.bool false] 4)) 22 #[.slice a ws.length c]
    rw [World.size_alloc] at C9 CN
    rw [World.size_alloc] at CN
    have CB := ((AB.alloc (by omega) (.cells #[.int .i64 0, .int .i64 0, .int .i64 0, .int .i64 0] 35)).alloc (by simp; omega) (.cells #[.bool false] 4)).alloc (by simp; omega) (.cells #[.slice a ws.length c] 22)
    have hsz : (((w1.alloc (.cells #[.int .i64 0, .int .i64 0, .int .i64 0, .int .i64 0] 35)).alloc (.cells #[.bool false] 4)).alloc (.cells #[.slice a ws.length c] 22)).heap.size = w1.heap.size + 3 := by simp
    clear A3 A4 AB hb1 B1 B2 BB hsz0 c1 P0
    obtain ⟨W0, hW0⟩ : ∃ W0, ((w1.alloc (.cells #[.int .i64 0, .int .i64 0, .int .i64 0, .int .i64 0] 35)).alloc (.cells #[.bool false] 4)).alloc (.cells #[.slice a ws.length c] 22) = W0 := ⟨_, rfl⟩
    rw [hW0] at C3 C4 C8 C9 CN CB hsz ⊢
    clear hW0
    have hel : ∀ k y, ws[k]? = some y → ∃ b off, a = some ⟨b, off, none⟩ ∧ b < w.heap.size ∧ W0.cell? ⟨b, off + k, none⟩ = some (.int .i64 y) := by
      intro k y hy
      obtain ⟨b, off, e1, e2, e3⟩ := F.out k y hy
      exact ⟨b, off, e1, e2, (CB.cell (p := ⟨b, off + k, none⟩) e2).trans e3⟩
    refine wpIn_rangeFunc_ownH rfl (by omega) (gf := 49) (lb := #[.pointer (some ⟨w1.heap.size + 1 + 1, 0, none⟩)]) rfl trivial (enters_of Try.func49 (by kernel_rfl) rfl)
      (slips1_stops 8 (by omega) (w1.heap.size + 1 + 1) w.heap.size c a ws z1 HMID.out W0 (by omega) (by omega) (CN.cell 0) hel) (fun h1 h2 => ⟨h1.1.trans h2.1, h1.2.trans h2.2⟩)
      (fun W l o o' hl ho hc hw => ⟨keepB_b (w := W0) (by omega) W l o o' hl ho hc hw, belowK_b (w := W0) (by omega) W l o o' hl ho hc hw⟩) (Below.refl _ _) (fun _ => rfl)
      (fun (pre : List SlipT) W => (Boxs W w.heap.size 3 #[.int .i64 m] ∧ (Boxs W (w.heap.size + 1) 35 #[.int .i64 0, .int .i64 0, .int .i64 0, .int .i64 0] ∧ (Boxs W w1.heap.size 35 #[.int .i64 0, .int .i64 0, .int .i64 0, .int .i64 0] ∧ (Boxs W (w1.heap.size + 1) 4 #[.bool false] ∧ (Boxs W (w1.heap.size + 1 + 1) 22 #[.slice a ws.length c] ∧ Below w.heap.size w W))))) ∧ noHit m (pre.map (·.1)))
      (fun cd (pre : List SlipT) W => (∃ (ps : List Slip) (x : Slip) (d : Nat), (pre.map (·.1) = ps ++ [x] ∧ noHit m ps ∧ hitF m x.2.2 = some d ∧ cd = .exit 0) ∧ (Boxs W (w.heap.size + 1) 35 #[.int .i64 0, .int .i64 0, .int .i64 0, .int .i64 0] ∧ (Boxs W w1.heap.size 35 #[.int .i64 x.1, .int .i64 x.2.1, .int .i64 0, .int .i64 d] ∧ (Boxs W (w1.heap.size + 1) 4 #[.bool true] ∧ Below w.heap.size w W)))))
      (OwnFrom.and (OwnFrom.and (Own.from (boxs_own _ _ _) _) (OwnFrom.and (Own.from (boxs_own _ _ _) _) (OwnFrom.and (Own.from (boxs_own _ _ _) _) (OwnFrom.and (Own.from (boxs_own _ _ _) _) (OwnFrom.and (Own.from (boxs_own _ _ _) _) (ownFrom_below (by omega) (by omega))))))) (ownFrom_pure _ _))
      (fun cd => ?hIx)
      ⟨⟨C3, C4, C8, C9, CN, CB⟩, noHit_nil m⟩
      (fun x a' W => ∃ Bx, w1.heap.size + 3 ≤ Bx ∧ Boxs W Bx 35 #[.int .i64 x.1.1, .int .i64 x.1.2.1, .int .i64 0, .int .i64 0] ∧ a' = { tmps := #[.slice a ws.length c, .int .i64 m, undef, .pointer (some ⟨w.heap.size, 0, none⟩), .pointer (some ⟨w.heap.size + 1, 0, none⟩), .bool false, .int .i64 0, .int .i64 0, .pointer (some ⟨w1.heap.size, 0, none⟩), .pointer (some ⟨w1.heap.size + 1, 0, none⟩), .pointer (some ⟨Bx, 0, none⟩), .int .i64 x.1.2.2, undef, .slice a ws.length c, .int .i64 m, .int .i64 0, .int .i64 0, .bool false, undef, undef, .slice a ws.length c, .func (.func 49) #[] #[.pointer (some ⟨w1.heap.size + 1 + 1, 0, none⟩)], .agg #[.int .i64 x.1.1, .int .i64 x.1.2.1, .int .i64 0, .int .i64 0], .int .i64 x.1.2.2, undef, undef, undef, undef, undef, undef, undef, undef, undef, undef, undef, undef, undef, undef, undef, undef], defers := [] }) ?hAx ?assign ?body ?done ?stop
    case hIx =>
      rintro pre X Y row ⟨ps, x, d, hpure, hw⟩ hg hr
      refine ⟨ps, x, d, hpure, ?_⟩
      exact OwnFrom.and (Own.from (boxs_own (w.heap.size + 1) 35 (fun _ : Unit => #[.int .i64 0, .int .i64 0, .int .i64 0, .int .i64 0])) _) (OwnFrom.and (Own.from (boxs_own w1.heap.size 35 (fun _ : Unit => #[.int .i64 x.1, .int .i64 x.2.1, .int .i64 0, .int .i64 d])) _) (OwnFrom.and (Own.from (boxs_own (w1.heap.size + 1) 4 (fun _ : Unit => #[.bool true])) _) (ownFrom_below (by omega) (by omega)))) () X Y row hw hg hr
    case hAx =>
      rintro x a' _ X Y row ⟨Bx, g1, g2, g3⟩ hg hr
      exact ⟨Bx, g1, boxs_own Bx 35 (fun _ : Unit => #[.int .i64 x.1.1, .int .i64 x.1.2.1, .int .i64 0, .int .i64 0]) () X Y row g2 hg (fun r e => (hr r e).2), g3⟩
    case assign =>
      rintro l pre x W K ⟨⟨D3, D4, D8, D9, DN, hB⟩, hpre⟩ hK
      simp only [sEnc]
      gi_wp2
      exact hK _ _ ((KeepsOthers.alloc _ _).from _) ⟨keepB_boxs DN (DN.alloc _) (by simp), (Below.refl _ W).alloc (by have := hB.size; omega) _⟩ ⟨⟨D3.alloc _, D4.alloc _, D8.alloc _, D9.alloc _, DN.alloc _, hB.alloc hB.size _⟩, hpre⟩ ⟨W.heap.size, by have := DN.lt; omega, Boxs.new W 35 _, rfl⟩
    case body =>
      rintro l pre x a' W hlw hlr ⟨⟨D3, D4, D8, D9, DN, hB⟩, hpre⟩ ⟨Bx, hBx, bX, rfl⟩ hlt
      obtain ⟨⟨xa, xo, xb⟩, xk1, xk2, xk3, xk4, xk5⟩ := x
      dsimp only at bX xk1 xk2 xk3 xk4 xk5 ⊢
      have g3 := D3.cell 0
      have x0 : W.cell? ⟨Bx, 0, none⟩ = some (.int .i64 xa) := bX.cell 0
      have x1 : W.cell? ⟨Bx, 1, none⟩ = some (.int .i64 xo) := bX.cell 1
      have x2 : W.cell? ⟨Bx, 2, none⟩ = some (.int .i64 0) := bX.cell 2
      have x3 : W.cell? ⟨Bx, 3, none⟩ = some (.int .i64 0) := bX.cell 3
      have fx := bX.frozen
      have y0 : W.cell? ⟨w1.heap.size, 0, none⟩ = some (.int .i64 0) := D8.cell 0
      have y1 : W.cell? ⟨w1.heap.size, 1, none⟩ = some (.int .i64 0) := D8.cell 1
      have y2 : W.cell? ⟨w1.heap.size, 2, none⟩ = some (.int .i64 0) := D8.cell 2
      have y3 : W.cell? ⟨w1.heap.size, 3, none⟩ = some (.int .i64 0) := D8.cell 3
      have f8 := D8.frozen
      have y9 : W.cell? ⟨w1.heap.size + 1, 0, none⟩ = some (.bool false) := D9.cell 0
      have f9 := D9.frozen 0
      simp at g3
      have HD4 := Lib.hid D4; have HD8 := Lib.hid D8; have HD9 := Lib.hid D9; have HDN := Lib.hid DN; have HD3 := Lib.hid D3; have HBL := Lib.hid hB; have HPRE := Lib.hid hpre; have HBXX := Lib.hid bX
      have hmap : (pre ++ [(⟨(xa, xo, xb), xk1, xk2, xk3, xk4, xk5⟩ : SlipT)]).map (·.1) = pre.map (·.1) ++ [(xa, xo, xb)] := by rw [List.map_append]; rfl
      have HMAP := Lib.hid hmap
      have hne1 : Bx ≠ w1.heap.size := by omega
      have hne2 : Bx ≠ w1.heap.size + 1 := by omega
      clear D3 D4 D8 D9 DN hB hpre bX hlr hmap
      generalize hP : pre ++ [(⟨(xa, xo, xb), xk1, xk2, xk3, xk4, xk5⟩ : SlipT)] = P at *
      gi_wp2
      gi_loopw [12] (fun i wr => ∃ d : Nat, 1 ≤ d ∧ (d : Int) ≤ m ∧ i = .int .i64 d ∧ (∀ j : Nat, 1 ≤ j → j < d → (xb * (j : Int)) % m ≠ 0) ∧ wr = W) (fun i _ => m.toNat - (intOf i).toNat)
      case atStart => exact ⟨1, Nat.le_refl _, by omega, rfl, by omega, rfl⟩
      case round =>
        obtain ⟨d, hd1, hd2, rfl, hno, rfl⟩ := hrel
        have HNO := Lib.hid hno
        clear hno
        by_cases hlt2 : (d : Int) < m
        · obtain ⟨p1, p2⟩ := mul_bd2 xk4 xk5 (show 0 ≤ (d : Int) by omega) (by omega)
          by_cases hh : (xb * (d : Int)) % m = 0
          · have hb : ((xb * (d : Int)).tmod m == 0) = true := by rw [beq_iff_eq]; exact tmod_zero.2 hh
            have hhit := hit_some hd1 hlt2 hh HNO.out
            have HHIT := Lib.hid hhit
            clear hh hhit
            gi_wp2
            have HK0 : ∀ (W W' : World) (p : Addr) (v : Value), KeepsOthers W W' → KeepsOthers W (W'.setCell p v) := fun W W' p v h => h.trans (KeepsOthers.setCell _ _ _)
            refine ⟨(HK0 _ _ _ _ (HK0 _ _ _ _ (HK0 _ _ _ _ (HK0 _ _ _ _ (HK0 _ _ _ _ (KeepsOthers.setCell _ _ _)))))).from _, pre.map (·.1), (xa, xo, xb), d, ⟨HMAP.out, HPRE.out, HHIT.out, rfl⟩, ?_, ?_, ?_, ?_⟩
            · exact (((((HD4.out.setOther (by omega) 3 _).setOther (by omega) 0 _).setOther (by omega) 1 _).setOther (by omega) 2 _).setOther (by omega) 3 _).setOther (by omega) 0 _
            · exact ((((((HD8.out.setOther (Ne.symm hne1) 3 _).put 0 _).put 1 _).put 2 _).put 3 _).setOther (by omega) 0 _).same (by simp)
            · exact ((((((HD9.out.setOther (Ne.symm hne2) 3 _).setOther (by omega) 0 _).setOther (by omega) 1 _).setOther (by omega) 2 _).setOther (by omega) 3 _).put 0 _).same (by simp)
            · have sc := fun (W W' : World) (b o : Nat) (v : Value) (hb : w.heap.size ≤ b) (h : Below w.heap.size W W') => h.setCell (p := ⟨b, o, none⟩) hb v
              exact sc _ _ _ _ _ (by omega) (sc _ _ _ _ _ (by omega) (sc _ _ _ _ _ (by omega) (sc _ _ _ _ _ (by omega) (sc _ _ _ _ _ (by omega) (sc _ _ _ _ _ (by omega) HBL.out)))))
          · have hb : ((xb * (d : Int)).tmod m == 0) = false := by rw [beq_eq_false_iff_ne]; exact fun e => hh (tmod_zero.1 e)
            have HH := Lib.hid hh
            clear hh
            gi_wp2
            go_roundw
            case rel =>
              refine ⟨d + 1, by omega, by omega, by go_num, fun j hj1 hj2 => ?_, by first | rfl | trivial⟩
              rcases Nat.lt_or_ge j d with h | h
              · exact HNO.out j hj1 h
              · obtain rfl : j = d := by omega
                exact HH.out
            case measure => simp [intOf]; omega
        · have hmd : m = (d : Int) := by omega
          have hhit : hitF m xb = none := hit_none fun j hj1 hj2 => HNO.out j hj1 (by omega)
          have HHIT := Lib.hid hhit
          clear hhit hmd
          gi_wp2
          refine ⟨KeepsFrom.refl _ _, ⟨KeepB.refl _ _, Below.refl _ _⟩, ⟨HD3.out, HD4.out, HD8.out, HD9.out, HDN.out, HBL.out⟩, ?_⟩
          rw [HMAP.out]
          exact noHit_snoc HPRE.out HHIT.out
    case done =>
      rintro D ys W hD hys ⟨⟨D3, D4, D8, D9, DN, hB⟩, hpre⟩ hK
      rw [hys] at hpre
      have hwr := weak_none hpre
      have HWR := Lib.hid hwr
      clear hwr hpre
      have y0 : W.cell? ⟨w1.heap.size, 0, none⟩ = some (.int .i64 0) := D8.cell 0
      have y1 : W.cell? ⟨w1.heap.size, 1, none⟩ = some (.int .i64 0) := D8.cell 1
      have y2 : W.cell? ⟨w1.heap.size, 2, none⟩ = some (.int .i64 0) := D8.cell 2
      have y3 : W.cell? ⟨w1.heap.size, 3, none⟩ = some (.int .i64 0) := D8.cell 3
      have y9 : W.cell? ⟨w1.heap.size + 1, 0, none⟩ = some (.bool false) := D9.cell 0
      have r0 : W.cell? ⟨w.heap.size + 1, 0, none⟩ = some (.int .i64 0) := D4.cell 0
      have r1 : W.cell? ⟨w.heap.size + 1, 1, none⟩ = some (.int .i64 0) := D4.cell 1
      have r2 : W.cell? ⟨w.heap.size + 1, 2, none⟩ = some (.int .i64 0) := D4.cell 2
      have r3 : W.cell? ⟨w.heap.size + 1, 3, none⟩ = some (.int .i64 0) := D4.cell 3
      have f4 := D4.frozen
      have HD4 := Lib.hid D4; have HB := Lib.hid hB
      clear D4 D8 D9 hB
      gi_wp2
      refine wpIn_wide.2 ?_
      go_region
      gi_wp2
      simp only [Exit.noGoto]
      have sc := fun (W W' : World) (b o : Nat) (v : Value) (hb : w.heap.size ≤ b) (h : Below w.heap.size W W') => h.setCell (p := ⟨b, o, none⟩) hb v
      have HK0 : ∀ (W W' : World) (p : Addr) (v : Value), KeepsOthers W W' → KeepsOthers W (W'.setCell p v) := fun W W' p v h => h.trans (KeepsOthers.setCell _ _ _)
      have b2 := (((HD4.out.put 0 (.int .i64 0)).put 1 (.int .i64 0)).put 2 (.int .i64 0)).put 3 (.int .i64 0)
      have b2' := b2.same (cs' := #[.int .i64 0, .int .i64 0, .int .i64 0, .int .i64 0]) (by simp)
      have k2 := (HK0 _ _ ⟨w.heap.size + 1, 3, none⟩ (.int .i64 0) (HK0 _ _ ⟨w.heap.size + 1, 2, none⟩ (.int .i64 0) (HK0 _ _ ⟨w.heap.size + 1, 1, none⟩ (.int .i64 0) (KeepsOthers.setCell W ⟨w.heap.size + 1, 0, none⟩ (.int .i64 0))))).same D _ hK rfl
      have hb2 := sc _ _ (w.heap.size + 1) 3 (.int .i64 0) (by omega) (sc _ _ (w.heap.size + 1) 2 (.int .i64 0) (by omega) (sc _ _ (w.heap.size + 1) 1 (.int .i64 0) (by omega) (sc _ _ (w.heap.size + 1) 0 (.int .i64 0) (by omega) HB.out)))
      clear b2 sc HK0
      generalize (((W.setCell ⟨w.heap.size + 1, 0, none⟩ (.int .i64 0)).setCell ⟨w.heap.size + 1, 1, none⟩ (.int .i64 0)).setCell ⟨w.heap.size + 1, 2, none⟩ (.int .i64 0)).setCell ⟨w.heap.size + 1, 3, none⟩ (.int .i64 0) = W2 at *
      have k3 : W2.drew.heap[D]? = some (.deferred (some [])) := k2
      have b3 : Boxs W2.drew (w.heap.size + 1) 35 #[.int .i64 0, .int .i64 0, .int .i64 0, .int .i64 0] := b2'
      have h3 : Below w.heap.size w W2.drew := Below.dn hb2 1
      refine ⟨by simp, .inl ⟨_, _, rfl, run_takeDeferred k3, ?_⟩⟩
      refine ⟨_, results_fl rfl (b3.kept (grownBy_putObj' _ D (.deferred none)) (fun e => by cases e; omega)), ?_, h3.trans (belowK_b (w := w) (Nat.le_refl _) _ D _ _ (by have := CB.size; omega) k3 rfl rfl)⟩
      rw [HWR.out]
      rfl
    case stop =>
      rintro D cd pre W hD hpp ⟨ps, x, d, ⟨e1, e2, e3, rfl⟩, D4, D8, D9, hB⟩ hK
      rw [e1] at hpp
      have hwr := weak_some hpp e2 e3
      have HWR := Lib.hid hwr
      clear hwr e1 e2 e3 hpp
      have y0 : W.cell? ⟨w1.heap.size, 0, none⟩ = some (.int .i64 x.1) := D8.cell 0
      have y1 : W.cell? ⟨w1.heap.size, 1, none⟩ = some (.int .i64 x.2.1) := D8.cell 1
      have y2 : W.cell? ⟨w1.heap.size, 2, none⟩ = some (.int .i64 0) := D8.cell 2
      have y3 : W.cell? ⟨w1.heap.size, 3, none⟩ = some (.int .i64 d) := D8.cell 3
      have y9 : W.cell? ⟨w1.heap.size + 1, 0, none⟩ = some (.bool true) := D9.cell 0
      have r0 : W.cell? ⟨w.heap.size + 1, 0, none⟩ = some (.int .i64 0) := D4.cell 0
      have r1 : W.cell? ⟨w.heap.size + 1, 1, none⟩ = some (.int .i64 0) := D4.cell 1
      have r2 : W.cell? ⟨w.heap.size + 1, 2, none⟩ = some (.int .i64 0) := D4.cell 2
      have r3 : W.cell? ⟨w.heap.size + 1, 3, none⟩ = some (.int .i64 0) := D4.cell 3
      have f4 := D4.frozen
      have HD4 := Lib.hid D4; have HB := Lib.hid hB
      clear D4 D8 D9 hB
      gi_wp2
      refine wpIn_wide.2 ?_
      go_region
      gi_wp2
      simp only [Exit.noGoto]
      have sc := fun (W W' : World) (b o : Nat) (v : Value) (hb : w.heap.size ≤ b) (h : Below w.heap.size W W') => h.setCell (p := ⟨b, o, none⟩) hb v
      have HK0 : ∀ (W W' : World) (p : Addr) (v : Value), KeepsOthers W W' → KeepsOthers W (W'.setCell p v) := fun W W' p v h => h.trans (KeepsOthers.setCell _ _ _)
      have b2 := (((HD4.out.put 0 (.int .i64 x.1)).put 1 (.int .i64 x.2.1)).put 2 (.int .i64 0)).put 3 (.int .i64 d)
      have b2' := b2.same (cs' := #[.int .i64 x.1, .int .i64 x.2.1, .int .i64 0, .int .i64 d]) (by simp)
      have k2 := (HK0 _ _ ⟨w.heap.size + 1, 3, none⟩ (.int .i64 d) (HK0 _ _ ⟨w.heap.size + 1, 2, none⟩ (.int .i64 0) (HK0 _ _ ⟨w.heap.size + 1, 1, none⟩ (.int .i64 x.2.1) (KeepsOthers.setCell W ⟨w.heap.size + 1, 0, none⟩ (.int .i64 x.1))))).same D _ hK rfl
      have hb2 := sc _ _ (w.heap.size + 1) 3 (.int .i64 d) (by omega) (sc _ _ (w.heap.size + 1) 2 (.int .i64 0) (by omega) (sc _ _ (w.heap.size + 1) 1 (.int .i64 x.2.1) (by omega) (sc _ _ (w.heap.size + 1) 0 (.int .i64 x.1) (by omega) HB.out)))
      clear b2 sc HK0
      generalize (((W.setCell ⟨w.heap.size + 1, 0, none⟩ (.int .i64 x.1)).setCell ⟨w.heap.size + 1, 1, none⟩ (.int .i64 x.2.1)).setCell ⟨w.heap.size + 1, 2, none⟩ (.int .i64 0)).setCell ⟨w.heap.size + 1, 3, none⟩ (.int .i64 d) = W2 at *
      have k3 : W2.drew.heap[D]? = some (.deferred (some [])) := k2
      have b3 : Boxs W2.drew (w.heap.size + 1) 35 #[.int .i64 x.1, .int .i64 x.2.1, .int .i64 0, .int .i64 d] := b2'
      have h3 : Below w.heap.size w W2.drew := Below.dn hb2 1
      refine ⟨by simp, .inl ⟨_, _, rfl, run_takeDeferred k3, ?_⟩⟩
      refine ⟨_, results_fl rfl (b3.kept (grownBy_putObj' _ D (.deferred none)) (fun e => by cases e; omega)), ?_, h3.trans (belowK_b (w := w) (Nat.le_refl _) _ D _ _ (by have := CB.size; omega) k3 rfl rfl)⟩
      rw [HWR.out]
      rfl
  · have hwv : weakV ws m = none := if_pos he
    have hb : (errF ws m != 0) = true := by simpa using he
    have HWV := Lib.hid hwv
    clear hwv he
    go_enter Try.func17, Try.ntmps17
    go_wp2_with fail
    refine wp_scope_straight ?_
    go_wp2_with fail
    refine P0.mono ?_
    rintro e w1 ⟨rfl, hb1⟩
    have b2 : Boxs w1 (w.heap.size + 1) 35 #[.int .i64 0, .int .i64 0, .int .i64 0, .int .i64 0] := (hb1.block _ B2.lt).trans B2
    have d0 := b2.cell 0
    have d1 := b2.cell 1
    have d2 := b2.cell 2
    have d3 := b2.cell 3
    have f0 := b2.frozen 0
    have f1 := b2.frozen 1
    have f2 := b2.frozen 2
    have f3 := b2.frozen 3
    simp at d0 d1 d2 d3
    have HB2 := Lib.hid b2; have HB1 := Lib.hid (BB.trans (hb1.mono (by simp; omega)))
    clear b2 hb1 P0 B1 B2 c1
    go_wp2_with fail
    have q4 := (((HB2.out.put 0 (.int .i64 0)).put 1 (.int .i64 0)).put 2 (.int .i64 0)).put 3 (.int .i64 0)
    simp only [Exit.noGoto]
    refine bodyPost_ret (results_fl rfl (q4.same (cs' := #[.int .i64 0, .int .i64 0, .int .i64 0, .int .i64 0]) (by simp))) rfl ?_
    rw [HWV.out]
    refine ⟨rfl, ?_⟩
    exact (((HB1.out.setCell (p := ⟨w.heap.size + 1, 0, none⟩) (by show w.heap.size ≤ w.heap.size + 1; omega) _).setCell (p := ⟨w.heap.size + 1, 1, none⟩) (by show w.heap.size ≤ w.heap.size + 1; omega) _).setCell (p := ⟨w.heap.size + 1, 2, none⟩) (by show w.heap.size ≤ w.heap.size + 1; omega) _).setCell (p := ⟨w.heap.size + 1, 3, none⟩) (by show w.heap.size ≤ w.heap.size + 1; omega) _
end Go.Proofs.Ytidojiegkdchpaa
