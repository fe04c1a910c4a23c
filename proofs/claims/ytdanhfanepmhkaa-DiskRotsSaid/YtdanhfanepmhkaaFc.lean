/- The law's steps: do, Do. -/
import Derived.Test.YtdanhfanepmhkaaFb
namespace Go.Proofs.Ytdanhfanepmhkaa
open Go.RowKit Go.Maps Go.Sort

/-- a step as a value -/
structure Opv where
  k : Int
  i : Int
  b : Int
  s : ByteArray
  picks : List Int
def opV (o : Opv) (pv : Value) : Value := .agg #[.int .i64 o.k, .int .i64 o.i, .int .i64 o.b, .string o.s, pv]
structure OpAt (w : World) (G : Nat → Prop) (o : Opv) (pv : Value) : Prop where
  picks : Rd w G 1 pv o.picks.length (ints o.picks)
  lo : -9223372036854775808 ≤ o.i
  hi : o.i ≤ 9223372036854775807

def Dk.doS (D : Dk) (o : Opv) : ByteArray := if o.k = 2 then D.readS o.i else ⟨#[]⟩
def Dk.doE (D : Dk) (o : Opv) : Int := if o.k = 1 then D.writeE o.i (textF o.s) else if o.k = 2 then D.chk o.i else if o.k = 3 then D.flushE else if o.k = 6 then D.rotE o.i o.b else if o.k = 7 then D.argE o.i else 0
def Dk.doD (D : Dk) (o : Opv) : Dk := if o.k = 1 then D.writeD o.i (textF o.s) else if o.k = 3 then D.flushD else if o.k = 4 then { D with left := o.i } else if o.k = 5 then D.mountD o.picks else if o.k = 6 then D.rotD o.i o.b else if o.k = 7 then D.wear o.i else D
theorem boxs_range {W : World} {B : Nat} {t : TypeId} {cs : Array Value} (h : Boxs W B t cs) : W.rangeAt B 0 cs.toList := fun j v hv => by
  rw [h.cell, Nat.zero_add, ← Array.getElem?_toList]; exact hv

set_option maxRecDepth 100000 in
set_option maxHeartbeats 8000000 in
theorem do_any (A : At) (D : Dk) (o : Opv) (pv : Value) (w : World) (h : DskAt w A D) (G : Nat → Prop) (hG : ∀ b, G b → ¬ A.F b) (ho : OpAt w G o pv) :
    Calls Try.prog 11 #[.pointer (some ⟨A.d, 0, none⟩), opV o pv] w fun e w' => e = .returned (.tuple #[.string (D.doS o), .int .i64 (D.doE o)]) ∧ DskAt w' A (D.doD o) ∧ Keeps A.F w w' := by
  obtain ⟨k, i, b, s, picks⟩ := o
  obtain ⟨hp, hlo, hhi⟩ := ho
  obtain ⟨pa, pc, rfl, hpm, _⟩ := hp.int
  dsimp only at hp hlo hhi
  have ka := fun K : Int => (Keeps.refl (fun _ => False) w).alloc (.cells #[.int .i64 K, .int .i64 i, .int .i64 b, .string s, .slice pa picks.length pc] 33)
  have ha := fun K : Int => h.keeps (ka K) (fun _ _ h => h)
  have hpa := fun K : Int => hp.keeps (ka K) (fun _ _ _ h => h)
  have HA := Lib.hid ha; have HPA := Lib.hid hpa
  have hnf : ¬ A.F w.heap.size := fun e => by have := h.ltF e; omega
  clear h hp ha hpa ka
  generalize hpn : picks.length = pn at hpm HA HPA ⊢
  unfold opV
  dsimp only
  by_cases k1 : k = 1
  · subst k1
    have hS : D.doS ⟨1, i, b, s, picks⟩ = ⟨#[]⟩ := rfl
    have hE : D.doE ⟨1, i, b, s, picks⟩ = D.writeE i (textF s) := rfl
    have hD : D.doD ⟨1, i, b, s, picks⟩ = D.writeD i (textF s) := rfl
    rw [hS, hE, hD]
    clear hS hE hD
    go_enter Try.func11, Try.ntmps11
    go_wp2_with fail
    have B0 : Boxs (w.alloc (.cells #[.int .i64 1, .int .i64 i, .int .i64 b, .string s, .slice pa pn pc] 33)).drew w.heap.size 33 #[.int .i64 1, .int .i64 i, .int .i64 b, .string s, .slice pa pn pc] := Boxs.new w 33 _
    have hdk := (HA.out 1).keeps (Keeps.refl (fun _ => False) _).drew (fun _ _ h => h)
    have kf : Keeps A.F w (w.alloc (.cells #[.int .i64 1, .int .i64 i, .int .i64 b, .string s, .slice pa pn pc] 33)).drew := ((Keeps.refl _ w).alloc _).drew
    have HDK := Lib.hid hdk; have HKF := Lib.hid kf
    refine wp_region_held (S := fun W => Boxs W w.heap.size 33 #[.int .i64 1, .int .i64 i, .int .i64 b, .string s, .slice pa pn pc]) (by kernel_rfl) ?_
    have hdr : (w.alloc (.cells #[.int .i64 1, .int .i64 i, .int .i64 b, .string s, .slice pa pn pc] 33)).drew = { w.alloc (.cells #[.int .i64 1, .int .i64 i, .int .i64 b, .string s, .slice pa pn pc] 33) with drawn := (w.alloc (.cells #[.int .i64 1, .int .i64 i, .int .i64 b, .string s, .slice pa pn pc] 33)).drawn + 1 } := rfl
    rw [← hdr]
    clear hdr hdk kf
    generalize (w.alloc (.cells #[.int .i64 1, .int .i64 i, .int .i64 b, .string s, .slice pa pn pc] 33)).drew = V at B0 HDK HKF ⊢
    refine wpAnyHTake 0 (some 10) (.pointer (some ⟨A.d, 0, none⟩)) rfl rfl (by kernel_rfl) (by kernel_rfl) (by kernel_rfl) (fun _ _ _ h => h) (by rfl) (fun _ _ => by rfl) (B0) ?_
    simp only [Act.put, List.setIfInBounds_toArray, List.set_cons_zero, List.set_cons_succ]
    refine wpAnyHTake 1 (some 11) (.pointer (some ⟨w.heap.size, 1, none⟩)) rfl rfl (by kernel_rfl) (by kernel_rfl) (by kernel_rfl) (fun _ _ _ h => h) (by rfl) (fun _ _ => by rfl) (B0) ?_
    simp only [Act.put, List.setIfInBounds_toArray, List.set_cons_zero, List.set_cons_succ]
    refine wpAnyHTake 2 (some 12) (.int .i64 i) rfl rfl (by kernel_rfl) (by kernel_rfl) (by kernel_rfl) (fun _ _ _ h => h) (by rfl) (fun W hW => by have e := Boxs.cell hW 1; simp at e; clear hW; go_simp) (B0) ?_
    simp only [Act.put, List.setIfInBounds_toArray, List.set_cons_zero, List.set_cons_succ]
    refine wpAnyHTake 3 (some 13) (.agg #[.int .i64 1, .int .i64 i, .int .i64 b, .string s, .slice pa pn pc]) rfl rfl (by kernel_rfl) (by kernel_rfl) (by kernel_rfl) (fun _ _ _ h => h) (by rfl) (fun W hW => execOp_load_mid 33 _ rfl rfl (run_loadAt_mid W w.heap.size 0 33 #[.int .i64 1, .int .i64 i, .int .i64 b, .string s, .slice pa pn pc].toList _ (boxs_range hW) Try.underlying33 rfl (by kernel_rfl))) (B0) ?_
    simp only [Act.put, List.setIfInBounds_toArray, List.set_cons_zero, List.set_cons_succ]
    refine wpAnyHCall 4 (some 14) 24 #[.agg #[.int .i64 1, .int .i64 i, .int .i64 b, .string s, .slice pa pn pc]] (by kernel_rfl) rfl rfl (by rfl) (by go_simp) (text_any 1 i b s _ ⟨_, _, _, rfl⟩ _) ?_
    rintro e w1 ⟨rfl, hb⟩
    have k1 : Keeps (fun _ => False) V w1 := Keeps.of_below hb
    have B1 := B0.keeps k1 (fun h => h)
    have HD1 := Lib.hid (HDK.out.keeps k1 (fun _ _ h => h)); have HK1 := Lib.hid (HKF.out.trans (k1.mono (fun _ _ h => h.elim)))
    clear hb k1 HDK HKF
    refine ⟨_, rfl, B1, ?_⟩
    simp only [Act.put, List.setIfInBounds_toArray, List.set_cons_zero, List.set_cons_succ]
    refine wpAnyHCall 5 (some 15) 17 #[.pointer (some ⟨A.d, 0, none⟩), .int .i64 i, .string (textF s)] (by kernel_rfl) rfl rfl (by rfl) (by go_simp) (write_any A D i (textF s) _ HD1.out) ?_
    rintro e w2 ⟨rfl, hd2, hk2⟩
    have B2 := B1.keeps hk2 hnf
    have HD2 := Lib.hid hd2; have HK2 := Lib.hid (HK1.out.trans hk2)
    clear hd2 hk2 HD1 HK1
    refine ⟨_, rfl, B2, ?_⟩
    simp only [Act.put, List.setIfInBounds_toArray, List.set_cons_zero, List.set_cons_succ]
    refine wpAnyHTake 6 (some 4) (.string ⟨#[]⟩) rfl rfl (by kernel_rfl) (by kernel_rfl) (by kernel_rfl) (fun _ _ _ h => h) (by rfl) (fun _ _ => by rfl) B2 ?_
    simp only [Act.put, List.setIfInBounds_toArray, List.set_cons_zero, List.set_cons_succ]
    refine wpAnyHTake 7 (some 5) (.int .i64 (D.writeE i (textF s))) rfl rfl (by kernel_rfl) (by kernel_rfl) (by kernel_rfl) (fun _ _ _ h => h) (by rfl) (fun _ _ => by rfl) B2 ?_
    simp only [Act.put, List.setIfInBounds_toArray, List.set_cons_zero, List.set_cons_succ]
    refine wpAnyH_done (by kernel_rfl) ?_ _
    rename_i K hK
    refine hK _ _ ?_
    clear hK
    go_wp2_with fail
    go_ret2
    exact ⟨rfl, HD2.out, HK2.out⟩
  by_cases k2 : k = 2
  · subst k2
    have hS : D.doS ⟨2, i, b, s, picks⟩ = D.readS i := rfl
    have hE : D.doE ⟨2, i, b, s, picks⟩ = D.chk i := rfl
    have hD : D.doD ⟨2, i, b, s, picks⟩ = D := rfl
    rw [hS, hE, hD]
    clear hS hE hD
    go_enter Try.func11, Try.ntmps11
    go_wp2_with fail
    refine (read_any A D i _ (HA.out 2)).mono ?_
    rintro e w1 ⟨rfl, hb⟩
    go_wp2_with fail
    go_ret2
    exact ⟨rfl, (HA.out 2).keeps (F := fun _ => False) (Keeps.of_below hb) (fun _ _ h => h), ((Keeps.refl A.F w).alloc _).trans (Keeps.of_below hb)⟩
  by_cases k3 : k = 3
  · subst k3
    have hS : D.doS ⟨3, i, b, s, picks⟩ = ⟨#[]⟩ := rfl
    have hE : D.doE ⟨3, i, b, s, picks⟩ = D.flushE := rfl
    have hD : D.doD ⟨3, i, b, s, picks⟩ = D.flushD := rfl
    rw [hS, hE, hD]
    clear hS hE hD
    go_enter Try.func11, Try.ntmps11
    go_wp2_with fail
    refine (flush_any A D _ (HA.out 3)).mono ?_
    rintro e w1 ⟨rfl, hd, hk⟩
    go_wp2_with fail
    go_ret2
    exact ⟨rfl, hd, ((Keeps.refl A.F w).alloc _).trans hk⟩
  by_cases k4 : k = 4
  · subst k4
    have hS : D.doS ⟨4, i, b, s, picks⟩ = ⟨#[]⟩ := rfl
    have hE : D.doE ⟨4, i, b, s, picks⟩ = 0 := rfl
    have hD : D.doD ⟨4, i, b, s, picks⟩ = { D with left := i } := rfl
    rw [hS, hE, hD]
    clear hS hE hD
    go_enter Try.func11, Try.ntmps11
    go_wp2_with fail
    refine (trip_any A D i _ (HA.out 4) hlo hhi).mono ?_
    rintro e w1 ⟨rfl, hd, hk⟩
    go_wp2_with fail
    go_ret2
    exact ⟨rfl, hd, ((Keeps.refl A.F w).alloc _).trans hk⟩
  by_cases k5 : k = 5
  · subst k5
    have hS : D.doS ⟨5, i, b, s, picks⟩ = ⟨#[]⟩ := rfl
    have hE : D.doE ⟨5, i, b, s, picks⟩ = 0 := rfl
    have hD : D.doD ⟨5, i, b, s, picks⟩ = D.mountD picks := rfl
    rw [hS, hE, hD]
    clear hS hE hD
    go_enter Try.func11, Try.ntmps11
    go_wp2_with fail
    refine (mount_any A D _ (HA.out 5) G hG _ picks (by rw [hpn]; exact HPA.out 5)).mono ?_
    rintro e w1 ⟨rfl, hd, hk⟩
    go_wp2_with fail
    go_ret2
    exact ⟨rfl, hd, ((Keeps.refl A.F w).alloc _).trans hk⟩
  by_cases k6 : k = 6
  · subst k6
    have hS : D.doS ⟨6, i, b, s, picks⟩ = ⟨#[]⟩ := rfl
    have hE : D.doE ⟨6, i, b, s, picks⟩ = D.rotE i b := rfl
    have hD : D.doD ⟨6, i, b, s, picks⟩ = D.rotD i b := rfl
    rw [hS, hE, hD]
    clear hS hE hD
    go_enter Try.func11, Try.ntmps11
    go_wp2_with fail
    refine (rot_any A D i b _ (HA.out 6)).mono ?_
    rintro e w1 ⟨rfl, hd, hk⟩
    go_wp2_with fail
    go_ret2
    exact ⟨rfl, hd, ((Keeps.refl A.F w).alloc _).trans hk⟩
  by_cases k7 : k = 7
  · subst k7
    have hS : D.doS ⟨7, i, b, s, picks⟩ = ⟨#[]⟩ := rfl
    have hE : D.doE ⟨7, i, b, s, picks⟩ = D.argE i := rfl
    have hD : D.doD ⟨7, i, b, s, picks⟩ = D.wear i := rfl
    rw [hS, hE, hD]
    clear hS hE hD
    go_enter Try.func11, Try.ntmps11
    go_wp2_with fail
    refine (wear_any A D i _ (HA.out 7)).mono ?_
    rintro e w1 ⟨rfl, hd, hk⟩
    go_wp2_with fail
    go_ret2
    exact ⟨rfl, hd, ((Keeps.refl A.F w).alloc _).trans hk⟩
  have hS : D.doS ⟨k, i, b, s, picks⟩ = ⟨#[]⟩ := if_neg k2
  have hE : D.doE ⟨k, i, b, s, picks⟩ = 0 := by unfold Dk.doE; rw [if_neg k1, if_neg k2, if_neg k3, if_neg k6, if_neg k7]
  have hD : D.doD ⟨k, i, b, s, picks⟩ = D := by unfold Dk.doD; rw [if_neg k1, if_neg k3, if_neg k4, if_neg k5, if_neg k6, if_neg k7]
  rw [hS, hE, hD]
  clear hS hE hD
  have HZ := Lib.hid (HA.out k)
  clear HA HPA
  have q1 : (k == 1) = false := by simpa using k1
  have q2 : (k == 2) = false := by simpa using k2
  have q3 : (k == 3) = false := by simpa using k3
  have q4 : (k == 4) = false := by simpa using k4
  have q5 : (k == 5) = false := by simpa using k5
  have q6 : (k == 6) = false := by simpa using k6
  have q7 : (k == 7) = false := by simpa using k7
  clear k1 k2 k3 k4 k5 k6 k7
  go_enter Try.func11, Try.ntmps11
  go_wp2_with fail
  go_ret2
  exact ⟨rfl, HZ.out, ((Keeps.refl A.F w).alloc _)⟩

set_option maxRecDepth 100000 in
set_option maxHeartbeats 8000000 in
theorem rdo_any (B : RAt) (D : Dk) (o : Opv) (pv : Value) (w : World) (h : RefAt w B D) (G : Nat → Prop) (hG : ∀ b, G b → ¬ B.F b) (ho : OpAt w G o pv) :
    Calls Try.prog 12 #[.pointer (some ⟨B.d, 0, none⟩), opV o pv] w fun e w' => e = .returned (.tuple #[.string (D.doS o), .int .i64 (D.doE o)]) ∧ RefAt w' B (D.doD o) ∧ Keeps B.F w w' := by
  obtain ⟨k, i, b, s, picks⟩ := o
  obtain ⟨hp, hlo, hhi⟩ := ho
  obtain ⟨pa, pc, rfl, hpm, _⟩ := hp.int
  dsimp only at hp hlo hhi
  have ka := fun K : Int => (Keeps.refl (fun _ => False) w).alloc (.cells #[.int .i64 K, .int .i64 i, .int .i64 b, .string s, .slice pa picks.length pc] 33)
  have ha := fun K : Int => h.keeps (ka K) (fun _ _ h => h)
  have hpa := fun K : Int => hp.keeps (ka K) (fun _ _ _ h => h)
  have HA := Lib.hid ha; have HPA := Lib.hid hpa
  have hnf : ¬ B.F w.heap.size := fun e => by have := h.l.ltF e; omega
  clear h hp ha hpa ka
  generalize hpn : picks.length = pn at hpm HA HPA ⊢
  unfold opV
  dsimp only
  by_cases k1 : k = 1
  · subst k1
    have hS : D.doS ⟨1, i, b, s, picks⟩ = ⟨#[]⟩ := rfl
    have hE : D.doE ⟨1, i, b, s, picks⟩ = D.writeE i (textF s) := rfl
    have hD : D.doD ⟨1, i, b, s, picks⟩ = D.writeD i (textF s) := rfl
    rw [hS, hE, hD]
    clear hS hE hD
    go_enter Try.func12, Try.ntmps12
    go_wp2_with fail
    have B0 : Boxs (w.alloc (.cells #[.int .i64 1, .int .i64 i, .int .i64 b, .string s, .slice pa pn pc] 33)).drew w.heap.size 33 #[.int .i64 1, .int .i64 i, .int .i64 b, .string s, .slice pa pn pc] := Boxs.new w 33 _
    have hdk := (HA.out 1).keeps (Keeps.refl (fun _ => False) _).drew (fun _ _ h => h)
    have kf : Keeps B.F w (w.alloc (.cells #[.int .i64 1, .int .i64 i, .int .i64 b, .string s, .slice pa pn pc] 33)).drew := ((Keeps.refl _ w).alloc _).drew
    have HDK := Lib.hid hdk; have HKF := Lib.hid kf
    refine wp_region_held (S := fun W => Boxs W w.heap.size 33 #[.int .i64 1, .int .i64 i, .int .i64 b, .string s, .slice pa pn pc]) (by kernel_rfl) ?_
    have hdr : (w.alloc (.cells #[.int .i64 1, .int .i64 i, .int .i64 b, .string s, .slice pa pn pc] 33)).drew = { w.alloc (.cells #[.int .i64 1, .int .i64 i, .int .i64 b, .string s, .slice pa pn pc] 33) with drawn := (w.alloc (.cells #[.int .i64 1, .int .i64 i, .int .i64 b, .string s, .slice pa pn pc] 33)).drawn + 1 } := rfl
    rw [← hdr]
    clear hdr hdk kf
    generalize (w.alloc (.cells #[.int .i64 1, .int .i64 i, .int .i64 b, .string s, .slice pa pn pc] 33)).drew = V at B0 HDK HKF ⊢
    refine wpAnyHTake 0 (some 10) (.pointer (some ⟨B.d, 0, none⟩)) rfl rfl (by kernel_rfl) (by kernel_rfl) (by kernel_rfl) (fun _ _ _ h => h) (by rfl) (fun _ _ => by rfl) (B0) ?_
    simp only [Act.put, List.setIfInBounds_toArray, List.set_cons_zero, List.set_cons_succ]
    refine wpAnyHTake 1 (some 11) (.pointer (some ⟨w.heap.size, 1, none⟩)) rfl rfl (by kernel_rfl) (by kernel_rfl) (by kernel_rfl) (fun _ _ _ h => h) (by rfl) (fun _ _ => by rfl) (B0) ?_
    simp only [Act.put, List.setIfInBounds_toArray, List.set_cons_zero, List.set_cons_succ]
    refine wpAnyHTake 2 (some 12) (.int .i64 i) rfl rfl (by kernel_rfl) (by kernel_rfl) (by kernel_rfl) (fun _ _ _ h => h) (by rfl) (fun W hW => by have e := Boxs.cell hW 1; simp at e; clear hW; go_simp) (B0) ?_
    simp only [Act.put, List.setIfInBounds_toArray, List.set_cons_zero, List.set_cons_succ]
    refine wpAnyHTake 3 (some 13) (.agg #[.int .i64 1, .int .i64 i, .int .i64 b, .string s, .slice pa pn pc]) rfl rfl (by kernel_rfl) (by kernel_rfl) (by kernel_rfl) (fun _ _ _ h => h) (by rfl) (fun W hW => execOp_load_mid 33 _ rfl rfl (run_loadAt_mid W w.heap.size 0 33 #[.int .i64 1, .int .i64 i, .int .i64 b, .string s, .slice pa pn pc].toList _ (boxs_range hW) Try.underlying33 rfl (by kernel_rfl))) (B0) ?_
    simp only [Act.put, List.setIfInBounds_toArray, List.set_cons_zero, List.set_cons_succ]
    refine wpAnyHCall 4 (some 14) 24 #[.agg #[.int .i64 1, .int .i64 i, .int .i64 b, .string s, .slice pa pn pc]] (by kernel_rfl) rfl rfl (by rfl) (by go_simp) (text_any 1 i b s _ ⟨_, _, _, rfl⟩ _) ?_
    rintro e w1 ⟨rfl, hb⟩
    have k1 : Keeps (fun _ => False) V w1 := Keeps.of_below hb
    have B1 := B0.keeps k1 (fun h => h)
    have HD1 := Lib.hid (HDK.out.keeps k1 (fun _ _ h => h)); have HK1 := Lib.hid (HKF.out.trans (k1.mono (fun _ _ h => h.elim)))
    clear hb k1 HDK HKF
    refine ⟨_, rfl, B1, ?_⟩
    simp only [Act.put, List.setIfInBounds_toArray, List.set_cons_zero, List.set_cons_succ]
    refine wpAnyHCall 5 (some 15) 33 #[.pointer (some ⟨B.d, 0, none⟩), .int .i64 i, .string (textF s)] (by kernel_rfl) rfl rfl (by rfl) (by go_simp) (rwrite_any B D i (textF s) _ HD1.out) ?_
    rintro e w2 ⟨rfl, hd2, hk2⟩
    have B2 := B1.keeps hk2 hnf
    have HD2 := Lib.hid hd2; have HK2 := Lib.hid (HK1.out.trans hk2)
    clear hd2 hk2 HD1 HK1
    refine ⟨_, rfl, B2, ?_⟩
    simp only [Act.put, List.setIfInBounds_toArray, List.set_cons_zero, List.set_cons_succ]
    refine wpAnyHTake 6 (some 4) (.string ⟨#[]⟩) rfl rfl (by kernel_rfl) (by kernel_rfl) (by kernel_rfl) (fun _ _ _ h => h) (by rfl) (fun _ _ => by rfl) B2 ?_
    simp only [Act.put, List.setIfInBounds_toArray, List.set_cons_zero, List.set_cons_succ]
    refine wpAnyHTake 7 (some 5) (.int .i64 (D.writeE i (textF s))) rfl rfl (by kernel_rfl) (by kernel_rfl) (by kernel_rfl) (fun _ _ _ h => h) (by rfl) (fun _ _ => by rfl) B2 ?_
    simp only [Act.put, List.setIfInBounds_toArray, List.set_cons_zero, List.set_cons_succ]
    refine wpAnyH_done (by kernel_rfl) ?_ _
    rename_i K hK
    refine hK _ _ ?_
    clear hK
    go_wp2_with fail
    go_ret2
    exact ⟨rfl, HD2.out, HK2.out⟩
  by_cases k2 : k = 2
  · subst k2
    have hS : D.doS ⟨2, i, b, s, picks⟩ = D.readS i := rfl
    have hE : D.doE ⟨2, i, b, s, picks⟩ = D.chk i := rfl
    have hD : D.doD ⟨2, i, b, s, picks⟩ = D := rfl
    rw [hS, hE, hD]
    clear hS hE hD
    go_enter Try.func12, Try.ntmps12
    go_wp2_with fail
    refine (rread_any B D i _ (HA.out 2)).mono ?_
    rintro e w1 ⟨rfl, rfl⟩
    go_wp2_with fail
    go_ret2
    exact ⟨rfl, HA.out 2, ((Keeps.refl B.F w).alloc _)⟩
  by_cases k3 : k = 3
  · subst k3
    have hS : D.doS ⟨3, i, b, s, picks⟩ = ⟨#[]⟩ := rfl
    have hE : D.doE ⟨3, i, b, s, picks⟩ = D.flushE := rfl
    have hD : D.doD ⟨3, i, b, s, picks⟩ = D.flushD := rfl
    rw [hS, hE, hD]
    clear hS hE hD
    go_enter Try.func12, Try.ntmps12
    go_wp2_with fail
    refine (rflush_any B D _ (HA.out 3)).mono ?_
    rintro e w1 ⟨rfl, hd, hk⟩
    go_wp2_with fail
    go_ret2
    exact ⟨rfl, hd, ((Keeps.refl B.F w).alloc _).trans hk⟩
  by_cases k4 : k = 4
  · subst k4
    have hS : D.doS ⟨4, i, b, s, picks⟩ = ⟨#[]⟩ := rfl
    have hE : D.doE ⟨4, i, b, s, picks⟩ = 0 := rfl
    have hD : D.doD ⟨4, i, b, s, picks⟩ = { D with left := i } := rfl
    rw [hS, hE, hD]
    clear hS hE hD
    go_enter Try.func12, Try.ntmps12
    go_wp2_with fail
    refine (rtrip_any B D i _ (HA.out 4) hlo hhi).mono ?_
    rintro e w1 ⟨rfl, hd, hk⟩
    go_wp2_with fail
    go_ret2
    exact ⟨rfl, hd, ((Keeps.refl B.F w).alloc _).trans hk⟩
  by_cases k5 : k = 5
  · subst k5
    have hS : D.doS ⟨5, i, b, s, picks⟩ = ⟨#[]⟩ := rfl
    have hE : D.doE ⟨5, i, b, s, picks⟩ = 0 := rfl
    have hD : D.doD ⟨5, i, b, s, picks⟩ = D.mountD picks := rfl
    rw [hS, hE, hD]
    clear hS hE hD
    go_enter Try.func12, Try.ntmps12
    go_wp2_with fail
    refine (rmount_any B D _ (HA.out 5) G hG _ picks (by rw [hpn]; exact HPA.out 5)).mono ?_
    rintro e w1 ⟨rfl, hd, hk⟩
    go_wp2_with fail
    go_ret2
    exact ⟨rfl, hd, ((Keeps.refl B.F w).alloc _).trans hk⟩
  by_cases k6 : k = 6
  · subst k6
    have hS : D.doS ⟨6, i, b, s, picks⟩ = ⟨#[]⟩ := rfl
    have hE : D.doE ⟨6, i, b, s, picks⟩ = D.rotE i b := rfl
    have hD : D.doD ⟨6, i, b, s, picks⟩ = D.rotD i b := rfl
    rw [hS, hE, hD]
    clear hS hE hD
    go_enter Try.func12, Try.ntmps12
    go_wp2_with fail
    refine (rrot_any B D i b _ (HA.out 6)).mono ?_
    rintro e w1 ⟨rfl, hd, hk⟩
    go_wp2_with fail
    go_ret2
    exact ⟨rfl, hd, ((Keeps.refl B.F w).alloc _).trans hk⟩
  by_cases k7 : k = 7
  · subst k7
    have hS : D.doS ⟨7, i, b, s, picks⟩ = ⟨#[]⟩ := rfl
    have hE : D.doE ⟨7, i, b, s, picks⟩ = D.argE i := rfl
    have hD : D.doD ⟨7, i, b, s, picks⟩ = D.wear i := rfl
    rw [hS, hE, hD]
    clear hS hE hD
    go_enter Try.func12, Try.ntmps12
    go_wp2_with fail
    refine (rwear_any B D i _ (HA.out 7)).mono ?_
    rintro e w1 ⟨rfl, hd, hk⟩
    go_wp2_with fail
    go_ret2
    exact ⟨rfl, hd, ((Keeps.refl B.F w).alloc _).trans hk⟩
  have hS : D.doS ⟨k, i, b, s, picks⟩ = ⟨#[]⟩ := if_neg k2
  have hE : D.doE ⟨k, i, b, s, picks⟩ = 0 := by unfold Dk.doE; rw [if_neg k1, if_neg k2, if_neg k3, if_neg k6, if_neg k7]
  have hD : D.doD ⟨k, i, b, s, picks⟩ = D := by unfold Dk.doD; rw [if_neg k1, if_neg k3, if_neg k4, if_neg k5, if_neg k6, if_neg k7]
  rw [hS, hE, hD]
  clear hS hE hD
  have HZ := Lib.hid (HA.out k)
  clear HA HPA
  have q1 : (k == 1) = false := by simpa using k1
  have q2 : (k == 2) = false := by simpa using k2
  have q3 : (k == 3) = false := by simpa using k3
  have q4 : (k == 4) = false := by simpa using k4
  have q5 : (k == 5) = false := by simpa using k5
  have q6 : (k == 6) = false := by simpa using k6
  have q7 : (k == 7) = false := by simpa using k7
  clear k1 k2 k3 k4 k5 k6 k7
  go_enter Try.func12, Try.ntmps12
  go_wp2_with fail
  go_ret2
  exact ⟨rfl, HZ.out, ((Keeps.refl B.F w).alloc _)⟩
end Go.Proofs.Ytdanhfanepmhkaa
