/- The reference disk: Rot. -/
import Derived.Test.YtdanhfanepmhkaaEc
import Derived.Lib.ConvBytes
namespace Go.Proofs.Ytdanhfanepmhkaa
open Go.RowKit Go.Maps Go.Sort

theorem bytesW_frozen (w : World) (e : TypeId) (s : ByteArray) {o : Nat} (ho : o < s.size) : (Lib.bytesWorld w e s).frozen? ⟨w.heap.size, o, none⟩ = false := by
  have hc := Lib.bytesWorld_cell w e s o ho
  have hn := Lib.bytesWorld_at_new w e s
  simp only [World.cell?, hn] at hc
  have hlt : o < (Lib.bytesCells w e s).size := by
    rcases Nat.lt_or_ge o (Lib.bytesCells w e s).size with h | h
    · exact h
    · simp [Array.getElem?_eq_none h] at hc
  simp only [World.frozen?, hn]
  simp
  omega
theorem flipX {t : ByteArray} (htz : t.size = 64) {q : Nat} (hq : q / 8 < 64) : flipV (t.data.toList.getD (q / 8) 0) q = bits BinOp.xor .u8 ((t[q / 8]'(by omega)).toNat : Int) (2 ^ (q % 8) % 256) := by
  unfold flipV
  have : t.data.toList.getD (q / 8) 0 = t[q / 8] := by
    have hl : q / 8 < t.data.size := by have : t.size = t.data.size := rfl; omega
    simp only [List.getD, ByteArray.getElem_eq_getElem_data, Array.getElem?_toList]
    rw [Array.getElem?_eq_getElem hl]; rfl
  rw [this]
theorem bytes_flip {w : World} {n : Nat} {t : ByteArray} (hb : Lib.Bytes w n 0 t) (q : Nat) :
    Lib.Bytes (w.setCell ⟨n, q / 8, none⟩ (.int .u8 (flipV (t.data.toList.getD (q / 8) 0) q))) n 0 (flip q t) := by
  intro j hj
  rw [flip_size] at hj
  have e : (bytesV (flip q t))[j]? = ((bytesV t).set (q / 8) (.int .u8 (flipV (t.data.toList.getD (q / 8) 0) q)))[j]? := by rw [bytesV_flip]
  rw [List.getElem?_set] at e
  have hl : j < (bytesV (flip q t)).length := by rw [bytesV_len, flip_size]; exact hj
  have e2 : (bytesV (flip q t))[j]? = some (.int .u8 ((flip q t)[j]'(by rw [flip_size]; exact hj)).toNat) := by
    unfold bytesV
    rw [List.getElem?_map, List.getElem?_eq_getElem (by rw [Array.length_toList]; show j < (flip q t).size; rw [flip_size]; exact hj)]
    simp [ByteArray.getElem_eq_getElem_data]
  rw [Nat.zero_add]
  by_cases h : q / 8 = j
  · subst h
    rw [if_pos rfl, if_pos (by rw [bytesV_len]; exact hj)] at e
    have hc := hb (q / 8) hj
    rw [Nat.zero_add] at hc
    rw [World.cell?_setCell_same _ _ _ hc, ← e, e2]
  · rw [if_neg h] at e
    rw [World.cell?_setCell_other _ _ _ _ (fun e => h (congrArg Addr.off e))]
    have hc := hb j hj
    rw [Nat.zero_add] at hc
    rw [hc, ← e2, e]
    unfold bytesV
    rw [List.getElem?_map, List.getElem?_eq_getElem (by simpa using hj)]
    simp [ByteArray.getElem_eq_getElem_data]

theorem Keeps.fresh {w V : World} {F G : Nat → Prop} (h : Keeps G w V) (hG : ∀ b, b < w.heap.size → ¬ G b) : Keeps F w V :=
  ⟨h.os, h.tape, h.output, h.size, fun b hb _ => h.block b hb (hG b hb)⟩

set_option maxRecDepth 100000 in
set_option maxHeartbeats 2000000 in
theorem rrot_any (B : RAt) (D : Dk) (i b : Int) (w : World) (h : RefAt w B D) :
    Calls Try.prog 38 #[.pointer (some ⟨B.d, 0, none⟩), .int .i64 i, .int .i64 b] w fun e w' => e = .returned (.int .i64 (D.rotE i b)) ∧ RefAt w' B (D.rotD i b) ∧ Keeps B.F w w' := by
  have IS := ris_any B D i w h
  have c0 := h.box0
  have hlen := h.ok.len
  have hbd := h.l.ltF B.fd
  have hbg := h.l.ltF B.fg
  have hne := h.l.ne
  have H := Lib.hid h
  by_cases hin : D.inB i = true ∧ 0 ≤ b ∧ b < 512
  · have hr : D.rotE i b = 0 := by unfold Dk.rotE; rw [if_pos hin]
    have hr2 : D.rotD i b = { D with S := D.S.set i.toNat (flip b.toNat ((D.S[i.toNat]?).getD zero64)) } := by unfold Dk.rotD; rw [if_pos hin]
    obtain ⟨h1, h3, h4⟩ := hin
    rw [h1] at IS
    obtain ⟨k, rfl, hk⟩ := inB_nat h1
    obtain ⟨q, rfl⟩ : ∃ q : Nat, b = q := ⟨b.toNat, by omega⟩
    obtain ⟨t, ht⟩ := elem_at hk
    have htz := h.ok.ssz k t ht
    have q0 := h.row hk 0 (by omega)
    simp [sc, row, ht] at q0
    have f0 := h.l.frozen (k * 4)
    have hcv := fun W : World => Lib.run_convert_string_bytes (P := Try.prog) W 9 72 5 t Try.underlying9 Try.underlying72 Try.underlying5
    have hq8 : q / 8 < 64 := by omega
    have hn3 : ¬ (q : Int) < 0 := by omega
    have hn4 : ¬ (511 : Int) < q := by omega
    have HR := Lib.hid hr; have HR2 := Lib.hid hr2; have HT := Lib.hid ht
    clear h hr hr2 h1 ht
    go_enter Try.func38, Try.ntmps38
    go_wp2_with fail
    refine (IS).mono ?_
    rintro e w1 ⟨rfl, rfl⟩
    go_wp2_with fail
    have hB := bytesW_below w 5 t
    have hbt := bytesW_bytes w 5 t
    have hff := bytesW_frozen w 5 t (o := q / 8) (by omega)
    have hcc := hbt (q / 8) (by omega)
    rw [Nat.zero_add] at hcc
    generalize grownCap w 64 0 5 = cap
    generalize Lib.bytesWorld w 5 t = V at hB hbt hff hcc ⊢
    have c0' := cell_bl hB c0
    have q0' := cell_bl hB q0
    have f0' : V.frozen? ⟨B.g, k * 4, none⟩ = false := (World.frozen?_of_block (hB.block _ hbg)).trans f0
    have HB := Lib.hid hB
    have hV := hB.size
    have hbf := bytes_flip hbt q
    have hx := flipX htz hq8
    have HBF := Lib.hid hbf; have HX := Lib.hid hx
    clear hB hbt hcv c0 q0 f0 hbf hx
    go_region
    rw [← HX.out]
    generalize hZ : V.setCell ⟨w.heap.size, q / 8, none⟩ (.int .u8 (flipV (t.data.toList.getD (q / 8) 0) q)) = V2 at HBF ⊢
    have k2 : Keeps (fun b => b = w.heap.size) V V2 := by rw [← hZ]; exact Keeps.setCell (F := fun b => b = w.heap.size) (p := ⟨w.heap.size, q / 8, none⟩) (Keeps.refl _ V) rfl _
    have hbgV : B.g < V.heap.size := by omega
    have hbdV : B.d < V.heap.size := by omega
    have p0 : V2.cell? ⟨B.d, 0, none⟩ = some (.slice (some ⟨B.g, 0, none⟩) D.S.length B.c) := (World.cell?_of_block (k2.block _ hbdV (Nat.ne_of_lt hbd))).trans c0'
    have p1 : V2.cell? ⟨B.g, k * 4, none⟩ = some (.string t) := (World.cell?_of_block (k2.block _ hbgV (Nat.ne_of_lt hbg))).trans q0'
    have p2 : V2.frozen? ⟨B.g, k * 4, none⟩ = false := (World.frozen?_of_block (k2.block _ hbgV (Nat.ne_of_lt hbg))).trans f0'
    have hcv : (convert 72 9 (.slice (some ⟨w.heap.size, 0, none⟩) 64 cap)).run Try.prog V2.drew.drew = .ok (.string (flip q t)) V2.drew.drew := by
      have := Lib.run_convert_whole (P := Try.prog) V2.drew.drew 72 5 9 Try.underlying72 Try.underlying5 Try.underlying9 w.heap.size 0 (flip q t) HBF.out cap
      rw [flip_size, htz] at this
      exact this
    have HK2 := Lib.hid k2
    clear k2 hZ c0' q0' f0' hff hcc IS
    go_wp2_with fail
    go_region
    go_wp2_with fail
    go_ret
    have kw : Keeps (fun b => b = w.heap.size) w V2 := (Keeps.of_below HB.out).trans (HK2.out.mono (fun _ _ h => h))
    have r2 := H.out.l.keeps kw (fun b hb e => by have := H.out.l.ltF hb; omega)
    have r3 := r2.put (rows_at D hk) 0 (by omega) (.string (flip q t)) (u := { row D k with t := flip q t }) rfl
    refine ⟨ret_int HR.out.symm, ?_, ?_⟩
    · rw [HR2.out]
      simp only [Int.toNat_natCast, HT.out, Option.getD_some]
      refine ⟨?_, H.out.ok.ofS (by rw [List.length_set]) (fun j x hj => ?_)⟩
      · rw [rows_set (D := D) (D' := { D with S := D.S.set k (flip q t) }) (r := { row D k with t := flip q t }) hk (by simp) (fun j _ hj => by unfold row; dsimp only; rw [List.getElem?_set_ne (Ne.symm hj)]) (by unfold row; dsimp only; rw [List.getElem?_set_self hk]; rfl)]
        exact r3.keeps (F := fun _ => False) (Keeps.refl _ _).drew.drew (fun _ _ h => h)
      · rw [List.getElem?_set] at hj
        split at hj
        · cases hj
          rw [flip_size]; exact htz
        · exact H.out.ok.ssz j x hj
    · exact ((kw.fresh (F := B.F) (fun b hb e => by omega)).setCell B.fg _).drew.drew
  · have hr : D.rotE i b = 1 := by unfold Dk.rotE; rw [if_neg hin]
    have hr2 : D.rotD i b = D := by unfold Dk.rotD; rw [if_neg hin]
    have HR := Lib.hid hr; have HR2 := Lib.hid hr2
    cases hb : D.inB i
    · rw [hb] at IS
      clear h hr hr2 hin
      go_enter Try.func38, Try.ntmps38
      go_wp2_with fail
      refine (IS).mono ?_
      rintro e w1 ⟨rfl, rfl⟩
      go_wp2_with fail
      go_ret
      exact ⟨ret_int HR.out.symm, by rw [HR2.out]; exact H.out, Keeps.refl _ _⟩
    · rw [hb] at IS hin
      have h1 : b < 0 ∨ 511 < b := by
        have : ¬ (0 ≤ b ∧ b < 512) := fun h => hin ⟨rfl, h⟩
        omega
      clear h hr hr2 hin
      by_cases g1 : b < 0
      · go_enter Try.func38, Try.ntmps38
        go_wp2_with fail
        refine (IS).mono ?_
        rintro e w1 ⟨rfl, rfl⟩
        go_wp2_with fail
        go_ret
        exact ⟨ret_int HR.out.symm, by rw [HR2.out]; exact H.out, Keeps.refl _ _⟩
      · have g2 : (511 : Int) < b := by omega
        go_enter Try.func38, Try.ntmps38
        go_wp2_with fail
        refine (IS).mono ?_
        rintro e w1 ⟨rfl, rfl⟩
        go_wp2_with fail
        go_ret
        exact ⟨ret_int HR.out.symm, by rw [HR2.out]; exact H.out, Keeps.refl _ _⟩
end Go.Proofs.Ytdanhfanepmhkaa
