/- The law's own check of the disk: sanity. -/
import Derived.Test.YtdanhfanepmhkaaDn
import Derived.BigQuiet
namespace Go.Proofs.Ytdanhfanepmhkaa
open Go.RowKit Go.Maps Go.Sort

theorem Below.kp {w a b : World} {F : Nat → Prop} (h : Below w.heap.size w a) (hk : Keeps F a b) (hF : ∀ b, F b → w.heap.size ≤ b) : Below w.heap.size w b :=
  h.trans (hk.below h.size (fun i _ hi => hF i hi))

/-- a cell that the disk's own steps leave -/
def CellAt (w : World) (A : At) (b o : Nat) (v : Value) : Prop := b < w.heap.size ∧ ¬ A.F b ∧ w.cell? ⟨b, o, none⟩ = some v
theorem CellAt.keeps {w w' : World} {A : At} {b o : Nat} {v : Value} (h : CellAt w A b o v) (hk : Keeps A.F w w') : CellAt w' A b o v :=
  ⟨Nat.lt_of_lt_of_le h.1 hk.size, h.2.1, (World.cell?_of_block (hk.block b h.1 h.2.1)).trans h.2.2⟩
theorem Rd_block {W : World} {G : Nat → Prop} {B : Nat} {cs : Array Value} {t : TypeId} {n sz : Nat} (h : Boxs W B t cs) (hG : G B) (hn : cs.size = n * sz) (hm : n ≤ 9223372036854775807) : Rd W G sz (.slice (some ⟨B, 0, none⟩) n n) n cs.toList := by
  refine ⟨by simpa using hn, _, n, rfl, Nat.le_refl _, hm, .inr ⟨B, 0, rfl, h.lt, hG, fun j u hu => ?_⟩⟩
  rw [h.cell, Nat.zero_add, ← Array.getElem?_toList]
  exact hu

def sA : ByteArray := fullS 97
def sD1 : Dk := (newD 2).writeD 0 sA
def sD2 : Dk := sD1.mountD [3]
def sD3 : Dk := sD2.writeD 1 sA
def sD4 : Dk := sD3.flushD
def sD5 : Dk := sD4.rotD 1 0
def sD6 : Dk := sD5.wear 0
def sD7 : Dk := { sD6 with left := 1 }
def sD8 : Dk := sD7.writeD 0 (fullS 98)
def sD9 : Dk := sD8.flushD
def sTorn : ByteArray := ⟨(#[97, 97, 97] : Array UInt8) ++ (Array.replicate 61 0)⟩
/-- what stays through the last test -/
structure Last (w : World) (A A8 : At) (b6 o6 b7 o7 : Nat) (W : World) : Prop where
  d : DskAt W A sD9
  d8 : DskAt W A8 sD1
  c6 : CellAt W A b6 o6 (.string (fullS 0))
  c7 : CellAt W A b7 o7 (.int .i64 0)
  b : Below w.heap.size w W
theorem Last.keeps {w : World} {A A8 : At} {b6 o6 b7 o7 : Nat} {W W' : World} (h : Last w A A8 b6 o6 b7 o7 W) (hb : Below W.heap.size W W') : Last w A A8 b6 o6 b7 o7 W' :=
  ⟨h.d.keeps (F := fun _ => False) (Keeps.of_below hb) (fun _ _ h => h), h.d8.keeps (F := fun _ => False) (Keeps.of_below hb) (fun _ _ h => h), h.c6.keeps (Keeps.of_below hb), h.c7.keeps (Keeps.of_below hb), h.b.trans (hb.mono h.b.size)⟩

theorem sE1 : (newD 2).writeE 0 sA = 0 := by decide +kernel
theorem sE2 : sD1.readS 0 = sA ∧ sD1.chk 0 = 0 := by decide +kernel
theorem sE3 : sD1.S = [fullS 0, fullS 0] := by decide +kernel
theorem sE4 : keysOf sD1.S.length (pendD sD1.P) = [0] := by decide +kernel
theorem sE5 : sD2.readS 0 = sTorn ∧ sD2.chk 0 = 0 := by decide +kernel
theorem sE6 : sD3.flushE = 0 := by decide +kernel
theorem sE7 : sD4.rotE 1 0 = 0 := by decide +kernel
theorem sE8 : (sD5.readS 1).size = 64 ∧ (sD5.readS 1).data[0]? = some 96 ∧ sD5.chk 1 = 0 := by decide +kernel
theorem sE9 : sD5.argE 0 = 0 := by decide +kernel
theorem sE10 : sD7.writeE 0 (fullS 98) = 0 := by decide +kernel
theorem sE11 : sD8.flushE = 23 := by decide +kernel
theorem sE12 : sD9.readS 0 = ⟨#[]⟩ ∧ sD9.chk 0 = 23 := by decide +kernel
theorem sE13 : keysOf sD9.S.length (wornD sD9.W) = [0] ∧ sD9.off = true ∧ sD9.S.length = 2 := by decide +kernel
def sTail : ByteArray := (fullS 0).extract 3 (fullS 0).size
theorem sE15 : (sTorn.toList == ((⟨#[97, 97, 97]⟩ : ByteArray) ++ sTail).toList) = true := by decide +kernel
theorem sTail_size : sTail.size = 61 := by decide +kernel
theorem sE14 : sD1.off = false := by decide +kernel

set_option maxRecDepth 100000 in
set_option maxHeartbeats 8000000 in
theorem sanity_any (w : World) : Calls Try.prog 9 #[] w fun e w' => e = .returned (.bool true) ∧ Below w.heap.size w w' := by
  go_enter Try.func9, Try.ntmps9
  go_wp2_with fail
  refine (new_any 2 w (by omega) (by omega)).mono ?_
  rintro e w1 ⟨A, rfl, h1, hF, hB⟩
  have HD := Lib.hid h1; have HB := Lib.hid hB; have HF := Lib.hid hF
  clear h1 hB hF
  go_wp2_with fail
  refine (full_any 97 w1).mono ?_
  rintro e w2 ⟨rfl, hb⟩
  have hk : Keeps A.F w1 w2 := Keeps.of_below hb
  have hd := HD.out.keeps (F := fun _ => False) (Keeps.of_below hb) (fun _ _ h => h)
  clear hb
  have hB := Below.kp HB.out hk HF.out
  clear HD HB
  have HD := Lib.hid hd; have HB := Lib.hid hB
  clear hd hB hk
  go_wp2_with fail
  refine (write_any A (newD 2) 0 (fullS 97) w2 HD.out).mono ?_
  rintro e w3 ⟨rfl, hd0, hk0⟩
  rw [show (newD 2).writeE 0 (fullS 97) = 0 from sE1]
  have hk : Keeps A.F w2 w3 := hk0
  have hd := hd0
  clear hd0 hk0
  have hB := Below.kp HB.out hk HF.out
  clear HD HB
  have HD := Lib.hid hd; have HB := Lib.hid hB
  clear hd hB hk
  go_wp2_with fail
  change Hid (DskAt _ A sD1) at HD
  refine (read_any A sD1 0 w3 HD.out).mono ?_
  rintro e w4 ⟨rfl, hb⟩
  rw [show sD1.readS 0 = fullS 97 from sE2.1, sE2.2]
  have hk : Keeps A.F w3 w4 := Keeps.of_below hb
  have hd := HD.out.keeps (F := fun _ => False) (Keeps.of_below hb) (fun _ _ h => h)
  clear hb
  have hB := Below.kp HB.out hk HF.out
  clear HD HB
  have HD := Lib.hid hd; have HB := Lib.hid hB
  clear hd hB hk
  go_wp2_with fail
  refine (image_any A sD1 w4 HD.out).mono ?_
  rintro e w5 ⟨v6, rfl, hr6, hb⟩
  have hk : Keeps A.F w4 w5 := Keeps.of_below hb
  have hd := HD.out.keeps (F := fun _ => False) (Keeps.of_below hb) (fun _ _ h => h)
  rw [sE3] at hr6
  obtain ⟨a6, c6, rfl, _, hat6⟩ := Rd.str (xs := [fullS 0, fullS 0]) hr6
  obtain ⟨b6, o6, rfl, hl6, hg6, hc6⟩ := hat6 0 (fullS 0) rfl
  have H6 := Lib.hid (show CellAt w5 A b6 (o6 + 0) (.string (fullS 0)) from ⟨hl6, fun e => by have := HD.out.ltF e; omega, hc6⟩)
  clear hat6 hl6 hg6 hc6 hr6
  clear hb
  have hB := Below.kp HB.out hk HF.out
  clear HD HB
  have HD := Lib.hid hd; have HB := Lib.hid hB
  clear hd hB hk
  go_wp2_with fail
  refine (pending_any A sD1 w5 HD.out).mono ?_
  rintro e w6 ⟨v7, rfl, hr7, hb⟩
  have hk : Keeps A.F w5 w6 := Keeps.of_below hb
  have hd := HD.out.keeps (F := fun _ => False) (Keeps.of_below hb) (fun _ _ h => h)
  have H6x := H6.out.keeps hk
  clear H6
  have H6 := Lib.hid H6x
  clear H6x
  rw [sE4] at hr7
  have hr7' := Rd_of_owns hr7
  obtain ⟨a7, c7, rfl, _, hat7⟩ := Rd.int (xs := [0]) hr7'
  obtain ⟨b7, o7, rfl, hl7, hg7, hc7⟩ := hat7 0 0 rfl
  have H7 := Lib.hid (show CellAt w6 A b7 (o7 + 0) (.int .i64 0) from ⟨hl7, fun e => by have := HD.out.ltF e; omega, hc7⟩)
  clear hat7 hl7 hg7 hc7 hr7 hr7'
  clear hb
  have hB := Below.kp HB.out hk HF.out
  clear HD HB
  have HD := Lib.hid hd; have HB := Lib.hid hB
  clear hd hB hk
  go_wp2_with fail
  refine (clone_any A sD1 w6 HD.out).mono ?_
  rintro e w7 ⟨A8, rfl, h8, hf8, hb⟩
  have hk : Keeps A.F w6 w7 := Keeps.of_below hb
  have hd := HD.out.keeps (F := fun _ => False) (Keeps.of_below hb) (fun _ _ h => h)
  have H6x := H6.out.keeps hk
  clear H6
  have H6 := Lib.hid H6x
  clear H6x
  have H7x := H7.out.keeps hk
  clear H7
  have H7 := Lib.hid H7x
  clear H7x
  have HC := Lib.hid h8
  have HSEP := Lib.hid (show ∀ b, A8.F b → ¬ A.F b from fun b h e => by have := HD.out.ltF e; have := hf8 b h; omega)
  clear h8 hf8
  clear hb
  have hB := Below.kp HB.out hk HF.out
  clear HD HB
  have HD := Lib.hid hd; have HB := Lib.hid hB
  clear hd hB hk
  go_wp2_with fail
  have ka := (Keeps.refl (fun _ => False) w7).alloc (.cells #[.int .i64 3] 3)
  have hda := HD.out.keeps ka (fun _ _ h => h)
  have hpk : Rd (w7.alloc (.cells #[.int .i64 3] 3)) (fun b => w7.heap.size ≤ b) 1 (.slice (some ⟨w7.heap.size, 0, none⟩) 1 1) 1 (ints [3]) := Rd_block (Boxs.new w7 3 #[.int .i64 3]) (Nat.le_refl _) (by simp) (by omega)
  have hgs : ∀ b, w7.heap.size ≤ b → ¬ A.F b := fun b h e => by have := HD.out.ltF e; omega
  refine (mount_any A sD1 (w7.alloc (.cells #[.int .i64 3] 3)) hda (fun b => w7.heap.size ≤ b) hgs _ [3] hpk).mono ?_
  rintro e w8 ⟨rfl, hd0, hk0⟩
  have hk : Keeps A.F w7 w8 := (ka.mono (fun _ _ h => h.elim)).trans hk0
  have hd := hd0
  have H6x := H6.out.keeps hk
  clear H6
  have H6 := Lib.hid H6x
  clear H6x
  have H7x := H7.out.keeps hk
  clear H7
  have H7 := Lib.hid H7x
  clear H7x
  have HCx := HC.out.keeps hk HSEP.out
  clear HC
  have HC := Lib.hid HCx
  clear HCx
  clear hd0 hk0 ka hda hpk hgs
  have hB := Below.kp HB.out hk HF.out
  clear HD HB
  have HD := Lib.hid hd; have HB := Lib.hid hB
  clear hd hB hk
  change Hid (DskAt _ A sD2) at HD
  go_wp2_with fail
  refine (read_any A sD2 0 w8 HD.out).mono ?_
  rintro e w9 ⟨rfl, hb⟩
  rw [sE5.1, sE5.2]
  have hk : Keeps A.F w8 w9 := Keeps.of_below hb
  have hd := HD.out.keeps (F := fun _ => False) (Keeps.of_below hb) (fun _ _ h => h)
  have H6x := H6.out.keeps hk
  clear H6
  have H6 := Lib.hid H6x
  clear H6x
  have H7x := H7.out.keeps hk
  clear H7
  have H7 := Lib.hid H7x
  clear H7x
  have HCx := HC.out.keeps hk HSEP.out
  clear HC
  have HC := Lib.hid HCx
  clear HCx
  clear hb
  have hB := Below.kp HB.out hk HF.out
  clear HD HB
  have HD := Lib.hid hd; have HB := Lib.hid hB
  clear hd hB hk
  go_wp2_with fail
  refine (full_any 97 w9).mono ?_
  rintro e w10 ⟨rfl, hb⟩
  have hk : Keeps A.F w9 w10 := Keeps.of_below hb
  have hd := HD.out.keeps (F := fun _ => False) (Keeps.of_below hb) (fun _ _ h => h)
  have H6x := H6.out.keeps hk
  clear H6
  have H6 := Lib.hid H6x
  clear H6x
  have H7x := H7.out.keeps hk
  clear H7
  have H7 := Lib.hid H7x
  clear H7x
  have HCx := HC.out.keeps hk HSEP.out
  clear HC
  have HC := Lib.hid HCx
  clear HCx
  clear hb
  have hB := Below.kp HB.out hk HF.out
  clear HD HB
  have HD := Lib.hid hd; have HB := Lib.hid hB
  clear hd hB hk
  go_wp2_with fail
  refine (write_any A sD2 1 (fullS 97) w10 HD.out).mono ?_
  rintro e w11 ⟨rfl, hd0, hk0⟩
  have hk : Keeps A.F w10 w11 := hk0
  have hd := hd0
  have H6x := H6.out.keeps hk
  clear H6
  have H6 := Lib.hid H6x
  clear H6x
  have H7x := H7.out.keeps hk
  clear H7
  have H7 := Lib.hid H7x
  clear H7x
  have HCx := HC.out.keeps hk HSEP.out
  clear HC
  have HC := Lib.hid HCx
  clear HCx
  clear hd0 hk0
  have hB := Below.kp HB.out hk HF.out
  clear HD HB
  have HD := Lib.hid hd; have HB := Lib.hid hB
  clear hd hB hk
  change Hid (DskAt _ A sD3) at HD
  generalize sD2.writeE 1 (fullS 97) = z1
  go_wp2_with fail
  refine (flush_any A sD3 w11 HD.out).mono ?_
  rintro e w12 ⟨rfl, hd0, hk0⟩
  rw [sE6]
  have hk : Keeps A.F w11 w12 := hk0
  have hd := hd0
  have H6x := H6.out.keeps hk
  clear H6
  have H6 := Lib.hid H6x
  clear H6x
  have H7x := H7.out.keeps hk
  clear H7
  have H7 := Lib.hid H7x
  clear H7x
  have HCx := HC.out.keeps hk HSEP.out
  clear HC
  have HC := Lib.hid HCx
  clear HCx
  clear hd0 hk0
  have hB := Below.kp HB.out hk HF.out
  clear HD HB
  have HD := Lib.hid hd; have HB := Lib.hid hB
  clear hd hB hk
  change Hid (DskAt _ A sD4) at HD
  go_wp2_with fail
  refine (rot_any A sD4 1 0 w12 HD.out).mono ?_
  rintro e w13 ⟨rfl, hd0, hk0⟩
  rw [sE7]
  have hk : Keeps A.F w12 w13 := hk0
  have hd := hd0
  have H6x := H6.out.keeps hk
  clear H6
  have H6 := Lib.hid H6x
  clear H6x
  have H7x := H7.out.keeps hk
  clear H7
  have H7 := Lib.hid H7x
  clear H7x
  have HCx := HC.out.keeps hk HSEP.out
  clear HC
  have HC := Lib.hid HCx
  clear HCx
  clear hd0 hk0
  have hB := Below.kp HB.out hk HF.out
  clear HD HB
  have HD := Lib.hid hd; have HB := Lib.hid hB
  clear hd hB hk
  change Hid (DskAt _ A sD5) at HD
  go_wp2_with fail
  refine (read_any A sD5 1 w13 HD.out).mono ?_
  rintro e w14 ⟨rfl, hb⟩
  rw [sE8.2.2]
  have hk : Keeps A.F w13 w14 := Keeps.of_below hb
  have hd := HD.out.keeps (F := fun _ => False) (Keeps.of_below hb) (fun _ _ h => h)
  have H6x := H6.out.keeps hk
  clear H6
  have H6 := Lib.hid H6x
  clear H6x
  have H7x := H7.out.keeps hk
  clear H7
  have H7 := Lib.hid H7x
  clear H7x
  have HCx := HC.out.keeps hk HSEP.out
  clear HC
  have HC := Lib.hid HCx
  clear HCx
  clear hb
  have hB := Below.kp HB.out hk HF.out
  clear HD HB
  have HD := Lib.hid hd; have HB := Lib.hid hB
  clear hd hB hk
  obtain ⟨s13, h13⟩ : ∃ s13, sD5.readS 1 = s13 := ⟨_, rfl⟩
  rw [h13]
  have hz13 : s13.size = 64 := h13 ▸ sE8.1
  have hb13 : s13.data[0]? = some 96 := h13 ▸ sE8.2.1
  have hx0 : 0 < s13.size := by omega
  have hx96 : s13[0] = 96 := by
    have e : s13.data[0]? = some s13.data[0] := Array.getElem?_eq_getElem hx0
    rw [e] at hb13
    rw [ByteArray.getElem_eq_getElem_data]
    exact Option.some.inj hb13
  have HX := Lib.hid hx96
  clear hx96
  have HZ13 := Lib.hid hz13
  clear h13 hb13 hz13
  go_wp2_with fail
  refine (wear_any A sD5 0 w14 HD.out).mono ?_
  rintro e w15 ⟨rfl, hd0, hk0⟩
  rw [sE9]
  have hk : Keeps A.F w14 w15 := hk0
  have hd := hd0
  have H6x := H6.out.keeps hk
  clear H6
  have H6 := Lib.hid H6x
  clear H6x
  have H7x := H7.out.keeps hk
  clear H7
  have H7 := Lib.hid H7x
  clear H7x
  have HCx := HC.out.keeps hk HSEP.out
  clear HC
  have HC := Lib.hid HCx
  clear HCx
  clear hd0 hk0
  have hB := Below.kp HB.out hk HF.out
  clear HD HB
  have HD := Lib.hid hd; have HB := Lib.hid hB
  clear hd hB hk
  change Hid (DskAt _ A sD6) at HD
  go_wp2_with fail
  refine (trip_any A sD6 1 w15 HD.out (by omega) (by omega)).mono ?_
  rintro e w16 ⟨rfl, hd0, hk0⟩
  have hk : Keeps A.F w15 w16 := hk0
  have hd := hd0
  have H6x := H6.out.keeps hk
  clear H6
  have H6 := Lib.hid H6x
  clear H6x
  have H7x := H7.out.keeps hk
  clear H7
  have H7 := Lib.hid H7x
  clear H7x
  have HCx := HC.out.keeps hk HSEP.out
  clear HC
  have HC := Lib.hid HCx
  clear HCx
  clear hd0 hk0
  have hB := Below.kp HB.out hk HF.out
  clear HD HB
  have HD := Lib.hid hd; have HB := Lib.hid hB
  clear hd hB hk
  change Hid (DskAt _ A sD7) at HD
  go_wp2_with fail
  refine (full_any 98 w16).mono ?_
  rintro e w17 ⟨rfl, hb⟩
  have hk : Keeps A.F w16 w17 := Keeps.of_below hb
  have hd := HD.out.keeps (F := fun _ => False) (Keeps.of_below hb) (fun _ _ h => h)
  have H6x := H6.out.keeps hk
  clear H6
  have H6 := Lib.hid H6x
  clear H6x
  have H7x := H7.out.keeps hk
  clear H7
  have H7 := Lib.hid H7x
  clear H7x
  have HCx := HC.out.keeps hk HSEP.out
  clear HC
  have HC := Lib.hid HCx
  clear HCx
  clear hb
  have hB := Below.kp HB.out hk HF.out
  clear HD HB
  have HD := Lib.hid hd; have HB := Lib.hid hB
  clear hd hB hk
  go_wp2_with fail
  refine (write_any A sD7 0 (fullS 98) w17 HD.out).mono ?_
  rintro e w18 ⟨rfl, hd0, hk0⟩
  rw [sE10]
  have hk : Keeps A.F w17 w18 := hk0
  have hd := hd0
  have H6x := H6.out.keeps hk
  clear H6
  have H6 := Lib.hid H6x
  clear H6x
  have H7x := H7.out.keeps hk
  clear H7
  have H7 := Lib.hid H7x
  clear H7x
  have HCx := HC.out.keeps hk HSEP.out
  clear HC
  have HC := Lib.hid HCx
  clear HCx
  clear hd0 hk0
  have hB := Below.kp HB.out hk HF.out
  clear HD HB
  have HD := Lib.hid hd; have HB := Lib.hid hB
  clear hd hB hk
  change Hid (DskAt _ A sD8) at HD
  go_wp2_with fail
  refine (flush_any A sD8 w18 HD.out).mono ?_
  rintro e w19 ⟨rfl, hd0, hk0⟩
  rw [sE11]
  have hk : Keeps A.F w18 w19 := hk0
  have hd := hd0
  have H6x := H6.out.keeps hk
  clear H6
  have H6 := Lib.hid H6x
  clear H6x
  have H7x := H7.out.keeps hk
  clear H7
  have H7 := Lib.hid H7x
  clear H7x
  have HCx := HC.out.keeps hk HSEP.out
  clear HC
  have HC := Lib.hid HCx
  clear HCx
  clear hd0 hk0
  have hB := Below.kp HB.out hk HF.out
  clear HD HB
  have HD := Lib.hid hd; have HB := Lib.hid hB
  clear hd hB hk
  change Hid (DskAt _ A sD9) at HD
  go_wp2_with fail
  refine (read_any A sD9 0 w19 HD.out).mono ?_
  rintro e w20 ⟨rfl, hb⟩
  rw [sE12.1, sE12.2]
  have hk : Keeps A.F w19 w20 := Keeps.of_below hb
  have hd := HD.out.keeps (F := fun _ => False) (Keeps.of_below hb) (fun _ _ h => h)
  have H6x := H6.out.keeps hk
  clear H6
  have H6 := Lib.hid H6x
  clear H6x
  have H7x := H7.out.keeps hk
  clear H7
  have H7 := Lib.hid H7x
  clear H7x
  have HCx := HC.out.keeps hk HSEP.out
  clear HC
  have HC := Lib.hid HCx
  clear HCx
  clear hb
  have hB := Below.kp HB.out hk HF.out
  clear HD HB
  have HD := Lib.hid hd; have HB := Lib.hid hB
  clear hd hB hk
  go_wp2_with fail
  refine (new_bad 0 w20 (by omega)).mono ?_
  rintro e w21 ⟨rfl, rfl⟩
  have hz13 := HZ13.out
  have hz13' : ((s13.size : Int) != 64) = false := by rw [hz13]; rfl
  go_wp2_with fail
  refine (read_any A8 sD1 0 w20 HC.out).mono ?_
  rintro e w21 ⟨rfl, hb⟩
  rw [show sD1.readS 0 = fullS 97 from sE2.1, sE2.2]
  have hk : Keeps A.F w20 w21 := Keeps.of_below hb
  have hd := HD.out.keeps (F := fun _ => False) (Keeps.of_below hb) (fun _ _ h => h)
  have H6x := H6.out.keeps hk
  clear H6
  have H6 := Lib.hid H6x
  clear H6x
  have H7x := H7.out.keeps hk
  clear H7
  have H7 := Lib.hid H7x
  clear H7x
  have HCx := HC.out.keeps hk HSEP.out
  clear HC
  have HC := Lib.hid HCx
  clear HCx
  clear hb
  have hB := Below.kp HB.out hk HF.out
  clear HD HB
  have HD := Lib.hid hd; have HB := Lib.hid hB
  clear hd hB hk
  go_wp2_with fail
  refine (worn_any A sD9 w21 HD.out).mono ?_
  rintro e w22 ⟨v24, rfl, hr24, hb⟩
  have hk : Keeps A.F w21 w22 := Keeps.of_below hb
  have hd := HD.out.keeps (F := fun _ => False) (Keeps.of_below hb) (fun _ _ h => h)
  have H6x := H6.out.keeps hk
  clear H6
  have H6 := Lib.hid H6x
  clear H6x
  have H7x := H7.out.keeps hk
  clear H7
  have H7 := Lib.hid H7x
  clear H7x
  have HCx := HC.out.keeps hk HSEP.out
  clear HC
  have HC := Lib.hid HCx
  clear HCx
  rw [sE13.1] at hr24
  obtain ⟨a24, c24, rfl, _, _⟩ := Rd.int (xs := [0]) (Rd_of_owns hr24)
  clear hr24
  clear hb
  have hB := Below.kp HB.out hk HF.out
  clear HD HB
  have HD := Lib.hid hd; have HB := Lib.hid hB
  clear hd hB hk
  go_wp2_with fail
  have L0 : Last w A A8 b6 o6 b7 o7 w22.drew := by
    have hk := (Keeps.refl A.F w22).drew
    exact ⟨HD.out.keeps (F := fun _ => False) (Keeps.refl _ _).drew (fun _ _ h => h), HC.out.keeps (F := fun _ => False) (Keeps.refl _ _).drew (fun _ _ h => h), H6.out.keeps hk, H7.out.keeps hk, Below.dn HB.out 1⟩
  have Z0 := Lib.hid (fullS_size 0)
  have HL := Lib.hid L0
  clear HD HB HC H6 H7 L0
  refine wp_region_held (S := Last w A A8 b6 o6 b7 o7) (by kernel_rfl) ?_
  have hdr : w22.drew = { w22 with drawn := w22.drawn + 1 } := rfl
  rw [← hdr]
  clear hdr
  refine wpAnyHTake 0 (some 146) (.bool true) rfl rfl (by kernel_rfl) (by kernel_rfl) (by kernel_rfl) (fun _ _ _ h => h) (by rfl) (fun _ _ => by rfl) (HL.out) ?_
  simp only [Act.put, List.setIfInBounds_toArray, List.set_cons_zero, List.set_cons_succ]
  refine wpAnyHTake 1 (some 147) (.bool true) rfl rfl (by kernel_rfl) (by kernel_rfl) (by kernel_rfl) (fun _ _ _ h => h) (by rfl) (fun _ _ => by rfl) (HL.out) ?_
  simp only [Act.put, List.setIfInBounds_toArray, List.set_cons_zero, List.set_cons_succ]
  refine wpAnyHTake 2 (some 148) (.string (fullS 97)) rfl rfl (by kernel_rfl) (by kernel_rfl) (by kernel_rfl) (fun _ _ _ h => h) (by rfl) (fun _ _ => by rfl) (HL.out) ?_
  simp only [Act.put, List.setIfInBounds_toArray, List.set_cons_zero, List.set_cons_succ]
  refine wpAnyHCall 3 (some 149) 18 #[.int .u8 97] (by kernel_rfl) rfl rfl (by rfl) (by go_simp) (full_any 97 _) ?_
  rintro e x1 ⟨rfl, hb⟩
  refine ⟨_, rfl, HL.out.keeps hb, ?_⟩
  have HLx := Lib.hid (HL.out.keeps hb)
  clear HL hb
  have HL := HLx
  clear HLx
  simp only [Act.put, List.setIfInBounds_toArray, List.set_cons_zero, List.set_cons_succ]
  refine wpAnyHTake 4 (some 150) (.bool true) rfl rfl (by kernel_rfl) (by kernel_rfl) (by kernel_rfl) (fun _ _ _ h => h) (by rfl) (fun W hW => by clear hW; go_simp) (HL.out) ?_
  simp only [Act.put, List.setIfInBounds_toArray, List.set_cons_zero, List.set_cons_succ]
  refine wpAnyHTake 5 (some 151) (.bool true) rfl rfl (by kernel_rfl) (by kernel_rfl) (by kernel_rfl) (fun _ _ _ h => h) (by rfl) (fun W hW => by clear hW; go_simp) (HL.out) ?_
  simp only [Act.put, List.setIfInBounds_toArray, List.set_cons_zero, List.set_cons_succ]
  refine wpAnyHTake 6 (some 152) (.bool true) rfl rfl (by kernel_rfl) (by kernel_rfl) (by kernel_rfl) (fun _ _ _ h => h) (by rfl) (fun _ _ => by rfl) (HL.out) ?_
  simp only [Act.put, List.setIfInBounds_toArray, List.set_cons_zero, List.set_cons_succ]
  refine wpAnyHTake 7 (some 153) (.slice (some ⟨b6, o6, none⟩) 2 c6) rfl rfl (by kernel_rfl) (by kernel_rfl) (by kernel_rfl) (fun _ _ _ h => h) (by rfl) (fun _ _ => by rfl) (HL.out) ?_
  simp only [Act.put, List.setIfInBounds_toArray, List.set_cons_zero, List.set_cons_succ]
  refine wpAnyHTake 8 (some 154) (.pointer (some ⟨b6, o6, none⟩)) rfl rfl (by kernel_rfl) (by kernel_rfl) (by kernel_rfl) (fun _ _ _ h => h) (by rfl) (fun W hW => by clear hW; go_simp) (HL.out) ?_
  simp only [Act.put, List.setIfInBounds_toArray, List.set_cons_zero, List.set_cons_succ]
  refine wpAnyHTake 9 (some 155) (.string (fullS 0)) rfl rfl (by kernel_rfl) (by kernel_rfl) (by kernel_rfl) (fun _ _ _ h => h) (by rfl) (fun W hW => by have e := hW.c6.2.2; clear hW; go_simp) (HL.out) ?_
  simp only [Act.put, List.setIfInBounds_toArray, List.set_cons_zero, List.set_cons_succ]
  refine wpAnyHCall 10 (some 156) 18 #[.int .u8 0] (by kernel_rfl) rfl rfl (by rfl) (by go_simp) (full_any 0 _) ?_
  rintro e x2 ⟨rfl, hb⟩
  refine ⟨_, rfl, HL.out.keeps hb, ?_⟩
  have HLx := Lib.hid (HL.out.keeps hb)
  clear HL hb
  have HL := HLx
  clear HLx
  simp only [Act.put, List.setIfInBounds_toArray, List.set_cons_zero, List.set_cons_succ]
  refine wpAnyHTake 11 (some 157) (.bool true) rfl rfl (by kernel_rfl) (by kernel_rfl) (by kernel_rfl) (fun _ _ _ h => h) (by rfl) (fun W hW => by clear hW; go_simp) (HL.out) ?_
  simp only [Act.put, List.setIfInBounds_toArray, List.set_cons_zero, List.set_cons_succ]
  refine wpAnyHTake 12 (some 158) (.bool true) rfl rfl (by kernel_rfl) (by kernel_rfl) (by kernel_rfl) (fun _ _ _ h => h) (by rfl) (fun W hW => by clear hW; go_simp) (HL.out) ?_
  simp only [Act.put, List.setIfInBounds_toArray, List.set_cons_zero, List.set_cons_succ]
  refine wpAnyHTake 13 (some 159) (.bool true) rfl rfl (by kernel_rfl) (by kernel_rfl) (by kernel_rfl) (fun _ _ _ h => h) (by rfl) (fun _ _ => by rfl) (HL.out) ?_
  simp only [Act.put, List.setIfInBounds_toArray, List.set_cons_zero, List.set_cons_succ]
  refine wpAnyHTake 14 (some 160) (.slice (some ⟨b7, o7, none⟩) 1 c7) rfl rfl (by kernel_rfl) (by kernel_rfl) (by kernel_rfl) (fun _ _ _ h => h) (by rfl) (fun _ _ => by rfl) (HL.out) ?_
  simp only [Act.put, List.setIfInBounds_toArray, List.set_cons_zero, List.set_cons_succ]
  refine wpAnyHTake 15 (some 161) (.pointer (some ⟨b7, o7, none⟩)) rfl rfl (by kernel_rfl) (by kernel_rfl) (by kernel_rfl) (fun _ _ _ h => h) (by rfl) (fun W hW => by clear hW; go_simp) (HL.out) ?_
  simp only [Act.put, List.setIfInBounds_toArray, List.set_cons_zero, List.set_cons_succ]
  refine wpAnyHTake 16 (some 162) (.int .i64 0) rfl rfl (by kernel_rfl) (by kernel_rfl) (by kernel_rfl) (fun _ _ _ h => h) (by rfl) (fun W hW => by have e := hW.c7.2.2; clear hW; go_simp) (HL.out) ?_
  simp only [Act.put, List.setIfInBounds_toArray, List.set_cons_zero, List.set_cons_succ]
  refine wpAnyHTake 17 (some 163) (.bool true) rfl rfl (by kernel_rfl) (by kernel_rfl) (by kernel_rfl) (fun _ _ _ h => h) (by rfl) (fun W hW => by clear hW; go_simp) (HL.out) ?_
  simp only [Act.put, List.setIfInBounds_toArray, List.set_cons_zero, List.set_cons_succ]
  refine wpAnyHTake 18 (some 164) (.bool true) rfl rfl (by kernel_rfl) (by kernel_rfl) (by kernel_rfl) (fun _ _ _ h => h) (by rfl) (fun W hW => by clear hW; go_simp) (HL.out) ?_
  simp only [Act.put, List.setIfInBounds_toArray, List.set_cons_zero, List.set_cons_succ]
  refine wpAnyHTake 19 (some 165) (.bool true) rfl rfl (by kernel_rfl) (by kernel_rfl) (by kernel_rfl) (fun _ _ _ h => h) (by rfl) (fun _ _ => by rfl) (HL.out) ?_
  simp only [Act.put, List.setIfInBounds_toArray, List.set_cons_zero, List.set_cons_succ]
  refine wpAnyHTake 20 (some 166) (.string sTorn) rfl rfl (by kernel_rfl) (by kernel_rfl) (by kernel_rfl) (fun _ _ _ h => h) (by rfl) (fun _ _ => by rfl) (HL.out) ?_
  simp only [Act.put, List.setIfInBounds_toArray, List.set_cons_zero, List.set_cons_succ]
  refine wpAnyHCall 21 (some 167) 18 #[.int .u8 0] (by kernel_rfl) rfl rfl (by rfl) (by go_simp) (full_any 0 _) ?_
  rintro e x3 ⟨rfl, hb⟩
  refine ⟨_, rfl, HL.out.keeps hb, ?_⟩
  have HLx := Lib.hid (HL.out.keeps hb)
  clear HL hb
  have HL := HLx
  clear HLx
  simp only [Act.put, List.setIfInBounds_toArray, List.set_cons_zero, List.set_cons_succ]
  refine wpAnyHTake 22 (some 168) (.string sTail) rfl rfl (by kernel_rfl) (by kernel_rfl) (by kernel_rfl) (fun _ _ _ h => h) (by rfl) (fun W hW => by have e := Z0.out; have e2 : (3 : Int) ≤ (fullS 0).size := (by omega); clear hW; unfold sTail; go_simp) (HL.out) ?_
  simp only [Act.put, List.setIfInBounds_toArray, List.set_cons_zero, List.set_cons_succ]
  refine wpAnyHTake 23 (some 169) (.string ((⟨#[97, 97, 97]⟩ : ByteArray) ++ sTail)) rfl rfl (by kernel_rfl) (by kernel_rfl) (by kernel_rfl) (fun _ _ _ h => h) (by rfl) (fun W hW => by have e := sTail_size; clear hW; go_simp) (HL.out) ?_
  simp only [Act.put, List.setIfInBounds_toArray, List.set_cons_zero, List.set_cons_succ]
  refine wpAnyHTake 24 (some 170) (.bool true) rfl rfl (by kernel_rfl) (by kernel_rfl) (by kernel_rfl) (fun _ _ _ h => h) (by rfl) (fun W hW => by have e := sE15; clear hW; go_simp) (HL.out) ?_
  simp only [Act.put, List.setIfInBounds_toArray, List.set_cons_zero, List.set_cons_succ]
  refine wpAnyHTake 25 (some 171) (.bool true) rfl rfl (by kernel_rfl) (by kernel_rfl) (by kernel_rfl) (fun _ _ _ h => h) (by rfl) (fun W hW => by clear hW; go_simp) (HL.out) ?_
  simp only [Act.put, List.setIfInBounds_toArray, List.set_cons_zero, List.set_cons_succ]
  refine wpAnyHTake 26 (some 172) (.bool true) rfl rfl (by kernel_rfl) (by kernel_rfl) (by kernel_rfl) (fun _ _ _ h => h) (by rfl) (fun _ _ => by rfl) (HL.out) ?_
  simp only [Act.put, List.setIfInBounds_toArray, List.set_cons_zero, List.set_cons_succ]
  refine wpAnyHTake 27 (some 173) (.string s13) rfl rfl (by kernel_rfl) (by kernel_rfl) (by kernel_rfl) (fun _ _ _ h => h) (by rfl) (fun _ _ => by rfl) (HL.out) ?_
  simp only [Act.put, List.setIfInBounds_toArray, List.set_cons_zero, List.set_cons_succ]
  refine wpAnyHTake 28 (some 174) (.int .u8 96) rfl rfl (by kernel_rfl) (by kernel_rfl) (by kernel_rfl) (fun _ _ _ h => h) (by rfl) (fun W hW => by have e := HX.out; have e2 := hx0; clear hW; go_simp) (HL.out) ?_
  simp only [Act.put, List.setIfInBounds_toArray, List.set_cons_zero, List.set_cons_succ]
  refine wpAnyHTake 29 (some 175) (.bool true) rfl rfl (by kernel_rfl) (by kernel_rfl) (by kernel_rfl) (fun _ _ _ h => h) (by rfl) (fun W hW => by clear hW; go_simp) (HL.out) ?_
  simp only [Act.put, List.setIfInBounds_toArray, List.set_cons_zero, List.set_cons_succ]
  refine wpAnyHTake 30 (some 176) (.bool true) rfl rfl (by kernel_rfl) (by kernel_rfl) (by kernel_rfl) (fun _ _ _ h => h) (by rfl) (fun W hW => by clear hW; go_simp) (HL.out) ?_
  simp only [Act.put, List.setIfInBounds_toArray, List.set_cons_zero, List.set_cons_succ]
  refine wpAnyHTake 31 (some 177) (.bool true) rfl rfl (by kernel_rfl) (by kernel_rfl) (by kernel_rfl) (fun _ _ _ h => h) (by rfl) (fun _ _ => by rfl) (HL.out) ?_
  simp only [Act.put, List.setIfInBounds_toArray, List.set_cons_zero, List.set_cons_succ]
  refine wpAnyHTake 32 (some 178) (.int .i64 23) rfl rfl (by kernel_rfl) (by kernel_rfl) (by kernel_rfl) (fun _ _ _ h => h) (by rfl) (fun _ _ => by rfl) (HL.out) ?_
  simp only [Act.put, List.setIfInBounds_toArray, List.set_cons_zero, List.set_cons_succ]
  refine wpAnyHTake 33 (some 179) (.bool true) rfl rfl (by kernel_rfl) (by kernel_rfl) (by kernel_rfl) (fun _ _ _ h => h) (by rfl) (fun W hW => by clear hW; go_simp) (HL.out) ?_
  simp only [Act.put, List.setIfInBounds_toArray, List.set_cons_zero, List.set_cons_succ]
  refine wpAnyHTake 34 (some 180) (.bool true) rfl rfl (by kernel_rfl) (by kernel_rfl) (by kernel_rfl) (fun _ _ _ h => h) (by rfl) (fun W hW => by clear hW; go_simp) (HL.out) ?_
  simp only [Act.put, List.setIfInBounds_toArray, List.set_cons_zero, List.set_cons_succ]
  refine wpAnyHTake 35 (some 181) (.bool true) rfl rfl (by kernel_rfl) (by kernel_rfl) (by kernel_rfl) (fun _ _ _ h => h) (by rfl) (fun _ _ => by rfl) (HL.out) ?_
  simp only [Act.put, List.setIfInBounds_toArray, List.set_cons_zero, List.set_cons_succ]
  refine wpAnyHTake 36 (some 182) (.int .i64 23) rfl rfl (by kernel_rfl) (by kernel_rfl) (by kernel_rfl) (fun _ _ _ h => h) (by rfl) (fun _ _ => by rfl) (HL.out) ?_
  simp only [Act.put, List.setIfInBounds_toArray, List.set_cons_zero, List.set_cons_succ]
  refine wpAnyHTake 37 (some 183) (.bool true) rfl rfl (by kernel_rfl) (by kernel_rfl) (by kernel_rfl) (fun _ _ _ h => h) (by rfl) (fun W hW => by clear hW; go_simp) (HL.out) ?_
  simp only [Act.put, List.setIfInBounds_toArray, List.set_cons_zero, List.set_cons_succ]
  refine wpAnyHTake 38 (some 184) (.bool true) rfl rfl (by kernel_rfl) (by kernel_rfl) (by kernel_rfl) (fun _ _ _ h => h) (by rfl) (fun W hW => by clear hW; go_simp) (HL.out) ?_
  simp only [Act.put, List.setIfInBounds_toArray, List.set_cons_zero, List.set_cons_succ]
  refine wpAnyHTake 39 (some 185) (.bool true) rfl rfl (by kernel_rfl) (by kernel_rfl) (by kernel_rfl) (fun _ _ _ h => h) (by rfl) (fun _ _ => by rfl) (HL.out) ?_
  simp only [Act.put, List.setIfInBounds_toArray, List.set_cons_zero, List.set_cons_succ]
  refine wpAnyHTake 40 (some 186) (.pointer (some ⟨A.d, 0, none⟩)) rfl rfl (by kernel_rfl) (by kernel_rfl) (by kernel_rfl) (fun _ _ _ h => h) (by rfl) (fun _ _ => by rfl) (HL.out) ?_
  simp only [Act.put, List.setIfInBounds_toArray, List.set_cons_zero, List.set_cons_succ]
  refine wpAnyHCall 41 (some 187) 27 #[.pointer (some ⟨A.d, 0, none⟩)] (by kernel_rfl) rfl rfl (by rfl) (by go_simp) (up_any A sD9 _ HL.out.d) ?_
  rintro e x4 ⟨rfl, rfl⟩
  have hb : Below x3.heap.size x3 x3 := Below.refl _ _
  refine ⟨_, rfl, HL.out.keeps hb, ?_⟩
  have HLx := Lib.hid (HL.out.keeps hb)
  clear HL hb
  have HL := HLx
  clear HLx
  simp only [Act.put, List.setIfInBounds_toArray, List.set_cons_zero, List.set_cons_succ]
  refine wpAnyHTake 42 (some 188) (.bool true) rfl rfl (by kernel_rfl) (by kernel_rfl) (by kernel_rfl) (fun _ _ _ h => h) (by rfl) (fun W hW => by have e := sE13.2.1; clear hW; go_simp) (HL.out) ?_
  simp only [Act.put, List.setIfInBounds_toArray, List.set_cons_zero, List.set_cons_succ]
  refine wpAnyHTake 43 (some 189) (.bool true) rfl rfl (by kernel_rfl) (by kernel_rfl) (by kernel_rfl) (fun _ _ _ h => h) (by rfl) (fun W hW => by clear hW; go_simp) (HL.out) ?_
  simp only [Act.put, List.setIfInBounds_toArray, List.set_cons_zero, List.set_cons_succ]
  refine wpAnyHTake 44 (some 190) (.bool true) rfl rfl (by kernel_rfl) (by kernel_rfl) (by kernel_rfl) (fun _ _ _ h => h) (by rfl) (fun _ _ => by rfl) (HL.out) ?_
  simp only [Act.put, List.setIfInBounds_toArray, List.set_cons_zero, List.set_cons_succ]
  refine wpAnyHTake 45 (some 191) (.pointer (some ⟨A8.d, 0, none⟩)) rfl rfl (by kernel_rfl) (by kernel_rfl) (by kernel_rfl) (fun _ _ _ h => h) (by rfl) (fun _ _ => by rfl) (HL.out) ?_
  simp only [Act.put, List.setIfInBounds_toArray, List.set_cons_zero, List.set_cons_succ]
  refine wpAnyHCall 46 (some 192) 27 #[.pointer (some ⟨A8.d, 0, none⟩)] (by kernel_rfl) rfl rfl (by rfl) (by go_simp) (up_any A8 sD1 _ HL.out.d8) ?_
  rintro e x5 ⟨rfl, rfl⟩
  have hb : Below x3.heap.size x3 x3 := Below.refl _ _
  refine ⟨_, rfl, HL.out.keeps hb, ?_⟩
  have HLx := Lib.hid (HL.out.keeps hb)
  clear HL hb
  have HL := HLx
  clear HLx
  simp only [Act.put, List.setIfInBounds_toArray, List.set_cons_zero, List.set_cons_succ]
  refine wpAnyHTake 47 (some 193) (.bool true) rfl rfl (by kernel_rfl) (by kernel_rfl) (by kernel_rfl) (fun _ _ _ h => h) (by rfl) (fun W hW => by have e := sE14; clear hW; go_simp) (HL.out) ?_
  simp only [Act.put, List.setIfInBounds_toArray, List.set_cons_zero, List.set_cons_succ]
  refine wpAnyHTake 48 (some 194) (.bool true) rfl rfl (by kernel_rfl) (by kernel_rfl) (by kernel_rfl) (fun _ _ _ h => h) (by rfl) (fun _ _ => by rfl) (HL.out) ?_
  simp only [Act.put, List.setIfInBounds_toArray, List.set_cons_zero, List.set_cons_succ]
  refine wpAnyHTake 49 (some 195) (.int .i64 1) rfl rfl (by kernel_rfl) (by kernel_rfl) (by kernel_rfl) (fun _ _ _ h => h) (by rfl) (fun _ _ => by rfl) (HL.out) ?_
  simp only [Act.put, List.setIfInBounds_toArray, List.set_cons_zero, List.set_cons_succ]
  refine wpAnyHTake 50 (some 196) (.bool true) rfl rfl (by kernel_rfl) (by kernel_rfl) (by kernel_rfl) (fun _ _ _ h => h) (by rfl) (fun W hW => by clear hW; go_simp) (HL.out) ?_
  simp only [Act.put, List.setIfInBounds_toArray, List.set_cons_zero, List.set_cons_succ]
  refine wpAnyHTake 51 (some 197) (.bool true) rfl rfl (by kernel_rfl) (by kernel_rfl) (by kernel_rfl) (fun _ _ _ h => h) (by rfl) (fun W hW => by clear hW; go_simp) (HL.out) ?_
  simp only [Act.put, List.setIfInBounds_toArray, List.set_cons_zero, List.set_cons_succ]
  refine wpAnyHTake 52 (some 198) (.bool true) rfl rfl (by kernel_rfl) (by kernel_rfl) (by kernel_rfl) (fun _ _ _ h => h) (by rfl) (fun _ _ => by rfl) (HL.out) ?_
  simp only [Act.put, List.setIfInBounds_toArray, List.set_cons_zero, List.set_cons_succ]
  refine wpAnyHTake 53 (some 199) (.string (fullS 97)) rfl rfl (by kernel_rfl) (by kernel_rfl) (by kernel_rfl) (fun _ _ _ h => h) (by rfl) (fun _ _ => by rfl) (HL.out) ?_
  simp only [Act.put, List.setIfInBounds_toArray, List.set_cons_zero, List.set_cons_succ]
  refine wpAnyHCall 54 (some 200) 18 #[.int .u8 97] (by kernel_rfl) rfl rfl (by rfl) (by go_simp) (full_any 97 _) ?_
  rintro e x6 ⟨rfl, hb⟩
  refine ⟨_, rfl, HL.out.keeps hb, ?_⟩
  have HLx := Lib.hid (HL.out.keeps hb)
  clear HL hb
  have HL := HLx
  clear HLx
  simp only [Act.put, List.setIfInBounds_toArray, List.set_cons_zero, List.set_cons_succ]
  refine wpAnyHTake 55 (some 201) (.bool true) rfl rfl (by kernel_rfl) (by kernel_rfl) (by kernel_rfl) (fun _ _ _ h => h) (by rfl) (fun W hW => by clear hW; go_simp) (HL.out) ?_
  simp only [Act.put, List.setIfInBounds_toArray, List.set_cons_zero, List.set_cons_succ]
  refine wpAnyHTake 56 (some 202) (.bool true) rfl rfl (by kernel_rfl) (by kernel_rfl) (by kernel_rfl) (fun _ _ _ h => h) (by rfl) (fun W hW => by clear hW; go_simp) (HL.out) ?_
  simp only [Act.put, List.setIfInBounds_toArray, List.set_cons_zero, List.set_cons_succ]
  refine wpAnyHTake 57 (some 203) (.bool true) rfl rfl (by kernel_rfl) (by kernel_rfl) (by kernel_rfl) (fun _ _ _ h => h) (by rfl) (fun _ _ => by rfl) (HL.out) ?_
  simp only [Act.put, List.setIfInBounds_toArray, List.set_cons_zero, List.set_cons_succ]
  refine wpAnyHTake 58 (some 204) (.slice a24 1 c24) rfl rfl (by kernel_rfl) (by kernel_rfl) (by kernel_rfl) (fun _ _ _ h => h) (by rfl) (fun _ _ => by rfl) (HL.out) ?_
  simp only [Act.put, List.setIfInBounds_toArray, List.set_cons_zero, List.set_cons_succ]
  refine wpAnyHTake 59 (some 205) (.int .i64 1) rfl rfl (by kernel_rfl) (by kernel_rfl) (by kernel_rfl) (fun _ _ _ h => h) (by rfl) (fun W hW => by clear hW; go_simp) (HL.out) ?_
  simp only [Act.put, List.setIfInBounds_toArray, List.set_cons_zero, List.set_cons_succ]
  refine wpAnyHTake 60 (some 206) (.bool true) rfl rfl (by kernel_rfl) (by kernel_rfl) (by kernel_rfl) (fun _ _ _ h => h) (by rfl) (fun W hW => by clear hW; go_simp) (HL.out) ?_
  simp only [Act.put, List.setIfInBounds_toArray, List.set_cons_zero, List.set_cons_succ]
  refine wpAnyHTake 61 (some 207) (.bool true) rfl rfl (by kernel_rfl) (by kernel_rfl) (by kernel_rfl) (fun _ _ _ h => h) (by rfl) (fun W hW => by clear hW; go_simp) (HL.out) ?_
  simp only [Act.put, List.setIfInBounds_toArray, List.set_cons_zero, List.set_cons_succ]
  refine wpAnyHTake 62 (some 208) (.bool true) rfl rfl (by kernel_rfl) (by kernel_rfl) (by kernel_rfl) (fun _ _ _ h => h) (by rfl) (fun _ _ => by rfl) (HL.out) ?_
  simp only [Act.put, List.setIfInBounds_toArray, List.set_cons_zero, List.set_cons_succ]
  refine wpAnyHTake 63 (some 209) (.pointer (some ⟨A.d, 0, none⟩)) rfl rfl (by kernel_rfl) (by kernel_rfl) (by kernel_rfl) (fun _ _ _ h => h) (by rfl) (fun _ _ => by rfl) (HL.out) ?_
  simp only [Act.put, List.setIfInBounds_toArray, List.set_cons_zero, List.set_cons_succ]
  refine wpAnyHCall 64 (some 210) 31 #[.pointer (some ⟨A.d, 0, none⟩)] (by kernel_rfl) rfl rfl (by rfl) (by go_simp) (len_any A sD9 _ HL.out.d) ?_
  rintro e x7 ⟨rfl, rfl⟩
  have hb : Below x6.heap.size x6 x6 := Below.refl _ _
  refine ⟨_, rfl, HL.out.keeps hb, ?_⟩
  have HLx := Lib.hid (HL.out.keeps hb)
  clear HL hb
  have HL := HLx
  clear HLx
  simp only [Act.put, List.setIfInBounds_toArray, List.set_cons_zero, List.set_cons_succ]
  refine wpAnyHTake 65 (some 211) (.bool true) rfl rfl (by kernel_rfl) (by kernel_rfl) (by kernel_rfl) (fun _ _ _ h => h) (by rfl) (fun W hW => by have e := sE13.2.2; clear hW; go_simp) (HL.out) ?_
  simp only [Act.put, List.setIfInBounds_toArray, List.set_cons_zero, List.set_cons_succ]
  refine wpAnyHTake 66 (some 212) (.bool true) rfl rfl (by kernel_rfl) (by kernel_rfl) (by kernel_rfl) (fun _ _ _ h => h) (by rfl) (fun W hW => by clear hW; go_simp) (HL.out) ?_
  simp only [Act.put, List.setIfInBounds_toArray, List.set_cons_zero, List.set_cons_succ]
  refine wpAnyHTake 67 (some 0) (.bool true) rfl rfl (by kernel_rfl) (by kernel_rfl) (by kernel_rfl) (fun _ _ _ h => h) (by rfl) (fun _ _ => by rfl) (HL.out) ?_
  simp only [Act.put, List.setIfInBounds_toArray, List.set_cons_zero]
  refine wpAnyH_done (by kernel_rfl) ?_ _
  go_wp2_with fail
  go_ret
  exact ⟨rfl, HL.out.b⟩
end Go.Proofs.Ytdanhfanepmhkaa
