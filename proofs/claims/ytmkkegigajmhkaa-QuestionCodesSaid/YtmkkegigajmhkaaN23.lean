/- Tables in a block. -/
import Derived.Test.YtmkkegigajmhkaaN07
import Derived.Test.YtmkkegigajmhkaaN14
set_option linter.unusedVariables false
namespace Go.Proofs.Ytmkkegigajmhkaa
open Go.RowKit Go.Maps

/-- a table in a block -/
structure TbE (W : World) (g i : Nat) (va vc vk : Value) (T : Tb) : Prop where
  c0 : W.cell? ⟨g, i * 3, none⟩ = some va
  c1 : W.cell? ⟨g, i * 3 + 1, none⟩ = some vc
  c2 : W.cell? ⟨g, i * 3 + 2, none⟩ = some vk
  rd : TbR W va vc vk T
  lt : g < W.heap.size
theorem TbE.below {W W' : World} {g i : Nat} {va vc vk : Value} {T : Tb} (h : TbE W g i va vc vk T) (hb : Below W.heap.size W W') : TbE W' g i va vc vk T :=
  ⟨(hb.cell (p := ⟨g, i * 3, none⟩) h.lt).trans h.c0, (hb.cell (p := ⟨g, i * 3 + 1, none⟩) h.lt).trans h.c1, (hb.cell (p := ⟨g, i * 3 + 2, none⟩) h.lt).trans h.c2, h.rd.below hb, Nat.lt_of_lt_of_le h.lt hb.size⟩
/-- tables in a block -/
def TbS (W : World) (g : Nat) (Ts : List Tb) : Prop := ∀ (i : Nat) (T : Tb), Ts[i]? = some T → ∃ aa ca ac cc ak ck, TbE W g i (.slice aa T.rows.length ca) (.slice ac T.costs.length cc) (.slice ak T.cls.length ck) T
theorem TbS.below {W W' : World} {g : Nat} {Ts : List Tb} (h : TbS W g Ts) (hb : Below W.heap.size W W') : TbS W' g Ts := fun i T hT => by
  obtain ⟨aa, ca, ac, cc, ak, ck, h1⟩ := h i T hT
  exact ⟨aa, ca, ac, cc, ak, ck, h1.below hb⟩
theorem hg_len (T : Tb) : (groups T).length ≤ 64 := by
  unfold groups
  split
  · rename_i hv
    have := (grpOk_N T T.rows.length).len
    have := ((okT_iff T).1 hv).r64
    omega
  · simp
theorem cell_lt {W : World} {b o : Nat} {v : Value} (h : W.cell? ⟨b, o, none⟩ = some v) : b < W.heap.size := by
  by_cases hb : b < W.heap.size
  · exact hb
  · simp [World.cell?, show W.heap[b]? = none from Array.getElem?_eq_none (by omega)] at h
def tb0 : Tb := ⟨[], [], []⟩
theorem tb0_rd (W : World) : TbR W (.slice none 0 0) (.slice none 0 0) (.slice none 0 0) tb0 := ⟨RdR.none W, RdI.none W, RdI.none W⟩
theorem TbS.five {w : World} {T1 T2 T3 T4 : Tb} {aa1 ac1 ak1 : Option Addr} {ca1 cc1 ck1 : Nat} {aa2 ac2 ak2 : Option Addr} {ca2 cc2 ck2 : Nat} {aa3 ac3 ak3 : Option Addr} {ca3 cc3 ck3 : Nat} {aa4 ac4 ak4 : Option Addr} {ca4 cc4 ck4 : Nat}
    (h1 : TbR w (.slice aa1 T1.rows.length ca1) (.slice ac1 T1.costs.length cc1) (.slice ak1 T1.cls.length ck1) T1) (h2 : TbR w (.slice aa2 T2.rows.length ca2) (.slice ac2 T2.costs.length cc2) (.slice ak2 T2.cls.length ck2) T2) (h3 : TbR w (.slice aa3 T3.rows.length ca3) (.slice ac3 T3.costs.length cc3) (.slice ak3 T3.cls.length ck3) T3) (h4 : TbR w (.slice aa4 T4.rows.length ca4) (.slice ac4 T4.costs.length cc4) (.slice ak4 T4.cls.length ck4) T4) :
    TbS (w.alloc (.cells #[.slice aa1 T1.rows.length ca1, .slice ac1 T1.costs.length cc1, .slice ak1 T1.cls.length ck1, .slice aa2 T2.rows.length ca2, .slice ac2 T2.costs.length cc2, .slice ak2 T2.cls.length ck2, .slice aa3 T3.rows.length ca3, .slice ac3 T3.costs.length cc3, .slice ak3 T3.cls.length ck3, .slice aa4 T4.rows.length ca4, .slice ac4 T4.costs.length cc4, .slice ak4 T4.cls.length ck4, .slice none 0 0, .slice none 0 0, .slice none 0 0] 25)) w.heap.size [T1, T2, T3, T4, tb0] := by
  intro i T hT
  have hb := alloc_below w (.cells #[.slice aa1 T1.rows.length ca1, .slice ac1 T1.costs.length cc1, .slice ak1 T1.cls.length ck1, .slice aa2 T2.rows.length ca2, .slice ac2 T2.costs.length cc2, .slice ak2 T2.cls.length ck2, .slice aa3 T3.rows.length ca3, .slice ac3 T3.costs.length cc3, .slice ak3 T3.cls.length ck3, .slice aa4 T4.rows.length ca4, .slice ac4 T4.costs.length cc4, .slice ak4 T4.cls.length ck4, .slice none 0 0, .slice none 0 0, .slice none 0 0] 25)
  have hx := Boxs.new w 25 #[.slice aa1 T1.rows.length ca1, .slice ac1 T1.costs.length cc1, .slice ak1 T1.cls.length ck1, .slice aa2 T2.rows.length ca2, .slice ac2 T2.costs.length cc2, .slice ak2 T2.cls.length ck2, .slice aa3 T3.rows.length ca3, .slice ac3 T3.costs.length cc3, .slice ak3 T3.cls.length ck3, .slice aa4 T4.rows.length ca4, .slice ac4 T4.costs.length cc4, .slice ak4 T4.cls.length ck4, .slice none 0 0, .slice none 0 0, .slice none 0 0]
  have hlt : w.heap.size < (w.alloc (.cells #[.slice aa1 T1.rows.length ca1, .slice ac1 T1.costs.length cc1, .slice ak1 T1.cls.length ck1, .slice aa2 T2.rows.length ca2, .slice ac2 T2.costs.length cc2, .slice ak2 T2.cls.length ck2, .slice aa3 T3.rows.length ca3, .slice ac3 T3.costs.length cc3, .slice ak3 T3.cls.length ck3, .slice aa4 T4.rows.length ca4, .slice ac4 T4.costs.length cc4, .slice ak4 T4.cls.length ck4, .slice none 0 0, .slice none 0 0, .slice none 0 0] 25)).heap.size := by simp
  match i, hT with
  | 0, hT => cases hT; exact ⟨_, _, _, _, _, _, ⟨(hx.cell 0).trans rfl, (hx.cell 1).trans rfl, (hx.cell 2).trans rfl, h1.below hb, hlt⟩⟩
  | 1, hT => cases hT; exact ⟨_, _, _, _, _, _, ⟨(hx.cell 3).trans rfl, (hx.cell 4).trans rfl, (hx.cell 5).trans rfl, h2.below hb, hlt⟩⟩
  | 2, hT => cases hT; exact ⟨_, _, _, _, _, _, ⟨(hx.cell 6).trans rfl, (hx.cell 7).trans rfl, (hx.cell 8).trans rfl, h3.below hb, hlt⟩⟩
  | 3, hT => cases hT; exact ⟨_, _, _, _, _, _, ⟨(hx.cell 9).trans rfl, (hx.cell 10).trans rfl, (hx.cell 11).trans rfl, h4.below hb, hlt⟩⟩
  | 4, hT => cases hT; exact ⟨_, _, _, _, _, _, ⟨(hx.cell 12).trans rfl, (hx.cell 13).trans rfl, (hx.cell 14).trans rfl, tb0_rd _, hlt⟩⟩
end Go.Proofs.Ytmkkegigajmhkaa

