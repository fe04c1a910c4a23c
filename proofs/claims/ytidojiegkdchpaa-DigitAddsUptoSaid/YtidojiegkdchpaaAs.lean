/- The program's Near, whole. -/
import Derived.Test.YtidojiegkdchpaaAr
namespace Go.Proofs.Ytidojiegkdchpaa
open Go.RowKit Go.Maps Go.Sort

theorem strs_un (L : List ByteArray) : strs L = (L.map un).map encStr := by
  unfold strs
  rw [List.map_map]
  refine List.map_congr_left fun x _ => ?_
  show Value.string x = Value.string (bs (un x))
  rw [bs_un]
theorem nlF_row (s : ByteArray) (k c : Nat) : nlF s k ++ rowF s k (c + 1) = putIf s (chF s k c) (nlF s k ++ rowF s k c) := by
  unfold putIf
  rw [rowF_succ, List.append_assoc]
theorem nlF_ex (s : ByteArray) (k : Nat) (hk : k + 1 < s.size) : nlF s (k + 1) = putIf s (exF s k) (nlF s k ++ rowF s k 31) := by
  unfold putIf
  rw [nlF_succ, List.append_assoc]
  unfold exgF
  by_cases h : goodB s (exF s k) = true
  · rw [if_pos ⟨hk, h⟩, if_pos h]
  · rw [if_neg (fun e => h e.2), if_neg h]
theorem nlF_no (s : ByteArray) (k : Nat) (hk : ¬ k + 1 < s.size) : nlF s (k + 1) = nlF s k ++ rowF s k 31 := by
  rw [nlF_succ]
  unfold exgF
  rw [if_neg (fun e => hk e.1), List.append_nil]

set_option maxRecDepth 100000 in
set_option maxHeartbeats 4000000 in
theorem near_any (s : ByteArray) (hs : s.size ≤ 1099511627776) (w : World) : Calls Try.prog 28 #[.string s] w fun e w' => ∃ v, e = .returned v ∧ RdS w' v (nearF s) ∧ Below w.heap.size w w' := by
  have hmf : ∀ (fn : Fn) (first cap : Array Value) (w : World), (Instr.makeFunc fn first cap).run Try.prog w = .ok (.func fn first cap) w := fun _ _ _ _ => rfl
  have RE := read_any s hs (w.alloc (.cells #[.string s] 9))
  unfold RdOut at RE
  have B0 := Boxs.new w 9 #[.string s]
  have c0 := B0.cell 0
  simp at c0
  have HB0 := Lib.hid ((Below.refl w.heap.size w).alloc (Nat.le_refl _) (.cells #[.string s] 9))
  have hbx : ∀ w1, Below (w.alloc (.cells #[.string s] 9)).heap.size (w.alloc (.cells #[.string s] 9)) w1 → Boxs w1 w.heap.size 9 #[.string s] := fun w1 hb => (hb.block _ B0.lt).trans B0
  have HBX := Lib.hid hbx
  clear hbx B0
  rcases near_cases s with ⟨e0, e1⟩ | ⟨e0, e1, e2⟩ | ⟨e0, e1, e2, e3⟩ | ⟨e0, e1, e2, e3⟩
  · rw [e0] at RE
    have E := Lib.hid e1
    clear e0 e1
    go_enter Try.func28, Try.ntmps28
    go_wp2_with fail
    refine RE.mono ?_
    rintro e w1 ⟨v, rfl, _, hb⟩
    have c1 := (HBX.out w1 hb).cell 0
    simp at c1
    clear c0
    go_wp2_with fail
    go_ret
    exact ⟨_, rfl, by rw [E.out]; exact RdS.none _, HB0.out.trans (hb.mono (by simp))⟩
  · rw [e0] at RE
    have E := Lib.hid e2
    have q1 : (s.size : Int) < 2 := by omega
    clear e0 e1 e2
    go_enter Try.func28, Try.ntmps28
    go_wp2_with fail
    refine RE.mono ?_
    rintro e w1 ⟨v, rfl, _, hb⟩
    have c1 := (HBX.out w1 hb).cell 0
    simp at c1
    clear c0
    go_wp2_with fail
    go_ret
    exact ⟨_, rfl, by rw [E.out]; exact RdS.none _, HB0.out.trans (hb.mono (by simp))⟩
  · rw [e0] at RE
    have E := Lib.hid e3
    have q1 : ¬ (s.size : Int) < 2 := by omega
    have q2 : (64 : Int) < (s.size : Int) := by omega
    clear e0 e1 e2 e3
    go_enter Try.func28, Try.ntmps28
    go_wp2_with fail
    refine RE.mono ?_
    rintro e w1 ⟨v, rfl, _, hb⟩
    have c1 := (HBX.out w1 hb).cell 0
    simp at c1
    clear c0
    go_wp2_with fail
    go_ret
    exact ⟨_, rfl, by rw [E.out]; exact RdS.none _, HB0.out.trans (hb.mono (by simp))⟩
  · rw [e0] at RE
    have E := Lib.hid e3
    have q1 : ¬ (s.size : Int) < 2 := by omega
    have q2 : ¬ (64 : Int) < (s.size : Int) := by omega
    have hn64 : s.size ≤ 64 := e2
    clear e0 e1 e2 e3
    go_enter Try.func28, Try.ntmps28
    go_wp2_with fail
    refine RE.mono ?_
    rintro e w1 ⟨v, rfl, _, hb⟩
    have b1 := HBX.out w1 hb
    have c1 := b1.cell 0
    simp at c1
    have HBW := Lib.hid (HB0.out.trans (hb.mono (by simp)))
    have hlt1 := b1.lt
    have N0 : NS w.heap.size w1.heap.size s (nlF s 0) (w1.alloc (.cells #[.slice none 0 0] 49)) := ⟨b1.alloc _, b1.lt, _, Boxs.new w1 49 _, World.ownsRow_nil _ _ _ _⟩
    have HN0 := Lib.hid N0
    have c2 := (World.cell?_alloc_lt w1 (.cells #[.slice none 0 0] 49) ⟨w.heap.size, 0, none⟩ hlt1).trans c1
    clear c0 hb b1 RE N0
    go_wp2_with fail
    have HBV := Lib.hid (HBW.out.alloc HBW.out.size (.cells #[.slice none 0 0] 49))
    clear c1 c2
    generalize hbO : w1.heap.size = bO at *
    have hle : w.heap.size ≤ bO := by omega
    generalize w1.alloc (.cells #[.slice none 0 0] 49) = w2 at *
    go_loopw [29] (fun i wr => ∃ k : Nat, k ≤ s.size ∧ i = .int .i64 k ∧ NS w.heap.size bO s (nlF s k) wr ∧ Below w.heap.size w wr) (fun i _ => s.size - (intOf i).toNat)
    case atStart => exact ⟨0, Nat.zero_le _, rfl, HN0.out, HBV.out⟩
    case round =>
      obtain ⟨k, hk, rfl, hns, hbl⟩ := hrel
      have HN := Lib.hid hns; have HB := Lib.hid hbl
      by_cases hlt : k < s.size
      · have p1 : (k : Int) < (s.size : Int) := by omega
        clear hns hbl
        go_wp2_with fail
        go_loopw [32] (fun i wr => ∃ c : Nat, c ≤ 31 ∧ i = .int .i64 c ∧ NS w.heap.size bO s (nlF s k ++ rowF s k c) wr ∧ Below w.heap.size w wr) (fun i _ => 31 - (intOf i).toNat)
        case atStart => exact ⟨0, Nat.zero_le _, rfl, by simpa [rowF] using HN.out, HB.out⟩
        case round =>
          obtain ⟨c, hc, rfl, hns, hbl⟩ := hrel
          have HN2 := Lib.hid hns; have HB2 := Lib.hid hbl
          clear HN HB
          have hll : (nlF s k ++ rowF s k c).length ≤ 1000000 := by
            rw [List.length_append]
            have := nlF_len s k
            have := rowF_len s k c
            omega
          by_cases hc31 : c < 31
          · have p2 : (c : Int) < 31 := by omega
            clear hns hbl
            go_wp2_with fail
            have hch : s.extract 0 k ++ bs [charF c] ++ s.extract (k + 1) s.size = chF s k c := rfl
            have hcz : (chF s k c).size = s.size := chF_size hlt
            have hrow := nlF_row s k c
            have HROW := Lib.hid hrow
            have hx : (ByteArray.mk #[48, 49, 50, 51, 52, 53, 54, 55, 56, 57, 65, 66, 67, 68, 69, 70, 71, 72, 74, 75, 76, 77, 78, 80, 81, 82, 83, 84, 85, 86, 88]).extract c (c + 1) = bs [charF c] := alpha_ext c hc31
            clear hrow
            obtain ⟨k1, hk1⟩ : ∃ k1 : Nat, k1 = k + 1 := ⟨_, rfl⟩
            obtain ⟨d1, hd1⟩ : ∃ d1 : Nat, d1 = c + 1 := ⟨_, rfl⟩
            rw [← hk1] at hch
            rw [← hd1] at hx
            have hkk : (k : Int) + 1 = (k1 : Int) := by omega
            have hdd : (c : Int) + 1 = (d1 : Int) := by omega
            have hwk : IntKind.i64.wrap (k1 : Int) = (k1 : Int) := by rw [IntKind.wrap_i64]; omega
            have hwd : IntKind.i64.wrap (d1 : Int) = (d1 : Int) := by rw [IntKind.wrap_i64]; omega
            have z1 : (s.extract 0 k).size = k := by rw [ByteArray.size_extract]; omega
            have z2 : (bs [charF c]).size = 1 := rfl
            have z3 : (s.extract k1 s.size).size = s.size - k1 := by rw [ByteArray.size_extract]; omega
            have z4 : (s.extract 0 k ++ bs [charF c]).size = k + 1 := by rw [ByteArray.size_append, z1, z2]
            have y1 : (k : Int) ≤ (s.size : Int) := by omega
            have y2 : (k1 : Int) ≤ (s.size : Int) := by omega
            have y3 : (c : Int) ≤ (d1 : Int) := by omega
            have y4 : (d1 : Int) ≤ 31 := by omega
            have y5 : (ByteArray.mk #[48, 49, 50, 51, 52, 53, 54, 55, 56, 57, 65, 66, 67, 68, 69, 70, 71, 72, 74, 75, 76, 77, 78, 80, 81, 82, 83, 84, 85, 86, 88]).size = 31 := rfl
            have y6 : (0 : Int) ≤ (k : Int) := by omega
            have y7 : (0 : Int) ≤ (k1 : Int) := by omega
            have y8 : (0 : Int) ≤ (c : Int) := by omega
            have y9 : (0 : Int) ≤ (d1 : Int) := by omega
            clear hk1 hd1
            generalize bs [charF c] = C1 at *
            refine wp_region_held (S := fun W => Boxs W w.heap.size 9 #[.string s]) (by kernel_rfl) ?_
            have hdr : (wr).drew = { wr with drawn := (wr).drawn + 1 } := rfl
            rw [← hdr]
            clear hdr
            have HBV2 := Lib.hid (Below.dn (Below.refl wr.heap.size wr) 1)
            have HNV := Lib.hid (HN2.out.below HBV2.out)
            have HBX2 := Lib.hid (HB2.out.trans (HBV2.out.mono HB2.out.size))
            clear HBV2
            change wpAnyH _ _ _ _ _ _ _ _ (wr.drewN 1)
            generalize wr.drewN 1 = V at HNV HBX2 ⊢
            refine wpAnyHTake 0 (some 35) (.func (.func 43) #[] #[.pointer (some ⟨w.heap.size, 0, none⟩), .pointer (some ⟨bO, 0, none⟩)]) rfl rfl (by kernel_rfl) (by kernel_rfl) (by kernel_rfl) (fun _ _ _ h => h) (by rfl) (fun _ _ => by rfl) (HNV.out.str) ?_
            simp only [Act.put, List.setIfInBounds_toArray, List.set_cons_zero, List.set_cons_succ]
            refine wpAnyHTake 1 (some 36) (.string s) rfl rfl (by kernel_rfl) (by kernel_rfl) (by kernel_rfl) (fun _ _ _ h => h) (by rfl) (fun W hW => by have e := Boxs.cell hW 0; simp at e; clear hW; go_simp) (HNV.out.str) ?_
            simp only [Act.put, List.setIfInBounds_toArray, List.set_cons_zero, List.set_cons_succ]
            refine wpAnyHTake 2 (some 37) (.int .i64 k) rfl rfl (by kernel_rfl) (by kernel_rfl) (by kernel_rfl) (fun _ _ _ h => h) (by rfl) (fun _ _ => by rfl) (HNV.out.str) ?_
            simp only [Act.put, List.setIfInBounds_toArray, List.set_cons_zero, List.set_cons_succ]
            refine wpAnyHTake 3 (some 38) (.string (s.extract 0 k)) rfl rfl (by kernel_rfl) (by kernel_rfl) (by kernel_rfl) (fun _ _ _ h => h) (by rfl) (fun _ _ => by go_simp) (HNV.out.str) ?_
            simp only [Act.put, List.setIfInBounds_toArray, List.set_cons_zero, List.set_cons_succ]
            refine wpAnyHTake 4 (some 39) (.int .i64 c) rfl rfl (by kernel_rfl) (by kernel_rfl) (by kernel_rfl) (fun _ _ _ h => h) (by rfl) (fun _ _ => by rfl) (HNV.out.str) ?_
            simp only [Act.put, List.setIfInBounds_toArray, List.set_cons_zero, List.set_cons_succ]
            refine wpAnyHTake 5 (some 40) (.int .i64 c) rfl rfl (by kernel_rfl) (by kernel_rfl) (by kernel_rfl) (fun _ _ _ h => h) (by rfl) (fun _ _ => by rfl) (HNV.out.str) ?_
            simp only [Act.put, List.setIfInBounds_toArray, List.set_cons_zero, List.set_cons_succ]
            refine wpAnyHTake 6 (some 41) (.int .i64 d1) rfl rfl (by kernel_rfl) (by kernel_rfl) (by kernel_rfl) (fun _ _ _ h => h) (by rfl) (fun _ _ => by go_simp) (HNV.out.str) ?_
            simp only [Act.put, List.setIfInBounds_toArray, List.set_cons_zero, List.set_cons_succ]
            refine wpAnyHTake 7 (some 42) (.string C1) rfl rfl (by kernel_rfl) (by kernel_rfl) (by kernel_rfl) (fun _ _ _ h => h) (by rfl) (fun _ _ => by go_simp) (HNV.out.str) ?_
            simp only [Act.put, List.setIfInBounds_toArray, List.set_cons_zero, List.set_cons_succ]
            refine wpAnyHTake 8 (some 43) (.string (s.extract 0 k ++ C1)) rfl rfl (by kernel_rfl) (by kernel_rfl) (by kernel_rfl) (fun _ _ _ h => h) (by rfl) (fun _ _ => by go_simp <;> omega) (HNV.out.str) ?_
            simp only [Act.put, List.setIfInBounds_toArray, List.set_cons_zero, List.set_cons_succ]
            refine wpAnyHTake 9 (some 44) (.string s) rfl rfl (by kernel_rfl) (by kernel_rfl) (by kernel_rfl) (fun _ _ _ h => h) (by rfl) (fun W hW => by have e := Boxs.cell hW 0; simp at e; clear hW; go_simp) (HNV.out.str) ?_
            simp only [Act.put, List.setIfInBounds_toArray, List.set_cons_zero, List.set_cons_succ]
            refine wpAnyHTake 10 (some 45) (.int .i64 k) rfl rfl (by kernel_rfl) (by kernel_rfl) (by kernel_rfl) (fun _ _ _ h => h) (by rfl) (fun _ _ => by rfl) (HNV.out.str) ?_
            simp only [Act.put, List.setIfInBounds_toArray, List.set_cons_zero, List.set_cons_succ]
            refine wpAnyHTake 11 (some 46) (.int .i64 k1) rfl rfl (by kernel_rfl) (by kernel_rfl) (by kernel_rfl) (fun _ _ _ h => h) (by rfl) (fun _ _ => by go_simp) (HNV.out.str) ?_
            simp only [Act.put, List.setIfInBounds_toArray, List.set_cons_zero, List.set_cons_succ]
            refine wpAnyHTake 12 (some 47) (.string (s.extract k1 s.size)) rfl rfl (by kernel_rfl) (by kernel_rfl) (by kernel_rfl) (fun _ _ _ h => h) (by rfl) (fun _ _ => by go_simp) (HNV.out.str) ?_
            simp only [Act.put, List.setIfInBounds_toArray, List.set_cons_zero, List.set_cons_succ]
            refine wpAnyHTake 13 (some 48) (.string (chF s k c)) rfl rfl (by kernel_rfl) (by kernel_rfl) (by kernel_rfl) (fun _ _ _ h => h) (by rfl) (fun _ _ => by go_simp <;> omega) (HNV.out.str) ?_
            simp only [Act.put, List.setIfInBounds_toArray, List.set_cons_zero, List.set_cons_succ]
            refine wpAnyHCall 14 (some 49) 43 #[.string (chF s k c), .pointer (some ⟨w.heap.size, 0, none⟩), .pointer (some ⟨bO, 0, none⟩)] (by kernel_rfl) rfl rfl (by rfl) (by go_simp) (nput_any _ _ s (chF s k c) _ _ HNV.out (by rw [hcz]; exact hs) hll) ?_
            rintro e w3 ⟨rfl, hn3, hb3⟩
            have HN3 := Lib.hid hn3
            have HB3 := Lib.hid (HBX2.out.trans (hb3.mono hle))
            clear hn3 hb3
            refine ⟨_, rfl, HN3.out.str, ?_⟩
            simp only [Act.put, List.setIfInBounds_toArray, List.set_cons_zero, List.set_cons_succ]
            refine wpAnyH_done (by kernel_rfl) ?_ _
            rename_i K hK
            refine hK _ _ ?_
            clear hK
            go_wp2_with fail
            go_roundw
            case rel => exact ⟨c + 1, by omega, by go_num, by rw [HROW.out]; exact HN3.out, HB3.out⟩
            case measure => simp [intOf]; omega
          · obtain rfl : c = 31 := by omega
            have g1 := hns.str.cell 0
            simp at g1
            by_cases hnx : k + 1 < s.size
            · have hr1 : (k : Int) + 1 < (s.size : Int) := by omega
              clear hns hbl
              go_wp2_with fail
              clear hr1
              have hex : s.extract 0 k ++ s.extract (k + 1) (k + 2) ++ s.extract k (k + 1) ++ s.extract (k + 2) s.size = exF s k := rfl
              have hcz : (exF s k).size = s.size := exF_size hnx
              have HEX := Lib.hid (nlF_ex s k hnx)
              obtain ⟨k1, hk1⟩ : ∃ k1 : Nat, k1 = k + 1 := ⟨_, rfl⟩
              obtain ⟨k2, hk2⟩ : ∃ k2 : Nat, k2 = k + 2 := ⟨_, rfl⟩
              rw [← hk1, ← hk2] at hex
              have hkk : (k : Int) + 1 = (k1 : Int) := by omega
              have hkk2 : (k : Int) + 2 = (k2 : Int) := by omega
              have hwk : IntKind.i64.wrap (k1 : Int) = (k1 : Int) := by rw [IntKind.wrap_i64]; omega
              have hwk2 : IntKind.i64.wrap (k2 : Int) = (k2 : Int) := by rw [IntKind.wrap_i64]; omega
              have z1 : (s.extract 0 k).size = k := by rw [ByteArray.size_extract]; omega
              have z2 : (s.extract k1 k2).size = 1 := by rw [ByteArray.size_extract]; omega
              have z3 : (s.extract k k1).size = 1 := by rw [ByteArray.size_extract]; omega
              have z4 : (s.extract k2 s.size).size = s.size - k2 := by rw [ByteArray.size_extract]; omega
              have z5 : (s.extract 0 k ++ s.extract k1 k2).size = k1 := by rw [ByteArray.size_append, z1, z2, hk1]
              have z6 : (s.extract 0 k ++ s.extract k1 k2 ++ s.extract k k1).size = k2 := by rw [ByteArray.size_append, z5, z3]; omega
              have y1 : (k : Int) ≤ (s.size : Int) := by omega
              have y2 : (k1 : Int) ≤ (s.size : Int) := by omega
              have y3 : (k2 : Int) ≤ (s.size : Int) := by omega
              have y4 : (k1 : Int) ≤ (k2 : Int) := by omega
              have y5 : (k : Int) ≤ (k1 : Int) := by omega
              have y6 : (0 : Int) ≤ (k : Int) := by omega
              have y7 : (0 : Int) ≤ (k1 : Int) := by omega
              have y8 : (0 : Int) ≤ (k2 : Int) := by omega
              clear hk1 hk2 g1
              refine wp_region_held (S := fun W => Boxs W w.heap.size 9 #[.string s]) (by kernel_rfl) ?_
              have hdr : (wr).drew = { wr with drawn := (wr).drawn + 1 } := rfl
              rw [← hdr]
              clear hdr
              have HBV2 := Lib.hid (Below.dn (Below.refl wr.heap.size wr) 1)
              have HNV := Lib.hid (HN2.out.below HBV2.out)
              have HBX2 := Lib.hid (HB2.out.trans (HBV2.out.mono HB2.out.size))
              clear HBV2
              change wpAnyH _ _ _ _ _ _ _ _ (wr.drewN 1)
              generalize wr.drewN 1 = V at HNV HBX2 ⊢
              refine wpAnyHTake 0 (some 56) (.func (.func 43) #[] #[.pointer (some ⟨w.heap.size, 0, none⟩), .pointer (some ⟨bO, 0, none⟩)]) rfl rfl (by kernel_rfl) (by kernel_rfl) (by kernel_rfl) (fun _ _ _ h => h) (by rfl) (fun _ _ => by rfl) (HNV.out.str) ?_
              simp only [Act.put, List.setIfInBounds_toArray, List.set_cons_zero, List.set_cons_succ]
              refine wpAnyHTake 1 (some 57) (.string s) rfl rfl (by kernel_rfl) (by kernel_rfl) (by kernel_rfl) (fun _ _ _ h => h) (by rfl) (fun W hW => by have e := Boxs.cell hW 0; simp at e; clear hW; go_simp) (HNV.out.str) ?_
              simp only [Act.put, List.setIfInBounds_toArray, List.set_cons_zero, List.set_cons_succ]
              refine wpAnyHTake 2 (some 58) (.int .i64 k) rfl rfl (by kernel_rfl) (by kernel_rfl) (by kernel_rfl) (fun _ _ _ h => h) (by rfl) (fun _ _ => by rfl) (HNV.out.str) ?_
              simp only [Act.put, List.setIfInBounds_toArray, List.set_cons_zero, List.set_cons_succ]
              refine wpAnyHTake 3 (some 59) (.string (s.extract 0 k)) rfl rfl (by kernel_rfl) (by kernel_rfl) (by kernel_rfl) (fun _ _ _ h => h) (by rfl) (fun _ _ => by go_simp) (HNV.out.str) ?_
              simp only [Act.put, List.setIfInBounds_toArray, List.set_cons_zero, List.set_cons_succ]
              refine wpAnyHTake 4 (some 60) (.string s) rfl rfl (by kernel_rfl) (by kernel_rfl) (by kernel_rfl) (fun _ _ _ h => h) (by rfl) (fun W hW => by have e := Boxs.cell hW 0; simp at e; clear hW; go_simp) (HNV.out.str) ?_
              simp only [Act.put, List.setIfInBounds_toArray, List.set_cons_zero, List.set_cons_succ]
              refine wpAnyHTake 5 (some 61) (.int .i64 k) rfl rfl (by kernel_rfl) (by kernel_rfl) (by kernel_rfl) (fun _ _ _ h => h) (by rfl) (fun _ _ => by rfl) (HNV.out.str) ?_
              simp only [Act.put, List.setIfInBounds_toArray, List.set_cons_zero, List.set_cons_succ]
              refine wpAnyHTake 6 (some 62) (.int .i64 k1) rfl rfl (by kernel_rfl) (by kernel_rfl) (by kernel_rfl) (fun _ _ _ h => h) (by rfl) (fun _ _ => by go_simp) (HNV.out.str) ?_
              simp only [Act.put, List.setIfInBounds_toArray, List.set_cons_zero, List.set_cons_succ]
              refine wpAnyHTake 7 (some 63) (.int .i64 k) rfl rfl (by kernel_rfl) (by kernel_rfl) (by kernel_rfl) (fun _ _ _ h => h) (by rfl) (fun _ _ => by rfl) (HNV.out.str) ?_
              simp only [Act.put, List.setIfInBounds_toArray, List.set_cons_zero, List.set_cons_succ]
              refine wpAnyHTake 8 (some 64) (.int .i64 k2) rfl rfl (by kernel_rfl) (by kernel_rfl) (by kernel_rfl) (fun _ _ _ h => h) (by rfl) (fun _ _ => by go_simp) (HNV.out.str) ?_
              simp only [Act.put, List.setIfInBounds_toArray, List.set_cons_zero, List.set_cons_succ]
              refine wpAnyHTake 9 (some 65) (.string (s.extract k1 k2)) rfl rfl (by kernel_rfl) (by kernel_rfl) (by kernel_rfl) (fun _ _ _ h => h) (by rfl) (fun _ _ => by go_simp) (HNV.out.str) ?_
              simp only [Act.put, List.setIfInBounds_toArray, List.set_cons_zero, List.set_cons_succ]
              refine wpAnyHTake 10 (some 66) (.string (s.extract 0 k ++ s.extract k1 k2)) rfl rfl (by kernel_rfl) (by kernel_rfl) (by kernel_rfl) (fun _ _ _ h => h) (by rfl) (fun _ _ => by go_simp <;> omega) (HNV.out.str) ?_
              simp only [Act.put, List.setIfInBounds_toArray, List.set_cons_zero, List.set_cons_succ]
              refine wpAnyHTake 11 (some 67) (.string s) rfl rfl (by kernel_rfl) (by kernel_rfl) (by kernel_rfl) (fun _ _ _ h => h) (by rfl) (fun W hW => by have e := Boxs.cell hW 0; simp at e; clear hW; go_simp) (HNV.out.str) ?_
              simp only [Act.put, List.setIfInBounds_toArray, List.set_cons_zero, List.set_cons_succ]
              refine wpAnyHTake 12 (some 68) (.int .i64 k) rfl rfl (by kernel_rfl) (by kernel_rfl) (by kernel_rfl) (fun _ _ _ h => h) (by rfl) (fun _ _ => by rfl) (HNV.out.str) ?_
              simp only [Act.put, List.setIfInBounds_toArray, List.set_cons_zero, List.set_cons_succ]
              refine wpAnyHTake 13 (some 69) (.int .i64 k) rfl rfl (by kernel_rfl) (by kernel_rfl) (by kernel_rfl) (fun _ _ _ h => h) (by rfl) (fun _ _ => by rfl) (HNV.out.str) ?_
              simp only [Act.put, List.setIfInBounds_toArray, List.set_cons_zero, List.set_cons_succ]
              refine wpAnyHTake 14 (some 70) (.int .i64 k1) rfl rfl (by kernel_rfl) (by kernel_rfl) (by kernel_rfl) (fun _ _ _ h => h) (by rfl) (fun _ _ => by go_simp) (HNV.out.str) ?_
              simp only [Act.put, List.setIfInBounds_toArray, List.set_cons_zero, List.set_cons_succ]
              refine wpAnyHTake 15 (some 71) (.string (s.extract k k1)) rfl rfl (by kernel_rfl) (by kernel_rfl) (by kernel_rfl) (fun _ _ _ h => h) (by rfl) (fun _ _ => by go_simp) (HNV.out.str) ?_
              simp only [Act.put, List.setIfInBounds_toArray, List.set_cons_zero, List.set_cons_succ]
              refine wpAnyHTake 16 (some 72) (.string (s.extract 0 k ++ s.extract k1 k2 ++ s.extract k k1)) rfl rfl (by kernel_rfl) (by kernel_rfl) (by kernel_rfl) (fun _ _ _ h => h) (by rfl) (fun _ _ => by go_simp <;> omega) (HNV.out.str) ?_
              simp only [Act.put, List.setIfInBounds_toArray, List.set_cons_zero, List.set_cons_succ]
              refine wpAnyHTake 17 (some 73) (.string s) rfl rfl (by kernel_rfl) (by kernel_rfl) (by kernel_rfl) (fun _ _ _ h => h) (by rfl) (fun W hW => by have e := Boxs.cell hW 0; simp at e; clear hW; go_simp) (HNV.out.str) ?_
              simp only [Act.put, List.setIfInBounds_toArray, List.set_cons_zero, List.set_cons_succ]
              refine wpAnyHTake 18 (some 74) (.int .i64 k) rfl rfl (by kernel_rfl) (by kernel_rfl) (by kernel_rfl) (fun _ _ _ h => h) (by rfl) (fun _ _ => by rfl) (HNV.out.str) ?_
              simp only [Act.put, List.setIfInBounds_toArray, List.set_cons_zero, List.set_cons_succ]
              refine wpAnyHTake 19 (some 75) (.int .i64 k2) rfl rfl (by kernel_rfl) (by kernel_rfl) (by kernel_rfl) (fun _ _ _ h => h) (by rfl) (fun _ _ => by go_simp) (HNV.out.str) ?_
              simp only [Act.put, List.setIfInBounds_toArray, List.set_cons_zero, List.set_cons_succ]
              refine wpAnyHTake 20 (some 76) (.string (s.extract k2 s.size)) rfl rfl (by kernel_rfl) (by kernel_rfl) (by kernel_rfl) (fun _ _ _ h => h) (by rfl) (fun _ _ => by go_simp) (HNV.out.str) ?_
              simp only [Act.put, List.setIfInBounds_toArray, List.set_cons_zero, List.set_cons_succ]
              refine wpAnyHTake 21 (some 77) (.string (exF s k)) rfl rfl (by kernel_rfl) (by kernel_rfl) (by kernel_rfl) (fun _ _ _ h => h) (by rfl) (fun _ _ => by go_simp <;> omega) (HNV.out.str) ?_
              simp only [Act.put, List.setIfInBounds_toArray, List.set_cons_zero, List.set_cons_succ]
              refine wpAnyHCall 22 (some 78) 43 #[.string (exF s k), .pointer (some ⟨w.heap.size, 0, none⟩), .pointer (some ⟨bO, 0, none⟩)] (by kernel_rfl) rfl rfl (by rfl) (by go_simp) (nput_any _ _ s (exF s k) _ _ HNV.out (by rw [hcz]; exact hs) hll) ?_
              rintro e w3 ⟨rfl, hn3, hb3⟩
              have HN3 := Lib.hid hn3
              have HB3 := Lib.hid (HBX2.out.trans (hb3.mono hle))
              clear hn3 hb3
              refine ⟨_, rfl, HN3.out.str, ?_⟩
              simp only [Act.put, List.setIfInBounds_toArray, List.set_cons_zero, List.set_cons_succ]
              refine wpAnyH_done (by kernel_rfl) ?_ _
              go_wp2_with fail
              go_roundw
              case rel => exact ⟨k + 1, by omega, by go_num, by rw [HEX.out]; exact HN3.out, HB3.out⟩
              case measure => simp [intOf]; omega
            · have hr1 : ¬ (k : Int) + 1 < (s.size : Int) := by omega
              have HEX := Lib.hid (nlF_no s k hnx)
              clear hns hbl
              go_wp2_with fail
              go_roundw
              case rel => exact ⟨k + 1, by omega, by go_num, by rw [HEX.out]; exact HN2.out, HB2.out⟩
              case measure => simp [intOf]; omega
      · have he : k = s.size := by omega
        subst he
        have p1 : ¬ (s.size : Int) < (s.size : Int) := by omega
        obtain ⟨v, hv1, hv2⟩ := hns.out
        have c2 := hv1.cell 0
        simp at c2
        have hvl := hv1.lt
        have hll : (nlF s s.size).length ≤ 1000000 := by have := nlF_len s s.size; omega
        have hsame := near_same (nlF s s.size)
        rw [← E.out] at hsame
        have HSM := Lib.hid hsame
        have hlu : ((nlF s s.size).map un).length = (nlF s s.size).length := List.length_map ..
        rw [strs_un, ← hlu] at hv2
        have hlo := hv2.lt
        have SO := sort_any v ((nlF s s.size).map un) (bO + 1) wr hv2 (by omega)
        have HV1 := Lib.hid hv1
        clear hns hbl hv1 hv2 hsame
        generalize hSS : (nlF s s.size).map un = SS at *
        go_wp2_with fail
        refine SO.mono ?_
        rintro e w3 ⟨rfl, ho3, hg3⟩
        have b3 := HV1.out.kept hg3 (fun e => by have := (hlo bO e.symm).1; omega)
        have c3 := b3.cell 0
        simp at c3
        have HB3 := Lib.hid (HB.out.grown hg3 (Nat.le_trans hle (Nat.le_of_lt hvl)) (fun j e => by have := (hlo j e).1; omega))
        have hln : SS.length = (sortL SS).length := (sortL_len SS).symm
        rw [hln] at ho3
        have CO := compact_any v (sortL SS) (bO + 1) w3 ho3 (by rw [sortL_len]; omega)
        clear hg3 ho3 c2 SO
        go_wp2_with fail
        refine CO.mono ?_
        rintro e w4 ⟨u, rfl, hr4, hg4⟩
        clear CO c3
        have HR4 := Lib.hid hr4; have HG4 := Lib.hid hg4
        clear hr4 hg4
        go_wp2_with fail
        go_ret
        refine ⟨_, rfl, ?_, HB3.out.grown HG4.out (Nat.le_trans hle (Nat.le_of_lt b3.lt)) (fun j e => by have := (hlo j e).1; omega)⟩
        rw [← HSM.out]
        exact HR4.out
end Go.Proofs.Ytidojiegkdchpaa
