/- The walk of GhashAdds. -/
import Derived.Test.YtikhnjoobhfgdaaWkGhC
import Derived.Test.YtikhnjoobhfgdaaGhAdd
import Derived.Test.YtikhnjoobhfgdaaRegF
import Derived.Deep.RegionLaw
set_option linter.unusedVariables false
namespace Go.Proofs.Ytikhnjoobhfgdaa
open Go.RowKit

theorem rd_blk0 {w : World} {g k : Nat} {Z : List Value} (hZ : Z = (List.replicate k (0 : UInt8)).map B8) (h : Blk w g 5 Z.toArray) (hk : k ≤ 140737488355328) : Rd w (some ⟨g, 0, none⟩) k k (List.replicate k 0) := by
  subst hZ
  refine ⟨by simp, Nat.le_refl _, by unfold maxLen; omega, fun h0 => ⟨g, 0, rfl, fun j hj => ?_⟩⟩
  have e := h.cell j
  rw [Nat.zero_add, e]
  simp [hj]
theorem rd_take {w : World} {A : Option Addr} {n c m : Nat} {l : List UInt8} (h : Rd w A n c l) (hm : m ≤ n) : Rd w A m c (l.take m) := by
  have hl := h.len
  have hc := h.cap
  refine ⟨by rw [List.length_take]; omega, by omega, h.max, fun h0 => ?_⟩
  obtain ⟨b, o, e, hc⟩ := h.at_ (by omega)
  refine ⟨b, o, e, fun j hj => (hc j (by omega)).trans ?_⟩
  simp [List.getD, List.getElem?_take, hj]

set_option maxRecDepth 100000 in
set_option maxHeartbeats 6400000 in
theorem ghashAdds_walk (hb : List UInt8) (A1 : Option Addr) (n1 c1 : Nat) (l1 : List UInt8) (A2 : Option Addr) (n2 c2 : Nat) (l2 : List UInt8) (w : World) (hl : hb.length = 16) (h1 : Rd w A1 n1 c1 l1) (h2 : Rd w A2 n2 c2 l2) (hc1 : c1 ≤ 140737488351232) (hc2 : c2 ≤ 140737488351232) :
    Calls Try.prog 4 #[.agg (hb.map B8).toArray, .slice A1 n1 c1, .slice A2 n2 c2] w fun e w' => e = .returned (.bool true) ∧ Below w.heap.size w w' := by
  have hcap1 := h1.cap
  have hcap2 := h2.cap
  obtain ⟨H, HH⟩ : ∃ H, Hid (w.heap.size = H) := ⟨_, rfl⟩
  obtain ⟨cx, Hcx⟩ : ∃ cs, Hid (cs = hb.map B8) := ⟨_, rfl⟩
  have HX := Lib.hid hl
  have lx : Hid (cx.length = 16) := by show _ = _; rw [Hcx.out]; simpa using hl
  rw [← Hcx.out]
  have KX : Hid (Blk (w.alloc (.cells cx.toArray 22)) H 22 cx.toArray) := Blk.new' _ _ _ _ HH.out
  have HB : Hid (Below H w (w.alloc (.cells cx.toArray 22))) := by rw [← HH.out]; exact below_new _ _
  obtain ⟨N, HN⟩ : ∃ N, Hid (min (min n1 n2) 4000 = N) := ⟨_, rfl⟩
  have bN : N ≤ 4000 ∧ N ≤ n1 ∧ N ≤ n2 := by have := HN.out; omega
  have HR1 := Lib.hid h1
  have HR2 := Lib.hid h2
  clear h1 h2 hl
  have hmin : ∀ W : World, (Builtin.min_ #[3, 3, 3] 3 #[.int .i64 (n1 : Int), .int .i64 (n2 : Int), .int .i64 4000]).run Try.prog W = .ok (.int .i64 (N : Int)) W := fun W => by
    rw [show (N : Int) = min (min (n1 : Int) (n2 : Int)) 4000 by rw [← HN.out]; omega]
    have e : ∀ x y : Int, (if y < x then y else x) = min x y := fun x y => by
      rw [Int.min_def]
      split <;> split <;> omega
    simp [Builtin.min_, Builtin.min2, e]
    split <;> omega
  have HA1 := Lib.hid HR1.out.at_
  have HA2 := Lib.hid HR2.out.at_
  have HL1 := Lib.hid HR1.out.len
  have HL2 := Lib.hid HR2.out.len
  obtain ⟨i0, hi, hz0, hz1, hz2⟩ := info_parts infoU8
  obtain ⟨V, hV⟩ : ∃ V, V = w.alloc (.cells cx.toArray 22) := ⟨_, rfl⟩
  have HBV : Hid (Below H w V) := by rw [hV]; exact HB.out
  have hVs : H < V.heap.size := by rw [hV]; simp [← HH.out]
  go_enter Try.func4, Try.ntmps4
  go_wp2_with fail
  rw [← hV]
  have KXV : Hid (Blk V H 22 cx.toArray) := by rw [hV]; exact KX.out
  clear hV
  go_loopw [8, 20] (fun v z wr => ∃ (k : Nat) (B : Option Addr) (d : Nat), k ≤ N ∧ z = .int .i64 (k : Int) ∧ v = .slice B k d ∧
      Own wr V.heap.size B k d (xors (l1.take k) (l2.take k)) ∧ Below V.heap.size V wr)
    (fun _ z _ => N - (intOf z).toNat)
  case atStart => exact ⟨0, none, 0, Nat.zero_le _, rfl, rfl, Own.nil _ _, Below.refl _ _⟩
  case round =>
    obtain ⟨k, B, d, hk, rfl, rfl, hown, hbel⟩ := hrel
    have HO := Lib.hid hown
    clear hown
    by_cases hlt : k < N
    · obtain ⟨b, o, rfl, hc⟩ := HA1.out (by omega)
      obtain ⟨b', o', rfl, hc'⟩ := HA2.out (by omega)
      have HC := Lib.hid hc
      have HC' := Lib.hid hc'
      clear hc hc'
      obtain ⟨x, HX1, hcell0, hx⟩ := Rd.cellx HC k (by omega)
      obtain ⟨y, HY1, hcell0', hy⟩ := Rd.cellx HC' k (by omega)
      have hlb := World.block_lt_of_cell? w _ hcell0
      have hlb' := World.block_lt_of_cell? w _ hcell0'
      have hbw : Below w.heap.size w wr := by rw [HH.out]; exact HBV.out.trans (hbel.mono (by omega))
      have hcell := (hbw.cell hlb).trans hcell0
      have hcell' := (hbw.cell hlb').trans hcell0'
      clear hcell0 hcell0' hbw
      have hlt1 : k < n1 := by omega
      have hlt2 : k < n2 := by omega
      go_wp2
      refine region_gate 13 (fun w' => w'.cell? ⟨b, o + k, none⟩ = some (.int .u8 (x.toNat : Int)) ∧ w'.cell? ⟨b', o' + k, none⟩ = some (.int .u8 (y.toNat : Int))) (by kernel_rfl) ?th1 (fun hHeld => ?tk1)
      case th1 => ((try dsimp only); exact ⟨hcell, hcell'⟩)
      refine' takeV 0 (oi := _) (d := _) (v := _) ?ti2 ?td2 (by kernel_rfl) (by kernel_rfl) (by kernel_rfl) (by kernel_rfl) (by decide) (fun _ _ _ _ _ h => h) ?tg2 ?ty2 (by assumption) ?tr2
      case ti2 => (simp only [List.getElem?_toArray, List.getElem?_cons_succ, List.getElem?_cons_zero]; rfl)
      case td2 => exact rfl
      case tg2 => exact rfl
      case ty2 => (intro w hSw; (try dsimp only at hSw); go_split_ands; go_simp; try with_reducible rfl)
      simp only [List.setIfInBounds_toArray, List.set_cons_zero, List.set_cons_succ]
      refine' takeV 1 (oi := _) (d := _) (v := _) ?ti3 ?td3 (by kernel_rfl) (by kernel_rfl) (by kernel_rfl) (by kernel_rfl) (by decide) (fun _ _ _ _ _ h => h) ?tg3 ?ty3 (by assumption) ?tr3
      case ti3 => (simp only [List.getElem?_toArray, List.getElem?_cons_succ, List.getElem?_cons_zero]; rfl)
      case td3 => exact rfl
      case tg3 => exact rfl
      case ty3 => (intro w hSw; (try dsimp only at hSw); go_split_ands; go_simp; try with_reducible rfl)
      simp only [List.setIfInBounds_toArray, List.set_cons_zero, List.set_cons_succ]
      refine' takeV 2 (oi := _) (d := _) (v := _) ?ti4 ?td4 (by kernel_rfl) (by kernel_rfl) (by kernel_rfl) (by kernel_rfl) (by decide) (fun _ _ _ _ _ h => h) ?tg4 ?ty4 (by assumption) ?tr4
      case ti4 => (simp only [List.getElem?_toArray, List.getElem?_cons_succ, List.getElem?_cons_zero]; rfl)
      case td4 => exact rfl
      case tg4 => exact rfl
      case ty4 => (intro w hSw; (try dsimp only at hSw); go_split_ands; go_simp; try with_reducible rfl)
      simp only [List.setIfInBounds_toArray, List.set_cons_zero, List.set_cons_succ]
      refine' takeV 3 (oi := _) (d := _) (v := _) ?ti5 ?td5 (by kernel_rfl) (by kernel_rfl) (by kernel_rfl) (by kernel_rfl) (by decide) (fun _ _ _ _ _ h => h) ?tg5 ?ty5 (by assumption) ?tr5
      case ti5 => (simp only [List.getElem?_toArray, List.getElem?_cons_succ, List.getElem?_cons_zero]; rfl)
      case td5 => exact rfl
      case tg5 => exact rfl
      case ty5 => (intro w hSw; (try dsimp only at hSw); go_split_ands; go_simp; try with_reducible rfl)
      simp only [List.setIfInBounds_toArray, List.set_cons_zero, List.set_cons_succ]
      refine' takeV 4 (oi := _) (d := _) (v := _) ?ti6 ?td6 (by kernel_rfl) (by kernel_rfl) (by kernel_rfl) (by kernel_rfl) (by decide) (fun _ _ _ _ _ h => h) ?tg6 ?ty6 (by assumption) ?tr6
      case ti6 => (simp only [List.getElem?_toArray, List.getElem?_cons_succ, List.getElem?_cons_zero]; rfl)
      case td6 => exact rfl
      case tg6 => exact rfl
      case ty6 => (intro w hSw; (try dsimp only at hSw); go_split_ands; go_simp; try with_reducible rfl)
      simp only [List.setIfInBounds_toArray, List.set_cons_zero, List.set_cons_succ]
      refine' takeV 5 (oi := _) (d := _) (v := _) ?ti7 ?td7 (by kernel_rfl) (by kernel_rfl) (by kernel_rfl) (by kernel_rfl) (by decide) (fun _ _ _ _ _ h => h) ?tg7 ?ty7 (by assumption) ?tr7
      case ti7 => (simp only [List.getElem?_toArray, List.getElem?_cons_succ, List.getElem?_cons_zero]; rfl)
      case td7 => exact rfl
      case tg7 => exact rfl
      case ty7 => (intro w hSw; (try dsimp only at hSw); go_split_ands; go_simp; try with_reducible rfl)
      simp only [List.setIfInBounds_toArray, List.set_cons_zero, List.set_cons_succ]
      refine' takeV 6 (oi := _) (d := _) (v := _) ?ti8 ?td8 (by kernel_rfl) (by kernel_rfl) (by kernel_rfl) (by kernel_rfl) (by decide) (fun _ _ _ _ _ h => h) ?tg8 ?ty8 (by assumption) ?tr8
      case ti8 => (simp only [List.getElem?_toArray, List.getElem?_cons_succ, List.getElem?_cons_zero]; rfl)
      case td8 => exact rfl
      case tg8 => exact rfl
      case ty8 => (intro w hSw; (try dsimp only at hSw); go_split_ands; go_simp; try with_reducible rfl)
      simp only [List.setIfInBounds_toArray, List.set_cons_zero, List.set_cons_succ]
      refine' takeV 7 (oi := _) (d := _) (v := _) ?ti9 ?td9 (by kernel_rfl) (by kernel_rfl) (by kernel_rfl) (by kernel_rfl) (by decide) (fun _ _ _ _ _ h => h) ?tg9 ?ty9 (by assumption) ?tr9
      case ti9 => (simp only [List.getElem?_toArray, List.getElem?_cons_succ, List.getElem?_cons_zero]; rfl)
      case td9 => exact rfl
      case tg9 => exact rfl
      case ty9 => (intro w hSw; (try dsimp only at hSw); go_split_ands; go_simp; try with_reducible rfl)
      simp only [List.setIfInBounds_toArray, List.set_cons_zero, List.set_cons_succ]
      refine' takeV 8 (oi := _) (d := _) (v := _) ?ti10 ?td10 (by kernel_rfl) (by kernel_rfl) (by kernel_rfl) (by kernel_rfl) (by decide) (fun _ _ _ _ _ h => h) ?tg10 ?ty10 (by assumption) ?tr10
      case ti10 => (simp only [List.getElem?_toArray, List.getElem?_cons_succ, List.getElem?_cons_zero]; rfl)
      case td10 => exact rfl
      case tg10 => exact rfl
      case ty10 => (intro w hSw; (try dsimp only at hSw); go_split_ands; go_simp; try with_reducible rfl)
      simp only [List.setIfInBounds_toArray, List.set_cons_zero, List.set_cons_succ]
      refine' takeV 9 (oi := _) (d := _) (v := _) ?ti11 ?td11 (by kernel_rfl) (by kernel_rfl) (by kernel_rfl) (by kernel_rfl) (by decide) (fun _ _ _ _ _ h => h) ?tg11 ?ty11 (by assumption) ?tr11
      case ti11 => (simp only [List.getElem?_toArray, List.getElem?_cons_succ, List.getElem?_cons_zero]; rfl)
      case td11 => exact rfl
      case tg11 => exact rfl
      case ty11 => (intro w hSw; (try dsimp only at hSw); go_split_ands; go_simp; try with_reducible rfl)
      simp only [List.setIfInBounds_toArray, List.set_cons_zero, List.set_cons_succ]
      obtain ⟨V1, hV1⟩ : ∃ V1, V1 = wr.drew := ⟨_, rfl⟩
      have O1 : Hid (Own V1 V.heap.size B k d (xors (l1.take k) (l2.take k))) := by rw [hV1]; exact HO.out.drew
      have B1 : Below V.heap.size V V1 := by rw [hV1]; exact hbel.drew
      rw [← hV1] at hHeld ⊢
      clear hV1
      obtain ⟨hs1, hs2⟩ := hHeld
      have hxo : bits .xor .u8 (x.toNat : Int) (y.toNat : Int) = (((x ^^^ y).toNat : Nat) : Int) := by
        rw [UInt8.toNat_xor]
        exact u8_xor_nat x.toNat y.toNat (by omega) (by omega)
      have hlbV : b < V1.heap.size ∧ b' < V1.heap.size := ⟨World.block_lt_of_cell? V1 _ hs1, World.block_lt_of_cell? V1 _ hs2⟩
      have hbV : b < V.heap.size ∧ b' < V.heap.size := by have := HBV.out.size; omega
      refine stepG 10 (by kernel_rfl) (by simp only [List.getElem?_toArray, List.getElem?_cons_succ, List.getElem?_cons_zero]; rfl) (fun K hK => ?_)
      go_simp
      refine hK.out _ _ ?ts12 (fun hHeld => ?_)
      case ts12 => ((try dsimp only); exact ⟨((below_new V1 _).cell hlbV.1).trans hs1, ((below_new V1 _).cell hlbV.2).trans hs2⟩)
      clear hK K
      rw [← UInt8.toNat_xor] at hHeld ⊢
      have O2 : Hid (Own (V1.alloc (.cells #[.int .u8 (((x ^^^ y).toNat : Nat) : Int)] 5)) V.heap.size B k d (xors (l1.take k) (l2.take k))) := O1.out.alloc _
      have R2 : Hid (Rd (V1.alloc (.cells #[.int .u8 (((x ^^^ y).toNat : Nat) : Int)] 5)) (some ⟨V1.heap.size, 0, none⟩) 1 1 [x ^^^ y]) := Rd.fresh V1 [x ^^^ y] 1 rfl (by omega)
      have B2 : Below V.heap.size V (V1.alloc (.cells #[.int .u8 (((x ^^^ y).toNat : Nat) : Int)] 5)) := B1.alloc B1.size _
      obtain ⟨V2, hV2⟩ : ∃ V2, V2 = V1.alloc (.cells #[.int .u8 (((x ^^^ y).toNat : Nat) : Int)] 5) := ⟨_, rfl⟩
      rw [← hV2] at hHeld O2 R2 B2 ⊢
      clear hV2
      obtain ⟨ht1, ht2⟩ := hHeld
      refine stepG 11 (by kernel_rfl) (by simp only [List.getElem?_toArray, List.getElem?_cons_succ, List.getElem?_cons_zero]; rfl) (fun K hK => ?_)
      refine step_app 23 Try.underlying23 rfl (.tmp 23) (.tmp 33) rfl rfl rfl O2.out R2.out B2.size (by omega) ?_
      intro A3 d3 w3 hown3 hg3 hb3
      refine hK.out _ _ ?ts13 (fun hHeld => ?_)
      case ts13 => ((try dsimp only); exact ⟨(hb3.cell hbV.1).trans ht1, (hb3.cell hbV.2).trans ht2⟩)
      clear hK K
      refine stepG 12 (by kernel_rfl) (by simp only [List.getElem?_toArray, List.getElem?_cons_succ, List.getElem?_cons_zero]; rfl) (fun K hK => ?_)
      go_simp
      refine hK.out _ _ ?ts14 (fun hHeld => ?_)
      case ts14 => ((try dsimp only); exact hHeld)
      clear hK K
      refine doneG (by kernel_rfl) ?_ _
      go_wp2
      go_roundw
      case rel =>
        refine ⟨k + 1, A3, d3, by omega, by go_num, rfl, ?_, B2.trans hb3⟩
        rw [xors_step l1 l2 k x y (by rw [← HL1.out]; omega) (by rw [← HL2.out]; omega) HX1.out HY1.out]
        exact hown3
      case measure => first | (simp [intOf]; done) | (simp [intOf]; omega)
    · obtain rfl : k = N := by omega
      obtain ⟨T1, HT1⟩ : ∃ T, Hid (l1.take k = T) := ⟨_, rfl⟩
      obtain ⟨T2, HT2⟩ : ∃ T, Hid (l2.take k = T) := ⟨_, rfl⟩
      rw [HT1.out, HT2.out] at HO
      have R1 : Hid (Rd w A1 k c1 T1) := by show _; rw [← HT1.out]; exact rd_take HR1.out (by omega)
      have R2 : Hid (Rd w A2 k c2 T2) := by show _; rw [← HT2.out]; exact rd_take HR2.out (by omega)
      have R3 : Hid (Rd wr B k d (xors T1 T2)) := HO.out.rd
      have HBw : Hid (Below H w wr) := HBV.out.trans (hbel.mono (by omega))
      have KXr : Hid (Blk wr H 22 cx.toArray) := KXV.out.below hbel hVs
      have hkc1 : k ≤ c1 := by omega
      have hkc2 : k ≤ c2 := by omega
      have hdm : d ≤ maxLen := R3.out.max
      have bk : k ≤ 4000 := bN.1
      obtain ⟨z, HZ⟩ : ∃ z, Hid (z = List.replicate 16 (Value.int .u8 0)) := ⟨_, rfl⟩
      have lz : Hid (z.length = 16) := by show _ = _; rw [HZ.out]; simp
      have hz2' : ∀ W : World, (zeroValue 22).run Try.prog W = .ok (.agg z.toArray) W := fun W => by rw [HZ.out]; kernel_rfl
      have HU : Hid (Try.prog.underlying 22 = some (.array 16 5)) := Try.underlying22
      obtain ⟨Z, HZZ⟩ : ∃ Z, Hid (Z = (List.replicate k (0 : UInt8)).map B8) := ⟨_, rfl⟩
      have hmk : ∀ W : World, (Instr.makeSlice 23 (.int .i64 (k : Int)) (.int .i64 (k : Int))).run Try.prog W = .ok (.slice (some ⟨W.heap.size, 0, none⟩) k k) (W.alloc (.cells Z.toArray 5)) := by
        intro W
        have := run_make_rowN (P := Try.prog) 23 5 i0 (.int .u8 0) Try.underlying23 hi hz0 .i64 .i64 k k (by omega) (by rw [hz2]; omega) (by omega) W
        rw [hz1] at this
        rw [HZZ.out, ← made_bytes k]
        exact this
      clear hi hz0 hz1 hz2
      obtain ⟨cr1, Hcr1⟩ : ∃ cs, Hid (cs = (be (gfin (num hb) [] T1) 16).map B8) := ⟨_, rfl⟩
      obtain ⟨cr2, Hcr2⟩ : ∃ cs, Hid (cs = (be (gfin (num hb) [] T2) 16).map B8) := ⟨_, rfl⟩
      obtain ⟨cr3, Hcr3⟩ : ∃ cs, Hid (cs = (be (gfin (num hb) [] (xors T1 T2)) 16).map B8) := ⟨_, rfl⟩
      obtain ⟨cr4, Hcr4⟩ : ∃ cs, Hid (cs = (be (gfin (num hb) [] (List.replicate k 0)) 16).map B8) := ⟨_, rfl⟩
      have lr1 : Hid (cr1.length = 16) := by show _ = _; rw [Hcr1.out]; simp [be_length]
      have lr2 : Hid (cr2.length = 16) := by show _ = _; rw [Hcr2.out]; simp [be_length]
      have lr3 : Hid (cr3.length = 16) := by show _ = _; rw [Hcr3.out]; simp [be_length]
      have lr4 : Hid (cr4.length = 16) := by show _ = _; rw [Hcr4.out]; simp [be_length]
      have one1 : Hid (∀ v ∈ cr1, v.oneCell' = true) := by rw [Hcr1.out]; exact b8_one
      have one2 : Hid (∀ v ∈ cr2, v.oneCell' = true) := by rw [Hcr2.out]; exact b8_one
      have one3 : Hid (∀ v ∈ cr3, v.oneCell' = true) := by rw [Hcr3.out]; exact b8_one
      have one4 : Hid (∀ v ∈ cr4, v.oneCell' = true) := by rw [Hcr4.out]; exact b8_one
      obtain ⟨K4, hK4⟩ : ∃ K, wr.heap.size = K := ⟨_, rfl⟩
      have hHK : H < K4 := by rw [← hK4]; exact KXr.out.lt
      have TR : Hid (∀ wx, Below K4 wr wx → Rd wx A1 k c1 T1 ∧ Rd wx A2 k c2 T2 ∧ Rd wx B k d (xors T1 T2) ∧ Blk wx H 22 cx.toArray ∧ Below H w wx) := fun wx h => by
        have h' : Below wr.heap.size wr wx := by rw [hK4]; exact h
        have hw := HBw.out.trans (h.mono (Nat.le_of_lt hHK))
        have hww : Below w.heap.size w wx := by rw [HH.out]; exact hw
        exact ⟨R1.out.below hww, R2.out.below hww, R3.out.below h', KXr.out.below h' KXr.out.lt, hw⟩
      have KS : Hid (∀ wa wb, Below K4 wr wa → Below wa.heap.size wa wb → Below K4 wr wb) := fun wa wb h hb => h.trans (hb.mono (by have := h.size; omega))
      have HS4 : Hid (Below K4 wr wr.drew) := (Below.refl _ _).drew
      have HK4 := Lib.hid hK4
      clear hK4 hbel
      go_upto_region 8 with fail
      go_cut [10, 11] (fun s10 s11 wx => ∃ b10 b11 : Nat, s10 = .pointer (some ⟨b10, 0, none⟩) ∧ s11 = .pointer (some ⟨b11, 0, none⟩) ∧ Blk wx b10 22 cr1.toArray ∧ Blk wx b11 22 cr2.toArray ∧ Below K4 wr wx)
      case first =>
        clear hmk
        refine region_gate 14 (fun w' => Below K4 wr w') (by kernel_rfl) ?th15 (fun hHeld => ?tk15)
        case th15 => ((try dsimp only); exact HS4.out)
        obtain ⟨V0, hV0⟩ : ∃ V0, V0 = wr.drew := ⟨_, rfl⟩
        rw [← hV0] at hHeld ⊢
        have keepS := KS.out
        refine' takeV 0 (oi := _) (d := _) (v := _) ?ti16 ?td16 (by kernel_rfl) (by kernel_rfl) (by kernel_rfl) (by kernel_rfl) (by decide) (fun _ _ _ _ _ h => h) ?tg16 ?ty16 (by assumption) ?tr16
        case ti16 => (simp only [List.getElem?_toArray, List.getElem?_cons_succ, List.getElem?_cons_zero]; rfl)
        case td16 => exact rfl
        case tg16 => exact rfl
        case ty16 => (intro w hSw; (try dsimp only at hSw); rw [exec_load_blk 22 (.tmp 3) rfl rfl (HH.out ▸ (TR.out _ hSw).2.2.2.1) _ HU.out rfl (by rw [lx.out]; exact infoA16)])
        simp only [List.setIfInBounds_toArray, List.set_cons_zero, List.set_cons_succ]
        refine' takeV 1 (oi := _) (d := _) (v := _) ?ti17 ?td17 (by kernel_rfl) (by kernel_rfl) (by kernel_rfl) (by kernel_rfl) (by decide) (fun _ _ _ _ _ h => h) ?tg17 ?ty17 (by assumption) ?tr17
        case ti17 => (simp only [List.getElem?_toArray, List.getElem?_cons_succ, List.getElem?_cons_zero]; rfl)
        case td17 => exact rfl
        case tg17 => exact rfl
        case ty17 => (intro w hSw; (try dsimp only at hSw); go_split_ands; go_simp; try with_reducible rfl)
        simp only [List.setIfInBounds_toArray, List.set_cons_zero, List.set_cons_succ]
        refine' takeV 2 (oi := _) (d := _) (v := _) ?ti18 ?td18 (by kernel_rfl) (by kernel_rfl) (by kernel_rfl) (by kernel_rfl) (by decide) (fun _ _ _ _ _ h => h) ?tg18 ?ty18 (by assumption) ?tr18
        case ti18 => (simp only [List.getElem?_toArray, List.getElem?_cons_succ, List.getElem?_cons_zero]; rfl)
        case td18 => exact rfl
        case tg18 => exact rfl
        case ty18 => (intro w hSw; (try dsimp only at hSw); go_split_ands; go_simp; try with_reducible rfl)
        simp only [List.setIfInBounds_toArray, List.set_cons_zero, List.set_cons_succ]
        refine' takeV 3 (oi := _) (d := _) (v := _) ?ti19 ?td19 (by kernel_rfl) (by kernel_rfl) (by kernel_rfl) (by kernel_rfl) (by decide) (fun _ _ _ _ _ h => h) ?tg19 ?ty19 (by assumption) ?tr19
        case ti19 => (simp only [List.getElem?_toArray, List.getElem?_cons_succ, List.getElem?_cons_zero]; rfl)
        case td19 => exact rfl
        case tg19 => exact rfl
        case ty19 => (intro w hSw; (try dsimp only at hSw); go_split_ands; go_simp; try with_reducible rfl)
        simp only [List.setIfInBounds_toArray, List.set_cons_zero, List.set_cons_succ]
        refine' takeV 5 (oi := _) (d := _) (v := _) ?ti20 ?td20 (by kernel_rfl) (by kernel_rfl) (by kernel_rfl) (by kernel_rfl) (by decide) (fun _ _ _ _ _ h => h) ?tg20 ?ty20 (by assumption) ?tr20
        case ti20 => (simp only [List.getElem?_toArray, List.getElem?_cons_succ, List.getElem?_cons_zero]; rfl)
        case td20 => exact rfl
        case tg20 => exact rfl
        case ty20 => (intro w hSw; (try dsimp only at hSw); rw [exec_load_blk 22 (.tmp 3) rfl rfl (HH.out ▸ (TR.out _ hSw).2.2.2.1) _ HU.out rfl (by rw [lx.out]; exact infoA16)])
        simp only [List.setIfInBounds_toArray, List.set_cons_zero, List.set_cons_succ]
        refine' takeV 6 (oi := _) (d := _) (v := _) ?ti21 ?td21 (by kernel_rfl) (by kernel_rfl) (by kernel_rfl) (by kernel_rfl) (by decide) (fun _ _ _ _ _ h => h) ?tg21 ?ty21 (by assumption) ?tr21
        case ti21 => (simp only [List.getElem?_toArray, List.getElem?_cons_succ, List.getElem?_cons_zero]; rfl)
        case td21 => exact rfl
        case tg21 => exact rfl
        case ty21 => (intro w hSw; (try dsimp only at hSw); go_split_ands; go_simp; try with_reducible rfl)
        simp only [List.setIfInBounds_toArray, List.set_cons_zero, List.set_cons_succ]
        refine' takeV 7 (oi := _) (d := _) (v := _) ?ti22 ?td22 (by kernel_rfl) (by kernel_rfl) (by kernel_rfl) (by kernel_rfl) (by decide) (fun _ _ _ _ _ h => h) ?tg22 ?ty22 (by assumption) ?tr22
        case ti22 => (simp only [List.getElem?_toArray, List.getElem?_cons_succ, List.getElem?_cons_zero]; rfl)
        case td22 => exact rfl
        case tg22 => exact rfl
        case ty22 => (intro w hSw; (try dsimp only at hSw); go_split_ands; go_simp; try with_reducible rfl)
        simp only [List.setIfInBounds_toArray, List.set_cons_zero, List.set_cons_succ]
        refine' takeV 8 (oi := _) (d := _) (v := _) ?ti23 ?td23 (by kernel_rfl) (by kernel_rfl) (by kernel_rfl) (by kernel_rfl) (by decide) (fun _ _ _ _ _ h => h) ?tg23 ?ty23 (by assumption) ?tr23
        case ti23 => (simp only [List.getElem?_toArray, List.getElem?_cons_succ, List.getElem?_cons_zero]; rfl)
        case td23 => exact rfl
        case tg23 => exact rfl
        case ty23 => (intro w hSw; (try dsimp only at hSw); go_split_ands; go_simp; try with_reducible rfl)
        simp only [List.setIfInBounds_toArray, List.set_cons_zero, List.set_cons_succ]
        clear hV0
        refine stepG3 4 10 11 (by kernel_rfl) ?_ ?_ ?_
        · refine StepOf.mk 4 (by simp only [List.getElem?_toArray, List.getElem?_cons_succ, List.getElem?_cons_zero]; rfl) (fun K hK => ?_)
          go_simp
          refine (sum_o hb cx cr1 [] T1 Hcx Hcr1 HX.out none 0 0 A1 k c1 _ (Rd.none_ _) (TR.out _ hHeld).1 (by omega) (by omega)).mono ?_
          rintro e ws1 ⟨rfl, hbs1⟩
          have szs1 := hbs1.size
          refine hK.out _ _ ?tu1 (fun hs1 => ?_)
          case tu1 => exact keepS _ _ hHeld hbs1
          clear hK K
          refine stepG3 9 10 11 (by kernel_rfl) ?_ ?_ ?_
          · refine StepOf.mk 9 (by simp only [List.getElem?_toArray, List.getElem?_cons_succ, List.getElem?_cons_zero]; rfl) (fun K hK => ?_)
            go_simp
            refine (sum_o hb cx cr2 [] T2 Hcx Hcr2 HX.out none 0 0 A2 k c2 _ (Rd.none_ _) (TR.out _ hs1).2.1 (by omega) (by omega)).mono ?_
            rintro e ws2 ⟨rfl, hbs2⟩
            have szs2 := hbs2.size
            refine hK.out _ _ ?tu2 (fun hs2 => ?_)
            case tu2 => exact keepS _ _ hs1 hbs2
            clear hK K
            refine stepG2 10 11 (by kernel_rfl) ?_ ?_
            · refine StepOf.mk 10 (by simp only [List.getElem?_toArray, List.getElem?_cons_succ, List.getElem?_cons_zero]; rfl) (fun K hK => ?_)
              go_simp
              obtain ⟨ws3, hw3⟩ : ∃ wx : World, wx = ws2.alloc (.cells z.toArray 22) := ⟨_, rfl⟩
              rw [← hw3]
              have hbs3 : Below ws2.heap.size ws2 ws3 := by rw [hw3]; exact below_new _ _
              have nbs3 : Blk ws3 ws2.heap.size 22 z.toArray := by rw [hw3]; exact Blk.new _ _ _
              have szs3 : ws2.heap.size < ws3.heap.size := by rw [hw3]; simp
              clear hw3
              have ges3 : K4 ≤ ws2.heap.size := (by have hq := (hs2).size; have := HK4.out; omega)
              refine hK.out _ _ ?tu3 (fun hs3 => ?_)
              case tu3 => exact keepS _ _ hs2 hbs3
              clear hK K
              refine stepG 11 (by kernel_rfl) (by simp only [List.getElem?_toArray, List.getElem?_cons_succ, List.getElem?_cons_zero]; rfl) (fun K hK => ?_)
              go_simp
              obtain ⟨ws4, hw4⟩ : ∃ wx : World, wx = ws3.alloc (.cells z.toArray 22) := ⟨_, rfl⟩
              rw [← hw4]
              have hbs4 : Below ws3.heap.size ws3 ws4 := by rw [hw4]; exact below_new _ _
              have nbs4 : Blk ws4 ws3.heap.size 22 z.toArray := by rw [hw4]; exact Blk.new _ _ _
              have szs4 : ws3.heap.size < ws4.heap.size := by rw [hw4]; simp
              clear hw4
              have ges4 : K4 ≤ ws3.heap.size := (by have hq := (hs3).size; have := HK4.out; omega)
              refine hK.out _ _ ?tu4 (fun hs4 => ?_)
              case tu4 => exact keepS _ _ hs3 hbs4
              clear hK K
              have nb10_4 := nbs3.below hbs4 nbs3.lt
              refine stepG 12 (by kernel_rfl) (by simp only [List.getElem?_toArray, List.getElem?_cons_succ, List.getElem?_cons_zero]; rfl) (fun K hK => ?_)
              refine step_store_blk rfl 22 (.tmp 10) (.tmp 40) rfl rfl rfl nb10_4 (by rw [lr1.out, lz.out]) (by rw [lr1.out]; exact infoA16) one1.out ?_
              intro wa hka hga
              refine hK.out _ _ ?ts24 (fun hHeld => ?_)
              case ts24 => ((try dsimp only); exact (hs4).grown hga (by have hq := (hs4).size; have := HK4.out; omega) (by intro k hk; simp at hk; omega))
              clear hK K
              have hkb := (nbs4).keep_grown hga (by simp; omega)
              have hSa := hHeld
              refine stepG 13 (by kernel_rfl) (by simp only [List.getElem?_toArray, List.getElem?_cons_succ, List.getElem?_cons_zero]; rfl) (fun K hK => ?_)
              refine step_store_blk rfl 22 (.tmp 11) (.tmp 45) rfl rfl rfl hkb (by rw [lr2.out, lz.out]) (by rw [lr2.out]; exact infoA16) one2.out ?_
              intro wb hkb2 hgb
              refine hK.out _ _ ?ts25 (fun hHeld => ?_)
              case ts25 => ((try dsimp only); exact hSa.grown hgb (by have hq := hSa.size; have := HK4.out; omega) (by intro k hk; simp at hk; omega))
              clear hK K
              have hka2 := hka.keep_grown hgb (by simp; omega)
              refine doneG (by kernel_rfl) ?_ _
              go_wp2_with fail
              go_meet
              exact ⟨_, _, rfl, rfl, hka2, hkb2, hHeld⟩
            · refine StepOf.mk 11 (by simp only [List.getElem?_toArray, List.getElem?_cons_succ, List.getElem?_cons_zero]; rfl) (fun K hK => ?_)
              go_simp
              obtain ⟨ws5, hw5⟩ : ∃ wx : World, wx = ws2.alloc (.cells z.toArray 22) := ⟨_, rfl⟩
              rw [← hw5]
              have hbs5 : Below ws2.heap.size ws2 ws5 := by rw [hw5]; exact below_new _ _
              have nbs5 : Blk ws5 ws2.heap.size 22 z.toArray := by rw [hw5]; exact Blk.new _ _ _
              have szs5 : ws2.heap.size < ws5.heap.size := by rw [hw5]; simp
              clear hw5
              have ges5 : K4 ≤ ws2.heap.size := (by have hq := (hs2).size; have := HK4.out; omega)
              refine hK.out _ _ ?tu5 (fun hs5 => ?_)
              case tu5 => exact keepS _ _ hs2 hbs5
              clear hK K
              refine stepG 10 (by kernel_rfl) (by simp only [List.getElem?_toArray, List.getElem?_cons_succ, List.getElem?_cons_zero]; rfl) (fun K hK => ?_)
              go_simp
              obtain ⟨ws6, hw6⟩ : ∃ wx : World, wx = ws5.alloc (.cells z.toArray 22) := ⟨_, rfl⟩
              rw [← hw6]
              have hbs6 : Below ws5.heap.size ws5 ws6 := by rw [hw6]; exact below_new _ _
              have nbs6 : Blk ws6 ws5.heap.size 22 z.toArray := by rw [hw6]; exact Blk.new _ _ _
              have szs6 : ws5.heap.size < ws6.heap.size := by rw [hw6]; simp
              clear hw6
              have ges6 : K4 ≤ ws5.heap.size := (by have hq := (hs5).size; have := HK4.out; omega)
              refine hK.out _ _ ?tu6 (fun hs6 => ?_)
              case tu6 => exact keepS _ _ hs5 hbs6
              clear hK K
              have nb11_6 := nbs5.below hbs6 nbs5.lt
              refine stepG 12 (by kernel_rfl) (by simp only [List.getElem?_toArray, List.getElem?_cons_succ, List.getElem?_cons_zero]; rfl) (fun K hK => ?_)
              refine step_store_blk rfl 22 (.tmp 10) (.tmp 40) rfl rfl rfl nbs6 (by rw [lr1.out, lz.out]) (by rw [lr1.out]; exact infoA16) one1.out ?_
              intro wa hka hga
              refine hK.out _ _ ?ts26 (fun hHeld => ?_)
              case ts26 => ((try dsimp only); exact (hs6).grown hga (by have hq := (hs6).size; have := HK4.out; omega) (by intro k hk; simp at hk; omega))
              clear hK K
              have hkb := (nb11_6).keep_grown hga (by simp; omega)
              have hSa := hHeld
              refine stepG 13 (by kernel_rfl) (by simp only [List.getElem?_toArray, List.getElem?_cons_succ, List.getElem?_cons_zero]; rfl) (fun K hK => ?_)
              refine step_store_blk rfl 22 (.tmp 11) (.tmp 45) rfl rfl rfl hkb (by rw [lr2.out, lz.out]) (by rw [lr2.out]; exact infoA16) one2.out ?_
              intro wb hkb2 hgb
              refine hK.out _ _ ?ts27 (fun hHeld => ?_)
              case ts27 => ((try dsimp only); exact hSa.grown hgb (by have hq := hSa.size; have := HK4.out; omega) (by intro k hk; simp at hk; omega))
              clear hK K
              have hka2 := hka.keep_grown hgb (by simp; omega)
              refine doneG (by kernel_rfl) ?_ _
              go_wp2_with fail
              go_meet
              exact ⟨_, _, rfl, rfl, hka2, hkb2, hHeld⟩
          · refine StepOf.mk 10 (by simp only [List.getElem?_toArray, List.getElem?_cons_succ, List.getElem?_cons_zero]; rfl) (fun K hK => ?_)
            go_simp
            obtain ⟨ws7, hw7⟩ : ∃ wx : World, wx = ws1.alloc (.cells z.toArray 22) := ⟨_, rfl⟩
            rw [← hw7]
            have hbs7 : Below ws1.heap.size ws1 ws7 := by rw [hw7]; exact below_new _ _
            have nbs7 : Blk ws7 ws1.heap.size 22 z.toArray := by rw [hw7]; exact Blk.new _ _ _
            have szs7 : ws1.heap.size < ws7.heap.size := by rw [hw7]; simp
            clear hw7
            have ges7 : K4 ≤ ws1.heap.size := (by have hq := (hs1).size; have := HK4.out; omega)
            refine hK.out _ _ ?tu7 (fun hs7 => ?_)
            case tu7 => exact keepS _ _ hs1 hbs7
            clear hK K
            refine stepG2 9 11 (by kernel_rfl) ?_ ?_
            · refine StepOf.mk 9 (by simp only [List.getElem?_toArray, List.getElem?_cons_succ, List.getElem?_cons_zero]; rfl) (fun K hK => ?_)
              go_simp
              refine (sum_o hb cx cr2 [] T2 Hcx Hcr2 HX.out none 0 0 A2 k c2 _ (Rd.none_ _) (TR.out _ hs7).2.1 (by omega) (by omega)).mono ?_
              rintro e ws8 ⟨rfl, hbs8⟩
              have szs8 := hbs8.size
              refine hK.out _ _ ?tu8 (fun hs8 => ?_)
              case tu8 => exact keepS _ _ hs7 hbs8
              clear hK K
              have nb10_8 := nbs7.below hbs8 nbs7.lt
              refine stepG 11 (by kernel_rfl) (by simp only [List.getElem?_toArray, List.getElem?_cons_succ, List.getElem?_cons_zero]; rfl) (fun K hK => ?_)
              go_simp
              obtain ⟨ws9, hw9⟩ : ∃ wx : World, wx = ws8.alloc (.cells z.toArray 22) := ⟨_, rfl⟩
              rw [← hw9]
              have hbs9 : Below ws8.heap.size ws8 ws9 := by rw [hw9]; exact below_new _ _
              have nbs9 : Blk ws9 ws8.heap.size 22 z.toArray := by rw [hw9]; exact Blk.new _ _ _
              have szs9 : ws8.heap.size < ws9.heap.size := by rw [hw9]; simp
              clear hw9
              have ges9 : K4 ≤ ws8.heap.size := (by have hq := (hs8).size; have := HK4.out; omega)
              refine hK.out _ _ ?tu9 (fun hs9 => ?_)
              case tu9 => exact keepS _ _ hs8 hbs9
              clear hK K
              have nb10_9 := nb10_8.below hbs9 nb10_8.lt
              refine stepG 12 (by kernel_rfl) (by simp only [List.getElem?_toArray, List.getElem?_cons_succ, List.getElem?_cons_zero]; rfl) (fun K hK => ?_)
              refine step_store_blk rfl 22 (.tmp 10) (.tmp 40) rfl rfl rfl nb10_9 (by rw [lr1.out, lz.out]) (by rw [lr1.out]; exact infoA16) one1.out ?_
              intro wa hka hga
              refine hK.out _ _ ?ts28 (fun hHeld => ?_)
              case ts28 => ((try dsimp only); exact (hs9).grown hga (by have hq := (hs9).size; have := HK4.out; omega) (by intro k hk; simp at hk; omega))
              clear hK K
              have hkb := (nbs9).keep_grown hga (by simp; omega)
              have hSa := hHeld
              refine stepG 13 (by kernel_rfl) (by simp only [List.getElem?_toArray, List.getElem?_cons_succ, List.getElem?_cons_zero]; rfl) (fun K hK => ?_)
              refine step_store_blk rfl 22 (.tmp 11) (.tmp 45) rfl rfl rfl hkb (by rw [lr2.out, lz.out]) (by rw [lr2.out]; exact infoA16) one2.out ?_
              intro wb hkb2 hgb
              refine hK.out _ _ ?ts29 (fun hHeld => ?_)
              case ts29 => ((try dsimp only); exact hSa.grown hgb (by have hq := hSa.size; have := HK4.out; omega) (by intro k hk; simp at hk; omega))
              clear hK K
              have hka2 := hka.keep_grown hgb (by simp; omega)
              refine doneG (by kernel_rfl) ?_ _
              go_wp2_with fail
              go_meet
              exact ⟨_, _, rfl, rfl, hka2, hkb2, hHeld⟩
            · refine StepOf.mk 11 (by simp only [List.getElem?_toArray, List.getElem?_cons_succ, List.getElem?_cons_zero]; rfl) (fun K hK => ?_)
              go_simp
              obtain ⟨ws10, hw10⟩ : ∃ wx : World, wx = ws7.alloc (.cells z.toArray 22) := ⟨_, rfl⟩
              rw [← hw10]
              have hbs10 : Below ws7.heap.size ws7 ws10 := by rw [hw10]; exact below_new _ _
              have nbs10 : Blk ws10 ws7.heap.size 22 z.toArray := by rw [hw10]; exact Blk.new _ _ _
              have szs10 : ws7.heap.size < ws10.heap.size := by rw [hw10]; simp
              clear hw10
              have ges10 : K4 ≤ ws7.heap.size := (by have hq := (hs7).size; have := HK4.out; omega)
              refine hK.out _ _ ?tu10 (fun hs10 => ?_)
              case tu10 => exact keepS _ _ hs7 hbs10
              clear hK K
              have nb10_10 := nbs7.below hbs10 nbs7.lt
              refine stepG 9 (by kernel_rfl) (by simp only [List.getElem?_toArray, List.getElem?_cons_succ, List.getElem?_cons_zero]; rfl) (fun K hK => ?_)
              go_simp
              refine (sum_o hb cx cr2 [] T2 Hcx Hcr2 HX.out none 0 0 A2 k c2 _ (Rd.none_ _) (TR.out _ hs10).2.1 (by omega) (by omega)).mono ?_
              rintro e ws11 ⟨rfl, hbs11⟩
              have szs11 := hbs11.size
              refine hK.out _ _ ?tu11 (fun hs11 => ?_)
              case tu11 => exact keepS _ _ hs10 hbs11
              clear hK K
              have nb10_11 := nb10_10.below hbs11 nb10_10.lt
              have nb11_11 := nbs10.below hbs11 nbs10.lt
              refine stepG 12 (by kernel_rfl) (by simp only [List.getElem?_toArray, List.getElem?_cons_succ, List.getElem?_cons_zero]; rfl) (fun K hK => ?_)
              refine step_store_blk rfl 22 (.tmp 10) (.tmp 40) rfl rfl rfl nb10_11 (by rw [lr1.out, lz.out]) (by rw [lr1.out]; exact infoA16) one1.out ?_
              intro wa hka hga
              refine hK.out _ _ ?ts30 (fun hHeld => ?_)
              case ts30 => ((try dsimp only); exact (hs11).grown hga (by have hq := (hs11).size; have := HK4.out; omega) (by intro k hk; simp at hk; omega))
              clear hK K
              have hkb := (nb11_11).keep_grown hga (by simp; omega)
              have hSa := hHeld
              refine stepG 13 (by kernel_rfl) (by simp only [List.getElem?_toArray, List.getElem?_cons_succ, List.getElem?_cons_zero]; rfl) (fun K hK => ?_)
              refine step_store_blk rfl 22 (.tmp 11) (.tmp 45) rfl rfl rfl hkb (by rw [lr2.out, lz.out]) (by rw [lr2.out]; exact infoA16) one2.out ?_
              intro wb hkb2 hgb
              refine hK.out _ _ ?ts31 (fun hHeld => ?_)
              case ts31 => ((try dsimp only); exact hSa.grown hgb (by have hq := hSa.size; have := HK4.out; omega) (by intro k hk; simp at hk; omega))
              clear hK K
              have hka2 := hka.keep_grown hgb (by simp; omega)
              refine doneG (by kernel_rfl) ?_ _
              go_wp2_with fail
              go_meet
              exact ⟨_, _, rfl, rfl, hka2, hkb2, hHeld⟩
          · refine StepOf.mk 11 (by simp only [List.getElem?_toArray, List.getElem?_cons_succ, List.getElem?_cons_zero]; rfl) (fun K hK => ?_)
            go_simp
            obtain ⟨ws12, hw12⟩ : ∃ wx : World, wx = ws1.alloc (.cells z.toArray 22) := ⟨_, rfl⟩
            rw [← hw12]
            have hbs12 : Below ws1.heap.size ws1 ws12 := by rw [hw12]; exact below_new _ _
            have nbs12 : Blk ws12 ws1.heap.size 22 z.toArray := by rw [hw12]; exact Blk.new _ _ _
            have szs12 : ws1.heap.size < ws12.heap.size := by rw [hw12]; simp
            clear hw12
            have ges12 : K4 ≤ ws1.heap.size := (by have hq := (hs1).size; have := HK4.out; omega)
            refine hK.out _ _ ?tu12 (fun hs12 => ?_)
            case tu12 => exact keepS _ _ hs1 hbs12
            clear hK K
            refine stepG2 9 10 (by kernel_rfl) ?_ ?_
            · refine StepOf.mk 9 (by simp only [List.getElem?_toArray, List.getElem?_cons_succ, List.getElem?_cons_zero]; rfl) (fun K hK => ?_)
              go_simp
              refine (sum_o hb cx cr2 [] T2 Hcx Hcr2 HX.out none 0 0 A2 k c2 _ (Rd.none_ _) (TR.out _ hs12).2.1 (by omega) (by omega)).mono ?_
              rintro e ws13 ⟨rfl, hbs13⟩
              have szs13 := hbs13.size
              refine hK.out _ _ ?tu13 (fun hs13 => ?_)
              case tu13 => exact keepS _ _ hs12 hbs13
              clear hK K
              have nb11_13 := nbs12.below hbs13 nbs12.lt
              refine stepG 10 (by kernel_rfl) (by simp only [List.getElem?_toArray, List.getElem?_cons_succ, List.getElem?_cons_zero]; rfl) (fun K hK => ?_)
              go_simp
              obtain ⟨ws14, hw14⟩ : ∃ wx : World, wx = ws13.alloc (.cells z.toArray 22) := ⟨_, rfl⟩
              rw [← hw14]
              have hbs14 : Below ws13.heap.size ws13 ws14 := by rw [hw14]; exact below_new _ _
              have nbs14 : Blk ws14 ws13.heap.size 22 z.toArray := by rw [hw14]; exact Blk.new _ _ _
              have szs14 : ws13.heap.size < ws14.heap.size := by rw [hw14]; simp
              clear hw14
              have ges14 : K4 ≤ ws13.heap.size := (by have hq := (hs13).size; have := HK4.out; omega)
              refine hK.out _ _ ?tu14 (fun hs14 => ?_)
              case tu14 => exact keepS _ _ hs13 hbs14
              clear hK K
              have nb11_14 := nb11_13.below hbs14 nb11_13.lt
              refine stepG 12 (by kernel_rfl) (by simp only [List.getElem?_toArray, List.getElem?_cons_succ, List.getElem?_cons_zero]; rfl) (fun K hK => ?_)
              refine step_store_blk rfl 22 (.tmp 10) (.tmp 40) rfl rfl rfl nbs14 (by rw [lr1.out, lz.out]) (by rw [lr1.out]; exact infoA16) one1.out ?_
              intro wa hka hga
              refine hK.out _ _ ?ts32 (fun hHeld => ?_)
              case ts32 => ((try dsimp only); exact (hs14).grown hga (by have hq := (hs14).size; have := HK4.out; omega) (by intro k hk; simp at hk; omega))
              clear hK K
              have hkb := (nb11_14).keep_grown hga (by simp; omega)
              have hSa := hHeld
              refine stepG 13 (by kernel_rfl) (by simp only [List.getElem?_toArray, List.getElem?_cons_succ, List.getElem?_cons_zero]; rfl) (fun K hK => ?_)
              refine step_store_blk rfl 22 (.tmp 11) (.tmp 45) rfl rfl rfl hkb (by rw [lr2.out, lz.out]) (by rw [lr2.out]; exact infoA16) one2.out ?_
              intro wb hkb2 hgb
              refine hK.out _ _ ?ts33 (fun hHeld => ?_)
              case ts33 => ((try dsimp only); exact hSa.grown hgb (by have hq := hSa.size; have := HK4.out; omega) (by intro k hk; simp at hk; omega))
              clear hK K
              have hka2 := hka.keep_grown hgb (by simp; omega)
              refine doneG (by kernel_rfl) ?_ _
              go_wp2_with fail
              go_meet
              exact ⟨_, _, rfl, rfl, hka2, hkb2, hHeld⟩
            · refine StepOf.mk 10 (by simp only [List.getElem?_toArray, List.getElem?_cons_succ, List.getElem?_cons_zero]; rfl) (fun K hK => ?_)
              go_simp
              obtain ⟨ws15, hw15⟩ : ∃ wx : World, wx = ws12.alloc (.cells z.toArray 22) := ⟨_, rfl⟩
              rw [← hw15]
              have hbs15 : Below ws12.heap.size ws12 ws15 := by rw [hw15]; exact below_new _ _
              have nbs15 : Blk ws15 ws12.heap.size 22 z.toArray := by rw [hw15]; exact Blk.new _ _ _
              have szs15 : ws12.heap.size < ws15.heap.size := by rw [hw15]; simp
              clear hw15
              have ges15 : K4 ≤ ws12.heap.size := (by have hq := (hs12).size; have := HK4.out; omega)
              refine hK.out _ _ ?tu15 (fun hs15 => ?_)
              case tu15 => exact keepS _ _ hs12 hbs15
              clear hK K
              have nb11_15 := nbs12.below hbs15 nbs12.lt
              refine stepG 9 (by kernel_rfl) (by simp only [List.getElem?_toArray, List.getElem?_cons_succ, List.getElem?_cons_zero]; rfl) (fun K hK => ?_)
              go_simp
              refine (sum_o hb cx cr2 [] T2 Hcx Hcr2 HX.out none 0 0 A2 k c2 _ (Rd.none_ _) (TR.out _ hs15).2.1 (by omega) (by omega)).mono ?_
              rintro e ws16 ⟨rfl, hbs16⟩
              have szs16 := hbs16.size
              refine hK.out _ _ ?tu16 (fun hs16 => ?_)
              case tu16 => exact keepS _ _ hs15 hbs16
              clear hK K
              have nb11_16 := nb11_15.below hbs16 nb11_15.lt
              have nb10_16 := nbs15.below hbs16 nbs15.lt
              refine stepG 12 (by kernel_rfl) (by simp only [List.getElem?_toArray, List.getElem?_cons_succ, List.getElem?_cons_zero]; rfl) (fun K hK => ?_)
              refine step_store_blk rfl 22 (.tmp 10) (.tmp 40) rfl rfl rfl nb10_16 (by rw [lr1.out, lz.out]) (by rw [lr1.out]; exact infoA16) one1.out ?_
              intro wa hka hga
              refine hK.out _ _ ?ts34 (fun hHeld => ?_)
              case ts34 => ((try dsimp only); exact (hs16).grown hga (by have hq := (hs16).size; have := HK4.out; omega) (by intro k hk; simp at hk; omega))
              clear hK K
              have hkb := (nb11_16).keep_grown hga (by simp; omega)
              have hSa := hHeld
              refine stepG 13 (by kernel_rfl) (by simp only [List.getElem?_toArray, List.getElem?_cons_succ, List.getElem?_cons_zero]; rfl) (fun K hK => ?_)
              refine step_store_blk rfl 22 (.tmp 11) (.tmp 45) rfl rfl rfl hkb (by rw [lr2.out, lz.out]) (by rw [lr2.out]; exact infoA16) one2.out ?_
              intro wb hkb2 hgb
              refine hK.out _ _ ?ts35 (fun hHeld => ?_)
              case ts35 => ((try dsimp only); exact hSa.grown hgb (by have hq := hSa.size; have := HK4.out; omega) (by intro k hk; simp at hk; omega))
              clear hK K
              have hka2 := hka.keep_grown hgb (by simp; omega)
              refine doneG (by kernel_rfl) ?_ _
              go_wp2_with fail
              go_meet
              exact ⟨_, _, rfl, rfl, hka2, hkb2, hHeld⟩
        · refine StepOf.mk 10 (by simp only [List.getElem?_toArray, List.getElem?_cons_succ, List.getElem?_cons_zero]; rfl) (fun K hK => ?_)
          go_simp
          obtain ⟨ws17, hw17⟩ : ∃ wx : World, wx = V0.alloc (.cells z.toArray 22) := ⟨_, rfl⟩
          rw [← hw17]
          have hbs17 : Below V0.heap.size V0 ws17 := by rw [hw17]; exact below_new _ _
          have nbs17 : Blk ws17 V0.heap.size 22 z.toArray := by rw [hw17]; exact Blk.new _ _ _
          have szs17 : V0.heap.size < ws17.heap.size := by rw [hw17]; simp
          clear hw17
          have ges17 : K4 ≤ V0.heap.size := (by have hq := (hHeld).size; have := HK4.out; omega)
          refine hK.out _ _ ?tu17 (fun hs17 => ?_)
          case tu17 => exact keepS _ _ hHeld hbs17
          clear hK K
          refine stepG2 4 11 (by kernel_rfl) ?_ ?_
          · refine StepOf.mk 4 (by simp only [List.getElem?_toArray, List.getElem?_cons_succ, List.getElem?_cons_zero]; rfl) (fun K hK => ?_)
            go_simp
            refine (sum_o hb cx cr1 [] T1 Hcx Hcr1 HX.out none 0 0 A1 k c1 _ (Rd.none_ _) (TR.out _ hs17).1 (by omega) (by omega)).mono ?_
            rintro e ws18 ⟨rfl, hbs18⟩
            have szs18 := hbs18.size
            refine hK.out _ _ ?tu18 (fun hs18 => ?_)
            case tu18 => exact keepS _ _ hs17 hbs18
            clear hK K
            have nb10_18 := nbs17.below hbs18 nbs17.lt
            refine stepG2 9 11 (by kernel_rfl) ?_ ?_
            · refine StepOf.mk 9 (by simp only [List.getElem?_toArray, List.getElem?_cons_succ, List.getElem?_cons_zero]; rfl) (fun K hK => ?_)
              go_simp
              refine (sum_o hb cx cr2 [] T2 Hcx Hcr2 HX.out none 0 0 A2 k c2 _ (Rd.none_ _) (TR.out _ hs18).2.1 (by omega) (by omega)).mono ?_
              rintro e ws19 ⟨rfl, hbs19⟩
              have szs19 := hbs19.size
              refine hK.out _ _ ?tu19 (fun hs19 => ?_)
              case tu19 => exact keepS _ _ hs18 hbs19
              clear hK K
              have nb10_19 := nb10_18.below hbs19 nb10_18.lt
              refine stepG 11 (by kernel_rfl) (by simp only [List.getElem?_toArray, List.getElem?_cons_succ, List.getElem?_cons_zero]; rfl) (fun K hK => ?_)
              go_simp
              obtain ⟨ws20, hw20⟩ : ∃ wx : World, wx = ws19.alloc (.cells z.toArray 22) := ⟨_, rfl⟩
              rw [← hw20]
              have hbs20 : Below ws19.heap.size ws19 ws20 := by rw [hw20]; exact below_new _ _
              have nbs20 : Blk ws20 ws19.heap.size 22 z.toArray := by rw [hw20]; exact Blk.new _ _ _
              have szs20 : ws19.heap.size < ws20.heap.size := by rw [hw20]; simp
              clear hw20
              have ges20 : K4 ≤ ws19.heap.size := (by have hq := (hs19).size; have := HK4.out; omega)
              refine hK.out _ _ ?tu20 (fun hs20 => ?_)
              case tu20 => exact keepS _ _ hs19 hbs20
              clear hK K
              have nb10_20 := nb10_19.below hbs20 nb10_19.lt
              refine stepG 12 (by kernel_rfl) (by simp only [List.getElem?_toArray, List.getElem?_cons_succ, List.getElem?_cons_zero]; rfl) (fun K hK => ?_)
              refine step_store_blk rfl 22 (.tmp 10) (.tmp 40) rfl rfl rfl nb10_20 (by rw [lr1.out, lz.out]) (by rw [lr1.out]; exact infoA16) one1.out ?_
              intro wa hka hga
              refine hK.out _ _ ?ts36 (fun hHeld => ?_)
              case ts36 => ((try dsimp only); exact (hs20).grown hga (by have hq := (hs20).size; have := HK4.out; omega) (by intro k hk; simp at hk; omega))
              clear hK K
              have hkb := (nbs20).keep_grown hga (by simp; omega)
              have hSa := hHeld
              refine stepG 13 (by kernel_rfl) (by simp only [List.getElem?_toArray, List.getElem?_cons_succ, List.getElem?_cons_zero]; rfl) (fun K hK => ?_)
              refine step_store_blk rfl 22 (.tmp 11) (.tmp 45) rfl rfl rfl hkb (by rw [lr2.out, lz.out]) (by rw [lr2.out]; exact infoA16) one2.out ?_
              intro wb hkb2 hgb
              refine hK.out _ _ ?ts37 (fun hHeld => ?_)
              case ts37 => ((try dsimp only); exact hSa.grown hgb (by have hq := hSa.size; have := HK4.out; omega) (by intro k hk; simp at hk; omega))
              clear hK K
              have hka2 := hka.keep_grown hgb (by simp; omega)
              refine doneG (by kernel_rfl) ?_ _
              go_wp2_with fail
              go_meet
              exact ⟨_, _, rfl, rfl, hka2, hkb2, hHeld⟩
            · refine StepOf.mk 11 (by simp only [List.getElem?_toArray, List.getElem?_cons_succ, List.getElem?_cons_zero]; rfl) (fun K hK => ?_)
              go_simp
              obtain ⟨ws21, hw21⟩ : ∃ wx : World, wx = ws18.alloc (.cells z.toArray 22) := ⟨_, rfl⟩
              rw [← hw21]
              have hbs21 : Below ws18.heap.size ws18 ws21 := by rw [hw21]; exact below_new _ _
              have nbs21 : Blk ws21 ws18.heap.size 22 z.toArray := by rw [hw21]; exact Blk.new _ _ _
              have szs21 : ws18.heap.size < ws21.heap.size := by rw [hw21]; simp
              clear hw21
              have ges21 : K4 ≤ ws18.heap.size := (by have hq := (hs18).size; have := HK4.out; omega)
              refine hK.out _ _ ?tu21 (fun hs21 => ?_)
              case tu21 => exact keepS _ _ hs18 hbs21
              clear hK K
              have nb10_21 := nb10_18.below hbs21 nb10_18.lt
              refine stepG 9 (by kernel_rfl) (by simp only [List.getElem?_toArray, List.getElem?_cons_succ, List.getElem?_cons_zero]; rfl) (fun K hK => ?_)
              go_simp
              refine (sum_o hb cx cr2 [] T2 Hcx Hcr2 HX.out none 0 0 A2 k c2 _ (Rd.none_ _) (TR.out _ hs21).2.1 (by omega) (by omega)).mono ?_
              rintro e ws22 ⟨rfl, hbs22⟩
              have szs22 := hbs22.size
              refine hK.out _ _ ?tu22 (fun hs22 => ?_)
              case tu22 => exact keepS _ _ hs21 hbs22
              clear hK K
              have nb10_22 := nb10_21.below hbs22 nb10_21.lt
              have nb11_22 := nbs21.below hbs22 nbs21.lt
              refine stepG 12 (by kernel_rfl) (by simp only [List.getElem?_toArray, List.getElem?_cons_succ, List.getElem?_cons_zero]; rfl) (fun K hK => ?_)
              refine step_store_blk rfl 22 (.tmp 10) (.tmp 40) rfl rfl rfl nb10_22 (by rw [lr1.out, lz.out]) (by rw [lr1.out]; exact infoA16) one1.out ?_
              intro wa hka hga
              refine hK.out _ _ ?ts38 (fun hHeld => ?_)
              case ts38 => ((try dsimp only); exact (hs22).grown hga (by have hq := (hs22).size; have := HK4.out; omega) (by intro k hk; simp at hk; omega))
              clear hK K
              have hkb := (nb11_22).keep_grown hga (by simp; omega)
              have hSa := hHeld
              refine stepG 13 (by kernel_rfl) (by simp only [List.getElem?_toArray, List.getElem?_cons_succ, List.getElem?_cons_zero]; rfl) (fun K hK => ?_)
              refine step_store_blk rfl 22 (.tmp 11) (.tmp 45) rfl rfl rfl hkb (by rw [lr2.out, lz.out]) (by rw [lr2.out]; exact infoA16) one2.out ?_
              intro wb hkb2 hgb
              refine hK.out _ _ ?ts39 (fun hHeld => ?_)
              case ts39 => ((try dsimp only); exact hSa.grown hgb (by have hq := hSa.size; have := HK4.out; omega) (by intro k hk; simp at hk; omega))
              clear hK K
              have hka2 := hka.keep_grown hgb (by simp; omega)
              refine doneG (by kernel_rfl) ?_ _
              go_wp2_with fail
              go_meet
              exact ⟨_, _, rfl, rfl, hka2, hkb2, hHeld⟩
          · refine StepOf.mk 11 (by simp only [List.getElem?_toArray, List.getElem?_cons_succ, List.getElem?_cons_zero]; rfl) (fun K hK => ?_)
            go_simp
            obtain ⟨ws23, hw23⟩ : ∃ wx : World, wx = ws17.alloc (.cells z.toArray 22) := ⟨_, rfl⟩
            rw [← hw23]
            have hbs23 : Below ws17.heap.size ws17 ws23 := by rw [hw23]; exact below_new _ _
            have nbs23 : Blk ws23 ws17.heap.size 22 z.toArray := by rw [hw23]; exact Blk.new _ _ _
            have szs23 : ws17.heap.size < ws23.heap.size := by rw [hw23]; simp
            clear hw23
            have ges23 : K4 ≤ ws17.heap.size := (by have hq := (hs17).size; have := HK4.out; omega)
            refine hK.out _ _ ?tu23 (fun hs23 => ?_)
            case tu23 => exact keepS _ _ hs17 hbs23
            clear hK K
            have nb10_23 := nbs17.below hbs23 nbs17.lt
            refine stepG 4 (by kernel_rfl) (by simp only [List.getElem?_toArray, List.getElem?_cons_succ, List.getElem?_cons_zero]; rfl) (fun K hK => ?_)
            go_simp
            refine (sum_o hb cx cr1 [] T1 Hcx Hcr1 HX.out none 0 0 A1 k c1 _ (Rd.none_ _) (TR.out _ hs23).1 (by omega) (by omega)).mono ?_
            rintro e ws24 ⟨rfl, hbs24⟩
            have szs24 := hbs24.size
            refine hK.out _ _ ?tu24 (fun hs24 => ?_)
            case tu24 => exact keepS _ _ hs23 hbs24
            clear hK K
            have nb10_24 := nb10_23.below hbs24 nb10_23.lt
            have nb11_24 := nbs23.below hbs24 nbs23.lt
            refine stepG 9 (by kernel_rfl) (by simp only [List.getElem?_toArray, List.getElem?_cons_succ, List.getElem?_cons_zero]; rfl) (fun K hK => ?_)
            go_simp
            refine (sum_o hb cx cr2 [] T2 Hcx Hcr2 HX.out none 0 0 A2 k c2 _ (Rd.none_ _) (TR.out _ hs24).2.1 (by omega) (by omega)).mono ?_
            rintro e ws25 ⟨rfl, hbs25⟩
            have szs25 := hbs25.size
            refine hK.out _ _ ?tu25 (fun hs25 => ?_)
            case tu25 => exact keepS _ _ hs24 hbs25
            clear hK K
            have nb10_25 := nb10_24.below hbs25 nb10_24.lt
            have nb11_25 := nb11_24.below hbs25 nb11_24.lt
            refine stepG 12 (by kernel_rfl) (by simp only [List.getElem?_toArray, List.getElem?_cons_succ, List.getElem?_cons_zero]; rfl) (fun K hK => ?_)
            refine step_store_blk rfl 22 (.tmp 10) (.tmp 40) rfl rfl rfl nb10_25 (by rw [lr1.out, lz.out]) (by rw [lr1.out]; exact infoA16) one1.out ?_
            intro wa hka hga
            refine hK.out _ _ ?ts40 (fun hHeld => ?_)
            case ts40 => ((try dsimp only); exact (hs25).grown hga (by have hq := (hs25).size; have := HK4.out; omega) (by intro k hk; simp at hk; omega))
            clear hK K
            have hkb := (nb11_25).keep_grown hga (by simp; omega)
            have hSa := hHeld
            refine stepG 13 (by kernel_rfl) (by simp only [List.getElem?_toArray, List.getElem?_cons_succ, List.getElem?_cons_zero]; rfl) (fun K hK => ?_)
            refine step_store_blk rfl 22 (.tmp 11) (.tmp 45) rfl rfl rfl hkb (by rw [lr2.out, lz.out]) (by rw [lr2.out]; exact infoA16) one2.out ?_
            intro wb hkb2 hgb
            refine hK.out _ _ ?ts41 (fun hHeld => ?_)
            case ts41 => ((try dsimp only); exact hSa.grown hgb (by have hq := hSa.size; have := HK4.out; omega) (by intro k hk; simp at hk; omega))
            clear hK K
            have hka2 := hka.keep_grown hgb (by simp; omega)
            refine doneG (by kernel_rfl) ?_ _
            go_wp2_with fail
            go_meet
            exact ⟨_, _, rfl, rfl, hka2, hkb2, hHeld⟩
        · refine StepOf.mk 11 (by simp only [List.getElem?_toArray, List.getElem?_cons_succ, List.getElem?_cons_zero]; rfl) (fun K hK => ?_)
          go_simp
          obtain ⟨ws26, hw26⟩ : ∃ wx : World, wx = V0.alloc (.cells z.toArray 22) := ⟨_, rfl⟩
          rw [← hw26]
          have hbs26 : Below V0.heap.size V0 ws26 := by rw [hw26]; exact below_new _ _
          have nbs26 : Blk ws26 V0.heap.size 22 z.toArray := by rw [hw26]; exact Blk.new _ _ _
          have szs26 : V0.heap.size < ws26.heap.size := by rw [hw26]; simp
          clear hw26
          have ges26 : K4 ≤ V0.heap.size := (by have hq := (hHeld).size; have := HK4.out; omega)
          refine hK.out _ _ ?tu26 (fun hs26 => ?_)
          case tu26 => exact keepS _ _ hHeld hbs26
          clear hK K
          refine stepG2 4 10 (by kernel_rfl) ?_ ?_
          · refine StepOf.mk 4 (by simp only [List.getElem?_toArray, List.getElem?_cons_succ, List.getElem?_cons_zero]; rfl) (fun K hK => ?_)
            go_simp
            refine (sum_o hb cx cr1 [] T1 Hcx Hcr1 HX.out none 0 0 A1 k c1 _ (Rd.none_ _) (TR.out _ hs26).1 (by omega) (by omega)).mono ?_
            rintro e ws27 ⟨rfl, hbs27⟩
            have szs27 := hbs27.size
            refine hK.out _ _ ?tu27 (fun hs27 => ?_)
            case tu27 => exact keepS _ _ hs26 hbs27
            clear hK K
            have nb11_27 := nbs26.below hbs27 nbs26.lt
            refine stepG2 9 10 (by kernel_rfl) ?_ ?_
            · refine StepOf.mk 9 (by simp only [List.getElem?_toArray, List.getElem?_cons_succ, List.getElem?_cons_zero]; rfl) (fun K hK => ?_)
              go_simp
              refine (sum_o hb cx cr2 [] T2 Hcx Hcr2 HX.out none 0 0 A2 k c2 _ (Rd.none_ _) (TR.out _ hs27).2.1 (by omega) (by omega)).mono ?_
              rintro e ws28 ⟨rfl, hbs28⟩
              have szs28 := hbs28.size
              refine hK.out _ _ ?tu28 (fun hs28 => ?_)
              case tu28 => exact keepS _ _ hs27 hbs28
              clear hK K
              have nb11_28 := nb11_27.below hbs28 nb11_27.lt
              refine stepG 10 (by kernel_rfl) (by simp only [List.getElem?_toArray, List.getElem?_cons_succ, List.getElem?_cons_zero]; rfl) (fun K hK => ?_)
              go_simp
              obtain ⟨ws29, hw29⟩ : ∃ wx : World, wx = ws28.alloc (.cells z.toArray 22) := ⟨_, rfl⟩
              rw [← hw29]
              have hbs29 : Below ws28.heap.size ws28 ws29 := by rw [hw29]; exact below_new _ _
              have nbs29 : Blk ws29 ws28.heap.size 22 z.toArray := by rw [hw29]; exact Blk.new _ _ _
              have szs29 : ws28.heap.size < ws29.heap.size := by rw [hw29]; simp
              clear hw29
              have ges29 : K4 ≤ ws28.heap.size := (by have hq := (hs28).size; have := HK4.out; omega)
              refine hK.out _ _ ?tu29 (fun hs29 => ?_)
              case tu29 => exact keepS _ _ hs28 hbs29
              clear hK K
              have nb11_29 := nb11_28.below hbs29 nb11_28.lt
              refine stepG 12 (by kernel_rfl) (by simp only [List.getElem?_toArray, List.getElem?_cons_succ, List.getElem?_cons_zero]; rfl) (fun K hK => ?_)
              refine step_store_blk rfl 22 (.tmp 10) (.tmp 40) rfl rfl rfl nbs29 (by rw [lr1.out, lz.out]) (by rw [lr1.out]; exact infoA16) one1.out ?_
              intro wa hka hga
              refine hK.out _ _ ?ts42 (fun hHeld => ?_)
              case ts42 => ((try dsimp only); exact (hs29).grown hga (by have hq := (hs29).size; have := HK4.out; omega) (by intro k hk; simp at hk; omega))
              clear hK K
              have hkb := (nb11_29).keep_grown hga (by simp; omega)
              have hSa := hHeld
              refine stepG 13 (by kernel_rfl) (by simp only [List.getElem?_toArray, List.getElem?_cons_succ, List.getElem?_cons_zero]; rfl) (fun K hK => ?_)
              refine step_store_blk rfl 22 (.tmp 11) (.tmp 45) rfl rfl rfl hkb (by rw [lr2.out, lz.out]) (by rw [lr2.out]; exact infoA16) one2.out ?_
              intro wb hkb2 hgb
              refine hK.out _ _ ?ts43 (fun hHeld => ?_)
              case ts43 => ((try dsimp only); exact hSa.grown hgb (by have hq := hSa.size; have := HK4.out; omega) (by intro k hk; simp at hk; omega))
              clear hK K
              have hka2 := hka.keep_grown hgb (by simp; omega)
              refine doneG (by kernel_rfl) ?_ _
              go_wp2_with fail
              go_meet
              exact ⟨_, _, rfl, rfl, hka2, hkb2, hHeld⟩
            · refine StepOf.mk 10 (by simp only [List.getElem?_toArray, List.getElem?_cons_succ, List.getElem?_cons_zero]; rfl) (fun K hK => ?_)
              go_simp
              obtain ⟨ws30, hw30⟩ : ∃ wx : World, wx = ws27.alloc (.cells z.toArray 22) := ⟨_, rfl⟩
              rw [← hw30]
              have hbs30 : Below ws27.heap.size ws27 ws30 := by rw [hw30]; exact below_new _ _
              have nbs30 : Blk ws30 ws27.heap.size 22 z.toArray := by rw [hw30]; exact Blk.new _ _ _
              have szs30 : ws27.heap.size < ws30.heap.size := by rw [hw30]; simp
              clear hw30
              have ges30 : K4 ≤ ws27.heap.size := (by have hq := (hs27).size; have := HK4.out; omega)
              refine hK.out _ _ ?tu30 (fun hs30 => ?_)
              case tu30 => exact keepS _ _ hs27 hbs30
              clear hK K
              have nb11_30 := nb11_27.below hbs30 nb11_27.lt
              refine stepG 9 (by kernel_rfl) (by simp only [List.getElem?_toArray, List.getElem?_cons_succ, List.getElem?_cons_zero]; rfl) (fun K hK => ?_)
              go_simp
              refine (sum_o hb cx cr2 [] T2 Hcx Hcr2 HX.out none 0 0 A2 k c2 _ (Rd.none_ _) (TR.out _ hs30).2.1 (by omega) (by omega)).mono ?_
              rintro e ws31 ⟨rfl, hbs31⟩
              have szs31 := hbs31.size
              refine hK.out _ _ ?tu31 (fun hs31 => ?_)
              case tu31 => exact keepS _ _ hs30 hbs31
              clear hK K
              have nb11_31 := nb11_30.below hbs31 nb11_30.lt
              have nb10_31 := nbs30.below hbs31 nbs30.lt
              refine stepG 12 (by kernel_rfl) (by simp only [List.getElem?_toArray, List.getElem?_cons_succ, List.getElem?_cons_zero]; rfl) (fun K hK => ?_)
              refine step_store_blk rfl 22 (.tmp 10) (.tmp 40) rfl rfl rfl nb10_31 (by rw [lr1.out, lz.out]) (by rw [lr1.out]; exact infoA16) one1.out ?_
              intro wa hka hga
              refine hK.out _ _ ?ts44 (fun hHeld => ?_)
              case ts44 => ((try dsimp only); exact (hs31).grown hga (by have hq := (hs31).size; have := HK4.out; omega) (by intro k hk; simp at hk; omega))
              clear hK K
              have hkb := (nb11_31).keep_grown hga (by simp; omega)
              have hSa := hHeld
              refine stepG 13 (by kernel_rfl) (by simp only [List.getElem?_toArray, List.getElem?_cons_succ, List.getElem?_cons_zero]; rfl) (fun K hK => ?_)
              refine step_store_blk rfl 22 (.tmp 11) (.tmp 45) rfl rfl rfl hkb (by rw [lr2.out, lz.out]) (by rw [lr2.out]; exact infoA16) one2.out ?_
              intro wb hkb2 hgb
              refine hK.out _ _ ?ts45 (fun hHeld => ?_)
              case ts45 => ((try dsimp only); exact hSa.grown hgb (by have hq := hSa.size; have := HK4.out; omega) (by intro k hk; simp at hk; omega))
              clear hK K
              have hka2 := hka.keep_grown hgb (by simp; omega)
              refine doneG (by kernel_rfl) ?_ _
              go_wp2_with fail
              go_meet
              exact ⟨_, _, rfl, rfl, hka2, hkb2, hHeld⟩
          · refine StepOf.mk 10 (by simp only [List.getElem?_toArray, List.getElem?_cons_succ, List.getElem?_cons_zero]; rfl) (fun K hK => ?_)
            go_simp
            obtain ⟨ws32, hw32⟩ : ∃ wx : World, wx = ws26.alloc (.cells z.toArray 22) := ⟨_, rfl⟩
            rw [← hw32]
            have hbs32 : Below ws26.heap.size ws26 ws32 := by rw [hw32]; exact below_new _ _
            have nbs32 : Blk ws32 ws26.heap.size 22 z.toArray := by rw [hw32]; exact Blk.new _ _ _
            have szs32 : ws26.heap.size < ws32.heap.size := by rw [hw32]; simp
            clear hw32
            have ges32 : K4 ≤ ws26.heap.size := (by have hq := (hs26).size; have := HK4.out; omega)
            refine hK.out _ _ ?tu32 (fun hs32 => ?_)
            case tu32 => exact keepS _ _ hs26 hbs32
            clear hK K
            have nb11_32 := nbs26.below hbs32 nbs26.lt
            refine stepG 4 (by kernel_rfl) (by simp only [List.getElem?_toArray, List.getElem?_cons_succ, List.getElem?_cons_zero]; rfl) (fun K hK => ?_)
            go_simp
            refine (sum_o hb cx cr1 [] T1 Hcx Hcr1 HX.out none 0 0 A1 k c1 _ (Rd.none_ _) (TR.out _ hs32).1 (by omega) (by omega)).mono ?_
            rintro e ws33 ⟨rfl, hbs33⟩
            have szs33 := hbs33.size
            refine hK.out _ _ ?tu33 (fun hs33 => ?_)
            case tu33 => exact keepS _ _ hs32 hbs33
            clear hK K
            have nb11_33 := nb11_32.below hbs33 nb11_32.lt
            have nb10_33 := nbs32.below hbs33 nbs32.lt
            refine stepG 9 (by kernel_rfl) (by simp only [List.getElem?_toArray, List.getElem?_cons_succ, List.getElem?_cons_zero]; rfl) (fun K hK => ?_)
            go_simp
            refine (sum_o hb cx cr2 [] T2 Hcx Hcr2 HX.out none 0 0 A2 k c2 _ (Rd.none_ _) (TR.out _ hs33).2.1 (by omega) (by omega)).mono ?_
            rintro e ws34 ⟨rfl, hbs34⟩
            have szs34 := hbs34.size
            refine hK.out _ _ ?tu34 (fun hs34 => ?_)
            case tu34 => exact keepS _ _ hs33 hbs34
            clear hK K
            have nb11_34 := nb11_33.below hbs34 nb11_33.lt
            have nb10_34 := nb10_33.below hbs34 nb10_33.lt
            refine stepG 12 (by kernel_rfl) (by simp only [List.getElem?_toArray, List.getElem?_cons_succ, List.getElem?_cons_zero]; rfl) (fun K hK => ?_)
            refine step_store_blk rfl 22 (.tmp 10) (.tmp 40) rfl rfl rfl nb10_34 (by rw [lr1.out, lz.out]) (by rw [lr1.out]; exact infoA16) one1.out ?_
            intro wa hka hga
            refine hK.out _ _ ?ts46 (fun hHeld => ?_)
            case ts46 => ((try dsimp only); exact (hs34).grown hga (by have hq := (hs34).size; have := HK4.out; omega) (by intro k hk; simp at hk; omega))
            clear hK K
            have hkb := (nb11_34).keep_grown hga (by simp; omega)
            have hSa := hHeld
            refine stepG 13 (by kernel_rfl) (by simp only [List.getElem?_toArray, List.getElem?_cons_succ, List.getElem?_cons_zero]; rfl) (fun K hK => ?_)
            refine step_store_blk rfl 22 (.tmp 11) (.tmp 45) rfl rfl rfl hkb (by rw [lr2.out, lz.out]) (by rw [lr2.out]; exact infoA16) one2.out ?_
            intro wb hkb2 hgb
            refine hK.out _ _ ?ts47 (fun hHeld => ?_)
            case ts47 => ((try dsimp only); exact hSa.grown hgb (by have hq := hSa.size; have := HK4.out; omega) (by intro k hk; simp at hk; omega))
            clear hK K
            have hka2 := hka.keep_grown hgb (by simp; omega)
            refine doneG (by kernel_rfl) ?_ _
            go_wp2_with fail
            go_meet
            exact ⟨_, _, rfl, rfl, hka2, hkb2, hHeld⟩
      case rest =>
        obtain ⟨b10, b11, rfl, rfl, k10, k11, hSc⟩ := hcut
        obtain ⟨_, _, r3c, kxc, hBc⟩ := TR.out _ hSc
        have K10 := Lib.hid k10
        have K11 := Lib.hid k11
        have R3c := Lib.hid r3c
        have KXc := Lib.hid kxc
        have HBc := Lib.hid hBc
        clear k10 k11 r3c kxc hBc hSc TR KS HS4 HK4
        obtain ⟨K5, hK5⟩ : ∃ K, wc.heap.size = K := ⟨_, rfl⟩
        have hHK5 : H < K5 := by rw [← hK5]; exact KXc.out.lt
        have TR5 : Hid (∀ wx, Below K5 wc wx → Rd wx B k d (xors T1 T2) ∧ Blk wx H 22 cx.toArray ∧ Blk wx b10 22 cr1.toArray ∧ Blk wx b11 22 cr2.toArray ∧ Below H w wx) := fun wx h => by
          have h' : Below wc.heap.size wc wx := by rw [hK5]; exact h
          exact ⟨R3c.out.below h', KXc.out.below h' KXc.out.lt, K10.out.below h' K10.out.lt, K11.out.below h' K11.out.lt, HBc.out.trans (h.mono (Nat.le_of_lt hHK5))⟩
        have KS5 : Hid (∀ wa wb, Below K5 wc wa → Below wa.heap.size wa wb → Below K5 wc wb) := fun wa wb h hb => h.trans (hb.mono (by have := h.size; omega))
        have HS5 : Hid (Below K5 wc wc.drew) := (Below.refl _ _).drew
        have HK5 := Lib.hid hK5
        clear hK5
        go_upto_region 9 with fail
        go_cut [12, 13] (fun s12 s13 wx => ∃ b12 b13 : Nat, s12 = .pointer (some ⟨b12, 0, none⟩) ∧ s13 = .pointer (some ⟨b13, 0, none⟩) ∧ Blk wx b12 22 cr3.toArray ∧ Blk wx b13 22 cr4.toArray ∧ Below K5 wc wx)
        case first =>
          refine region_gate 11 (fun w' => Below K5 wc w') (by kernel_rfl) ?th48 (fun hHeld => ?tk48)
          case th48 => ((try dsimp only); exact HS5.out)
          obtain ⟨V0, hV0⟩ : ∃ V0, V0 = wc.drew := ⟨_, rfl⟩
          rw [← hV0] at hHeld ⊢
          have keepS := KS5.out
          refine' takeV 0 (oi := _) (d := _) (v := _) ?ti49 ?td49 (by kernel_rfl) (by kernel_rfl) (by kernel_rfl) (by kernel_rfl) (by decide) (fun _ _ _ _ _ h => h) ?tg49 ?ty49 (by assumption) ?tr49
          case ti49 => (simp only [List.getElem?_toArray, List.getElem?_cons_succ, List.getElem?_cons_zero]; rfl)
          case td49 => exact rfl
          case tg49 => exact rfl
          case ty49 => (intro w hSw; (try dsimp only at hSw); rw [exec_load_blk 22 (.tmp 3) rfl rfl (HH.out ▸ (TR5.out _ hSw).2.1) _ HU.out rfl (by rw [lx.out]; exact infoA16)])
          simp only [List.setIfInBounds_toArray, List.set_cons_zero, List.set_cons_succ]
          refine' takeV 1 (oi := _) (d := _) (v := _) ?ti50 ?td50 (by kernel_rfl) (by kernel_rfl) (by kernel_rfl) (by kernel_rfl) (by decide) (fun _ _ _ _ _ h => h) ?tg50 ?ty50 (by assumption) ?tr50
          case ti50 => (simp only [List.getElem?_toArray, List.getElem?_cons_succ, List.getElem?_cons_zero]; rfl)
          case td50 => exact rfl
          case tg50 => exact rfl
          case ty50 => (intro w hSw; (try dsimp only at hSw); go_split_ands; go_simp; try with_reducible rfl)
          simp only [List.setIfInBounds_toArray, List.set_cons_zero, List.set_cons_succ]
          refine' takeV 3 (oi := _) (d := _) (v := _) ?ti51 ?td51 (by kernel_rfl) (by kernel_rfl) (by kernel_rfl) (by kernel_rfl) (by decide) (fun _ _ _ _ _ h => h) ?tg51 ?ty51 (by assumption) ?tr51
          case ti51 => (simp only [List.getElem?_toArray, List.getElem?_cons_succ, List.getElem?_cons_zero]; rfl)
          case td51 => exact rfl
          case tg51 => exact rfl
          case ty51 => (intro w hSw; (try dsimp only at hSw); rw [exec_load_blk 22 (.tmp 3) rfl rfl (HH.out ▸ (TR5.out _ hSw).2.1) _ HU.out rfl (by rw [lx.out]; exact infoA16)])
          simp only [List.setIfInBounds_toArray, List.set_cons_zero, List.set_cons_succ]
          refine' takeV 4 (oi := _) (d := _) (v := _) ?ti52 ?td52 (by kernel_rfl) (by kernel_rfl) (by kernel_rfl) (by kernel_rfl) (by decide) (fun _ _ _ _ _ h => h) ?tg52 ?ty52 (by assumption) ?tr52
          case ti52 => (simp only [List.getElem?_toArray, List.getElem?_cons_succ, List.getElem?_cons_zero]; rfl)
          case td52 => exact rfl
          case tg52 => exact rfl
          case ty52 => (intro w hSw; (try dsimp only at hSw); go_split_ands; go_simp; try with_reducible rfl)
          simp only [List.setIfInBounds_toArray, List.set_cons_zero, List.set_cons_succ]
          clear hV0
          refine stepG4 2 5 7 8 (by kernel_rfl) ?_ ?_ ?_ ?_
          · refine StepOf.mk 2 (by simp only [List.getElem?_toArray, List.getElem?_cons_succ, List.getElem?_cons_zero]; rfl) (fun K hK => ?_)
            go_simp
            refine (sum_o hb cx cr3 [] (xors T1 T2) Hcx Hcr3 HX.out none 0 0 B k d _ (Rd.none_ _) (TR5.out _ hHeld).1 (by omega) (by omega)).mono ?_
            rintro e ws35 ⟨rfl, hbs35⟩
            have szs35 := hbs35.size
            refine hK.out _ _ ?tu35 (fun hs35 => ?_)
            case tu35 => exact keepS _ _ hHeld hbs35
            clear hK K
            refine stepG3 5 7 8 (by kernel_rfl) ?_ ?_ ?_
            · refine StepOf.mk 5 (by simp only [List.getElem?_toArray, List.getElem?_cons_succ, List.getElem?_cons_zero]; rfl) (fun K hK => ?_)
              go_simp
              obtain ⟨ws36, hw36⟩ : ∃ wx : World, wx = ws35.alloc (.cells Z.toArray 5) := ⟨_, rfl⟩
              rw [← hw36]
              have hbs36 : Below ws35.heap.size ws35 ws36 := by rw [hw36]; exact below_new _ _
              have nbs36 : Blk ws36 ws35.heap.size 5 Z.toArray := by rw [hw36]; exact Blk.new _ _ _
              have szs36 : ws35.heap.size < ws36.heap.size := by rw [hw36]; simp
              clear hw36
              have ges36 : K5 ≤ ws35.heap.size := (by have hq := (hs35).size; have := HK5.out; omega)
              refine hK.out _ _ ?tu36 (fun hs36 => ?_)
              case tu36 => exact keepS _ _ hs35 hbs36
              clear hK K
              refine stepG3 6 7 8 (by kernel_rfl) ?_ ?_ ?_
              · refine StepOf.mk 6 (by simp only [List.getElem?_toArray, List.getElem?_cons_succ, List.getElem?_cons_zero]; rfl) (fun K hK => ?_)
                go_simp
                refine (sum_o hb cx cr4 [] (List.replicate k 0) Hcx Hcr4 HX.out none 0 0 _ k k _ (Rd.none_ _) (rd_blk0 HZZ.out nbs36 (by omega)) (by omega) (by omega)).mono ?_
                rintro e ws37 ⟨rfl, hbs37⟩
                have szs37 := hbs37.size
                refine hK.out _ _ ?tu37 (fun hs37 => ?_)
                case tu37 => exact keepS _ _ hs36 hbs37
                clear hK K
                have nb5_37 := nbs36.below hbs37 nbs36.lt
                refine stepG2 7 8 (by kernel_rfl) ?_ ?_
                · refine StepOf.mk 7 (by simp only [List.getElem?_toArray, List.getElem?_cons_succ, List.getElem?_cons_zero]; rfl) (fun K hK => ?_)
                  go_simp
                  obtain ⟨ws38, hw38⟩ : ∃ wx : World, wx = ws37.alloc (.cells z.toArray 22) := ⟨_, rfl⟩
                  rw [← hw38]
                  have hbs38 : Below ws37.heap.size ws37 ws38 := by rw [hw38]; exact below_new _ _
                  have nbs38 : Blk ws38 ws37.heap.size 22 z.toArray := by rw [hw38]; exact Blk.new _ _ _
                  have szs38 : ws37.heap.size < ws38.heap.size := by rw [hw38]; simp
                  clear hw38
                  have ges38 : K5 ≤ ws37.heap.size := (by have hq := (hs37).size; have := HK5.out; omega)
                  refine hK.out _ _ ?tu38 (fun hs38 => ?_)
                  case tu38 => exact keepS _ _ hs37 hbs38
                  clear hK K
                  have nb5_38 := nb5_37.below hbs38 nb5_37.lt
                  refine stepG 8 (by kernel_rfl) (by simp only [List.getElem?_toArray, List.getElem?_cons_succ, List.getElem?_cons_zero]; rfl) (fun K hK => ?_)
                  go_simp
                  obtain ⟨ws39, hw39⟩ : ∃ wx : World, wx = ws38.alloc (.cells z.toArray 22) := ⟨_, rfl⟩
                  rw [← hw39]
                  have hbs39 : Below ws38.heap.size ws38 ws39 := by rw [hw39]; exact below_new _ _
                  have nbs39 : Blk ws39 ws38.heap.size 22 z.toArray := by rw [hw39]; exact Blk.new _ _ _
                  have szs39 : ws38.heap.size < ws39.heap.size := by rw [hw39]; simp
                  clear hw39
                  have ges39 : K5 ≤ ws38.heap.size := (by have hq := (hs38).size; have := HK5.out; omega)
                  refine hK.out _ _ ?tu39 (fun hs39 => ?_)
                  case tu39 => exact keepS _ _ hs38 hbs39
                  clear hK K
                  have nb5_39 := nb5_38.below hbs39 nb5_38.lt
                  have nb7_39 := nbs38.below hbs39 nbs38.lt
                  refine stepG 9 (by kernel_rfl) (by simp only [List.getElem?_toArray, List.getElem?_cons_succ, List.getElem?_cons_zero]; rfl) (fun K hK => ?_)
                  refine step_store_blk rfl 22 (.tmp 12) (.tmp 48) rfl rfl rfl nb7_39 (by rw [lr3.out, lz.out]) (by rw [lr3.out]; exact infoA16) one3.out ?_
                  intro wa hka hga
                  refine hK.out _ _ ?ts53 (fun hHeld => ?_)
                  case ts53 => ((try dsimp only); exact (hs39).grown hga (by have hq := (hs39).size; have := HK5.out; omega) (by intro k hk; simp at hk; omega))
                  clear hK K
                  have hkb := (nbs39).keep_grown hga (by simp; omega)
                  have hSa := hHeld
                  refine stepG 10 (by kernel_rfl) (by simp only [List.getElem?_toArray, List.getElem?_cons_succ, List.getElem?_cons_zero]; rfl) (fun K hK => ?_)
                  refine step_store_blk rfl 22 (.tmp 13) (.tmp 52) rfl rfl rfl hkb (by rw [lr4.out, lz.out]) (by rw [lr4.out]; exact infoA16) one4.out ?_
                  intro wb hkb2 hgb
                  refine hK.out _ _ ?ts54 (fun hHeld => ?_)
                  case ts54 => ((try dsimp only); exact hSa.grown hgb (by have hq := hSa.size; have := HK5.out; omega) (by intro k hk; simp at hk; omega))
                  clear hK K
                  have hka2 := hka.keep_grown hgb (by simp; omega)
                  refine doneG (by kernel_rfl) ?_ _
                  go_wp2_with fail
                  go_meet
                  exact ⟨_, _, rfl, rfl, hka2, hkb2, hHeld⟩
                · refine StepOf.mk 8 (by simp only [List.getElem?_toArray, List.getElem?_cons_succ, List.getElem?_cons_zero]; rfl) (fun K hK => ?_)
                  go_simp
                  obtain ⟨ws40, hw40⟩ : ∃ wx : World, wx = ws37.alloc (.cells z.toArray 22) := ⟨_, rfl⟩
                  rw [← hw40]
                  have hbs40 : Below ws37.heap.size ws37 ws40 := by rw [hw40]; exact below_new _ _
                  have nbs40 : Blk ws40 ws37.heap.size 22 z.toArray := by rw [hw40]; exact Blk.new _ _ _
                  have szs40 : ws37.heap.size < ws40.heap.size := by rw [hw40]; simp
                  clear hw40
                  have ges40 : K5 ≤ ws37.heap.size := (by have hq := (hs37).size; have := HK5.out; omega)
                  refine hK.out _ _ ?tu40 (fun hs40 => ?_)
                  case tu40 => exact keepS _ _ hs37 hbs40
                  clear hK K
                  have nb5_40 := nb5_37.below hbs40 nb5_37.lt
                  refine stepG 7 (by kernel_rfl) (by simp only [List.getElem?_toArray, List.getElem?_cons_succ, List.getElem?_cons_zero]; rfl) (fun K hK => ?_)
                  go_simp
                  obtain ⟨ws41, hw41⟩ : ∃ wx : World, wx = ws40.alloc (.cells z.toArray 22) := ⟨_, rfl⟩
                  rw [← hw41]
                  have hbs41 : Below ws40.heap.size ws40 ws41 := by rw [hw41]; exact below_new _ _
                  have nbs41 : Blk ws41 ws40.heap.size 22 z.toArray := by rw [hw41]; exact Blk.new _ _ _
                  have szs41 : ws40.heap.size < ws41.heap.size := by rw [hw41]; simp
                  clear hw41
                  have ges41 : K5 ≤ ws40.heap.size := (by have hq := (hs40).size; have := HK5.out; omega)
                  refine hK.out _ _ ?tu41 (fun hs41 => ?_)
                  case tu41 => exact keepS _ _ hs40 hbs41
                  clear hK K
                  have nb5_41 := nb5_40.below hbs41 nb5_40.lt
                  have nb8_41 := nbs40.below hbs41 nbs40.lt
                  refine stepG 9 (by kernel_rfl) (by simp only [List.getElem?_toArray, List.getElem?_cons_succ, List.getElem?_cons_zero]; rfl) (fun K hK => ?_)
                  refine step_store_blk rfl 22 (.tmp 12) (.tmp 48) rfl rfl rfl nbs41 (by rw [lr3.out, lz.out]) (by rw [lr3.out]; exact infoA16) one3.out ?_
                  intro wa hka hga
                  refine hK.out _ _ ?ts55 (fun hHeld => ?_)
                  case ts55 => ((try dsimp only); exact (hs41).grown hga (by have hq := (hs41).size; have := HK5.out; omega) (by intro k hk; simp at hk; omega))
                  clear hK K
                  have hkb := (nb8_41).keep_grown hga (by simp; omega)
                  have hSa := hHeld
                  refine stepG 10 (by kernel_rfl) (by simp only [List.getElem?_toArray, List.getElem?_cons_succ, List.getElem?_cons_zero]; rfl) (fun K hK => ?_)
                  refine step_store_blk rfl 22 (.tmp 13) (.tmp 52) rfl rfl rfl hkb (by rw [lr4.out, lz.out]) (by rw [lr4.out]; exact infoA16) one4.out ?_
                  intro wb hkb2 hgb
                  refine hK.out _ _ ?ts56 (fun hHeld => ?_)
                  case ts56 => ((try dsimp only); exact hSa.grown hgb (by have hq := hSa.size; have := HK5.out; omega) (by intro k hk; simp at hk; omega))
                  clear hK K
                  have hka2 := hka.keep_grown hgb (by simp; omega)
                  refine doneG (by kernel_rfl) ?_ _
                  go_wp2_with fail
                  go_meet
                  exact ⟨_, _, rfl, rfl, hka2, hkb2, hHeld⟩
              · refine StepOf.mk 7 (by simp only [List.getElem?_toArray, List.getElem?_cons_succ, List.getElem?_cons_zero]; rfl) (fun K hK => ?_)
                go_simp
                obtain ⟨ws42, hw42⟩ : ∃ wx : World, wx = ws36.alloc (.cells z.toArray 22) := ⟨_, rfl⟩
                rw [← hw42]
                have hbs42 : Below ws36.heap.size ws36 ws42 := by rw [hw42]; exact below_new _ _
                have nbs42 : Blk ws42 ws36.heap.size 22 z.toArray := by rw [hw42]; exact Blk.new _ _ _
                have szs42 : ws36.heap.size < ws42.heap.size := by rw [hw42]; simp
                clear hw42
                have ges42 : K5 ≤ ws36.heap.size := (by have hq := (hs36).size; have := HK5.out; omega)
                refine hK.out _ _ ?tu42 (fun hs42 => ?_)
                case tu42 => exact keepS _ _ hs36 hbs42
                clear hK K
                have nb5_42 := nbs36.below hbs42 nbs36.lt
                refine stepG2 6 8 (by kernel_rfl) ?_ ?_
                · refine StepOf.mk 6 (by simp only [List.getElem?_toArray, List.getElem?_cons_succ, List.getElem?_cons_zero]; rfl) (fun K hK => ?_)
                  go_simp
                  refine (sum_o hb cx cr4 [] (List.replicate k 0) Hcx Hcr4 HX.out none 0 0 _ k k _ (Rd.none_ _) (rd_blk0 HZZ.out nb5_42 (by omega)) (by omega) (by omega)).mono ?_
                  rintro e ws43 ⟨rfl, hbs43⟩
                  have szs43 := hbs43.size
                  refine hK.out _ _ ?tu43 (fun hs43 => ?_)
                  case tu43 => exact keepS _ _ hs42 hbs43
                  clear hK K
                  have nb5_43 := nb5_42.below hbs43 nb5_42.lt
                  have nb7_43 := nbs42.below hbs43 nbs42.lt
                  refine stepG 8 (by kernel_rfl) (by simp only [List.getElem?_toArray, List.getElem?_cons_succ, List.getElem?_cons_zero]; rfl) (fun K hK => ?_)
                  go_simp
                  obtain ⟨ws44, hw44⟩ : ∃ wx : World, wx = ws43.alloc (.cells z.toArray 22) := ⟨_, rfl⟩
                  rw [← hw44]
                  have hbs44 : Below ws43.heap.size ws43 ws44 := by rw [hw44]; exact below_new _ _
                  have nbs44 : Blk ws44 ws43.heap.size 22 z.toArray := by rw [hw44]; exact Blk.new _ _ _
                  have szs44 : ws43.heap.size < ws44.heap.size := by rw [hw44]; simp
                  clear hw44
                  have ges44 : K5 ≤ ws43.heap.size := (by have hq := (hs43).size; have := HK5.out; omega)
                  refine hK.out _ _ ?tu44 (fun hs44 => ?_)
                  case tu44 => exact keepS _ _ hs43 hbs44
                  clear hK K
                  have nb5_44 := nb5_43.below hbs44 nb5_43.lt
                  have nb7_44 := nb7_43.below hbs44 nb7_43.lt
                  refine stepG 9 (by kernel_rfl) (by simp only [List.getElem?_toArray, List.getElem?_cons_succ, List.getElem?_cons_zero]; rfl) (fun K hK => ?_)
                  refine step_store_blk rfl 22 (.tmp 12) (.tmp 48) rfl rfl rfl nb7_44 (by rw [lr3.out, lz.out]) (by rw [lr3.out]; exact infoA16) one3.out ?_
                  intro wa hka hga
                  refine hK.out _ _ ?ts57 (fun hHeld => ?_)
                  case ts57 => ((try dsimp only); exact (hs44).grown hga (by have hq := (hs44).size; have := HK5.out; omega) (by intro k hk; simp at hk; omega))
                  clear hK K
                  have hkb := (nbs44).keep_grown hga (by simp; omega)
                  have hSa := hHeld
                  refine stepG 10 (by kernel_rfl) (by simp only [List.getElem?_toArray, List.getElem?_cons_succ, List.getElem?_cons_zero]; rfl) (fun K hK => ?_)
                  refine step_store_blk rfl 22 (.tmp 13) (.tmp 52) rfl rfl rfl hkb (by rw [lr4.out, lz.out]) (by rw [lr4.out]; exact infoA16) one4.out ?_
                  intro wb hkb2 hgb
                  refine hK.out _ _ ?ts58 (fun hHeld => ?_)
                  case ts58 => ((try dsimp only); exact hSa.grown hgb (by have hq := hSa.size; have := HK5.out; omega) (by intro k hk; simp at hk; omega))
                  clear hK K
                  have hka2 := hka.keep_grown hgb (by simp; omega)
                  refine doneG (by kernel_rfl) ?_ _
                  go_wp2_with fail
                  go_meet
                  exact ⟨_, _, rfl, rfl, hka2, hkb2, hHeld⟩
                · refine StepOf.mk 8 (by simp only [List.getElem?_toArray, List.getElem?_cons_succ, List.getElem?_cons_zero]; rfl) (fun K hK => ?_)
                  go_simp
                  obtain ⟨ws45, hw45⟩ : ∃ wx : World, wx = ws42.alloc (.cells z.toArray 22) := ⟨_, rfl⟩
                  rw [← hw45]
                  have hbs45 : Below ws42.heap.size ws42 ws45 := by rw [hw45]; exact below_new _ _
                  have nbs45 : Blk ws45 ws42.heap.size 22 z.toArray := by rw [hw45]; exact Blk.new _ _ _
                  have szs45 : ws42.heap.size < ws45.heap.size := by rw [hw45]; simp
                  clear hw45
                  have ges45 : K5 ≤ ws42.heap.size := (by have hq := (hs42).size; have := HK5.out; omega)
                  refine hK.out _ _ ?tu45 (fun hs45 => ?_)
                  case tu45 => exact keepS _ _ hs42 hbs45
                  clear hK K
                  have nb5_45 := nb5_42.below hbs45 nb5_42.lt
                  have nb7_45 := nbs42.below hbs45 nbs42.lt
                  refine stepG 6 (by kernel_rfl) (by simp only [List.getElem?_toArray, List.getElem?_cons_succ, List.getElem?_cons_zero]; rfl) (fun K hK => ?_)
                  go_simp
                  refine (sum_o hb cx cr4 [] (List.replicate k 0) Hcx Hcr4 HX.out none 0 0 _ k k _ (Rd.none_ _) (rd_blk0 HZZ.out nb5_45 (by omega)) (by omega) (by omega)).mono ?_
                  rintro e ws46 ⟨rfl, hbs46⟩
                  have szs46 := hbs46.size
                  refine hK.out _ _ ?tu46 (fun hs46 => ?_)
                  case tu46 => exact keepS _ _ hs45 hbs46
                  clear hK K
                  have nb5_46 := nb5_45.below hbs46 nb5_45.lt
                  have nb7_46 := nb7_45.below hbs46 nb7_45.lt
                  have nb8_46 := nbs45.below hbs46 nbs45.lt
                  refine stepG 9 (by kernel_rfl) (by simp only [List.getElem?_toArray, List.getElem?_cons_succ, List.getElem?_cons_zero]; rfl) (fun K hK => ?_)
                  refine step_store_blk rfl 22 (.tmp 12) (.tmp 48) rfl rfl rfl nb7_46 (by rw [lr3.out, lz.out]) (by rw [lr3.out]; exact infoA16) one3.out ?_
                  intro wa hka hga
                  refine hK.out _ _ ?ts59 (fun hHeld => ?_)
                  case ts59 => ((try dsimp only); exact (hs46).grown hga (by have hq := (hs46).size; have := HK5.out; omega) (by intro k hk; simp at hk; omega))
                  clear hK K
                  have hkb := (nb8_46).keep_grown hga (by simp; omega)
                  have hSa := hHeld
                  refine stepG 10 (by kernel_rfl) (by simp only [List.getElem?_toArray, List.getElem?_cons_succ, List.getElem?_cons_zero]; rfl) (fun K hK => ?_)
                  refine step_store_blk rfl 22 (.tmp 13) (.tmp 52) rfl rfl rfl hkb (by rw [lr4.out, lz.out]) (by rw [lr4.out]; exact infoA16) one4.out ?_
                  intro wb hkb2 hgb
                  refine hK.out _ _ ?ts60 (fun hHeld => ?_)
                  case ts60 => ((try dsimp only); exact hSa.grown hgb (by have hq := hSa.size; have := HK5.out; omega) (by intro k hk; simp at hk; omega))
                  clear hK K
                  have hka2 := hka.keep_grown hgb (by simp; omega)
                  refine doneG (by kernel_rfl) ?_ _
                  go_wp2_with fail
                  go_meet
                  exact ⟨_, _, rfl, rfl, hka2, hkb2, hHeld⟩
              · refine StepOf.mk 8 (by simp only [List.getElem?_toArray, List.getElem?_cons_succ, List.getElem?_cons_zero]; rfl) (fun K hK => ?_)
                go_simp
                obtain ⟨ws47, hw47⟩ : ∃ wx : World, wx = ws36.alloc (.cells z.toArray 22) := ⟨_, rfl⟩
                rw [← hw47]
                have hbs47 : Below ws36.heap.size ws36 ws47 := by rw [hw47]; exact below_new _ _
                have nbs47 : Blk ws47 ws36.heap.size 22 z.toArray := by rw [hw47]; exact Blk.new _ _ _
                have szs47 : ws36.heap.size < ws47.heap.size := by rw [hw47]; simp
                clear hw47
                have ges47 : K5 ≤ ws36.heap.size := (by have hq := (hs36).size; have := HK5.out; omega)
                refine hK.out _ _ ?tu47 (fun hs47 => ?_)
                case tu47 => exact keepS _ _ hs36 hbs47
                clear hK K
                have nb5_47 := nbs36.below hbs47 nbs36.lt
                refine stepG2 6 7 (by kernel_rfl) ?_ ?_
                · refine StepOf.mk 6 (by simp only [List.getElem?_toArray, List.getElem?_cons_succ, List.getElem?_cons_zero]; rfl) (fun K hK => ?_)
                  go_simp
                  refine (sum_o hb cx cr4 [] (List.replicate k 0) Hcx Hcr4 HX.out none 0 0 _ k k _ (Rd.none_ _) (rd_blk0 HZZ.out nb5_47 (by omega)) (by omega) (by omega)).mono ?_
                  rintro e ws48 ⟨rfl, hbs48⟩
                  have szs48 := hbs48.size
                  refine hK.out _ _ ?tu48 (fun hs48 => ?_)
                  case tu48 => exact keepS _ _ hs47 hbs48
                  clear hK K
                  have nb5_48 := nb5_47.below hbs48 nb5_47.lt
                  have nb8_48 := nbs47.below hbs48 nbs47.lt
                  refine stepG 7 (by kernel_rfl) (by simp only [List.getElem?_toArray, List.getElem?_cons_succ, List.getElem?_cons_zero]; rfl) (fun K hK => ?_)
                  go_simp
                  obtain ⟨ws49, hw49⟩ : ∃ wx : World, wx = ws48.alloc (.cells z.toArray 22) := ⟨_, rfl⟩
                  rw [← hw49]
                  have hbs49 : Below ws48.heap.size ws48 ws49 := by rw [hw49]; exact below_new _ _
                  have nbs49 : Blk ws49 ws48.heap.size 22 z.toArray := by rw [hw49]; exact Blk.new _ _ _
                  have szs49 : ws48.heap.size < ws49.heap.size := by rw [hw49]; simp
                  clear hw49
                  have ges49 : K5 ≤ ws48.heap.size := (by have hq := (hs48).size; have := HK5.out; omega)
                  refine hK.out _ _ ?tu49 (fun hs49 => ?_)
                  case tu49 => exact keepS _ _ hs48 hbs49
                  clear hK K
                  have nb5_49 := nb5_48.below hbs49 nb5_48.lt
                  have nb8_49 := nb8_48.below hbs49 nb8_48.lt
                  refine stepG 9 (by kernel_rfl) (by simp only [List.getElem?_toArray, List.getElem?_cons_succ, List.getElem?_cons_zero]; rfl) (fun K hK => ?_)
                  refine step_store_blk rfl 22 (.tmp 12) (.tmp 48) rfl rfl rfl nbs49 (by rw [lr3.out, lz.out]) (by rw [lr3.out]; exact infoA16) one3.out ?_
                  intro wa hka hga
                  refine hK.out _ _ ?ts61 (fun hHeld => ?_)
                  case ts61 => ((try dsimp only); exact (hs49).grown hga (by have hq := (hs49).size; have := HK5.out; omega) (by intro k hk; simp at hk; omega))
                  clear hK K
                  have hkb := (nb8_49).keep_grown hga (by simp; omega)
                  have hSa := hHeld
                  refine stepG 10 (by kernel_rfl) (by simp only [List.getElem?_toArray, List.getElem?_cons_succ, List.getElem?_cons_zero]; rfl) (fun K hK => ?_)
                  refine step_store_blk rfl 22 (.tmp 13) (.tmp 52) rfl rfl rfl hkb (by rw [lr4.out, lz.out]) (by rw [lr4.out]; exact infoA16) one4.out ?_
                  intro wb hkb2 hgb
                  refine hK.out _ _ ?ts62 (fun hHeld => ?_)
                  case ts62 => ((try dsimp only); exact hSa.grown hgb (by have hq := hSa.size; have := HK5.out; omega) (by intro k hk; simp at hk; omega))
                  clear hK K
                  have hka2 := hka.keep_grown hgb (by simp; omega)
                  refine doneG (by kernel_rfl) ?_ _
                  go_wp2_with fail
                  go_meet
                  exact ⟨_, _, rfl, rfl, hka2, hkb2, hHeld⟩
                · refine StepOf.mk 7 (by simp only [List.getElem?_toArray, List.getElem?_cons_succ, List.getElem?_cons_zero]; rfl) (fun K hK => ?_)
                  go_simp
                  obtain ⟨ws50, hw50⟩ : ∃ wx : World, wx = ws47.alloc (.cells z.toArray 22) := ⟨_, rfl⟩
                  rw [← hw50]
                  have hbs50 : Below ws47.heap.size ws47 ws50 := by rw [hw50]; exact below_new _ _
                  have nbs50 : Blk ws50 ws47.heap.size 22 z.toArray := by rw [hw50]; exact Blk.new _ _ _
                  have szs50 : ws47.heap.size < ws50.heap.size := by rw [hw50]; simp
                  clear hw50
                  have ges50 : K5 ≤ ws47.heap.size := (by have hq := (hs47).size; have := HK5.out; omega)
                  refine hK.out _ _ ?tu50 (fun hs50 => ?_)
                  case tu50 => exact keepS _ _ hs47 hbs50
                  clear hK K
                  have nb5_50 := nb5_47.below hbs50 nb5_47.lt
                  have nb8_50 := nbs47.below hbs50 nbs47.lt
                  refine stepG 6 (by kernel_rfl) (by simp only [List.getElem?_toArray, List.getElem?_cons_succ, List.getElem?_cons_zero]; rfl) (fun K hK => ?_)
                  go_simp
                  refine (sum_o hb cx cr4 [] (List.replicate k 0) Hcx Hcr4 HX.out none 0 0 _ k k _ (Rd.none_ _) (rd_blk0 HZZ.out nb5_50 (by omega)) (by omega) (by omega)).mono ?_
                  rintro e ws51 ⟨rfl, hbs51⟩
                  have szs51 := hbs51.size
                  refine hK.out _ _ ?tu51 (fun hs51 => ?_)
                  case tu51 => exact keepS _ _ hs50 hbs51
                  clear hK K
                  have nb5_51 := nb5_50.below hbs51 nb5_50.lt
                  have nb8_51 := nb8_50.below hbs51 nb8_50.lt
                  have nb7_51 := nbs50.below hbs51 nbs50.lt
                  refine stepG 9 (by kernel_rfl) (by simp only [List.getElem?_toArray, List.getElem?_cons_succ, List.getElem?_cons_zero]; rfl) (fun K hK => ?_)
                  refine step_store_blk rfl 22 (.tmp 12) (.tmp 48) rfl rfl rfl nb7_51 (by rw [lr3.out, lz.out]) (by rw [lr3.out]; exact infoA16) one3.out ?_
                  intro wa hka hga
                  refine hK.out _ _ ?ts63 (fun hHeld => ?_)
                  case ts63 => ((try dsimp only); exact (hs51).grown hga (by have hq := (hs51).size; have := HK5.out; omega) (by intro k hk; simp at hk; omega))
                  clear hK K
                  have hkb := (nb8_51).keep_grown hga (by simp; omega)
                  have hSa := hHeld
                  refine stepG 10 (by kernel_rfl) (by simp only [List.getElem?_toArray, List.getElem?_cons_succ, List.getElem?_cons_zero]; rfl) (fun K hK => ?_)
                  refine step_store_blk rfl 22 (.tmp 13) (.tmp 52) rfl rfl rfl hkb (by rw [lr4.out, lz.out]) (by rw [lr4.out]; exact infoA16) one4.out ?_
                  intro wb hkb2 hgb
                  refine hK.out _ _ ?ts64 (fun hHeld => ?_)
                  case ts64 => ((try dsimp only); exact hSa.grown hgb (by have hq := hSa.size; have := HK5.out; omega) (by intro k hk; simp at hk; omega))
                  clear hK K
                  have hka2 := hka.keep_grown hgb (by simp; omega)
                  refine doneG (by kernel_rfl) ?_ _
                  go_wp2_with fail
                  go_meet
                  exact ⟨_, _, rfl, rfl, hka2, hkb2, hHeld⟩
            · refine StepOf.mk 7 (by simp only [List.getElem?_toArray, List.getElem?_cons_succ, List.getElem?_cons_zero]; rfl) (fun K hK => ?_)
              go_simp
              obtain ⟨ws52, hw52⟩ : ∃ wx : World, wx = ws35.alloc (.cells z.toArray 22) := ⟨_, rfl⟩
              rw [← hw52]
              have hbs52 : Below ws35.heap.size ws35 ws52 := by rw [hw52]; exact below_new _ _
              have nbs52 : Blk ws52 ws35.heap.size 22 z.toArray := by rw [hw52]; exact Blk.new _ _ _
              have szs52 : ws35.heap.size < ws52.heap.size := by rw [hw52]; simp
              clear hw52
              have ges52 : K5 ≤ ws35.heap.size := (by have hq := (hs35).size; have := HK5.out; omega)
              refine hK.out _ _ ?tu52 (fun hs52 => ?_)
              case tu52 => exact keepS _ _ hs35 hbs52
              clear hK K
              refine stepG2 5 8 (by kernel_rfl) ?_ ?_
              · refine StepOf.mk 5 (by simp only [List.getElem?_toArray, List.getElem?_cons_succ, List.getElem?_cons_zero]; rfl) (fun K hK => ?_)
                go_simp
                obtain ⟨ws53, hw53⟩ : ∃ wx : World, wx = ws52.alloc (.cells Z.toArray 5) := ⟨_, rfl⟩
                rw [← hw53]
                have hbs53 : Below ws52.heap.size ws52 ws53 := by rw [hw53]; exact below_new _ _
                have nbs53 : Blk ws53 ws52.heap.size 5 Z.toArray := by rw [hw53]; exact Blk.new _ _ _
                have szs53 : ws52.heap.size < ws53.heap.size := by rw [hw53]; simp
                clear hw53
                have ges53 : K5 ≤ ws52.heap.size := (by have hq := (hs52).size; have := HK5.out; omega)
                refine hK.out _ _ ?tu53 (fun hs53 => ?_)
                case tu53 => exact keepS _ _ hs52 hbs53
                clear hK K
                have nb7_53 := nbs52.below hbs53 nbs52.lt
                refine stepG2 6 8 (by kernel_rfl) ?_ ?_
                · refine StepOf.mk 6 (by simp only [List.getElem?_toArray, List.getElem?_cons_succ, List.getElem?_cons_zero]; rfl) (fun K hK => ?_)
                  go_simp
                  refine (sum_o hb cx cr4 [] (List.replicate k 0) Hcx Hcr4 HX.out none 0 0 _ k k _ (Rd.none_ _) (rd_blk0 HZZ.out nbs53 (by omega)) (by omega) (by omega)).mono ?_
                  rintro e ws54 ⟨rfl, hbs54⟩
                  have szs54 := hbs54.size
                  refine hK.out _ _ ?tu54 (fun hs54 => ?_)
                  case tu54 => exact keepS _ _ hs53 hbs54
                  clear hK K
                  have nb7_54 := nb7_53.below hbs54 nb7_53.lt
                  have nb5_54 := nbs53.below hbs54 nbs53.lt
                  refine stepG 8 (by kernel_rfl) (by simp only [List.getElem?_toArray, List.getElem?_cons_succ, List.getElem?_cons_zero]; rfl) (fun K hK => ?_)
                  go_simp
                  obtain ⟨ws55, hw55⟩ : ∃ wx : World, wx = ws54.alloc (.cells z.toArray 22) := ⟨_, rfl⟩
                  rw [← hw55]
                  have hbs55 : Below ws54.heap.size ws54 ws55 := by rw [hw55]; exact below_new _ _
                  have nbs55 : Blk ws55 ws54.heap.size 22 z.toArray := by rw [hw55]; exact Blk.new _ _ _
                  have szs55 : ws54.heap.size < ws55.heap.size := by rw [hw55]; simp
                  clear hw55
                  have ges55 : K5 ≤ ws54.heap.size := (by have hq := (hs54).size; have := HK5.out; omega)
                  refine hK.out _ _ ?tu55 (fun hs55 => ?_)
                  case tu55 => exact keepS _ _ hs54 hbs55
                  clear hK K
                  have nb7_55 := nb7_54.below hbs55 nb7_54.lt
                  have nb5_55 := nb5_54.below hbs55 nb5_54.lt
                  refine stepG 9 (by kernel_rfl) (by simp only [List.getElem?_toArray, List.getElem?_cons_succ, List.getElem?_cons_zero]; rfl) (fun K hK => ?_)
                  refine step_store_blk rfl 22 (.tmp 12) (.tmp 48) rfl rfl rfl nb7_55 (by rw [lr3.out, lz.out]) (by rw [lr3.out]; exact infoA16) one3.out ?_
                  intro wa hka hga
                  refine hK.out _ _ ?ts65 (fun hHeld => ?_)
                  case ts65 => ((try dsimp only); exact (hs55).grown hga (by have hq := (hs55).size; have := HK5.out; omega) (by intro k hk; simp at hk; omega))
                  clear hK K
                  have hkb := (nbs55).keep_grown hga (by simp; omega)
                  have hSa := hHeld
                  refine stepG 10 (by kernel_rfl) (by simp only [List.getElem?_toArray, List.getElem?_cons_succ, List.getElem?_cons_zero]; rfl) (fun K hK => ?_)
                  refine step_store_blk rfl 22 (.tmp 13) (.tmp 52) rfl rfl rfl hkb (by rw [lr4.out, lz.out]) (by rw [lr4.out]; exact infoA16) one4.out ?_
                  intro wb hkb2 hgb
                  refine hK.out _ _ ?ts66 (fun hHeld => ?_)
                  case ts66 => ((try dsimp only); exact hSa.grown hgb (by have hq := hSa.size; have := HK5.out; omega) (by intro k hk; simp at hk; omega))
                  clear hK K
                  have hka2 := hka.keep_grown hgb (by simp; omega)
                  refine doneG (by kernel_rfl) ?_ _
                  go_wp2_with fail
                  go_meet
                  exact ⟨_, _, rfl, rfl, hka2, hkb2, hHeld⟩
                · refine StepOf.mk 8 (by simp only [List.getElem?_toArray, List.getElem?_cons_succ, List.getElem?_cons_zero]; rfl) (fun K hK => ?_)
                  go_simp
                  obtain ⟨ws56, hw56⟩ : ∃ wx : World, wx = ws53.alloc (.cells z.toArray 22) := ⟨_, rfl⟩
                  rw [← hw56]
                  have hbs56 : Below ws53.heap.size ws53 ws56 := by rw [hw56]; exact below_new _ _
                  have nbs56 : Blk ws56 ws53.heap.size 22 z.toArray := by rw [hw56]; exact Blk.new _ _ _
                  have szs56 : ws53.heap.size < ws56.heap.size := by rw [hw56]; simp
                  clear hw56
                  have ges56 : K5 ≤ ws53.heap.size := (by have hq := (hs53).size; have := HK5.out; omega)
                  refine hK.out _ _ ?tu56 (fun hs56 => ?_)
                  case tu56 => exact keepS _ _ hs53 hbs56
                  clear hK K
                  have nb7_56 := nb7_53.below hbs56 nb7_53.lt
                  have nb5_56 := nbs53.below hbs56 nbs53.lt
                  refine stepG 6 (by kernel_rfl) (by simp only [List.getElem?_toArray, List.getElem?_cons_succ, List.getElem?_cons_zero]; rfl) (fun K hK => ?_)
                  go_simp
                  refine (sum_o hb cx cr4 [] (List.replicate k 0) Hcx Hcr4 HX.out none 0 0 _ k k _ (Rd.none_ _) (rd_blk0 HZZ.out nb5_56 (by omega)) (by omega) (by omega)).mono ?_
                  rintro e ws57 ⟨rfl, hbs57⟩
                  have szs57 := hbs57.size
                  refine hK.out _ _ ?tu57 (fun hs57 => ?_)
                  case tu57 => exact keepS _ _ hs56 hbs57
                  clear hK K
                  have nb7_57 := nb7_56.below hbs57 nb7_56.lt
                  have nb5_57 := nb5_56.below hbs57 nb5_56.lt
                  have nb8_57 := nbs56.below hbs57 nbs56.lt
                  refine stepG 9 (by kernel_rfl) (by simp only [List.getElem?_toArray, List.getElem?_cons_succ, List.getElem?_cons_zero]; rfl) (fun K hK => ?_)
                  refine step_store_blk rfl 22 (.tmp 12) (.tmp 48) rfl rfl rfl nb7_57 (by rw [lr3.out, lz.out]) (by rw [lr3.out]; exact infoA16) one3.out ?_
                  intro wa hka hga
                  refine hK.out _ _ ?ts67 (fun hHeld => ?_)
                  case ts67 => ((try dsimp only); exact (hs57).grown hga (by have hq := (hs57).size; have := HK5.out; omega) (by intro k hk; simp at hk; omega))
                  clear hK K
                  have hkb := (nb8_57).keep_grown hga (by simp; omega)
                  have hSa := hHeld
                  refine stepG 10 (by kernel_rfl) (by simp only [List.getElem?_toArray, List.getElem?_cons_succ, List.getElem?_cons_zero]; rfl) (fun K hK => ?_)
                  refine step_store_blk rfl 22 (.tmp 13) (.tmp 52) rfl rfl rfl hkb (by rw [lr4.out, lz.out]) (by rw [lr4.out]; exact infoA16) one4.out ?_
                  intro wb hkb2 hgb
                  refine hK.out _ _ ?ts68 (fun hHeld => ?_)
                  case ts68 => ((try dsimp only); exact hSa.grown hgb (by have hq := hSa.size; have := HK5.out; omega) (by intro k hk; simp at hk; omega))
                  clear hK K
                  have hka2 := hka.keep_grown hgb (by simp; omega)
                  refine doneG (by kernel_rfl) ?_ _
                  go_wp2_with fail
                  go_meet
                  exact ⟨_, _, rfl, rfl, hka2, hkb2, hHeld⟩
              · refine StepOf.mk 8 (by simp only [List.getElem?_toArray, List.getElem?_cons_succ, List.getElem?_cons_zero]; rfl) (fun K hK => ?_)
                go_simp
                obtain ⟨ws58, hw58⟩ : ∃ wx : World, wx = ws52.alloc (.cells z.toArray 22) := ⟨_, rfl⟩
                rw [← hw58]
                have hbs58 : Below ws52.heap.size ws52 ws58 := by rw [hw58]; exact below_new _ _
                have nbs58 : Blk ws58 ws52.heap.size 22 z.toArray := by rw [hw58]; exact Blk.new _ _ _
                have szs58 : ws52.heap.size < ws58.heap.size := by rw [hw58]; simp
                clear hw58
                have ges58 : K5 ≤ ws52.heap.size := (by have hq := (hs52).size; have := HK5.out; omega)
                refine hK.out _ _ ?tu58 (fun hs58 => ?_)
                case tu58 => exact keepS _ _ hs52 hbs58
                clear hK K
                have nb7_58 := nbs52.below hbs58 nbs52.lt
                refine stepG 5 (by kernel_rfl) (by simp only [List.getElem?_toArray, List.getElem?_cons_succ, List.getElem?_cons_zero]; rfl) (fun K hK => ?_)
                go_simp
                obtain ⟨ws59, hw59⟩ : ∃ wx : World, wx = ws58.alloc (.cells Z.toArray 5) := ⟨_, rfl⟩
                rw [← hw59]
                have hbs59 : Below ws58.heap.size ws58 ws59 := by rw [hw59]; exact below_new _ _
                have nbs59 : Blk ws59 ws58.heap.size 5 Z.toArray := by rw [hw59]; exact Blk.new _ _ _
                have szs59 : ws58.heap.size < ws59.heap.size := by rw [hw59]; simp
                clear hw59
                have ges59 : K5 ≤ ws58.heap.size := (by have hq := (hs58).size; have := HK5.out; omega)
                refine hK.out _ _ ?tu59 (fun hs59 => ?_)
                case tu59 => exact keepS _ _ hs58 hbs59
                clear hK K
                have nb7_59 := nb7_58.below hbs59 nb7_58.lt
                have nb8_59 := nbs58.below hbs59 nbs58.lt
                refine stepG 6 (by kernel_rfl) (by simp only [List.getElem?_toArray, List.getElem?_cons_succ, List.getElem?_cons_zero]; rfl) (fun K hK => ?_)
                go_simp
                refine (sum_o hb cx cr4 [] (List.replicate k 0) Hcx Hcr4 HX.out none 0 0 _ k k _ (Rd.none_ _) (rd_blk0 HZZ.out nbs59 (by omega)) (by omega) (by omega)).mono ?_
                rintro e ws60 ⟨rfl, hbs60⟩
                have szs60 := hbs60.size
                refine hK.out _ _ ?tu60 (fun hs60 => ?_)
                case tu60 => exact keepS _ _ hs59 hbs60
                clear hK K
                have nb7_60 := nb7_59.below hbs60 nb7_59.lt
                have nb8_60 := nb8_59.below hbs60 nb8_59.lt
                have nb5_60 := nbs59.below hbs60 nbs59.lt
                refine stepG 9 (by kernel_rfl) (by simp only [List.getElem?_toArray, List.getElem?_cons_succ, List.getElem?_cons_zero]; rfl) (fun K hK => ?_)
                refine step_store_blk rfl 22 (.tmp 12) (.tmp 48) rfl rfl rfl nb7_60 (by rw [lr3.out, lz.out]) (by rw [lr3.out]; exact infoA16) one3.out ?_
                intro wa hka hga
                refine hK.out _ _ ?ts69 (fun hHeld => ?_)
                case ts69 => ((try dsimp only); exact (hs60).grown hga (by have hq := (hs60).size; have := HK5.out; omega) (by intro k hk; simp at hk; omega))
                clear hK K
                have hkb := (nb8_60).keep_grown hga (by simp; omega)
                have hSa := hHeld
                refine stepG 10 (by kernel_rfl) (by simp only [List.getElem?_toArray, List.getElem?_cons_succ, List.getElem?_cons_zero]; rfl) (fun K hK => ?_)
                refine step_store_blk rfl 22 (.tmp 13) (.tmp 52) rfl rfl rfl hkb (by rw [lr4.out, lz.out]) (by rw [lr4.out]; exact infoA16) one4.out ?_
                intro wb hkb2 hgb
                refine hK.out _ _ ?ts70 (fun hHeld => ?_)
                case ts70 => ((try dsimp only); exact hSa.grown hgb (by have hq := hSa.size; have := HK5.out; omega) (by intro k hk; simp at hk; omega))
                clear hK K
                have hka2 := hka.keep_grown hgb (by simp; omega)
                refine doneG (by kernel_rfl) ?_ _
                go_wp2_with fail
                go_meet
                exact ⟨_, _, rfl, rfl, hka2, hkb2, hHeld⟩
            · refine StepOf.mk 8 (by simp only [List.getElem?_toArray, List.getElem?_cons_succ, List.getElem?_cons_zero]; rfl) (fun K hK => ?_)
              go_simp
              obtain ⟨ws61, hw61⟩ : ∃ wx : World, wx = ws35.alloc (.cells z.toArray 22) := ⟨_, rfl⟩
              rw [← hw61]
              have hbs61 : Below ws35.heap.size ws35 ws61 := by rw [hw61]; exact below_new _ _
              have nbs61 : Blk ws61 ws35.heap.size 22 z.toArray := by rw [hw61]; exact Blk.new _ _ _
              have szs61 : ws35.heap.size < ws61.heap.size := by rw [hw61]; simp
              clear hw61
              have ges61 : K5 ≤ ws35.heap.size := (by have hq := (hs35).size; have := HK5.out; omega)
              refine hK.out _ _ ?tu61 (fun hs61 => ?_)
              case tu61 => exact keepS _ _ hs35 hbs61
              clear hK K
              refine stepG2 5 7 (by kernel_rfl) ?_ ?_
              · refine StepOf.mk 5 (by simp only [List.getElem?_toArray, List.getElem?_cons_succ, List.getElem?_cons_zero]; rfl) (fun K hK => ?_)
                go_simp
                obtain ⟨ws62, hw62⟩ : ∃ wx : World, wx = ws61.alloc (.cells Z.toArray 5) := ⟨_, rfl⟩
                rw [← hw62]
                have hbs62 : Below ws61.heap.size ws61 ws62 := by rw [hw62]; exact below_new _ _
                have nbs62 : Blk ws62 ws61.heap.size 5 Z.toArray := by rw [hw62]; exact Blk.new _ _ _
                have szs62 : ws61.heap.size < ws62.heap.size := by rw [hw62]; simp
                clear hw62
                have ges62 : K5 ≤ ws61.heap.size := (by have hq := (hs61).size; have := HK5.out; omega)
                refine hK.out _ _ ?tu62 (fun hs62 => ?_)
                case tu62 => exact keepS _ _ hs61 hbs62
                clear hK K
                have nb8_62 := nbs61.below hbs62 nbs61.lt
                refine stepG2 6 7 (by kernel_rfl) ?_ ?_
                · refine StepOf.mk 6 (by simp only [List.getElem?_toArray, List.getElem?_cons_succ, List.getElem?_cons_zero]; rfl) (fun K hK => ?_)
                  go_simp
                  refine (sum_o hb cx cr4 [] (List.replicate k 0) Hcx Hcr4 HX.out none 0 0 _ k k _ (Rd.none_ _) (rd_blk0 HZZ.out nbs62 (by omega)) (by omega) (by omega)).mono ?_
                  rintro e ws63 ⟨rfl, hbs63⟩
                  have szs63 := hbs63.size
                  refine hK.out _ _ ?tu63 (fun hs63 => ?_)
                  case tu63 => exact keepS _ _ hs62 hbs63
                  clear hK K
                  have nb8_63 := nb8_62.below hbs63 nb8_62.lt
                  have nb5_63 := nbs62.below hbs63 nbs62.lt
                  refine stepG 7 (by kernel_rfl) (by simp only [List.getElem?_toArray, List.getElem?_cons_succ, List.getElem?_cons_zero]; rfl) (fun K hK => ?_)
                  go_simp
                  obtain ⟨ws64, hw64⟩ : ∃ wx : World, wx = ws63.alloc (.cells z.toArray 22) := ⟨_, rfl⟩
                  rw [← hw64]
                  have hbs64 : Below ws63.heap.size ws63 ws64 := by rw [hw64]; exact below_new _ _
                  have nbs64 : Blk ws64 ws63.heap.size 22 z.toArray := by rw [hw64]; exact Blk.new _ _ _
                  have szs64 : ws63.heap.size < ws64.heap.size := by rw [hw64]; simp
                  clear hw64
                  have ges64 : K5 ≤ ws63.heap.size := (by have hq := (hs63).size; have := HK5.out; omega)
                  refine hK.out _ _ ?tu64 (fun hs64 => ?_)
                  case tu64 => exact keepS _ _ hs63 hbs64
                  clear hK K
                  have nb8_64 := nb8_63.below hbs64 nb8_63.lt
                  have nb5_64 := nb5_63.below hbs64 nb5_63.lt
                  refine stepG 9 (by kernel_rfl) (by simp only [List.getElem?_toArray, List.getElem?_cons_succ, List.getElem?_cons_zero]; rfl) (fun K hK => ?_)
                  refine step_store_blk rfl 22 (.tmp 12) (.tmp 48) rfl rfl rfl nbs64 (by rw [lr3.out, lz.out]) (by rw [lr3.out]; exact infoA16) one3.out ?_
                  intro wa hka hga
                  refine hK.out _ _ ?ts71 (fun hHeld => ?_)
                  case ts71 => ((try dsimp only); exact (hs64).grown hga (by have hq := (hs64).size; have := HK5.out; omega) (by intro k hk; simp at hk; omega))
                  clear hK K
                  have hkb := (nb8_64).keep_grown hga (by simp; omega)
                  have hSa := hHeld
                  refine stepG 10 (by kernel_rfl) (by simp only [List.getElem?_toArray, List.getElem?_cons_succ, List.getElem?_cons_zero]; rfl) (fun K hK => ?_)
                  refine step_store_blk rfl 22 (.tmp 13) (.tmp 52) rfl rfl rfl hkb (by rw [lr4.out, lz.out]) (by rw [lr4.out]; exact infoA16) one4.out ?_
                  intro wb hkb2 hgb
                  refine hK.out _ _ ?ts72 (fun hHeld => ?_)
                  case ts72 => ((try dsimp only); exact hSa.grown hgb (by have hq := hSa.size; have := HK5.out; omega) (by intro k hk; simp at hk; omega))
                  clear hK K
                  have hka2 := hka.keep_grown hgb (by simp; omega)
                  refine doneG (by kernel_rfl) ?_ _
                  go_wp2_with fail
                  go_meet
                  exact ⟨_, _, rfl, rfl, hka2, hkb2, hHeld⟩
                · refine StepOf.mk 7 (by simp only [List.getElem?_toArray, List.getElem?_cons_succ, List.getElem?_cons_zero]; rfl) (fun K hK => ?_)
                  go_simp
                  obtain ⟨ws65, hw65⟩ : ∃ wx : World, wx = ws62.alloc (.cells z.toArray 22) := ⟨_, rfl⟩
                  rw [← hw65]
                  have hbs65 : Below ws62.heap.size ws62 ws65 := by rw [hw65]; exact below_new _ _
                  have nbs65 : Blk ws65 ws62.heap.size 22 z.toArray := by rw [hw65]; exact Blk.new _ _ _
                  have szs65 : ws62.heap.size < ws65.heap.size := by rw [hw65]; simp
                  clear hw65
                  have ges65 : K5 ≤ ws62.heap.size := (by have hq := (hs62).size; have := HK5.out; omega)
                  refine hK.out _ _ ?tu65 (fun hs65 => ?_)
                  case tu65 => exact keepS _ _ hs62 hbs65
                  clear hK K
                  have nb8_65 := nb8_62.below hbs65 nb8_62.lt
                  have nb5_65 := nbs62.below hbs65 nbs62.lt
                  refine stepG 6 (by kernel_rfl) (by simp only [List.getElem?_toArray, List.getElem?_cons_succ, List.getElem?_cons_zero]; rfl) (fun K hK => ?_)
                  go_simp
                  refine (sum_o hb cx cr4 [] (List.replicate k 0) Hcx Hcr4 HX.out none 0 0 _ k k _ (Rd.none_ _) (rd_blk0 HZZ.out nb5_65 (by omega)) (by omega) (by omega)).mono ?_
                  rintro e ws66 ⟨rfl, hbs66⟩
                  have szs66 := hbs66.size
                  refine hK.out _ _ ?tu66 (fun hs66 => ?_)
                  case tu66 => exact keepS _ _ hs65 hbs66
                  clear hK K
                  have nb8_66 := nb8_65.below hbs66 nb8_65.lt
                  have nb5_66 := nb5_65.below hbs66 nb5_65.lt
                  have nb7_66 := nbs65.below hbs66 nbs65.lt
                  refine stepG 9 (by kernel_rfl) (by simp only [List.getElem?_toArray, List.getElem?_cons_succ, List.getElem?_cons_zero]; rfl) (fun K hK => ?_)
                  refine step_store_blk rfl 22 (.tmp 12) (.tmp 48) rfl rfl rfl nb7_66 (by rw [lr3.out, lz.out]) (by rw [lr3.out]; exact infoA16) one3.out ?_
                  intro wa hka hga
                  refine hK.out _ _ ?ts73 (fun hHeld => ?_)
                  case ts73 => ((try dsimp only); exact (hs66).grown hga (by have hq := (hs66).size; have := HK5.out; omega) (by intro k hk; simp at hk; omega))
                  clear hK K
                  have hkb := (nb8_66).keep_grown hga (by simp; omega)
                  have hSa := hHeld
                  refine stepG 10 (by kernel_rfl) (by simp only [List.getElem?_toArray, List.getElem?_cons_succ, List.getElem?_cons_zero]; rfl) (fun K hK => ?_)
                  refine step_store_blk rfl 22 (.tmp 13) (.tmp 52) rfl rfl rfl hkb (by rw [lr4.out, lz.out]) (by rw [lr4.out]; exact infoA16) one4.out ?_
                  intro wb hkb2 hgb
                  refine hK.out _ _ ?ts74 (fun hHeld => ?_)
                  case ts74 => ((try dsimp only); exact hSa.grown hgb (by have hq := hSa.size; have := HK5.out; omega) (by intro k hk; simp at hk; omega))
                  clear hK K
                  have hka2 := hka.keep_grown hgb (by simp; omega)
                  refine doneG (by kernel_rfl) ?_ _
                  go_wp2_with fail
                  go_meet
                  exact ⟨_, _, rfl, rfl, hka2, hkb2, hHeld⟩
              · refine StepOf.mk 7 (by simp only [List.getElem?_toArray, List.getElem?_cons_succ, List.getElem?_cons_zero]; rfl) (fun K hK => ?_)
                go_simp
                obtain ⟨ws67, hw67⟩ : ∃ wx : World, wx = ws61.alloc (.cells z.toArray 22) := ⟨_, rfl⟩
                rw [← hw67]
                have hbs67 : Below ws61.heap.size ws61 ws67 := by rw [hw67]; exact below_new _ _
                have nbs67 : Blk ws67 ws61.heap.size 22 z.toArray := by rw [hw67]; exact Blk.new _ _ _
                have szs67 : ws61.heap.size < ws67.heap.size := by rw [hw67]; simp
                clear hw67
                have ges67 : K5 ≤ ws61.heap.size := (by have hq := (hs61).size; have := HK5.out; omega)
                refine hK.out _ _ ?tu67 (fun hs67 => ?_)
                case tu67 => exact keepS _ _ hs61 hbs67
                clear hK K
                have nb8_67 := nbs61.below hbs67 nbs61.lt
                refine stepG 5 (by kernel_rfl) (by simp only [List.getElem?_toArray, List.getElem?_cons_succ, List.getElem?_cons_zero]; rfl) (fun K hK => ?_)
                go_simp
                obtain ⟨ws68, hw68⟩ : ∃ wx : World, wx = ws67.alloc (.cells Z.toArray 5) := ⟨_, rfl⟩
                rw [← hw68]
                have hbs68 : Below ws67.heap.size ws67 ws68 := by rw [hw68]; exact below_new _ _
                have nbs68 : Blk ws68 ws67.heap.size 5 Z.toArray := by rw [hw68]; exact Blk.new _ _ _
                have szs68 : ws67.heap.size < ws68.heap.size := by rw [hw68]; simp
                clear hw68
                have ges68 : K5 ≤ ws67.heap.size := (by have hq := (hs67).size; have := HK5.out; omega)
                refine hK.out _ _ ?tu68 (fun hs68 => ?_)
                case tu68 => exact keepS _ _ hs67 hbs68
                clear hK K
                have nb8_68 := nb8_67.below hbs68 nb8_67.lt
                have nb7_68 := nbs67.below hbs68 nbs67.lt
                refine stepG 6 (by kernel_rfl) (by simp only [List.getElem?_toArray, List.getElem?_cons_succ, List.getElem?_cons_zero]; rfl) (fun K hK => ?_)
                go_simp
                refine (sum_o hb cx cr4 [] (List.replicate k 0) Hcx Hcr4 HX.out none 0 0 _ k k _ (Rd.none_ _) (rd_blk0 HZZ.out nbs68 (by omega)) (by omega) (by omega)).mono ?_
                rintro e ws69 ⟨rfl, hbs69⟩
                have szs69 := hbs69.size
                refine hK.out _ _ ?tu69 (fun hs69 => ?_)
                case tu69 => exact keepS _ _ hs68 hbs69
                clear hK K
                have nb8_69 := nb8_68.below hbs69 nb8_68.lt
                have nb7_69 := nb7_68.below hbs69 nb7_68.lt
                have nb5_69 := nbs68.below hbs69 nbs68.lt
                refine stepG 9 (by kernel_rfl) (by simp only [List.getElem?_toArray, List.getElem?_cons_succ, List.getElem?_cons_zero]; rfl) (fun K hK => ?_)
                refine step_store_blk rfl 22 (.tmp 12) (.tmp 48) rfl rfl rfl nb7_69 (by rw [lr3.out, lz.out]) (by rw [lr3.out]; exact infoA16) one3.out ?_
                intro wa hka hga
                refine hK.out _ _ ?ts75 (fun hHeld => ?_)
                case ts75 => ((try dsimp only); exact (hs69).grown hga (by have hq := (hs69).size; have := HK5.out; omega) (by intro k hk; simp at hk; omega))
                clear hK K
                have hkb := (nb8_69).keep_grown hga (by simp; omega)
                have hSa := hHeld
                refine stepG 10 (by kernel_rfl) (by simp only [List.getElem?_toArray, List.getElem?_cons_succ, List.getElem?_cons_zero]; rfl) (fun K hK => ?_)
                refine step_store_blk rfl 22 (.tmp 13) (.tmp 52) rfl rfl rfl hkb (by rw [lr4.out, lz.out]) (by rw [lr4.out]; exact infoA16) one4.out ?_
                intro wb hkb2 hgb
                refine hK.out _ _ ?ts76 (fun hHeld => ?_)
                case ts76 => ((try dsimp only); exact hSa.grown hgb (by have hq := hSa.size; have := HK5.out; omega) (by intro k hk; simp at hk; omega))
                clear hK K
                have hka2 := hka.keep_grown hgb (by simp; omega)
                refine doneG (by kernel_rfl) ?_ _
                go_wp2_with fail
                go_meet
                exact ⟨_, _, rfl, rfl, hka2, hkb2, hHeld⟩
          · refine StepOf.mk 5 (by simp only [List.getElem?_toArray, List.getElem?_cons_succ, List.getElem?_cons_zero]; rfl) (fun K hK => ?_)
            go_simp
            obtain ⟨ws70, hw70⟩ : ∃ wx : World, wx = V0.alloc (.cells Z.toArray 5) := ⟨_, rfl⟩
            rw [← hw70]
            have hbs70 : Below V0.heap.size V0 ws70 := by rw [hw70]; exact below_new _ _
            have nbs70 : Blk ws70 V0.heap.size 5 Z.toArray := by rw [hw70]; exact Blk.new _ _ _
            have szs70 : V0.heap.size < ws70.heap.size := by rw [hw70]; simp
            clear hw70
            have ges70 : K5 ≤ V0.heap.size := (by have hq := (hHeld).size; have := HK5.out; omega)
            refine hK.out _ _ ?tu70 (fun hs70 => ?_)
            case tu70 => exact keepS _ _ hHeld hbs70
            clear hK K
            refine stepG3 2 7 8 (by kernel_rfl) ?_ ?_ ?_
            · refine StepOf.mk 2 (by simp only [List.getElem?_toArray, List.getElem?_cons_succ, List.getElem?_cons_zero]; rfl) (fun K hK => ?_)
              go_simp
              refine (sum_o hb cx cr3 [] (xors T1 T2) Hcx Hcr3 HX.out none 0 0 B k d _ (Rd.none_ _) (TR5.out _ hs70).1 (by omega) (by omega)).mono ?_
              rintro e ws71 ⟨rfl, hbs71⟩
              have szs71 := hbs71.size
              refine hK.out _ _ ?tu71 (fun hs71 => ?_)
              case tu71 => exact keepS _ _ hs70 hbs71
              clear hK K
              have nb5_71 := nbs70.below hbs71 nbs70.lt
              refine stepG3 6 7 8 (by kernel_rfl) ?_ ?_ ?_
              · refine StepOf.mk 6 (by simp only [List.getElem?_toArray, List.getElem?_cons_succ, List.getElem?_cons_zero]; rfl) (fun K hK => ?_)
                go_simp
                refine (sum_o hb cx cr4 [] (List.replicate k 0) Hcx Hcr4 HX.out none 0 0 _ k k _ (Rd.none_ _) (rd_blk0 HZZ.out nb5_71 (by omega)) (by omega) (by omega)).mono ?_
                rintro e ws72 ⟨rfl, hbs72⟩
                have szs72 := hbs72.size
                refine hK.out _ _ ?tu72 (fun hs72 => ?_)
                case tu72 => exact keepS _ _ hs71 hbs72
                clear hK K
                have nb5_72 := nb5_71.below hbs72 nb5_71.lt
                refine stepG2 7 8 (by kernel_rfl) ?_ ?_
                · refine StepOf.mk 7 (by simp only [List.getElem?_toArray, List.getElem?_cons_succ, List.getElem?_cons_zero]; rfl) (fun K hK => ?_)
                  go_simp
                  obtain ⟨ws73, hw73⟩ : ∃ wx : World, wx = ws72.alloc (.cells z.toArray 22) := ⟨_, rfl⟩
                  rw [← hw73]
                  have hbs73 : Below ws72.heap.size ws72 ws73 := by rw [hw73]; exact below_new _ _
                  have nbs73 : Blk ws73 ws72.heap.size 22 z.toArray := by rw [hw73]; exact Blk.new _ _ _
                  have szs73 : ws72.heap.size < ws73.heap.size := by rw [hw73]; simp
                  clear hw73
                  have ges73 : K5 ≤ ws72.heap.size := (by have hq := (hs72).size; have := HK5.out; omega)
                  refine hK.out _ _ ?tu73 (fun hs73 => ?_)
                  case tu73 => exact keepS _ _ hs72 hbs73
                  clear hK K
                  have nb5_73 := nb5_72.below hbs73 nb5_72.lt
                  refine stepG 8 (by kernel_rfl) (by simp only [List.getElem?_toArray, List.getElem?_cons_succ, List.getElem?_cons_zero]; rfl) (fun K hK => ?_)
                  go_simp
                  obtain ⟨ws74, hw74⟩ : ∃ wx : World, wx = ws73.alloc (.cells z.toArray 22) := ⟨_, rfl⟩
                  rw [← hw74]
                  have hbs74 : Below ws73.heap.size ws73 ws74 := by rw [hw74]; exact below_new _ _
                  have nbs74 : Blk ws74 ws73.heap.size 22 z.toArray := by rw [hw74]; exact Blk.new _ _ _
                  have szs74 : ws73.heap.size < ws74.heap.size := by rw [hw74]; simp
                  clear hw74
                  have ges74 : K5 ≤ ws73.heap.size := (by have hq := (hs73).size; have := HK5.out; omega)
                  refine hK.out _ _ ?tu74 (fun hs74 => ?_)
                  case tu74 => exact keepS _ _ hs73 hbs74
                  clear hK K
                  have nb5_74 := nb5_73.below hbs74 nb5_73.lt
                  have nb7_74 := nbs73.below hbs74 nbs73.lt
                  refine stepG 9 (by kernel_rfl) (by simp only [List.getElem?_toArray, List.getElem?_cons_succ, List.getElem?_cons_zero]; rfl) (fun K hK => ?_)
                  refine step_store_blk rfl 22 (.tmp 12) (.tmp 48) rfl rfl rfl nb7_74 (by rw [lr3.out, lz.out]) (by rw [lr3.out]; exact infoA16) one3.out ?_
                  intro wa hka hga
                  refine hK.out _ _ ?ts77 (fun hHeld => ?_)
                  case ts77 => ((try dsimp only); exact (hs74).grown hga (by have hq := (hs74).size; have := HK5.out; omega) (by intro k hk; simp at hk; omega))
                  clear hK K
                  have hkb := (nbs74).keep_grown hga (by simp; omega)
                  have hSa := hHeld
                  refine stepG 10 (by kernel_rfl) (by simp only [List.getElem?_toArray, List.getElem?_cons_succ, List.getElem?_cons_zero]; rfl) (fun K hK => ?_)
                  refine step_store_blk rfl 22 (.tmp 13) (.tmp 52) rfl rfl rfl hkb (by rw [lr4.out, lz.out]) (by rw [lr4.out]; exact infoA16) one4.out ?_
                  intro wb hkb2 hgb
                  refine hK.out _ _ ?ts78 (fun hHeld => ?_)
                  case ts78 => ((try dsimp only); exact hSa.grown hgb (by have hq := hSa.size; have := HK5.out; omega) (by intro k hk; simp at hk; omega))
                  clear hK K
                  have hka2 := hka.keep_grown hgb (by simp; omega)
                  refine doneG (by kernel_rfl) ?_ _
                  go_wp2_with fail
                  go_meet
                  exact ⟨_, _, rfl, rfl, hka2, hkb2, hHeld⟩
                · refine StepOf.mk 8 (by simp only [List.getElem?_toArray, List.getElem?_cons_succ, List.getElem?_cons_zero]; rfl) (fun K hK => ?_)
                  go_simp
                  obtain ⟨ws75, hw75⟩ : ∃ wx : World, wx = ws72.alloc (.cells z.toArray 22) := ⟨_, rfl⟩
                  rw [← hw75]
                  have hbs75 : Below ws72.heap.size ws72 ws75 := by rw [hw75]; exact below_new _ _
                  have nbs75 : Blk ws75 ws72.heap.size 22 z.toArray := by rw [hw75]; exact Blk.new _ _ _
                  have szs75 : ws72.heap.size < ws75.heap.size := by rw [hw75]; simp
                  clear hw75
                  have ges75 : K5 ≤ ws72.heap.size := (by have hq := (hs72).size; have := HK5.out; omega)
                  refine hK.out _ _ ?tu75 (fun hs75 => ?_)
                  case tu75 => exact keepS _ _ hs72 hbs75
                  clear hK K
                  have nb5_75 := nb5_72.below hbs75 nb5_72.lt
                  refine stepG 7 (by kernel_rfl) (by simp only [List.getElem?_toArray, List.getElem?_cons_succ, List.getElem?_cons_zero]; rfl) (fun K hK => ?_)
                  go_simp
                  obtain ⟨ws76, hw76⟩ : ∃ wx : World, wx = ws75.alloc (.cells z.toArray 22) := ⟨_, rfl⟩
                  rw [← hw76]
                  have hbs76 : Below ws75.heap.size ws75 ws76 := by rw [hw76]; exact below_new _ _
                  have nbs76 : Blk ws76 ws75.heap.size 22 z.toArray := by rw [hw76]; exact Blk.new _ _ _
                  have szs76 : ws75.heap.size < ws76.heap.size := by rw [hw76]; simp
                  clear hw76
                  have ges76 : K5 ≤ ws75.heap.size := (by have hq := (hs75).size; have := HK5.out; omega)
                  refine hK.out _ _ ?tu76 (fun hs76 => ?_)
                  case tu76 => exact keepS _ _ hs75 hbs76
                  clear hK K
                  have nb5_76 := nb5_75.below hbs76 nb5_75.lt
                  have nb8_76 := nbs75.below hbs76 nbs75.lt
                  refine stepG 9 (by kernel_rfl) (by simp only [List.getElem?_toArray, List.getElem?_cons_succ, List.getElem?_cons_zero]; rfl) (fun K hK => ?_)
                  refine step_store_blk rfl 22 (.tmp 12) (.tmp 48) rfl rfl rfl nbs76 (by rw [lr3.out, lz.out]) (by rw [lr3.out]; exact infoA16) one3.out ?_
                  intro wa hka hga
                  refine hK.out _ _ ?ts79 (fun hHeld => ?_)
                  case ts79 => ((try dsimp only); exact (hs76).grown hga (by have hq := (hs76).size; have := HK5.out; omega) (by intro k hk; simp at hk; omega))
                  clear hK K
                  have hkb := (nb8_76).keep_grown hga (by simp; omega)
                  have hSa := hHeld
                  refine stepG 10 (by kernel_rfl) (by simp only [List.getElem?_toArray, List.getElem?_cons_succ, List.getElem?_cons_zero]; rfl) (fun K hK => ?_)
                  refine step_store_blk rfl 22 (.tmp 13) (.tmp 52) rfl rfl rfl hkb (by rw [lr4.out, lz.out]) (by rw [lr4.out]; exact infoA16) one4.out ?_
                  intro wb hkb2 hgb
                  refine hK.out _ _ ?ts80 (fun hHeld => ?_)
                  case ts80 => ((try dsimp only); exact hSa.grown hgb (by have hq := hSa.size; have := HK5.out; omega) (by intro k hk; simp at hk; omega))
                  clear hK K
                  have hka2 := hka.keep_grown hgb (by simp; omega)
                  refine doneG (by kernel_rfl) ?_ _
                  go_wp2_with fail
                  go_meet
                  exact ⟨_, _, rfl, rfl, hka2, hkb2, hHeld⟩
              · refine StepOf.mk 7 (by simp only [List.getElem?_toArray, List.getElem?_cons_succ, List.getElem?_cons_zero]; rfl) (fun K hK => ?_)
                go_simp
                obtain ⟨ws77, hw77⟩ : ∃ wx : World, wx = ws71.alloc (.cells z.toArray 22) := ⟨_, rfl⟩
                rw [← hw77]
                have hbs77 : Below ws71.heap.size ws71 ws77 := by rw [hw77]; exact below_new _ _
                have nbs77 : Blk ws77 ws71.heap.size 22 z.toArray := by rw [hw77]; exact Blk.new _ _ _
                have szs77 : ws71.heap.size < ws77.heap.size := by rw [hw77]; simp
                clear hw77
                have ges77 : K5 ≤ ws71.heap.size := (by have hq := (hs71).size; have := HK5.out; omega)
                refine hK.out _ _ ?tu77 (fun hs77 => ?_)
                case tu77 => exact keepS _ _ hs71 hbs77
                clear hK K
                have nb5_77 := nb5_71.below hbs77 nb5_71.lt
                refine stepG2 6 8 (by kernel_rfl) ?_ ?_
                · refine StepOf.mk 6 (by simp only [List.getElem?_toArray, List.getElem?_cons_succ, List.getElem?_cons_zero]; rfl) (fun K hK => ?_)
                  go_simp
                  refine (sum_o hb cx cr4 [] (List.replicate k 0) Hcx Hcr4 HX.out none 0 0 _ k k _ (Rd.none_ _) (rd_blk0 HZZ.out nb5_77 (by omega)) (by omega) (by omega)).mono ?_
                  rintro e ws78 ⟨rfl, hbs78⟩
                  have szs78 := hbs78.size
                  refine hK.out _ _ ?tu78 (fun hs78 => ?_)
                  case tu78 => exact keepS _ _ hs77 hbs78
                  clear hK K
                  have nb5_78 := nb5_77.below hbs78 nb5_77.lt
                  have nb7_78 := nbs77.below hbs78 nbs77.lt
                  refine stepG 8 (by kernel_rfl) (by simp only [List.getElem?_toArray, List.getElem?_cons_succ, List.getElem?_cons_zero]; rfl) (fun K hK => ?_)
                  go_simp
                  obtain ⟨ws79, hw79⟩ : ∃ wx : World, wx = ws78.alloc (.cells z.toArray 22) := ⟨_, rfl⟩
                  rw [← hw79]
                  have hbs79 : Below ws78.heap.size ws78 ws79 := by rw [hw79]; exact below_new _ _
                  have nbs79 : Blk ws79 ws78.heap.size 22 z.toArray := by rw [hw79]; exact Blk.new _ _ _
                  have szs79 : ws78.heap.size < ws79.heap.size := by rw [hw79]; simp
                  clear hw79
                  have ges79 : K5 ≤ ws78.heap.size := (by have hq := (hs78).size; have := HK5.out; omega)
                  refine hK.out _ _ ?tu79 (fun hs79 => ?_)
                  case tu79 => exact keepS _ _ hs78 hbs79
                  clear hK K
                  have nb5_79 := nb5_78.below hbs79 nb5_78.lt
                  have nb7_79 := nb7_78.below hbs79 nb7_78.lt
                  refine stepG 9 (by kernel_rfl) (by simp only [List.getElem?_toArray, List.getElem?_cons_succ, List.getElem?_cons_zero]; rfl) (fun K hK => ?_)
                  refine step_store_blk rfl 22 (.tmp 12) (.tmp 48) rfl rfl rfl nb7_79 (by rw [lr3.out, lz.out]) (by rw [lr3.out]; exact infoA16) one3.out ?_
                  intro wa hka hga
                  refine hK.out _ _ ?ts81 (fun hHeld => ?_)
                  case ts81 => ((try dsimp only); exact (hs79).grown hga (by have hq := (hs79).size; have := HK5.out; omega) (by intro k hk; simp at hk; omega))
                  clear hK K
                  have hkb := (nbs79).keep_grown hga (by simp; omega)
                  have hSa := hHeld
                  refine stepG 10 (by kernel_rfl) (by simp only [List.getElem?_toArray, List.getElem?_cons_succ, List.getElem?_cons_zero]; rfl) (fun K hK => ?_)
                  refine step_store_blk rfl 22 (.tmp 13) (.tmp 52) rfl rfl rfl hkb (by rw [lr4.out, lz.out]) (by rw [lr4.out]; exact infoA16) one4.out ?_
                  intro wb hkb2 hgb
                  refine hK.out _ _ ?ts82 (fun hHeld => ?_)
                  case ts82 => ((try dsimp only); exact hSa.grown hgb (by have hq := hSa.size; have := HK5.out; omega) (by intro k hk; simp at hk; omega))
                  clear hK K
                  have hka2 := hka.keep_grown hgb (by simp; omega)
                  refine doneG (by kernel_rfl) ?_ _
                  go_wp2_with fail
                  go_meet
                  exact ⟨_, _, rfl, rfl, hka2, hkb2, hHeld⟩
                · refine StepOf.mk 8 (by simp only [List.getElem?_toArray, List.getElem?_cons_succ, List.getElem?_cons_zero]; rfl) (fun K hK => ?_)
                  go_simp
                  obtain ⟨ws80, hw80⟩ : ∃ wx : World, wx = ws77.alloc (.cells z.toArray 22) := ⟨_, rfl⟩
                  rw [← hw80]
                  have hbs80 : Below ws77.heap.size ws77 ws80 := by rw [hw80]; exact below_new _ _
                  have nbs80 : Blk ws80 ws77.heap.size 22 z.toArray := by rw [hw80]; exact Blk.new _ _ _
                  have szs80 : ws77.heap.size < ws80.heap.size := by rw [hw80]; simp
                  clear hw80
                  have ges80 : K5 ≤ ws77.heap.size := (by have hq := (hs77).size; have := HK5.out; omega)
                  refine hK.out _ _ ?tu80 (fun hs80 => ?_)
                  case tu80 => exact keepS _ _ hs77 hbs80
                  clear hK K
                  have nb5_80 := nb5_77.below hbs80 nb5_77.lt
                  have nb7_80 := nbs77.below hbs80 nbs77.lt
                  refine stepG 6 (by kernel_rfl) (by simp only [List.getElem?_toArray, List.getElem?_cons_succ, List.getElem?_cons_zero]; rfl) (fun K hK => ?_)
                  go_simp
                  refine (sum_o hb cx cr4 [] (List.replicate k 0) Hcx Hcr4 HX.out none 0 0 _ k k _ (Rd.none_ _) (rd_blk0 HZZ.out nb5_80 (by omega)) (by omega) (by omega)).mono ?_
                  rintro e ws81 ⟨rfl, hbs81⟩
                  have szs81 := hbs81.size
                  refine hK.out _ _ ?tu81 (fun hs81 => ?_)
                  case tu81 => exact keepS _ _ hs80 hbs81
                  clear hK K
                  have nb5_81 := nb5_80.below hbs81 nb5_80.lt
                  have nb7_81 := nb7_80.below hbs81 nb7_80.lt
                  have nb8_81 := nbs80.below hbs81 nbs80.lt
                  refine stepG 9 (by kernel_rfl) (by simp only [List.getElem?_toArray, List.getElem?_cons_succ, List.getElem?_cons_zero]; rfl) (fun K hK => ?_)
                  refine step_store_blk rfl 22 (.tmp 12) (.tmp 48) rfl rfl rfl nb7_81 (by rw [lr3.out, lz.out]) (by rw [lr3.out]; exact infoA16) one3.out ?_
                  intro wa hka hga
                  refine hK.out _ _ ?ts83 (fun hHeld => ?_)
                  case ts83 => ((try dsimp only); exact (hs81).grown hga (by have hq := (hs81).size; have := HK5.out; omega) (by intro k hk; simp at hk; omega))
                  clear hK K
                  have hkb := (nb8_81).keep_grown hga (by simp; omega)
                  have hSa := hHeld
                  refine stepG 10 (by kernel_rfl) (by simp only [List.getElem?_toArray, List.getElem?_cons_succ, List.getElem?_cons_zero]; rfl) (fun K hK => ?_)
                  refine step_store_blk rfl 22 (.tmp 13) (.tmp 52) rfl rfl rfl hkb (by rw [lr4.out, lz.out]) (by rw [lr4.out]; exact infoA16) one4.out ?_
                  intro wb hkb2 hgb
                  refine hK.out _ _ ?ts84 (fun hHeld => ?_)
                  case ts84 => ((try dsimp only); exact hSa.grown hgb (by have hq := hSa.size; have := HK5.out; omega) (by intro k hk; simp at hk; omega))
                  clear hK K
                  have hka2 := hka.keep_grown hgb (by simp; omega)
                  refine doneG (by kernel_rfl) ?_ _
                  go_wp2_with fail
                  go_meet
                  exact ⟨_, _, rfl, rfl, hka2, hkb2, hHeld⟩
              · refine StepOf.mk 8 (by simp only [List.getElem?_toArray, List.getElem?_cons_succ, List.getElem?_cons_zero]; rfl) (fun K hK => ?_)
                go_simp
                obtain ⟨ws82, hw82⟩ : ∃ wx : World, wx = ws71.alloc (.cells z.toArray 22) := ⟨_, rfl⟩
                rw [← hw82]
                have hbs82 : Below ws71.heap.size ws71 ws82 := by rw [hw82]; exact below_new _ _
                have nbs82 : Blk ws82 ws71.heap.size 22 z.toArray := by rw [hw82]; exact Blk.new _ _ _
                have szs82 : ws71.heap.size < ws82.heap.size := by rw [hw82]; simp
                clear hw82
                have ges82 : K5 ≤ ws71.heap.size := (by have hq := (hs71).size; have := HK5.out; omega)
                refine hK.out _ _ ?tu82 (fun hs82 => ?_)
                case tu82 => exact keepS _ _ hs71 hbs82
                clear hK K
                have nb5_82 := nb5_71.below hbs82 nb5_71.lt
                refine stepG2 6 7 (by kernel_rfl) ?_ ?_
                · refine StepOf.mk 6 (by simp only [List.getElem?_toArray, List.getElem?_cons_succ, List.getElem?_cons_zero]; rfl) (fun K hK => ?_)
                  go_simp
                  refine (sum_o hb cx cr4 [] (List.replicate k 0) Hcx Hcr4 HX.out none 0 0 _ k k _ (Rd.none_ _) (rd_blk0 HZZ.out nb5_82 (by omega)) (by omega) (by omega)).mono ?_
                  rintro e ws83 ⟨rfl, hbs83⟩
                  have szs83 := hbs83.size
                  refine hK.out _ _ ?tu83 (fun hs83 => ?_)
                  case tu83 => exact keepS _ _ hs82 hbs83
                  clear hK K
                  have nb5_83 := nb5_82.below hbs83 nb5_82.lt
                  have nb8_83 := nbs82.below hbs83 nbs82.lt
                  refine stepG 7 (by kernel_rfl) (by simp only [List.getElem?_toArray, List.getElem?_cons_succ, List.getElem?_cons_zero]; rfl) (fun K hK => ?_)
                  go_simp
                  obtain ⟨ws84, hw84⟩ : ∃ wx : World, wx = ws83.alloc (.cells z.toArray 22) := ⟨_, rfl⟩
                  rw [← hw84]
                  have hbs84 : Below ws83.heap.size ws83 ws84 := by rw [hw84]; exact below_new _ _
                  have nbs84 : Blk ws84 ws83.heap.size 22 z.toArray := by rw [hw84]; exact Blk.new _ _ _
                  have szs84 : ws83.heap.size < ws84.heap.size := by rw [hw84]; simp
                  clear hw84
                  have ges84 : K5 ≤ ws83.heap.size := (by have hq := (hs83).size; have := HK5.out; omega)
                  refine hK.out _ _ ?tu84 (fun hs84 => ?_)
                  case tu84 => exact keepS _ _ hs83 hbs84
                  clear hK K
                  have nb5_84 := nb5_83.below hbs84 nb5_83.lt
                  have nb8_84 := nb8_83.below hbs84 nb8_83.lt
                  refine stepG 9 (by kernel_rfl) (by simp only [List.getElem?_toArray, List.getElem?_cons_succ, List.getElem?_cons_zero]; rfl) (fun K hK => ?_)
                  refine step_store_blk rfl 22 (.tmp 12) (.tmp 48) rfl rfl rfl nbs84 (by rw [lr3.out, lz.out]) (by rw [lr3.out]; exact infoA16) one3.out ?_
                  intro wa hka hga
                  refine hK.out _ _ ?ts85 (fun hHeld => ?_)
                  case ts85 => ((try dsimp only); exact (hs84).grown hga (by have hq := (hs84).size; have := HK5.out; omega) (by intro k hk; simp at hk; omega))
                  clear hK K
                  have hkb := (nb8_84).keep_grown hga (by simp; omega)
                  have hSa := hHeld
                  refine stepG 10 (by kernel_rfl) (by simp only [List.getElem?_toArray, List.getElem?_cons_succ, List.getElem?_cons_zero]; rfl) (fun K hK => ?_)
                  refine step_store_blk rfl 22 (.tmp 13) (.tmp 52) rfl rfl rfl hkb (by rw [lr4.out, lz.out]) (by rw [lr4.out]; exact infoA16) one4.out ?_
                  intro wb hkb2 hgb
                  refine hK.out _ _ ?ts86 (fun hHeld => ?_)
                  case ts86 => ((try dsimp only); exact hSa.grown hgb (by have hq := hSa.size; have := HK5.out; omega) (by intro k hk; simp at hk; omega))
                  clear hK K
                  have hka2 := hka.keep_grown hgb (by simp; omega)
                  refine doneG (by kernel_rfl) ?_ _
                  go_wp2_with fail
                  go_meet
                  exact ⟨_, _, rfl, rfl, hka2, hkb2, hHeld⟩
                · refine StepOf.mk 7 (by simp only [List.getElem?_toArray, List.getElem?_cons_succ, List.getElem?_cons_zero]; rfl) (fun K hK => ?_)
                  go_simp
                  obtain ⟨ws85, hw85⟩ : ∃ wx : World, wx = ws82.alloc (.cells z.toArray 22) := ⟨_, rfl⟩
                  rw [← hw85]
                  have hbs85 : Below ws82.heap.size ws82 ws85 := by rw [hw85]; exact below_new _ _
                  have nbs85 : Blk ws85 ws82.heap.size 22 z.toArray := by rw [hw85]; exact Blk.new _ _ _
                  have szs85 : ws82.heap.size < ws85.heap.size := by rw [hw85]; simp
                  clear hw85
                  have ges85 : K5 ≤ ws82.heap.size := (by have hq := (hs82).size; have := HK5.out; omega)
                  refine hK.out _ _ ?tu85 (fun hs85 => ?_)
                  case tu85 => exact keepS _ _ hs82 hbs85
                  clear hK K
                  have nb5_85 := nb5_82.below hbs85 nb5_82.lt
                  have nb8_85 := nbs82.below hbs85 nbs82.lt
                  refine stepG 6 (by kernel_rfl) (by simp only [List.getElem?_toArray, List.getElem?_cons_succ, List.getElem?_cons_zero]; rfl) (fun K hK => ?_)
                  go_simp
                  refine (sum_o hb cx cr4 [] (List.replicate k 0) Hcx Hcr4 HX.out none 0 0 _ k k _ (Rd.none_ _) (rd_blk0 HZZ.out nb5_85 (by omega)) (by omega) (by omega)).mono ?_
                  rintro e ws86 ⟨rfl, hbs86⟩
                  have szs86 := hbs86.size
                  refine hK.out _ _ ?tu86 (fun hs86 => ?_)
                  case tu86 => exact keepS _ _ hs85 hbs86
                  clear hK K
                  have nb5_86 := nb5_85.below hbs86 nb5_85.lt
                  have nb8_86 := nb8_85.below hbs86 nb8_85.lt
                  have nb7_86 := nbs85.below hbs86 nbs85.lt
                  refine stepG 9 (by kernel_rfl) (by simp only [List.getElem?_toArray, List.getElem?_cons_succ, List.getElem?_cons_zero]; rfl) (fun K hK => ?_)
                  refine step_store_blk rfl 22 (.tmp 12) (.tmp 48) rfl rfl rfl nb7_86 (by rw [lr3.out, lz.out]) (by rw [lr3.out]; exact infoA16) one3.out ?_
                  intro wa hka hga
                  refine hK.out _ _ ?ts87 (fun hHeld => ?_)
                  case ts87 => ((try dsimp only); exact (hs86).grown hga (by have hq := (hs86).size; have := HK5.out; omega) (by intro k hk; simp at hk; omega))
                  clear hK K
                  have hkb := (nb8_86).keep_grown hga (by simp; omega)
                  have hSa := hHeld
                  refine stepG 10 (by kernel_rfl) (by simp only [List.getElem?_toArray, List.getElem?_cons_succ, List.getElem?_cons_zero]; rfl) (fun K hK => ?_)
                  refine step_store_blk rfl 22 (.tmp 13) (.tmp 52) rfl rfl rfl hkb (by rw [lr4.out, lz.out]) (by rw [lr4.out]; exact infoA16) one4.out ?_
                  intro wb hkb2 hgb
                  refine hK.out _ _ ?ts88 (fun hHeld => ?_)
                  case ts88 => ((try dsimp only); exact hSa.grown hgb (by have hq := hSa.size; have := HK5.out; omega) (by intro k hk; simp at hk; omega))
                  clear hK K
                  have hka2 := hka.keep_grown hgb (by simp; omega)
                  refine doneG (by kernel_rfl) ?_ _
                  go_wp2_with fail
                  go_meet
                  exact ⟨_, _, rfl, rfl, hka2, hkb2, hHeld⟩
            · refine StepOf.mk 7 (by simp only [List.getElem?_toArray, List.getElem?_cons_succ, List.getElem?_cons_zero]; rfl) (fun K hK => ?_)
              go_simp
              obtain ⟨ws87, hw87⟩ : ∃ wx : World, wx = ws70.alloc (.cells z.toArray 22) := ⟨_, rfl⟩
              rw [← hw87]
              have hbs87 : Below ws70.heap.size ws70 ws87 := by rw [hw87]; exact below_new _ _
              have nbs87 : Blk ws87 ws70.heap.size 22 z.toArray := by rw [hw87]; exact Blk.new _ _ _
              have szs87 : ws70.heap.size < ws87.heap.size := by rw [hw87]; simp
              clear hw87
              have ges87 : K5 ≤ ws70.heap.size := (by have hq := (hs70).size; have := HK5.out; omega)
              refine hK.out _ _ ?tu87 (fun hs87 => ?_)
              case tu87 => exact keepS _ _ hs70 hbs87
              clear hK K
              have nb5_87 := nbs70.below hbs87 nbs70.lt
              refine stepG2 2 8 (by kernel_rfl) ?_ ?_
              · refine StepOf.mk 2 (by simp only [List.getElem?_toArray, List.getElem?_cons_succ, List.getElem?_cons_zero]; rfl) (fun K hK => ?_)
                go_simp
                refine (sum_o hb cx cr3 [] (xors T1 T2) Hcx Hcr3 HX.out none 0 0 B k d _ (Rd.none_ _) (TR5.out _ hs87).1 (by omega) (by omega)).mono ?_
                rintro e ws88 ⟨rfl, hbs88⟩
                have szs88 := hbs88.size
                refine hK.out _ _ ?tu88 (fun hs88 => ?_)
                case tu88 => exact keepS _ _ hs87 hbs88
                clear hK K
                have nb5_88 := nb5_87.below hbs88 nb5_87.lt
                have nb7_88 := nbs87.below hbs88 nbs87.lt
                refine stepG2 6 8 (by kernel_rfl) ?_ ?_
                · refine StepOf.mk 6 (by simp only [List.getElem?_toArray, List.getElem?_cons_succ, List.getElem?_cons_zero]; rfl) (fun K hK => ?_)
                  go_simp
                  refine (sum_o hb cx cr4 [] (List.replicate k 0) Hcx Hcr4 HX.out none 0 0 _ k k _ (Rd.none_ _) (rd_blk0 HZZ.out nb5_88 (by omega)) (by omega) (by omega)).mono ?_
                  rintro e ws89 ⟨rfl, hbs89⟩
                  have szs89 := hbs89.size
                  refine hK.out _ _ ?tu89 (fun hs89 => ?_)
                  case tu89 => exact keepS _ _ hs88 hbs89
                  clear hK K
                  have nb5_89 := nb5_88.below hbs89 nb5_88.lt
                  have nb7_89 := nb7_88.below hbs89 nb7_88.lt
                  refine stepG 8 (by kernel_rfl) (by simp only [List.getElem?_toArray, List.getElem?_cons_succ, List.getElem?_cons_zero]; rfl) (fun K hK => ?_)
                  go_simp
                  obtain ⟨ws90, hw90⟩ : ∃ wx : World, wx = ws89.alloc (.cells z.toArray 22) := ⟨_, rfl⟩
                  rw [← hw90]
                  have hbs90 : Below ws89.heap.size ws89 ws90 := by rw [hw90]; exact below_new _ _
                  have nbs90 : Blk ws90 ws89.heap.size 22 z.toArray := by rw [hw90]; exact Blk.new _ _ _
                  have szs90 : ws89.heap.size < ws90.heap.size := by rw [hw90]; simp
                  clear hw90
                  have ges90 : K5 ≤ ws89.heap.size := (by have hq := (hs89).size; have := HK5.out; omega)
                  refine hK.out _ _ ?tu90 (fun hs90 => ?_)
                  case tu90 => exact keepS _ _ hs89 hbs90
                  clear hK K
                  have nb5_90 := nb5_89.below hbs90 nb5_89.lt
                  have nb7_90 := nb7_89.below hbs90 nb7_89.lt
                  refine stepG 9 (by kernel_rfl) (by simp only [List.getElem?_toArray, List.getElem?_cons_succ, List.getElem?_cons_zero]; rfl) (fun K hK => ?_)
                  refine step_store_blk rfl 22 (.tmp 12) (.tmp 48) rfl rfl rfl nb7_90 (by rw [lr3.out, lz.out]) (by rw [lr3.out]; exact infoA16) one3.out ?_
                  intro wa hka hga
                  refine hK.out _ _ ?ts89 (fun hHeld => ?_)
                  case ts89 => ((try dsimp only); exact (hs90).grown hga (by have hq := (hs90).size; have := HK5.out; omega) (by intro k hk; simp at hk; omega))
                  clear hK K
                  have hkb := (nbs90).keep_grown hga (by simp; omega)
                  have hSa := hHeld
                  refine stepG 10 (by kernel_rfl) (by simp only [List.getElem?_toArray, List.getElem?_cons_succ, List.getElem?_cons_zero]; rfl) (fun K hK => ?_)
                  refine step_store_blk rfl 22 (.tmp 13) (.tmp 52) rfl rfl rfl hkb (by rw [lr4.out, lz.out]) (by rw [lr4.out]; exact infoA16) one4.out ?_
                  intro wb hkb2 hgb
                  refine hK.out _ _ ?ts90 (fun hHeld => ?_)
                  case ts90 => ((try dsimp only); exact hSa.grown hgb (by have hq := hSa.size; have := HK5.out; omega) (by intro k hk; simp at hk; omega))
                  clear hK K
                  have hka2 := hka.keep_grown hgb (by simp; omega)
                  refine doneG (by kernel_rfl) ?_ _
                  go_wp2_with fail
                  go_meet
                  exact ⟨_, _, rfl, rfl, hka2, hkb2, hHeld⟩
                · refine StepOf.mk 8 (by simp only [List.getElem?_toArray, List.getElem?_cons_succ, List.getElem?_cons_zero]; rfl) (fun K hK => ?_)
                  go_simp
                  obtain ⟨ws91, hw91⟩ : ∃ wx : World, wx = ws88.alloc (.cells z.toArray 22) := ⟨_, rfl⟩
                  rw [← hw91]
                  have hbs91 : Below ws88.heap.size ws88 ws91 := by rw [hw91]; exact below_new _ _
                  have nbs91 : Blk ws91 ws88.heap.size 22 z.toArray := by rw [hw91]; exact Blk.new _ _ _
                  have szs91 : ws88.heap.size < ws91.heap.size := by rw [hw91]; simp
                  clear hw91
                  have ges91 : K5 ≤ ws88.heap.size := (by have hq := (hs88).size; have := HK5.out; omega)
                  refine hK.out _ _ ?tu91 (fun hs91 => ?_)
                  case tu91 => exact keepS _ _ hs88 hbs91
                  clear hK K
                  have nb5_91 := nb5_88.below hbs91 nb5_88.lt
                  have nb7_91 := nb7_88.below hbs91 nb7_88.lt
                  refine stepG 6 (by kernel_rfl) (by simp only [List.getElem?_toArray, List.getElem?_cons_succ, List.getElem?_cons_zero]; rfl) (fun K hK => ?_)
                  go_simp
                  refine (sum_o hb cx cr4 [] (List.replicate k 0) Hcx Hcr4 HX.out none 0 0 _ k k _ (Rd.none_ _) (rd_blk0 HZZ.out nb5_91 (by omega)) (by omega) (by omega)).mono ?_
                  rintro e ws92 ⟨rfl, hbs92⟩
                  have szs92 := hbs92.size
                  refine hK.out _ _ ?tu92 (fun hs92 => ?_)
                  case tu92 => exact keepS _ _ hs91 hbs92
                  clear hK K
                  have nb5_92 := nb5_91.below hbs92 nb5_91.lt
                  have nb7_92 := nb7_91.below hbs92 nb7_91.lt
                  have nb8_92 := nbs91.below hbs92 nbs91.lt
                  refine stepG 9 (by kernel_rfl) (by simp only [List.getElem?_toArray, List.getElem?_cons_succ, List.getElem?_cons_zero]; rfl) (fun K hK => ?_)
                  refine step_store_blk rfl 22 (.tmp 12) (.tmp 48) rfl rfl rfl nb7_92 (by rw [lr3.out, lz.out]) (by rw [lr3.out]; exact infoA16) one3.out ?_
                  intro wa hka hga
                  refine hK.out _ _ ?ts91 (fun hHeld => ?_)
                  case ts91 => ((try dsimp only); exact (hs92).grown hga (by have hq := (hs92).size; have := HK5.out; omega) (by intro k hk; simp at hk; omega))
                  clear hK K
                  have hkb := (nb8_92).keep_grown hga (by simp; omega)
                  have hSa := hHeld
                  refine stepG 10 (by kernel_rfl) (by simp only [List.getElem?_toArray, List.getElem?_cons_succ, List.getElem?_cons_zero]; rfl) (fun K hK => ?_)
                  refine step_store_blk rfl 22 (.tmp 13) (.tmp 52) rfl rfl rfl hkb (by rw [lr4.out, lz.out]) (by rw [lr4.out]; exact infoA16) one4.out ?_
                  intro wb hkb2 hgb
                  refine hK.out _ _ ?ts92 (fun hHeld => ?_)
                  case ts92 => ((try dsimp only); exact hSa.grown hgb (by have hq := hSa.size; have := HK5.out; omega) (by intro k hk; simp at hk; omega))
                  clear hK K
                  have hka2 := hka.keep_grown hgb (by simp; omega)
                  refine doneG (by kernel_rfl) ?_ _
                  go_wp2_with fail
                  go_meet
                  exact ⟨_, _, rfl, rfl, hka2, hkb2, hHeld⟩
              · refine StepOf.mk 8 (by simp only [List.getElem?_toArray, List.getElem?_cons_succ, List.getElem?_cons_zero]; rfl) (fun K hK => ?_)
                go_simp
                obtain ⟨ws93, hw93⟩ : ∃ wx : World, wx = ws87.alloc (.cells z.toArray 22) := ⟨_, rfl⟩
                rw [← hw93]
                have hbs93 : Below ws87.heap.size ws87 ws93 := by rw [hw93]; exact below_new _ _
                have nbs93 : Blk ws93 ws87.heap.size 22 z.toArray := by rw [hw93]; exact Blk.new _ _ _
                have szs93 : ws87.heap.size < ws93.heap.size := by rw [hw93]; simp
                clear hw93
                have ges93 : K5 ≤ ws87.heap.size := (by have hq := (hs87).size; have := HK5.out; omega)
                refine hK.out _ _ ?tu93 (fun hs93 => ?_)
                case tu93 => exact keepS _ _ hs87 hbs93
                clear hK K
                have nb5_93 := nb5_87.below hbs93 nb5_87.lt
                have nb7_93 := nbs87.below hbs93 nbs87.lt
                refine stepG 2 (by kernel_rfl) (by simp only [List.getElem?_toArray, List.getElem?_cons_succ, List.getElem?_cons_zero]; rfl) (fun K hK => ?_)
                go_simp
                refine (sum_o hb cx cr3 [] (xors T1 T2) Hcx Hcr3 HX.out none 0 0 B k d _ (Rd.none_ _) (TR5.out _ hs93).1 (by omega) (by omega)).mono ?_
                rintro e ws94 ⟨rfl, hbs94⟩
                have szs94 := hbs94.size
                refine hK.out _ _ ?tu94 (fun hs94 => ?_)
                case tu94 => exact keepS _ _ hs93 hbs94
                clear hK K
                have nb5_94 := nb5_93.below hbs94 nb5_93.lt
                have nb7_94 := nb7_93.below hbs94 nb7_93.lt
                have nb8_94 := nbs93.below hbs94 nbs93.lt
                refine stepG 6 (by kernel_rfl) (by simp only [List.getElem?_toArray, List.getElem?_cons_succ, List.getElem?_cons_zero]; rfl) (fun K hK => ?_)
                go_simp
                refine (sum_o hb cx cr4 [] (List.replicate k 0) Hcx Hcr4 HX.out none 0 0 _ k k _ (Rd.none_ _) (rd_blk0 HZZ.out nb5_94 (by omega)) (by omega) (by omega)).mono ?_
                rintro e ws95 ⟨rfl, hbs95⟩
                have szs95 := hbs95.size
                refine hK.out _ _ ?tu95 (fun hs95 => ?_)
                case tu95 => exact keepS _ _ hs94 hbs95
                clear hK K
                have nb5_95 := nb5_94.below hbs95 nb5_94.lt
                have nb7_95 := nb7_94.below hbs95 nb7_94.lt
                have nb8_95 := nb8_94.below hbs95 nb8_94.lt
                refine stepG 9 (by kernel_rfl) (by simp only [List.getElem?_toArray, List.getElem?_cons_succ, List.getElem?_cons_zero]; rfl) (fun K hK => ?_)
                refine step_store_blk rfl 22 (.tmp 12) (.tmp 48) rfl rfl rfl nb7_95 (by rw [lr3.out, lz.out]) (by rw [lr3.out]; exact infoA16) one3.out ?_
                intro wa hka hga
                refine hK.out _ _ ?ts93 (fun hHeld => ?_)
                case ts93 => ((try dsimp only); exact (hs95).grown hga (by have hq := (hs95).size; have := HK5.out; omega) (by intro k hk; simp at hk; omega))
                clear hK K
                have hkb := (nb8_95).keep_grown hga (by simp; omega)
                have hSa := hHeld
                refine stepG 10 (by kernel_rfl) (by simp only [List.getElem?_toArray, List.getElem?_cons_succ, List.getElem?_cons_zero]; rfl) (fun K hK => ?_)
                refine step_store_blk rfl 22 (.tmp 13) (.tmp 52) rfl rfl rfl hkb (by rw [lr4.out, lz.out]) (by rw [lr4.out]; exact infoA16) one4.out ?_
                intro wb hkb2 hgb
                refine hK.out _ _ ?ts94 (fun hHeld => ?_)
                case ts94 => ((try dsimp only); exact hSa.grown hgb (by have hq := hSa.size; have := HK5.out; omega) (by intro k hk; simp at hk; omega))
                clear hK K
                have hka2 := hka.keep_grown hgb (by simp; omega)
                refine doneG (by kernel_rfl) ?_ _
                go_wp2_with fail
                go_meet
                exact ⟨_, _, rfl, rfl, hka2, hkb2, hHeld⟩
            · refine StepOf.mk 8 (by simp only [List.getElem?_toArray, List.getElem?_cons_succ, List.getElem?_cons_zero]; rfl) (fun K hK => ?_)
              go_simp
              obtain ⟨ws96, hw96⟩ : ∃ wx : World, wx = ws70.alloc (.cells z.toArray 22) := ⟨_, rfl⟩
              rw [← hw96]
              have hbs96 : Below ws70.heap.size ws70 ws96 := by rw [hw96]; exact below_new _ _
              have nbs96 : Blk ws96 ws70.heap.size 22 z.toArray := by rw [hw96]; exact Blk.new _ _ _
              have szs96 : ws70.heap.size < ws96.heap.size := by rw [hw96]; simp
              clear hw96
              have ges96 : K5 ≤ ws70.heap.size := (by have hq := (hs70).size; have := HK5.out; omega)
              refine hK.out _ _ ?tu96 (fun hs96 => ?_)
              case tu96 => exact keepS _ _ hs70 hbs96
              clear hK K
              have nb5_96 := nbs70.below hbs96 nbs70.lt
              refine stepG2 2 7 (by kernel_rfl) ?_ ?_
              · refine StepOf.mk 2 (by simp only [List.getElem?_toArray, List.getElem?_cons_succ, List.getElem?_cons_zero]; rfl) (fun K hK => ?_)
                go_simp
                refine (sum_o hb cx cr3 [] (xors T1 T2) Hcx Hcr3 HX.out none 0 0 B k d _ (Rd.none_ _) (TR5.out _ hs96).1 (by omega) (by omega)).mono ?_
                rintro e ws97 ⟨rfl, hbs97⟩
                have szs97 := hbs97.size
                refine hK.out _ _ ?tu97 (fun hs97 => ?_)
                case tu97 => exact keepS _ _ hs96 hbs97
                clear hK K
                have nb5_97 := nb5_96.below hbs97 nb5_96.lt
                have nb8_97 := nbs96.below hbs97 nbs96.lt
                refine stepG2 6 7 (by kernel_rfl) ?_ ?_
                · refine StepOf.mk 6 (by simp only [List.getElem?_toArray, List.getElem?_cons_succ, List.getElem?_cons_zero]; rfl) (fun K hK => ?_)
                  go_simp
                  refine (sum_o hb cx cr4 [] (List.replicate k 0) Hcx Hcr4 HX.out none 0 0 _ k k _ (Rd.none_ _) (rd_blk0 HZZ.out nb5_97 (by omega)) (by omega) (by omega)).mono ?_
                  rintro e ws98 ⟨rfl, hbs98⟩
                  have szs98 := hbs98.size
                  refine hK.out _ _ ?tu98 (fun hs98 => ?_)
                  case tu98 => exact keepS _ _ hs97 hbs98
                  clear hK K
                  have nb5_98 := nb5_97.below hbs98 nb5_97.lt
                  have nb8_98 := nb8_97.below hbs98 nb8_97.lt
                  refine stepG 7 (by kernel_rfl) (by simp only [List.getElem?_toArray, List.getElem?_cons_succ, List.getElem?_cons_zero]; rfl) (fun K hK => ?_)
                  go_simp
                  obtain ⟨ws99, hw99⟩ : ∃ wx : World, wx = ws98.alloc (.cells z.toArray 22) := ⟨_, rfl⟩
                  rw [← hw99]
                  have hbs99 : Below ws98.heap.size ws98 ws99 := by rw [hw99]; exact below_new _ _
                  have nbs99 : Blk ws99 ws98.heap.size 22 z.toArray := by rw [hw99]; exact Blk.new _ _ _
                  have szs99 : ws98.heap.size < ws99.heap.size := by rw [hw99]; simp
                  clear hw99
                  have ges99 : K5 ≤ ws98.heap.size := (by have hq := (hs98).size; have := HK5.out; omega)
                  refine hK.out _ _ ?tu99 (fun hs99 => ?_)
                  case tu99 => exact keepS _ _ hs98 hbs99
                  clear hK K
                  have nb5_99 := nb5_98.below hbs99 nb5_98.lt
                  have nb8_99 := nb8_98.below hbs99 nb8_98.lt
                  refine stepG 9 (by kernel_rfl) (by simp only [List.getElem?_toArray, List.getElem?_cons_succ, List.getElem?_cons_zero]; rfl) (fun K hK => ?_)
                  refine step_store_blk rfl 22 (.tmp 12) (.tmp 48) rfl rfl rfl nbs99 (by rw [lr3.out, lz.out]) (by rw [lr3.out]; exact infoA16) one3.out ?_
                  intro wa hka hga
                  refine hK.out _ _ ?ts95 (fun hHeld => ?_)
                  case ts95 => ((try dsimp only); exact (hs99).grown hga (by have hq := (hs99).size; have := HK5.out; omega) (by intro k hk; simp at hk; omega))
                  clear hK K
                  have hkb := (nb8_99).keep_grown hga (by simp; omega)
                  have hSa := hHeld
                  refine stepG 10 (by kernel_rfl) (by simp only [List.getElem?_toArray, List.getElem?_cons_succ, List.getElem?_cons_zero]; rfl) (fun K hK => ?_)
                  refine step_store_blk rfl 22 (.tmp 13) (.tmp 52) rfl rfl rfl hkb (by rw [lr4.out, lz.out]) (by rw [lr4.out]; exact infoA16) one4.out ?_
                  intro wb hkb2 hgb
                  refine hK.out _ _ ?ts96 (fun hHeld => ?_)
                  case ts96 => ((try dsimp only); exact hSa.grown hgb (by have hq := hSa.size; have := HK5.out; omega) (by intro k hk; simp at hk; omega))
                  clear hK K
                  have hka2 := hka.keep_grown hgb (by simp; omega)
                  refine doneG (by kernel_rfl) ?_ _
                  go_wp2_with fail
                  go_meet
                  exact ⟨_, _, rfl, rfl, hka2, hkb2, hHeld⟩
                · refine StepOf.mk 7 (by simp only [List.getElem?_toArray, List.getElem?_cons_succ, List.getElem?_cons_zero]; rfl) (fun K hK => ?_)
                  go_simp
                  obtain ⟨ws100, hw100⟩ : ∃ wx : World, wx = ws97.alloc (.cells z.toArray 22) := ⟨_, rfl⟩
                  rw [← hw100]
                  have hbs100 : Below ws97.heap.size ws97 ws100 := by rw [hw100]; exact below_new _ _
                  have nbs100 : Blk ws100 ws97.heap.size 22 z.toArray := by rw [hw100]; exact Blk.new _ _ _
                  have szs100 : ws97.heap.size < ws100.heap.size := by rw [hw100]; simp
                  clear hw100
                  have ges100 : K5 ≤ ws97.heap.size := (by have hq := (hs97).size; have := HK5.out; omega)
                  refine hK.out _ _ ?tu100 (fun hs100 => ?_)
                  case tu100 => exact keepS _ _ hs97 hbs100
                  clear hK K
                  have nb5_100 := nb5_97.below hbs100 nb5_97.lt
                  have nb8_100 := nb8_97.below hbs100 nb8_97.lt
                  refine stepG 6 (by kernel_rfl) (by simp only [List.getElem?_toArray, List.getElem?_cons_succ, List.getElem?_cons_zero]; rfl) (fun K hK => ?_)
                  go_simp
                  refine (sum_o hb cx cr4 [] (List.replicate k 0) Hcx Hcr4 HX.out none 0 0 _ k k _ (Rd.none_ _) (rd_blk0 HZZ.out nb5_100 (by omega)) (by omega) (by omega)).mono ?_
                  rintro e ws101 ⟨rfl, hbs101⟩
                  have szs101 := hbs101.size
                  refine hK.out _ _ ?tu101 (fun hs101 => ?_)
                  case tu101 => exact keepS _ _ hs100 hbs101
                  clear hK K
                  have nb5_101 := nb5_100.below hbs101 nb5_100.lt
                  have nb8_101 := nb8_100.below hbs101 nb8_100.lt
                  have nb7_101 := nbs100.below hbs101 nbs100.lt
                  refine stepG 9 (by kernel_rfl) (by simp only [List.getElem?_toArray, List.getElem?_cons_succ, List.getElem?_cons_zero]; rfl) (fun K hK => ?_)
                  refine step_store_blk rfl 22 (.tmp 12) (.tmp 48) rfl rfl rfl nb7_101 (by rw [lr3.out, lz.out]) (by rw [lr3.out]; exact infoA16) one3.out ?_
                  intro wa hka hga
                  refine hK.out _ _ ?ts97 (fun hHeld => ?_)
                  case ts97 => ((try dsimp only); exact (hs101).grown hga (by have hq := (hs101).size; have := HK5.out; omega) (by intro k hk; simp at hk; omega))
                  clear hK K
                  have hkb := (nb8_101).keep_grown hga (by simp; omega)
                  have hSa := hHeld
                  refine stepG 10 (by kernel_rfl) (by simp only [List.getElem?_toArray, List.getElem?_cons_succ, List.getElem?_cons_zero]; rfl) (fun K hK => ?_)
                  refine step_store_blk rfl 22 (.tmp 13) (.tmp 52) rfl rfl rfl hkb (by rw [lr4.out, lz.out]) (by rw [lr4.out]; exact infoA16) one4.out ?_
                  intro wb hkb2 hgb
                  refine hK.out _ _ ?ts98 (fun hHeld => ?_)
                  case ts98 => ((try dsimp only); exact hSa.grown hgb (by have hq := hSa.size; have := HK5.out; omega) (by intro k hk; simp at hk; omega))
                  clear hK K
                  have hka2 := hka.keep_grown hgb (by simp; omega)
                  refine doneG (by kernel_rfl) ?_ _
                  go_wp2_with fail
                  go_meet
                  exact ⟨_, _, rfl, rfl, hka2, hkb2, hHeld⟩
              · refine StepOf.mk 7 (by simp only [List.getElem?_toArray, List.getElem?_cons_succ, List.getElem?_cons_zero]; rfl) (fun K hK => ?_)
                go_simp
                obtain ⟨ws102, hw102⟩ : ∃ wx : World, wx = ws96.alloc (.cells z.toArray 22) := ⟨_, rfl⟩
                rw [← hw102]
                have hbs102 : Below ws96.heap.size ws96 ws102 := by rw [hw102]; exact below_new _ _
                have nbs102 : Blk ws102 ws96.heap.size 22 z.toArray := by rw [hw102]; exact Blk.new _ _ _
                have szs102 : ws96.heap.size < ws102.heap.size := by rw [hw102]; simp
                clear hw102
                have ges102 : K5 ≤ ws96.heap.size := (by have hq := (hs96).size; have := HK5.out; omega)
                refine hK.out _ _ ?tu102 (fun hs102 => ?_)
                case tu102 => exact keepS _ _ hs96 hbs102
                clear hK K
                have nb5_102 := nb5_96.below hbs102 nb5_96.lt
                have nb8_102 := nbs96.below hbs102 nbs96.lt
                refine stepG 2 (by kernel_rfl) (by simp only [List.getElem?_toArray, List.getElem?_cons_succ, List.getElem?_cons_zero]; rfl) (fun K hK => ?_)
                go_simp
                refine (sum_o hb cx cr3 [] (xors T1 T2) Hcx Hcr3 HX.out none 0 0 B k d _ (Rd.none_ _) (TR5.out _ hs102).1 (by omega) (by omega)).mono ?_
                rintro e ws103 ⟨rfl, hbs103⟩
                have szs103 := hbs103.size
                refine hK.out _ _ ?tu103 (fun hs103 => ?_)
                case tu103 => exact keepS _ _ hs102 hbs103
                clear hK K
                have nb5_103 := nb5_102.below hbs103 nb5_102.lt
                have nb8_103 := nb8_102.below hbs103 nb8_102.lt
                have nb7_103 := nbs102.below hbs103 nbs102.lt
                refine stepG 6 (by kernel_rfl) (by simp only [List.getElem?_toArray, List.getElem?_cons_succ, List.getElem?_cons_zero]; rfl) (fun K hK => ?_)
                go_simp
                refine (sum_o hb cx cr4 [] (List.replicate k 0) Hcx Hcr4 HX.out none 0 0 _ k k _ (Rd.none_ _) (rd_blk0 HZZ.out nb5_103 (by omega)) (by omega) (by omega)).mono ?_
                rintro e ws104 ⟨rfl, hbs104⟩
                have szs104 := hbs104.size
                refine hK.out _ _ ?tu104 (fun hs104 => ?_)
                case tu104 => exact keepS _ _ hs103 hbs104
                clear hK K
                have nb5_104 := nb5_103.below hbs104 nb5_103.lt
                have nb8_104 := nb8_103.below hbs104 nb8_103.lt
                have nb7_104 := nb7_103.below hbs104 nb7_103.lt
                refine stepG 9 (by kernel_rfl) (by simp only [List.getElem?_toArray, List.getElem?_cons_succ, List.getElem?_cons_zero]; rfl) (fun K hK => ?_)
                refine step_store_blk rfl 22 (.tmp 12) (.tmp 48) rfl rfl rfl nb7_104 (by rw [lr3.out, lz.out]) (by rw [lr3.out]; exact infoA16) one3.out ?_
                intro wa hka hga
                refine hK.out _ _ ?ts99 (fun hHeld => ?_)
                case ts99 => ((try dsimp only); exact (hs104).grown hga (by have hq := (hs104).size; have := HK5.out; omega) (by intro k hk; simp at hk; omega))
                clear hK K
                have hkb := (nb8_104).keep_grown hga (by simp; omega)
                have hSa := hHeld
                refine stepG 10 (by kernel_rfl) (by simp only [List.getElem?_toArray, List.getElem?_cons_succ, List.getElem?_cons_zero]; rfl) (fun K hK => ?_)
                refine step_store_blk rfl 22 (.tmp 13) (.tmp 52) rfl rfl rfl hkb (by rw [lr4.out, lz.out]) (by rw [lr4.out]; exact infoA16) one4.out ?_
                intro wb hkb2 hgb
                refine hK.out _ _ ?ts100 (fun hHeld => ?_)
                case ts100 => ((try dsimp only); exact hSa.grown hgb (by have hq := hSa.size; have := HK5.out; omega) (by intro k hk; simp at hk; omega))
                clear hK K
                have hka2 := hka.keep_grown hgb (by simp; omega)
                refine doneG (by kernel_rfl) ?_ _
                go_wp2_with fail
                go_meet
                exact ⟨_, _, rfl, rfl, hka2, hkb2, hHeld⟩
          · refine StepOf.mk 7 (by simp only [List.getElem?_toArray, List.getElem?_cons_succ, List.getElem?_cons_zero]; rfl) (fun K hK => ?_)
            go_simp
            obtain ⟨ws105, hw105⟩ : ∃ wx : World, wx = V0.alloc (.cells z.toArray 22) := ⟨_, rfl⟩
            rw [← hw105]
            have hbs105 : Below V0.heap.size V0 ws105 := by rw [hw105]; exact below_new _ _
            have nbs105 : Blk ws105 V0.heap.size 22 z.toArray := by rw [hw105]; exact Blk.new _ _ _
            have szs105 : V0.heap.size < ws105.heap.size := by rw [hw105]; simp
            clear hw105
            have ges105 : K5 ≤ V0.heap.size := (by have hq := (hHeld).size; have := HK5.out; omega)
            refine hK.out _ _ ?tu105 (fun hs105 => ?_)
            case tu105 => exact keepS _ _ hHeld hbs105
            clear hK K
            refine stepG3 2 5 8 (by kernel_rfl) ?_ ?_ ?_
            · refine StepOf.mk 2 (by simp only [List.getElem?_toArray, List.getElem?_cons_succ, List.getElem?_cons_zero]; rfl) (fun K hK => ?_)
              go_simp
              refine (sum_o hb cx cr3 [] (xors T1 T2) Hcx Hcr3 HX.out none 0 0 B k d _ (Rd.none_ _) (TR5.out _ hs105).1 (by omega) (by omega)).mono ?_
              rintro e ws106 ⟨rfl, hbs106⟩
              have szs106 := hbs106.size
              refine hK.out _ _ ?tu106 (fun hs106 => ?_)
              case tu106 => exact keepS _ _ hs105 hbs106
              clear hK K
              have nb7_106 := nbs105.below hbs106 nbs105.lt
              refine stepG2 5 8 (by kernel_rfl) ?_ ?_
              · refine StepOf.mk 5 (by simp only [List.getElem?_toArray, List.getElem?_cons_succ, List.getElem?_cons_zero]; rfl) (fun K hK => ?_)
                go_simp
                obtain ⟨ws107, hw107⟩ : ∃ wx : World, wx = ws106.alloc (.cells Z.toArray 5) := ⟨_, rfl⟩
                rw [← hw107]
                have hbs107 : Below ws106.heap.size ws106 ws107 := by rw [hw107]; exact below_new _ _
                have nbs107 : Blk ws107 ws106.heap.size 5 Z.toArray := by rw [hw107]; exact Blk.new _ _ _
                have szs107 : ws106.heap.size < ws107.heap.size := by rw [hw107]; simp
                clear hw107
                have ges107 : K5 ≤ ws106.heap.size := (by have hq := (hs106).size; have := HK5.out; omega)
                refine hK.out _ _ ?tu107 (fun hs107 => ?_)
                case tu107 => exact keepS _ _ hs106 hbs107
                clear hK K
                have nb7_107 := nb7_106.below hbs107 nb7_106.lt
                refine stepG2 6 8 (by kernel_rfl) ?_ ?_
                · refine StepOf.mk 6 (by simp only [List.getElem?_toArray, List.getElem?_cons_succ, List.getElem?_cons_zero]; rfl) (fun K hK => ?_)
                  go_simp
                  refine (sum_o hb cx cr4 [] (List.replicate k 0) Hcx Hcr4 HX.out none 0 0 _ k k _ (Rd.none_ _) (rd_blk0 HZZ.out nbs107 (by omega)) (by omega) (by omega)).mono ?_
                  rintro e ws108 ⟨rfl, hbs108⟩
                  have szs108 := hbs108.size
                  refine hK.out _ _ ?tu108 (fun hs108 => ?_)
                  case tu108 => exact keepS _ _ hs107 hbs108
                  clear hK K
                  have nb7_108 := nb7_107.below hbs108 nb7_107.lt
                  have nb5_108 := nbs107.below hbs108 nbs107.lt
                  refine stepG 8 (by kernel_rfl) (by simp only [List.getElem?_toArray, List.getElem?_cons_succ, List.getElem?_cons_zero]; rfl) (fun K hK => ?_)
                  go_simp
                  obtain ⟨ws109, hw109⟩ : ∃ wx : World, wx = ws108.alloc (.cells z.toArray 22) := ⟨_, rfl⟩
                  rw [← hw109]
                  have hbs109 : Below ws108.heap.size ws108 ws109 := by rw [hw109]; exact below_new _ _
                  have nbs109 : Blk ws109 ws108.heap.size 22 z.toArray := by rw [hw109]; exact Blk.new _ _ _
                  have szs109 : ws108.heap.size < ws109.heap.size := by rw [hw109]; simp
                  clear hw109
                  have ges109 : K5 ≤ ws108.heap.size := (by have hq := (hs108).size; have := HK5.out; omega)
                  refine hK.out _ _ ?tu109 (fun hs109 => ?_)
                  case tu109 => exact keepS _ _ hs108 hbs109
                  clear hK K
                  have nb7_109 := nb7_108.below hbs109 nb7_108.lt
                  have nb5_109 := nb5_108.below hbs109 nb5_108.lt
                  refine stepG 9 (by kernel_rfl) (by simp only [List.getElem?_toArray, List.getElem?_cons_succ, List.getElem?_cons_zero]; rfl) (fun K hK => ?_)
                  refine step_store_blk rfl 22 (.tmp 12) (.tmp 48) rfl rfl rfl nb7_109 (by rw [lr3.out, lz.out]) (by rw [lr3.out]; exact infoA16) one3.out ?_
                  intro wa hka hga
                  refine hK.out _ _ ?ts101 (fun hHeld => ?_)
                  case ts101 => ((try dsimp only); exact (hs109).grown hga (by have hq := (hs109).size; have := HK5.out; omega) (by intro k hk; simp at hk; omega))
                  clear hK K
                  have hkb := (nbs109).keep_grown hga (by simp; omega)
                  have hSa := hHeld
                  refine stepG 10 (by kernel_rfl) (by simp only [List.getElem?_toArray, List.getElem?_cons_succ, List.getElem?_cons_zero]; rfl) (fun K hK => ?_)
                  refine step_store_blk rfl 22 (.tmp 13) (.tmp 52) rfl rfl rfl hkb (by rw [lr4.out, lz.out]) (by rw [lr4.out]; exact infoA16) one4.out ?_
                  intro wb hkb2 hgb
                  refine hK.out _ _ ?ts102 (fun hHeld => ?_)
                  case ts102 => ((try dsimp only); exact hSa.grown hgb (by have hq := hSa.size; have := HK5.out; omega) (by intro k hk; simp at hk; omega))
                  clear hK K
                  have hka2 := hka.keep_grown hgb (by simp; omega)
                  refine doneG (by kernel_rfl) ?_ _
                  go_wp2_with fail
                  go_meet
                  exact ⟨_, _, rfl, rfl, hka2, hkb2, hHeld⟩
                · refine StepOf.mk 8 (by simp only [List.getElem?_toArray, List.getElem?_cons_succ, List.getElem?_cons_zero]; rfl) (fun K hK => ?_)
                  go_simp
                  obtain ⟨ws110, hw110⟩ : ∃ wx : World, wx = ws107.alloc (.cells z.toArray 22) := ⟨_, rfl⟩
                  rw [← hw110]
                  have hbs110 : Below ws107.heap.size ws107 ws110 := by rw [hw110]; exact below_new _ _
                  have nbs110 : Blk ws110 ws107.heap.size 22 z.toArray := by rw [hw110]; exact Blk.new _ _ _
                  have szs110 : ws107.heap.size < ws110.heap.size := by rw [hw110]; simp
                  clear hw110
                  have ges110 : K5 ≤ ws107.heap.size := (by have hq := (hs107).size; have := HK5.out; omega)
                  refine hK.out _ _ ?tu110 (fun hs110 => ?_)
                  case tu110 => exact keepS _ _ hs107 hbs110
                  clear hK K
                  have nb7_110 := nb7_107.below hbs110 nb7_107.lt
                  have nb5_110 := nbs107.below hbs110 nbs107.lt
                  refine stepG 6 (by kernel_rfl) (by simp only [List.getElem?_toArray, List.getElem?_cons_succ, List.getElem?_cons_zero]; rfl) (fun K hK => ?_)
                  go_simp
                  refine (sum_o hb cx cr4 [] (List.replicate k 0) Hcx Hcr4 HX.out none 0 0 _ k k _ (Rd.none_ _) (rd_blk0 HZZ.out nb5_110 (by omega)) (by omega) (by omega)).mono ?_
                  rintro e ws111 ⟨rfl, hbs111⟩
                  have szs111 := hbs111.size
                  refine hK.out _ _ ?tu111 (fun hs111 => ?_)
                  case tu111 => exact keepS _ _ hs110 hbs111
                  clear hK K
                  have nb7_111 := nb7_110.below hbs111 nb7_110.lt
                  have nb5_111 := nb5_110.below hbs111 nb5_110.lt
                  have nb8_111 := nbs110.below hbs111 nbs110.lt
                  refine stepG 9 (by kernel_rfl) (by simp only [List.getElem?_toArray, List.getElem?_cons_succ, List.getElem?_cons_zero]; rfl) (fun K hK => ?_)
                  refine step_store_blk rfl 22 (.tmp 12) (.tmp 48) rfl rfl rfl nb7_111 (by rw [lr3.out, lz.out]) (by rw [lr3.out]; exact infoA16) one3.out ?_
                  intro wa hka hga
                  refine hK.out _ _ ?ts103 (fun hHeld => ?_)
                  case ts103 => ((try dsimp only); exact (hs111).grown hga (by have hq := (hs111).size; have := HK5.out; omega) (by intro k hk; simp at hk; omega))
                  clear hK K
                  have hkb := (nb8_111).keep_grown hga (by simp; omega)
                  have hSa := hHeld
                  refine stepG 10 (by kernel_rfl) (by simp only [List.getElem?_toArray, List.getElem?_cons_succ, List.getElem?_cons_zero]; rfl) (fun K hK => ?_)
                  refine step_store_blk rfl 22 (.tmp 13) (.tmp 52) rfl rfl rfl hkb (by rw [lr4.out, lz.out]) (by rw [lr4.out]; exact infoA16) one4.out ?_
                  intro wb hkb2 hgb
                  refine hK.out _ _ ?ts104 (fun hHeld => ?_)
                  case ts104 => ((try dsimp only); exact hSa.grown hgb (by have hq := hSa.size; have := HK5.out; omega) (by intro k hk; simp at hk; omega))
                  clear hK K
                  have hka2 := hka.keep_grown hgb (by simp; omega)
                  refine doneG (by kernel_rfl) ?_ _
                  go_wp2_with fail
                  go_meet
                  exact ⟨_, _, rfl, rfl, hka2, hkb2, hHeld⟩
              · refine StepOf.mk 8 (by simp only [List.getElem?_toArray, List.getElem?_cons_succ, List.getElem?_cons_zero]; rfl) (fun K hK => ?_)
                go_simp
                obtain ⟨ws112, hw112⟩ : ∃ wx : World, wx = ws106.alloc (.cells z.toArray 22) := ⟨_, rfl⟩
                rw [← hw112]
                have hbs112 : Below ws106.heap.size ws106 ws112 := by rw [hw112]; exact below_new _ _
                have nbs112 : Blk ws112 ws106.heap.size 22 z.toArray := by rw [hw112]; exact Blk.new _ _ _
                have szs112 : ws106.heap.size < ws112.heap.size := by rw [hw112]; simp
                clear hw112
                have ges112 : K5 ≤ ws106.heap.size := (by have hq := (hs106).size; have := HK5.out; omega)
                refine hK.out _ _ ?tu112 (fun hs112 => ?_)
                case tu112 => exact keepS _ _ hs106 hbs112
                clear hK K
                have nb7_112 := nb7_106.below hbs112 nb7_106.lt
                refine stepG 5 (by kernel_rfl) (by simp only [List.getElem?_toArray, List.getElem?_cons_succ, List.getElem?_cons_zero]; rfl) (fun K hK => ?_)
                go_simp
                obtain ⟨ws113, hw113⟩ : ∃ wx : World, wx = ws112.alloc (.cells Z.toArray 5) := ⟨_, rfl⟩
                rw [← hw113]
                have hbs113 : Below ws112.heap.size ws112 ws113 := by rw [hw113]; exact below_new _ _
                have nbs113 : Blk ws113 ws112.heap.size 5 Z.toArray := by rw [hw113]; exact Blk.new _ _ _
                have szs113 : ws112.heap.size < ws113.heap.size := by rw [hw113]; simp
                clear hw113
                have ges113 : K5 ≤ ws112.heap.size := (by have hq := (hs112).size; have := HK5.out; omega)
                refine hK.out _ _ ?tu113 (fun hs113 => ?_)
                case tu113 => exact keepS _ _ hs112 hbs113
                clear hK K
                have nb7_113 := nb7_112.below hbs113 nb7_112.lt
                have nb8_113 := nbs112.below hbs113 nbs112.lt
                refine stepG 6 (by kernel_rfl) (by simp only [List.getElem?_toArray, List.getElem?_cons_succ, List.getElem?_cons_zero]; rfl) (fun K hK => ?_)
                go_simp
                refine (sum_o hb cx cr4 [] (List.replicate k 0) Hcx Hcr4 HX.out none 0 0 _ k k _ (Rd.none_ _) (rd_blk0 HZZ.out nbs113 (by omega)) (by omega) (by omega)).mono ?_
                rintro e ws114 ⟨rfl, hbs114⟩
                have szs114 := hbs114.size
                refine hK.out _ _ ?tu114 (fun hs114 => ?_)
                case tu114 => exact keepS _ _ hs113 hbs114
                clear hK K
                have nb7_114 := nb7_113.below hbs114 nb7_113.lt
                have nb8_114 := nb8_113.below hbs114 nb8_113.lt
                have nb5_114 := nbs113.below hbs114 nbs113.lt
                refine stepG 9 (by kernel_rfl) (by simp only [List.getElem?_toArray, List.getElem?_cons_succ, List.getElem?_cons_zero]; rfl) (fun K hK => ?_)
                refine step_store_blk rfl 22 (.tmp 12) (.tmp 48) rfl rfl rfl nb7_114 (by rw [lr3.out, lz.out]) (by rw [lr3.out]; exact infoA16) one3.out ?_
                intro wa hka hga
                refine hK.out _ _ ?ts105 (fun hHeld => ?_)
                case ts105 => ((try dsimp only); exact (hs114).grown hga (by have hq := (hs114).size; have := HK5.out; omega) (by intro k hk; simp at hk; omega))
                clear hK K
                have hkb := (nb8_114).keep_grown hga (by simp; omega)
                have hSa := hHeld
                refine stepG 10 (by kernel_rfl) (by simp only [List.getElem?_toArray, List.getElem?_cons_succ, List.getElem?_cons_zero]; rfl) (fun K hK => ?_)
                refine step_store_blk rfl 22 (.tmp 13) (.tmp 52) rfl rfl rfl hkb (by rw [lr4.out, lz.out]) (by rw [lr4.out]; exact infoA16) one4.out ?_
                intro wb hkb2 hgb
                refine hK.out _ _ ?ts106 (fun hHeld => ?_)
                case ts106 => ((try dsimp only); exact hSa.grown hgb (by have hq := hSa.size; have := HK5.out; omega) (by intro k hk; simp at hk; omega))
                clear hK K
                have hka2 := hka.keep_grown hgb (by simp; omega)
                refine doneG (by kernel_rfl) ?_ _
                go_wp2_with fail
                go_meet
                exact ⟨_, _, rfl, rfl, hka2, hkb2, hHeld⟩
            · refine StepOf.mk 5 (by simp only [List.getElem?_toArray, List.getElem?_cons_succ, List.getElem?_cons_zero]; rfl) (fun K hK => ?_)
              go_simp
              obtain ⟨ws115, hw115⟩ : ∃ wx : World, wx = ws105.alloc (.cells Z.toArray 5) := ⟨_, rfl⟩
              rw [← hw115]
              have hbs115 : Below ws105.heap.size ws105 ws115 := by rw [hw115]; exact below_new _ _
              have nbs115 : Blk ws115 ws105.heap.size 5 Z.toArray := by rw [hw115]; exact Blk.new _ _ _
              have szs115 : ws105.heap.size < ws115.heap.size := by rw [hw115]; simp
              clear hw115
              have ges115 : K5 ≤ ws105.heap.size := (by have hq := (hs105).size; have := HK5.out; omega)
              refine hK.out _ _ ?tu115 (fun hs115 => ?_)
              case tu115 => exact keepS _ _ hs105 hbs115
              clear hK K
              have nb7_115 := nbs105.below hbs115 nbs105.lt
              refine stepG2 2 8 (by kernel_rfl) ?_ ?_
              · refine StepOf.mk 2 (by simp only [List.getElem?_toArray, List.getElem?_cons_succ, List.getElem?_cons_zero]; rfl) (fun K hK => ?_)
                go_simp
                refine (sum_o hb cx cr3 [] (xors T1 T2) Hcx Hcr3 HX.out none 0 0 B k d _ (Rd.none_ _) (TR5.out _ hs115).1 (by omega) (by omega)).mono ?_
                rintro e ws116 ⟨rfl, hbs116⟩
                have szs116 := hbs116.size
                refine hK.out _ _ ?tu116 (fun hs116 => ?_)
                case tu116 => exact keepS _ _ hs115 hbs116
                clear hK K
                have nb7_116 := nb7_115.below hbs116 nb7_115.lt
                have nb5_116 := nbs115.below hbs116 nbs115.lt
                refine stepG2 6 8 (by kernel_rfl) ?_ ?_
                · refine StepOf.mk 6 (by simp only [List.getElem?_toArray, List.getElem?_cons_succ, List.getElem?_cons_zero]; rfl) (fun K hK => ?_)
                  go_simp
                  refine (sum_o hb cx cr4 [] (List.replicate k 0) Hcx Hcr4 HX.out none 0 0 _ k k _ (Rd.none_ _) (rd_blk0 HZZ.out nb5_116 (by omega)) (by omega) (by omega)).mono ?_
                  rintro e ws117 ⟨rfl, hbs117⟩
                  have szs117 := hbs117.size
                  refine hK.out _ _ ?tu117 (fun hs117 => ?_)
                  case tu117 => exact keepS _ _ hs116 hbs117
                  clear hK K
                  have nb7_117 := nb7_116.below hbs117 nb7_116.lt
                  have nb5_117 := nb5_116.below hbs117 nb5_116.lt
                  refine stepG 8 (by kernel_rfl) (by simp only [List.getElem?_toArray, List.getElem?_cons_succ, List.getElem?_cons_zero]; rfl) (fun K hK => ?_)
                  go_simp
                  obtain ⟨ws118, hw118⟩ : ∃ wx : World, wx = ws117.alloc (.cells z.toArray 22) := ⟨_, rfl⟩
                  rw [← hw118]
                  have hbs118 : Below ws117.heap.size ws117 ws118 := by rw [hw118]; exact below_new _ _
                  have nbs118 : Blk ws118 ws117.heap.size 22 z.toArray := by rw [hw118]; exact Blk.new _ _ _
                  have szs118 : ws117.heap.size < ws118.heap.size := by rw [hw118]; simp
                  clear hw118
                  have ges118 : K5 ≤ ws117.heap.size := (by have hq := (hs117).size; have := HK5.out; omega)
                  refine hK.out _ _ ?tu118 (fun hs118 => ?_)
                  case tu118 => exact keepS _ _ hs117 hbs118
                  clear hK K
                  have nb7_118 := nb7_117.below hbs118 nb7_117.lt
                  have nb5_118 := nb5_117.below hbs118 nb5_117.lt
                  refine stepG 9 (by kernel_rfl) (by simp only [List.getElem?_toArray, List.getElem?_cons_succ, List.getElem?_cons_zero]; rfl) (fun K hK => ?_)
                  refine step_store_blk rfl 22 (.tmp 12) (.tmp 48) rfl rfl rfl nb7_118 (by rw [lr3.out, lz.out]) (by rw [lr3.out]; exact infoA16) one3.out ?_
                  intro wa hka hga
                  refine hK.out _ _ ?ts107 (fun hHeld => ?_)
                  case ts107 => ((try dsimp only); exact (hs118).grown hga (by have hq := (hs118).size; have := HK5.out; omega) (by intro k hk; simp at hk; omega))
                  clear hK K
                  have hkb := (nbs118).keep_grown hga (by simp; omega)
                  have hSa := hHeld
                  refine stepG 10 (by kernel_rfl) (by simp only [List.getElem?_toArray, List.getElem?_cons_succ, List.getElem?_cons_zero]; rfl) (fun K hK => ?_)
                  refine step_store_blk rfl 22 (.tmp 13) (.tmp 52) rfl rfl rfl hkb (by rw [lr4.out, lz.out]) (by rw [lr4.out]; exact infoA16) one4.out ?_
                  intro wb hkb2 hgb
                  refine hK.out _ _ ?ts108 (fun hHeld => ?_)
                  case ts108 => ((try dsimp only); exact hSa.grown hgb (by have hq := hSa.size; have := HK5.out; omega) (by intro k hk; simp at hk; omega))
                  clear hK K
                  have hka2 := hka.keep_grown hgb (by simp; omega)
                  refine doneG (by kernel_rfl) ?_ _
                  go_wp2_with fail
                  go_meet
                  exact ⟨_, _, rfl, rfl, hka2, hkb2, hHeld⟩
                · refine StepOf.mk 8 (by simp only [List.getElem?_toArray, List.getElem?_cons_succ, List.getElem?_cons_zero]; rfl) (fun K hK => ?_)
                  go_simp
                  obtain ⟨ws119, hw119⟩ : ∃ wx : World, wx = ws116.alloc (.cells z.toArray 22) := ⟨_, rfl⟩
                  rw [← hw119]
                  have hbs119 : Below ws116.heap.size ws116 ws119 := by rw [hw119]; exact below_new _ _
                  have nbs119 : Blk ws119 ws116.heap.size 22 z.toArray := by rw [hw119]; exact Blk.new _ _ _
                  have szs119 : ws116.heap.size < ws119.heap.size := by rw [hw119]; simp
                  clear hw119
                  have ges119 : K5 ≤ ws116.heap.size := (by have hq := (hs116).size; have := HK5.out; omega)
                  refine hK.out _ _ ?tu119 (fun hs119 => ?_)
                  case tu119 => exact keepS _ _ hs116 hbs119
                  clear hK K
                  have nb7_119 := nb7_116.below hbs119 nb7_116.lt
                  have nb5_119 := nb5_116.below hbs119 nb5_116.lt
                  refine stepG 6 (by kernel_rfl) (by simp only [List.getElem?_toArray, List.getElem?_cons_succ, List.getElem?_cons_zero]; rfl) (fun K hK => ?_)
                  go_simp
                  refine (sum_o hb cx cr4 [] (List.replicate k 0) Hcx Hcr4 HX.out none 0 0 _ k k _ (Rd.none_ _) (rd_blk0 HZZ.out nb5_119 (by omega)) (by omega) (by omega)).mono ?_
                  rintro e ws120 ⟨rfl, hbs120⟩
                  have szs120 := hbs120.size
                  refine hK.out _ _ ?tu120 (fun hs120 => ?_)
                  case tu120 => exact keepS _ _ hs119 hbs120
                  clear hK K
                  have nb7_120 := nb7_119.below hbs120 nb7_119.lt
                  have nb5_120 := nb5_119.below hbs120 nb5_119.lt
                  have nb8_120 := nbs119.below hbs120 nbs119.lt
                  refine stepG 9 (by kernel_rfl) (by simp only [List.getElem?_toArray, List.getElem?_cons_succ, List.getElem?_cons_zero]; rfl) (fun K hK => ?_)
                  refine step_store_blk rfl 22 (.tmp 12) (.tmp 48) rfl rfl rfl nb7_120 (by rw [lr3.out, lz.out]) (by rw [lr3.out]; exact infoA16) one3.out ?_
                  intro wa hka hga
                  refine hK.out _ _ ?ts109 (fun hHeld => ?_)
                  case ts109 => ((try dsimp only); exact (hs120).grown hga (by have hq := (hs120).size; have := HK5.out; omega) (by intro k hk; simp at hk; omega))
                  clear hK K
                  have hkb := (nb8_120).keep_grown hga (by simp; omega)
                  have hSa := hHeld
                  refine stepG 10 (by kernel_rfl) (by simp only [List.getElem?_toArray, List.getElem?_cons_succ, List.getElem?_cons_zero]; rfl) (fun K hK => ?_)
                  refine step_store_blk rfl 22 (.tmp 13) (.tmp 52) rfl rfl rfl hkb (by rw [lr4.out, lz.out]) (by rw [lr4.out]; exact infoA16) one4.out ?_
                  intro wb hkb2 hgb
                  refine hK.out _ _ ?ts110 (fun hHeld => ?_)
                  case ts110 => ((try dsimp only); exact hSa.grown hgb (by have hq := hSa.size; have := HK5.out; omega) (by intro k hk; simp at hk; omega))
                  clear hK K
                  have hka2 := hka.keep_grown hgb (by simp; omega)
                  refine doneG (by kernel_rfl) ?_ _
                  go_wp2_with fail
                  go_meet
                  exact ⟨_, _, rfl, rfl, hka2, hkb2, hHeld⟩
              · refine StepOf.mk 8 (by simp only [List.getElem?_toArray, List.getElem?_cons_succ, List.getElem?_cons_zero]; rfl) (fun K hK => ?_)
                go_simp
                obtain ⟨ws121, hw121⟩ : ∃ wx : World, wx = ws115.alloc (.cells z.toArray 22) := ⟨_, rfl⟩
                rw [← hw121]
                have hbs121 : Below ws115.heap.size ws115 ws121 := by rw [hw121]; exact below_new _ _
                have nbs121 : Blk ws121 ws115.heap.size 22 z.toArray := by rw [hw121]; exact Blk.new _ _ _
                have szs121 : ws115.heap.size < ws121.heap.size := by rw [hw121]; simp
                clear hw121
                have ges121 : K5 ≤ ws115.heap.size := (by have hq := (hs115).size; have := HK5.out; omega)
                refine hK.out _ _ ?tu121 (fun hs121 => ?_)
                case tu121 => exact keepS _ _ hs115 hbs121
                clear hK K
                have nb7_121 := nb7_115.below hbs121 nb7_115.lt
                have nb5_121 := nbs115.below hbs121 nbs115.lt
                refine stepG 2 (by kernel_rfl) (by simp only [List.getElem?_toArray, List.getElem?_cons_succ, List.getElem?_cons_zero]; rfl) (fun K hK => ?_)
                go_simp
                refine (sum_o hb cx cr3 [] (xors T1 T2) Hcx Hcr3 HX.out none 0 0 B k d _ (Rd.none_ _) (TR5.out _ hs121).1 (by omega) (by omega)).mono ?_
                rintro e ws122 ⟨rfl, hbs122⟩
                have szs122 := hbs122.size
                refine hK.out _ _ ?tu122 (fun hs122 => ?_)
                case tu122 => exact keepS _ _ hs121 hbs122
                clear hK K
                have nb7_122 := nb7_121.below hbs122 nb7_121.lt
                have nb5_122 := nb5_121.below hbs122 nb5_121.lt
                have nb8_122 := nbs121.below hbs122 nbs121.lt
                refine stepG 6 (by kernel_rfl) (by simp only [List.getElem?_toArray, List.getElem?_cons_succ, List.getElem?_cons_zero]; rfl) (fun K hK => ?_)
                go_simp
                refine (sum_o hb cx cr4 [] (List.replicate k 0) Hcx Hcr4 HX.out none 0 0 _ k k _ (Rd.none_ _) (rd_blk0 HZZ.out nb5_122 (by omega)) (by omega) (by omega)).mono ?_
                rintro e ws123 ⟨rfl, hbs123⟩
                have szs123 := hbs123.size
                refine hK.out _ _ ?tu123 (fun hs123 => ?_)
                case tu123 => exact keepS _ _ hs122 hbs123
                clear hK K
                have nb7_123 := nb7_122.below hbs123 nb7_122.lt
                have nb5_123 := nb5_122.below hbs123 nb5_122.lt
                have nb8_123 := nb8_122.below hbs123 nb8_122.lt
                refine stepG 9 (by kernel_rfl) (by simp only [List.getElem?_toArray, List.getElem?_cons_succ, List.getElem?_cons_zero]; rfl) (fun K hK => ?_)
                refine step_store_blk rfl 22 (.tmp 12) (.tmp 48) rfl rfl rfl nb7_123 (by rw [lr3.out, lz.out]) (by rw [lr3.out]; exact infoA16) one3.out ?_
                intro wa hka hga
                refine hK.out _ _ ?ts111 (fun hHeld => ?_)
                case ts111 => ((try dsimp only); exact (hs123).grown hga (by have hq := (hs123).size; have := HK5.out; omega) (by intro k hk; simp at hk; omega))
                clear hK K
                have hkb := (nb8_123).keep_grown hga (by simp; omega)
                have hSa := hHeld
                refine stepG 10 (by kernel_rfl) (by simp only [List.getElem?_toArray, List.getElem?_cons_succ, List.getElem?_cons_zero]; rfl) (fun K hK => ?_)
                refine step_store_blk rfl 22 (.tmp 13) (.tmp 52) rfl rfl rfl hkb (by rw [lr4.out, lz.out]) (by rw [lr4.out]; exact infoA16) one4.out ?_
                intro wb hkb2 hgb
                refine hK.out _ _ ?ts112 (fun hHeld => ?_)
                case ts112 => ((try dsimp only); exact hSa.grown hgb (by have hq := hSa.size; have := HK5.out; omega) (by intro k hk; simp at hk; omega))
                clear hK K
                have hka2 := hka.keep_grown hgb (by simp; omega)
                refine doneG (by kernel_rfl) ?_ _
                go_wp2_with fail
                go_meet
                exact ⟨_, _, rfl, rfl, hka2, hkb2, hHeld⟩
            · refine StepOf.mk 8 (by simp only [List.getElem?_toArray, List.getElem?_cons_succ, List.getElem?_cons_zero]; rfl) (fun K hK => ?_)
              go_simp
              obtain ⟨ws124, hw124⟩ : ∃ wx : World, wx = ws105.alloc (.cells z.toArray 22) := ⟨_, rfl⟩
              rw [← hw124]
              have hbs124 : Below ws105.heap.size ws105 ws124 := by rw [hw124]; exact below_new _ _
              have nbs124 : Blk ws124 ws105.heap.size 22 z.toArray := by rw [hw124]; exact Blk.new _ _ _
              have szs124 : ws105.heap.size < ws124.heap.size := by rw [hw124]; simp
              clear hw124
              have ges124 : K5 ≤ ws105.heap.size := (by have hq := (hs105).size; have := HK5.out; omega)
              refine hK.out _ _ ?tu124 (fun hs124 => ?_)
              case tu124 => exact keepS _ _ hs105 hbs124
              clear hK K
              have nb7_124 := nbs105.below hbs124 nbs105.lt
              refine stepG2 2 5 (by kernel_rfl) ?_ ?_
              · refine StepOf.mk 2 (by simp only [List.getElem?_toArray, List.getElem?_cons_succ, List.getElem?_cons_zero]; rfl) (fun K hK => ?_)
                go_simp
                refine (sum_o hb cx cr3 [] (xors T1 T2) Hcx Hcr3 HX.out none 0 0 B k d _ (Rd.none_ _) (TR5.out _ hs124).1 (by omega) (by omega)).mono ?_
                rintro e ws125 ⟨rfl, hbs125⟩
                have szs125 := hbs125.size
                refine hK.out _ _ ?tu125 (fun hs125 => ?_)
                case tu125 => exact keepS _ _ hs124 hbs125
                clear hK K
                have nb7_125 := nb7_124.below hbs125 nb7_124.lt
                have nb8_125 := nbs124.below hbs125 nbs124.lt
                refine stepG 5 (by kernel_rfl) (by simp only [List.getElem?_toArray, List.getElem?_cons_succ, List.getElem?_cons_zero]; rfl) (fun K hK => ?_)
                go_simp
                obtain ⟨ws126, hw126⟩ : ∃ wx : World, wx = ws125.alloc (.cells Z.toArray 5) := ⟨_, rfl⟩
                rw [← hw126]
                have hbs126 : Below ws125.heap.size ws125 ws126 := by rw [hw126]; exact below_new _ _
                have nbs126 : Blk ws126 ws125.heap.size 5 Z.toArray := by rw [hw126]; exact Blk.new _ _ _
                have szs126 : ws125.heap.size < ws126.heap.size := by rw [hw126]; simp
                clear hw126
                have ges126 : K5 ≤ ws125.heap.size := (by have hq := (hs125).size; have := HK5.out; omega)
                refine hK.out _ _ ?tu126 (fun hs126 => ?_)
                case tu126 => exact keepS _ _ hs125 hbs126
                clear hK K
                have nb7_126 := nb7_125.below hbs126 nb7_125.lt
                have nb8_126 := nb8_125.below hbs126 nb8_125.lt
                refine stepG 6 (by kernel_rfl) (by simp only [List.getElem?_toArray, List.getElem?_cons_succ, List.getElem?_cons_zero]; rfl) (fun K hK => ?_)
                go_simp
                refine (sum_o hb cx cr4 [] (List.replicate k 0) Hcx Hcr4 HX.out none 0 0 _ k k _ (Rd.none_ _) (rd_blk0 HZZ.out nbs126 (by omega)) (by omega) (by omega)).mono ?_
                rintro e ws127 ⟨rfl, hbs127⟩
                have szs127 := hbs127.size
                refine hK.out _ _ ?tu127 (fun hs127 => ?_)
                case tu127 => exact keepS _ _ hs126 hbs127
                clear hK K
                have nb7_127 := nb7_126.below hbs127 nb7_126.lt
                have nb8_127 := nb8_126.below hbs127 nb8_126.lt
                have nb5_127 := nbs126.below hbs127 nbs126.lt
                refine stepG 9 (by kernel_rfl) (by simp only [List.getElem?_toArray, List.getElem?_cons_succ, List.getElem?_cons_zero]; rfl) (fun K hK => ?_)
                refine step_store_blk rfl 22 (.tmp 12) (.tmp 48) rfl rfl rfl nb7_127 (by rw [lr3.out, lz.out]) (by rw [lr3.out]; exact infoA16) one3.out ?_
                intro wa hka hga
                refine hK.out _ _ ?ts113 (fun hHeld => ?_)
                case ts113 => ((try dsimp only); exact (hs127).grown hga (by have hq := (hs127).size; have := HK5.out; omega) (by intro k hk; simp at hk; omega))
                clear hK K
                have hkb := (nb8_127).keep_grown hga (by simp; omega)
                have hSa := hHeld
                refine stepG 10 (by kernel_rfl) (by simp only [List.getElem?_toArray, List.getElem?_cons_succ, List.getElem?_cons_zero]; rfl) (fun K hK => ?_)
                refine step_store_blk rfl 22 (.tmp 13) (.tmp 52) rfl rfl rfl hkb (by rw [lr4.out, lz.out]) (by rw [lr4.out]; exact infoA16) one4.out ?_
                intro wb hkb2 hgb
                refine hK.out _ _ ?ts114 (fun hHeld => ?_)
                case ts114 => ((try dsimp only); exact hSa.grown hgb (by have hq := hSa.size; have := HK5.out; omega) (by intro k hk; simp at hk; omega))
                clear hK K
                have hka2 := hka.keep_grown hgb (by simp; omega)
                refine doneG (by kernel_rfl) ?_ _
                go_wp2_with fail
                go_meet
                exact ⟨_, _, rfl, rfl, hka2, hkb2, hHeld⟩
              · refine StepOf.mk 5 (by simp only [List.getElem?_toArray, List.getElem?_cons_succ, List.getElem?_cons_zero]; rfl) (fun K hK => ?_)
                go_simp
                obtain ⟨ws128, hw128⟩ : ∃ wx : World, wx = ws124.alloc (.cells Z.toArray 5) := ⟨_, rfl⟩
                rw [← hw128]
                have hbs128 : Below ws124.heap.size ws124 ws128 := by rw [hw128]; exact below_new _ _
                have nbs128 : Blk ws128 ws124.heap.size 5 Z.toArray := by rw [hw128]; exact Blk.new _ _ _
                have szs128 : ws124.heap.size < ws128.heap.size := by rw [hw128]; simp
                clear hw128
                have ges128 : K5 ≤ ws124.heap.size := (by have hq := (hs124).size; have := HK5.out; omega)
                refine hK.out _ _ ?tu128 (fun hs128 => ?_)
                case tu128 => exact keepS _ _ hs124 hbs128
                clear hK K
                have nb7_128 := nb7_124.below hbs128 nb7_124.lt
                have nb8_128 := nbs124.below hbs128 nbs124.lt
                refine stepG 2 (by kernel_rfl) (by simp only [List.getElem?_toArray, List.getElem?_cons_succ, List.getElem?_cons_zero]; rfl) (fun K hK => ?_)
                go_simp
                refine (sum_o hb cx cr3 [] (xors T1 T2) Hcx Hcr3 HX.out none 0 0 B k d _ (Rd.none_ _) (TR5.out _ hs128).1 (by omega) (by omega)).mono ?_
                rintro e ws129 ⟨rfl, hbs129⟩
                have szs129 := hbs129.size
                refine hK.out _ _ ?tu129 (fun hs129 => ?_)
                case tu129 => exact keepS _ _ hs128 hbs129
                clear hK K
                have nb7_129 := nb7_128.below hbs129 nb7_128.lt
                have nb8_129 := nb8_128.below hbs129 nb8_128.lt
                have nb5_129 := nbs128.below hbs129 nbs128.lt
                refine stepG 6 (by kernel_rfl) (by simp only [List.getElem?_toArray, List.getElem?_cons_succ, List.getElem?_cons_zero]; rfl) (fun K hK => ?_)
                go_simp
                refine (sum_o hb cx cr4 [] (List.replicate k 0) Hcx Hcr4 HX.out none 0 0 _ k k _ (Rd.none_ _) (rd_blk0 HZZ.out nb5_129 (by omega)) (by omega) (by omega)).mono ?_
                rintro e ws130 ⟨rfl, hbs130⟩
                have szs130 := hbs130.size
                refine hK.out _ _ ?tu130 (fun hs130 => ?_)
                case tu130 => exact keepS _ _ hs129 hbs130
                clear hK K
                have nb7_130 := nb7_129.below hbs130 nb7_129.lt
                have nb8_130 := nb8_129.below hbs130 nb8_129.lt
                have nb5_130 := nb5_129.below hbs130 nb5_129.lt
                refine stepG 9 (by kernel_rfl) (by simp only [List.getElem?_toArray, List.getElem?_cons_succ, List.getElem?_cons_zero]; rfl) (fun K hK => ?_)
                refine step_store_blk rfl 22 (.tmp 12) (.tmp 48) rfl rfl rfl nb7_130 (by rw [lr3.out, lz.out]) (by rw [lr3.out]; exact infoA16) one3.out ?_
                intro wa hka hga
                refine hK.out _ _ ?ts115 (fun hHeld => ?_)
                case ts115 => ((try dsimp only); exact (hs130).grown hga (by have hq := (hs130).size; have := HK5.out; omega) (by intro k hk; simp at hk; omega))
                clear hK K
                have hkb := (nb8_130).keep_grown hga (by simp; omega)
                have hSa := hHeld
                refine stepG 10 (by kernel_rfl) (by simp only [List.getElem?_toArray, List.getElem?_cons_succ, List.getElem?_cons_zero]; rfl) (fun K hK => ?_)
                refine step_store_blk rfl 22 (.tmp 13) (.tmp 52) rfl rfl rfl hkb (by rw [lr4.out, lz.out]) (by rw [lr4.out]; exact infoA16) one4.out ?_
                intro wb hkb2 hgb
                refine hK.out _ _ ?ts116 (fun hHeld => ?_)
                case ts116 => ((try dsimp only); exact hSa.grown hgb (by have hq := hSa.size; have := HK5.out; omega) (by intro k hk; simp at hk; omega))
                clear hK K
                have hka2 := hka.keep_grown hgb (by simp; omega)
                refine doneG (by kernel_rfl) ?_ _
                go_wp2_with fail
                go_meet
                exact ⟨_, _, rfl, rfl, hka2, hkb2, hHeld⟩
          · refine StepOf.mk 8 (by simp only [List.getElem?_toArray, List.getElem?_cons_succ, List.getElem?_cons_zero]; rfl) (fun K hK => ?_)
            go_simp
            obtain ⟨ws131, hw131⟩ : ∃ wx : World, wx = V0.alloc (.cells z.toArray 22) := ⟨_, rfl⟩
            rw [← hw131]
            have hbs131 : Below V0.heap.size V0 ws131 := by rw [hw131]; exact below_new _ _
            have nbs131 : Blk ws131 V0.heap.size 22 z.toArray := by rw [hw131]; exact Blk.new _ _ _
            have szs131 : V0.heap.size < ws131.heap.size := by rw [hw131]; simp
            clear hw131
            have ges131 : K5 ≤ V0.heap.size := (by have hq := (hHeld).size; have := HK5.out; omega)
            refine hK.out _ _ ?tu131 (fun hs131 => ?_)
            case tu131 => exact keepS _ _ hHeld hbs131
            clear hK K
            refine stepG3 2 5 7 (by kernel_rfl) ?_ ?_ ?_
            · refine StepOf.mk 2 (by simp only [List.getElem?_toArray, List.getElem?_cons_succ, List.getElem?_cons_zero]; rfl) (fun K hK => ?_)
              go_simp
              refine (sum_o hb cx cr3 [] (xors T1 T2) Hcx Hcr3 HX.out none 0 0 B k d _ (Rd.none_ _) (TR5.out _ hs131).1 (by omega) (by omega)).mono ?_
              rintro e ws132 ⟨rfl, hbs132⟩
              have szs132 := hbs132.size
              refine hK.out _ _ ?tu132 (fun hs132 => ?_)
              case tu132 => exact keepS _ _ hs131 hbs132
              clear hK K
              have nb8_132 := nbs131.below hbs132 nbs131.lt
              refine stepG2 5 7 (by kernel_rfl) ?_ ?_
              · refine StepOf.mk 5 (by simp only [List.getElem?_toArray, List.getElem?_cons_succ, List.getElem?_cons_zero]; rfl) (fun K hK => ?_)
                go_simp
                obtain ⟨ws133, hw133⟩ : ∃ wx : World, wx = ws132.alloc (.cells Z.toArray 5) := ⟨_, rfl⟩
                rw [← hw133]
                have hbs133 : Below ws132.heap.size ws132 ws133 := by rw [hw133]; exact below_new _ _
                have nbs133 : Blk ws133 ws132.heap.size 5 Z.toArray := by rw [hw133]; exact Blk.new _ _ _
                have szs133 : ws132.heap.size < ws133.heap.size := by rw [hw133]; simp
                clear hw133
                have ges133 : K5 ≤ ws132.heap.size := (by have hq := (hs132).size; have := HK5.out; omega)
                refine hK.out _ _ ?tu133 (fun hs133 => ?_)
                case tu133 => exact keepS _ _ hs132 hbs133
                clear hK K
                have nb8_133 := nb8_132.below hbs133 nb8_132.lt
                refine stepG2 6 7 (by kernel_rfl) ?_ ?_
                · refine StepOf.mk 6 (by simp only [List.getElem?_toArray, List.getElem?_cons_succ, List.getElem?_cons_zero]; rfl) (fun K hK => ?_)
                  go_simp
                  refine (sum_o hb cx cr4 [] (List.replicate k 0) Hcx Hcr4 HX.out none 0 0 _ k k _ (Rd.none_ _) (rd_blk0 HZZ.out nbs133 (by omega)) (by omega) (by omega)).mono ?_
                  rintro e ws134 ⟨rfl, hbs134⟩
                  have szs134 := hbs134.size
                  refine hK.out _ _ ?tu134 (fun hs134 => ?_)
                  case tu134 => exact keepS _ _ hs133 hbs134
                  clear hK K
                  have nb8_134 := nb8_133.below hbs134 nb8_133.lt
                  have nb5_134 := nbs133.below hbs134 nbs133.lt
                  refine stepG 7 (by kernel_rfl) (by simp only [List.getElem?_toArray, List.getElem?_cons_succ, List.getElem?_cons_zero]; rfl) (fun K hK => ?_)
                  go_simp
                  obtain ⟨ws135, hw135⟩ : ∃ wx : World, wx = ws134.alloc (.cells z.toArray 22) := ⟨_, rfl⟩
                  rw [← hw135]
                  have hbs135 : Below ws134.heap.size ws134 ws135 := by rw [hw135]; exact below_new _ _
                  have nbs135 : Blk ws135 ws134.heap.size 22 z.toArray := by rw [hw135]; exact Blk.new _ _ _
                  have szs135 : ws134.heap.size < ws135.heap.size := by rw [hw135]; simp
                  clear hw135
                  have ges135 : K5 ≤ ws134.heap.size := (by have hq := (hs134).size; have := HK5.out; omega)
                  refine hK.out _ _ ?tu135 (fun hs135 => ?_)
                  case tu135 => exact keepS _ _ hs134 hbs135
                  clear hK K
                  have nb8_135 := nb8_134.below hbs135 nb8_134.lt
                  have nb5_135 := nb5_134.below hbs135 nb5_134.lt
                  refine stepG 9 (by kernel_rfl) (by simp only [List.getElem?_toArray, List.getElem?_cons_succ, List.getElem?_cons_zero]; rfl) (fun K hK => ?_)
                  refine step_store_blk rfl 22 (.tmp 12) (.tmp 48) rfl rfl rfl nbs135 (by rw [lr3.out, lz.out]) (by rw [lr3.out]; exact infoA16) one3.out ?_
                  intro wa hka hga
                  refine hK.out _ _ ?ts117 (fun hHeld => ?_)
                  case ts117 => ((try dsimp only); exact (hs135).grown hga (by have hq := (hs135).size; have := HK5.out; omega) (by intro k hk; simp at hk; omega))
                  clear hK K
                  have hkb := (nb8_135).keep_grown hga (by simp; omega)
                  have hSa := hHeld
                  refine stepG 10 (by kernel_rfl) (by simp only [List.getElem?_toArray, List.getElem?_cons_succ, List.getElem?_cons_zero]; rfl) (fun K hK => ?_)
                  refine step_store_blk rfl 22 (.tmp 13) (.tmp 52) rfl rfl rfl hkb (by rw [lr4.out, lz.out]) (by rw [lr4.out]; exact infoA16) one4.out ?_
                  intro wb hkb2 hgb
                  refine hK.out _ _ ?ts118 (fun hHeld => ?_)
                  case ts118 => ((try dsimp only); exact hSa.grown hgb (by have hq := hSa.size; have := HK5.out; omega) (by intro k hk; simp at hk; omega))
                  clear hK K
                  have hka2 := hka.keep_grown hgb (by simp; omega)
                  refine doneG (by kernel_rfl) ?_ _
                  go_wp2_with fail
                  go_meet
                  exact ⟨_, _, rfl, rfl, hka2, hkb2, hHeld⟩
                · refine StepOf.mk 7 (by simp only [List.getElem?_toArray, List.getElem?_cons_succ, List.getElem?_cons_zero]; rfl) (fun K hK => ?_)
                  go_simp
                  obtain ⟨ws136, hw136⟩ : ∃ wx : World, wx = ws133.alloc (.cells z.toArray 22) := ⟨_, rfl⟩
                  rw [← hw136]
                  have hbs136 : Below ws133.heap.size ws133 ws136 := by rw [hw136]; exact below_new _ _
                  have nbs136 : Blk ws136 ws133.heap.size 22 z.toArray := by rw [hw136]; exact Blk.new _ _ _
                  have szs136 : ws133.heap.size < ws136.heap.size := by rw [hw136]; simp
                  clear hw136
                  have ges136 : K5 ≤ ws133.heap.size := (by have hq := (hs133).size; have := HK5.out; omega)
                  refine hK.out _ _ ?tu136 (fun hs136 => ?_)
                  case tu136 => exact keepS _ _ hs133 hbs136
                  clear hK K
                  have nb8_136 := nb8_133.below hbs136 nb8_133.lt
                  have nb5_136 := nbs133.below hbs136 nbs133.lt
                  refine stepG 6 (by kernel_rfl) (by simp only [List.getElem?_toArray, List.getElem?_cons_succ, List.getElem?_cons_zero]; rfl) (fun K hK => ?_)
                  go_simp
                  refine (sum_o hb cx cr4 [] (List.replicate k 0) Hcx Hcr4 HX.out none 0 0 _ k k _ (Rd.none_ _) (rd_blk0 HZZ.out nb5_136 (by omega)) (by omega) (by omega)).mono ?_
                  rintro e ws137 ⟨rfl, hbs137⟩
                  have szs137 := hbs137.size
                  refine hK.out _ _ ?tu137 (fun hs137 => ?_)
                  case tu137 => exact keepS _ _ hs136 hbs137
                  clear hK K
                  have nb8_137 := nb8_136.below hbs137 nb8_136.lt
                  have nb5_137 := nb5_136.below hbs137 nb5_136.lt
                  have nb7_137 := nbs136.below hbs137 nbs136.lt
                  refine stepG 9 (by kernel_rfl) (by simp only [List.getElem?_toArray, List.getElem?_cons_succ, List.getElem?_cons_zero]; rfl) (fun K hK => ?_)
                  refine step_store_blk rfl 22 (.tmp 12) (.tmp 48) rfl rfl rfl nb7_137 (by rw [lr3.out, lz.out]) (by rw [lr3.out]; exact infoA16) one3.out ?_
                  intro wa hka hga
                  refine hK.out _ _ ?ts119 (fun hHeld => ?_)
                  case ts119 => ((try dsimp only); exact (hs137).grown hga (by have hq := (hs137).size; have := HK5.out; omega) (by intro k hk; simp at hk; omega))
                  clear hK K
                  have hkb := (nb8_137).keep_grown hga (by simp; omega)
                  have hSa := hHeld
                  refine stepG 10 (by kernel_rfl) (by simp only [List.getElem?_toArray, List.getElem?_cons_succ, List.getElem?_cons_zero]; rfl) (fun K hK => ?_)
                  refine step_store_blk rfl 22 (.tmp 13) (.tmp 52) rfl rfl rfl hkb (by rw [lr4.out, lz.out]) (by rw [lr4.out]; exact infoA16) one4.out ?_
                  intro wb hkb2 hgb
                  refine hK.out _ _ ?ts120 (fun hHeld => ?_)
                  case ts120 => ((try dsimp only); exact hSa.grown hgb (by have hq := hSa.size; have := HK5.out; omega) (by intro k hk; simp at hk; omega))
                  clear hK K
                  have hka2 := hka.keep_grown hgb (by simp; omega)
                  refine doneG (by kernel_rfl) ?_ _
                  go_wp2_with fail
                  go_meet
                  exact ⟨_, _, rfl, rfl, hka2, hkb2, hHeld⟩
              · refine StepOf.mk 7 (by simp only [List.getElem?_toArray, List.getElem?_cons_succ, List.getElem?_cons_zero]; rfl) (fun K hK => ?_)
                go_simp
                obtain ⟨ws138, hw138⟩ : ∃ wx : World, wx = ws132.alloc (.cells z.toArray 22) := ⟨_, rfl⟩
                rw [← hw138]
                have hbs138 : Below ws132.heap.size ws132 ws138 := by rw [hw138]; exact below_new _ _
                have nbs138 : Blk ws138 ws132.heap.size 22 z.toArray := by rw [hw138]; exact Blk.new _ _ _
                have szs138 : ws132.heap.size < ws138.heap.size := by rw [hw138]; simp
                clear hw138
                have ges138 : K5 ≤ ws132.heap.size := (by have hq := (hs132).size; have := HK5.out; omega)
                refine hK.out _ _ ?tu138 (fun hs138 => ?_)
                case tu138 => exact keepS _ _ hs132 hbs138
                clear hK K
                have nb8_138 := nb8_132.below hbs138 nb8_132.lt
                refine stepG 5 (by kernel_rfl) (by simp only [List.getElem?_toArray, List.getElem?_cons_succ, List.getElem?_cons_zero]; rfl) (fun K hK => ?_)
                go_simp
                obtain ⟨ws139, hw139⟩ : ∃ wx : World, wx = ws138.alloc (.cells Z.toArray 5) := ⟨_, rfl⟩
                rw [← hw139]
                have hbs139 : Below ws138.heap.size ws138 ws139 := by rw [hw139]; exact below_new _ _
                have nbs139 : Blk ws139 ws138.heap.size 5 Z.toArray := by rw [hw139]; exact Blk.new _ _ _
                have szs139 : ws138.heap.size < ws139.heap.size := by rw [hw139]; simp
                clear hw139
                have ges139 : K5 ≤ ws138.heap.size := (by have hq := (hs138).size; have := HK5.out; omega)
                refine hK.out _ _ ?tu139 (fun hs139 => ?_)
                case tu139 => exact keepS _ _ hs138 hbs139
                clear hK K
                have nb8_139 := nb8_138.below hbs139 nb8_138.lt
                have nb7_139 := nbs138.below hbs139 nbs138.lt
                refine stepG 6 (by kernel_rfl) (by simp only [List.getElem?_toArray, List.getElem?_cons_succ, List.getElem?_cons_zero]; rfl) (fun K hK => ?_)
                go_simp
                refine (sum_o hb cx cr4 [] (List.replicate k 0) Hcx Hcr4 HX.out none 0 0 _ k k _ (Rd.none_ _) (rd_blk0 HZZ.out nbs139 (by omega)) (by omega) (by omega)).mono ?_
                rintro e ws140 ⟨rfl, hbs140⟩
                have szs140 := hbs140.size
                refine hK.out _ _ ?tu140 (fun hs140 => ?_)
                case tu140 => exact keepS _ _ hs139 hbs140
                clear hK K
                have nb8_140 := nb8_139.below hbs140 nb8_139.lt
                have nb7_140 := nb7_139.below hbs140 nb7_139.lt
                have nb5_140 := nbs139.below hbs140 nbs139.lt
                refine stepG 9 (by kernel_rfl) (by simp only [List.getElem?_toArray, List.getElem?_cons_succ, List.getElem?_cons_zero]; rfl) (fun K hK => ?_)
                refine step_store_blk rfl 22 (.tmp 12) (.tmp 48) rfl rfl rfl nb7_140 (by rw [lr3.out, lz.out]) (by rw [lr3.out]; exact infoA16) one3.out ?_
                intro wa hka hga
                refine hK.out _ _ ?ts121 (fun hHeld => ?_)
                case ts121 => ((try dsimp only); exact (hs140).grown hga (by have hq := (hs140).size; have := HK5.out; omega) (by intro k hk; simp at hk; omega))
                clear hK K
                have hkb := (nb8_140).keep_grown hga (by simp; omega)
                have hSa := hHeld
                refine stepG 10 (by kernel_rfl) (by simp only [List.getElem?_toArray, List.getElem?_cons_succ, List.getElem?_cons_zero]; rfl) (fun K hK => ?_)
                refine step_store_blk rfl 22 (.tmp 13) (.tmp 52) rfl rfl rfl hkb (by rw [lr4.out, lz.out]) (by rw [lr4.out]; exact infoA16) one4.out ?_
                intro wb hkb2 hgb
                refine hK.out _ _ ?ts122 (fun hHeld => ?_)
                case ts122 => ((try dsimp only); exact hSa.grown hgb (by have hq := hSa.size; have := HK5.out; omega) (by intro k hk; simp at hk; omega))
                clear hK K
                have hka2 := hka.keep_grown hgb (by simp; omega)
                refine doneG (by kernel_rfl) ?_ _
                go_wp2_with fail
                go_meet
                exact ⟨_, _, rfl, rfl, hka2, hkb2, hHeld⟩
            · refine StepOf.mk 5 (by simp only [List.getElem?_toArray, List.getElem?_cons_succ, List.getElem?_cons_zero]; rfl) (fun K hK => ?_)
              go_simp
              obtain ⟨ws141, hw141⟩ : ∃ wx : World, wx = ws131.alloc (.cells Z.toArray 5) := ⟨_, rfl⟩
              rw [← hw141]
              have hbs141 : Below ws131.heap.size ws131 ws141 := by rw [hw141]; exact below_new _ _
              have nbs141 : Blk ws141 ws131.heap.size 5 Z.toArray := by rw [hw141]; exact Blk.new _ _ _
              have szs141 : ws131.heap.size < ws141.heap.size := by rw [hw141]; simp
              clear hw141
              have ges141 : K5 ≤ ws131.heap.size := (by have hq := (hs131).size; have := HK5.out; omega)
              refine hK.out _ _ ?tu141 (fun hs141 => ?_)
              case tu141 => exact keepS _ _ hs131 hbs141
              clear hK K
              have nb8_141 := nbs131.below hbs141 nbs131.lt
              refine stepG2 2 7 (by kernel_rfl) ?_ ?_
              · refine StepOf.mk 2 (by simp only [List.getElem?_toArray, List.getElem?_cons_succ, List.getElem?_cons_zero]; rfl) (fun K hK => ?_)
                go_simp
                refine (sum_o hb cx cr3 [] (xors T1 T2) Hcx Hcr3 HX.out none 0 0 B k d _ (Rd.none_ _) (TR5.out _ hs141).1 (by omega) (by omega)).mono ?_
                rintro e ws142 ⟨rfl, hbs142⟩
                have szs142 := hbs142.size
                refine hK.out _ _ ?tu142 (fun hs142 => ?_)
                case tu142 => exact keepS _ _ hs141 hbs142
                clear hK K
                have nb8_142 := nb8_141.below hbs142 nb8_141.lt
                have nb5_142 := nbs141.below hbs142 nbs141.lt
                refine stepG2 6 7 (by kernel_rfl) ?_ ?_
                · refine StepOf.mk 6 (by simp only [List.getElem?_toArray, List.getElem?_cons_succ, List.getElem?_cons_zero]; rfl) (fun K hK => ?_)
                  go_simp
                  refine (sum_o hb cx cr4 [] (List.replicate k 0) Hcx Hcr4 HX.out none 0 0 _ k k _ (Rd.none_ _) (rd_blk0 HZZ.out nb5_142 (by omega)) (by omega) (by omega)).mono ?_
                  rintro e ws143 ⟨rfl, hbs143⟩
                  have szs143 := hbs143.size
                  refine hK.out _ _ ?tu143 (fun hs143 => ?_)
                  case tu143 => exact keepS _ _ hs142 hbs143
                  clear hK K
                  have nb8_143 := nb8_142.below hbs143 nb8_142.lt
                  have nb5_143 := nb5_142.below hbs143 nb5_142.lt
                  refine stepG 7 (by kernel_rfl) (by simp only [List.getElem?_toArray, List.getElem?_cons_succ, List.getElem?_cons_zero]; rfl) (fun K hK => ?_)
                  go_simp
                  obtain ⟨ws144, hw144⟩ : ∃ wx : World, wx = ws143.alloc (.cells z.toArray 22) := ⟨_, rfl⟩
                  rw [← hw144]
                  have hbs144 : Below ws143.heap.size ws143 ws144 := by rw [hw144]; exact below_new _ _
                  have nbs144 : Blk ws144 ws143.heap.size 22 z.toArray := by rw [hw144]; exact Blk.new _ _ _
                  have szs144 : ws143.heap.size < ws144.heap.size := by rw [hw144]; simp
                  clear hw144
                  have ges144 : K5 ≤ ws143.heap.size := (by have hq := (hs143).size; have := HK5.out; omega)
                  refine hK.out _ _ ?tu144 (fun hs144 => ?_)
                  case tu144 => exact keepS _ _ hs143 hbs144
                  clear hK K
                  have nb8_144 := nb8_143.below hbs144 nb8_143.lt
                  have nb5_144 := nb5_143.below hbs144 nb5_143.lt
                  refine stepG 9 (by kernel_rfl) (by simp only [List.getElem?_toArray, List.getElem?_cons_succ, List.getElem?_cons_zero]; rfl) (fun K hK => ?_)
                  refine step_store_blk rfl 22 (.tmp 12) (.tmp 48) rfl rfl rfl nbs144 (by rw [lr3.out, lz.out]) (by rw [lr3.out]; exact infoA16) one3.out ?_
                  intro wa hka hga
                  refine hK.out _ _ ?ts123 (fun hHeld => ?_)
                  case ts123 => ((try dsimp only); exact (hs144).grown hga (by have hq := (hs144).size; have := HK5.out; omega) (by intro k hk; simp at hk; omega))
                  clear hK K
                  have hkb := (nb8_144).keep_grown hga (by simp; omega)
                  have hSa := hHeld
                  refine stepG 10 (by kernel_rfl) (by simp only [List.getElem?_toArray, List.getElem?_cons_succ, List.getElem?_cons_zero]; rfl) (fun K hK => ?_)
                  refine step_store_blk rfl 22 (.tmp 13) (.tmp 52) rfl rfl rfl hkb (by rw [lr4.out, lz.out]) (by rw [lr4.out]; exact infoA16) one4.out ?_
                  intro wb hkb2 hgb
                  refine hK.out _ _ ?ts124 (fun hHeld => ?_)
                  case ts124 => ((try dsimp only); exact hSa.grown hgb (by have hq := hSa.size; have := HK5.out; omega) (by intro k hk; simp at hk; omega))
                  clear hK K
                  have hka2 := hka.keep_grown hgb (by simp; omega)
                  refine doneG (by kernel_rfl) ?_ _
                  go_wp2_with fail
                  go_meet
                  exact ⟨_, _, rfl, rfl, hka2, hkb2, hHeld⟩
                · refine StepOf.mk 7 (by simp only [List.getElem?_toArray, List.getElem?_cons_succ, List.getElem?_cons_zero]; rfl) (fun K hK => ?_)
                  go_simp
                  obtain ⟨ws145, hw145⟩ : ∃ wx : World, wx = ws142.alloc (.cells z.toArray 22) := ⟨_, rfl⟩
                  rw [← hw145]
                  have hbs145 : Below ws142.heap.size ws142 ws145 := by rw [hw145]; exact below_new _ _
                  have nbs145 : Blk ws145 ws142.heap.size 22 z.toArray := by rw [hw145]; exact Blk.new _ _ _
                  have szs145 : ws142.heap.size < ws145.heap.size := by rw [hw145]; simp
                  clear hw145
                  have ges145 : K5 ≤ ws142.heap.size := (by have hq := (hs142).size; have := HK5.out; omega)
                  refine hK.out _ _ ?tu145 (fun hs145 => ?_)
                  case tu145 => exact keepS _ _ hs142 hbs145
                  clear hK K
                  have nb8_145 := nb8_142.below hbs145 nb8_142.lt
                  have nb5_145 := nb5_142.below hbs145 nb5_142.lt
                  refine stepG 6 (by kernel_rfl) (by simp only [List.getElem?_toArray, List.getElem?_cons_succ, List.getElem?_cons_zero]; rfl) (fun K hK => ?_)
                  go_simp
                  refine (sum_o hb cx cr4 [] (List.replicate k 0) Hcx Hcr4 HX.out none 0 0 _ k k _ (Rd.none_ _) (rd_blk0 HZZ.out nb5_145 (by omega)) (by omega) (by omega)).mono ?_
                  rintro e ws146 ⟨rfl, hbs146⟩
                  have szs146 := hbs146.size
                  refine hK.out _ _ ?tu146 (fun hs146 => ?_)
                  case tu146 => exact keepS _ _ hs145 hbs146
                  clear hK K
                  have nb8_146 := nb8_145.below hbs146 nb8_145.lt
                  have nb5_146 := nb5_145.below hbs146 nb5_145.lt
                  have nb7_146 := nbs145.below hbs146 nbs145.lt
                  refine stepG 9 (by kernel_rfl) (by simp only [List.getElem?_toArray, List.getElem?_cons_succ, List.getElem?_cons_zero]; rfl) (fun K hK => ?_)
                  refine step_store_blk rfl 22 (.tmp 12) (.tmp 48) rfl rfl rfl nb7_146 (by rw [lr3.out, lz.out]) (by rw [lr3.out]; exact infoA16) one3.out ?_
                  intro wa hka hga
                  refine hK.out _ _ ?ts125 (fun hHeld => ?_)
                  case ts125 => ((try dsimp only); exact (hs146).grown hga (by have hq := (hs146).size; have := HK5.out; omega) (by intro k hk; simp at hk; omega))
                  clear hK K
                  have hkb := (nb8_146).keep_grown hga (by simp; omega)
                  have hSa := hHeld
                  refine stepG 10 (by kernel_rfl) (by simp only [List.getElem?_toArray, List.getElem?_cons_succ, List.getElem?_cons_zero]; rfl) (fun K hK => ?_)
                  refine step_store_blk rfl 22 (.tmp 13) (.tmp 52) rfl rfl rfl hkb (by rw [lr4.out, lz.out]) (by rw [lr4.out]; exact infoA16) one4.out ?_
                  intro wb hkb2 hgb
                  refine hK.out _ _ ?ts126 (fun hHeld => ?_)
                  case ts126 => ((try dsimp only); exact hSa.grown hgb (by have hq := hSa.size; have := HK5.out; omega) (by intro k hk; simp at hk; omega))
                  clear hK K
                  have hka2 := hka.keep_grown hgb (by simp; omega)
                  refine doneG (by kernel_rfl) ?_ _
                  go_wp2_with fail
                  go_meet
                  exact ⟨_, _, rfl, rfl, hka2, hkb2, hHeld⟩
              · refine StepOf.mk 7 (by simp only [List.getElem?_toArray, List.getElem?_cons_succ, List.getElem?_cons_zero]; rfl) (fun K hK => ?_)
                go_simp
                obtain ⟨ws147, hw147⟩ : ∃ wx : World, wx = ws141.alloc (.cells z.toArray 22) := ⟨_, rfl⟩
                rw [← hw147]
                have hbs147 : Below ws141.heap.size ws141 ws147 := by rw [hw147]; exact below_new _ _
                have nbs147 : Blk ws147 ws141.heap.size 22 z.toArray := by rw [hw147]; exact Blk.new _ _ _
                have szs147 : ws141.heap.size < ws147.heap.size := by rw [hw147]; simp
                clear hw147
                have ges147 : K5 ≤ ws141.heap.size := (by have hq := (hs141).size; have := HK5.out; omega)
                refine hK.out _ _ ?tu147 (fun hs147 => ?_)
                case tu147 => exact keepS _ _ hs141 hbs147
                clear hK K
                have nb8_147 := nb8_141.below hbs147 nb8_141.lt
                have nb5_147 := nbs141.below hbs147 nbs141.lt
                refine stepG 2 (by kernel_rfl) (by simp only [List.getElem?_toArray, List.getElem?_cons_succ, List.getElem?_cons_zero]; rfl) (fun K hK => ?_)
                go_simp
                refine (sum_o hb cx cr3 [] (xors T1 T2) Hcx Hcr3 HX.out none 0 0 B k d _ (Rd.none_ _) (TR5.out _ hs147).1 (by omega) (by omega)).mono ?_
                rintro e ws148 ⟨rfl, hbs148⟩
                have szs148 := hbs148.size
                refine hK.out _ _ ?tu148 (fun hs148 => ?_)
                case tu148 => exact keepS _ _ hs147 hbs148
                clear hK K
                have nb8_148 := nb8_147.below hbs148 nb8_147.lt
                have nb5_148 := nb5_147.below hbs148 nb5_147.lt
                have nb7_148 := nbs147.below hbs148 nbs147.lt
                refine stepG 6 (by kernel_rfl) (by simp only [List.getElem?_toArray, List.getElem?_cons_succ, List.getElem?_cons_zero]; rfl) (fun K hK => ?_)
                go_simp
                refine (sum_o hb cx cr4 [] (List.replicate k 0) Hcx Hcr4 HX.out none 0 0 _ k k _ (Rd.none_ _) (rd_blk0 HZZ.out nb5_148 (by omega)) (by omega) (by omega)).mono ?_
                rintro e ws149 ⟨rfl, hbs149⟩
                have szs149 := hbs149.size
                refine hK.out _ _ ?tu149 (fun hs149 => ?_)
                case tu149 => exact keepS _ _ hs148 hbs149
                clear hK K
                have nb8_149 := nb8_148.below hbs149 nb8_148.lt
                have nb5_149 := nb5_148.below hbs149 nb5_148.lt
                have nb7_149 := nb7_148.below hbs149 nb7_148.lt
                refine stepG 9 (by kernel_rfl) (by simp only [List.getElem?_toArray, List.getElem?_cons_succ, List.getElem?_cons_zero]; rfl) (fun K hK => ?_)
                refine step_store_blk rfl 22 (.tmp 12) (.tmp 48) rfl rfl rfl nb7_149 (by rw [lr3.out, lz.out]) (by rw [lr3.out]; exact infoA16) one3.out ?_
                intro wa hka hga
                refine hK.out _ _ ?ts127 (fun hHeld => ?_)
                case ts127 => ((try dsimp only); exact (hs149).grown hga (by have hq := (hs149).size; have := HK5.out; omega) (by intro k hk; simp at hk; omega))
                clear hK K
                have hkb := (nb8_149).keep_grown hga (by simp; omega)
                have hSa := hHeld
                refine stepG 10 (by kernel_rfl) (by simp only [List.getElem?_toArray, List.getElem?_cons_succ, List.getElem?_cons_zero]; rfl) (fun K hK => ?_)
                refine step_store_blk rfl 22 (.tmp 13) (.tmp 52) rfl rfl rfl hkb (by rw [lr4.out, lz.out]) (by rw [lr4.out]; exact infoA16) one4.out ?_
                intro wb hkb2 hgb
                refine hK.out _ _ ?ts128 (fun hHeld => ?_)
                case ts128 => ((try dsimp only); exact hSa.grown hgb (by have hq := hSa.size; have := HK5.out; omega) (by intro k hk; simp at hk; omega))
                clear hK K
                have hka2 := hka.keep_grown hgb (by simp; omega)
                refine doneG (by kernel_rfl) ?_ _
                go_wp2_with fail
                go_meet
                exact ⟨_, _, rfl, rfl, hka2, hkb2, hHeld⟩
            · refine StepOf.mk 7 (by simp only [List.getElem?_toArray, List.getElem?_cons_succ, List.getElem?_cons_zero]; rfl) (fun K hK => ?_)
              go_simp
              obtain ⟨ws150, hw150⟩ : ∃ wx : World, wx = ws131.alloc (.cells z.toArray 22) := ⟨_, rfl⟩
              rw [← hw150]
              have hbs150 : Below ws131.heap.size ws131 ws150 := by rw [hw150]; exact below_new _ _
              have nbs150 : Blk ws150 ws131.heap.size 22 z.toArray := by rw [hw150]; exact Blk.new _ _ _
              have szs150 : ws131.heap.size < ws150.heap.size := by rw [hw150]; simp
              clear hw150
              have ges150 : K5 ≤ ws131.heap.size := (by have hq := (hs131).size; have := HK5.out; omega)
              refine hK.out _ _ ?tu150 (fun hs150 => ?_)
              case tu150 => exact keepS _ _ hs131 hbs150
              clear hK K
              have nb8_150 := nbs131.below hbs150 nbs131.lt
              refine stepG2 2 5 (by kernel_rfl) ?_ ?_
              · refine StepOf.mk 2 (by simp only [List.getElem?_toArray, List.getElem?_cons_succ, List.getElem?_cons_zero]; rfl) (fun K hK => ?_)
                go_simp
                refine (sum_o hb cx cr3 [] (xors T1 T2) Hcx Hcr3 HX.out none 0 0 B k d _ (Rd.none_ _) (TR5.out _ hs150).1 (by omega) (by omega)).mono ?_
                rintro e ws151 ⟨rfl, hbs151⟩
                have szs151 := hbs151.size
                refine hK.out _ _ ?tu151 (fun hs151 => ?_)
                case tu151 => exact keepS _ _ hs150 hbs151
                clear hK K
                have nb8_151 := nb8_150.below hbs151 nb8_150.lt
                have nb7_151 := nbs150.below hbs151 nbs150.lt
                refine stepG 5 (by kernel_rfl) (by simp only [List.getElem?_toArray, List.getElem?_cons_succ, List.getElem?_cons_zero]; rfl) (fun K hK => ?_)
                go_simp
                obtain ⟨ws152, hw152⟩ : ∃ wx : World, wx = ws151.alloc (.cells Z.toArray 5) := ⟨_, rfl⟩
                rw [← hw152]
                have hbs152 : Below ws151.heap.size ws151 ws152 := by rw [hw152]; exact below_new _ _
                have nbs152 : Blk ws152 ws151.heap.size 5 Z.toArray := by rw [hw152]; exact Blk.new _ _ _
                have szs152 : ws151.heap.size < ws152.heap.size := by rw [hw152]; simp
                clear hw152
                have ges152 : K5 ≤ ws151.heap.size := (by have hq := (hs151).size; have := HK5.out; omega)
                refine hK.out _ _ ?tu152 (fun hs152 => ?_)
                case tu152 => exact keepS _ _ hs151 hbs152
                clear hK K
                have nb8_152 := nb8_151.below hbs152 nb8_151.lt
                have nb7_152 := nb7_151.below hbs152 nb7_151.lt
                refine stepG 6 (by kernel_rfl) (by simp only [List.getElem?_toArray, List.getElem?_cons_succ, List.getElem?_cons_zero]; rfl) (fun K hK => ?_)
                go_simp
                refine (sum_o hb cx cr4 [] (List.replicate k 0) Hcx Hcr4 HX.out none 0 0 _ k k _ (Rd.none_ _) (rd_blk0 HZZ.out nbs152 (by omega)) (by omega) (by omega)).mono ?_
                rintro e ws153 ⟨rfl, hbs153⟩
                have szs153 := hbs153.size
                refine hK.out _ _ ?tu153 (fun hs153 => ?_)
                case tu153 => exact keepS _ _ hs152 hbs153
                clear hK K
                have nb8_153 := nb8_152.below hbs153 nb8_152.lt
                have nb7_153 := nb7_152.below hbs153 nb7_152.lt
                have nb5_153 := nbs152.below hbs153 nbs152.lt
                refine stepG 9 (by kernel_rfl) (by simp only [List.getElem?_toArray, List.getElem?_cons_succ, List.getElem?_cons_zero]; rfl) (fun K hK => ?_)
                refine step_store_blk rfl 22 (.tmp 12) (.tmp 48) rfl rfl rfl nb7_153 (by rw [lr3.out, lz.out]) (by rw [lr3.out]; exact infoA16) one3.out ?_
                intro wa hka hga
                refine hK.out _ _ ?ts129 (fun hHeld => ?_)
                case ts129 => ((try dsimp only); exact (hs153).grown hga (by have hq := (hs153).size; have := HK5.out; omega) (by intro k hk; simp at hk; omega))
                clear hK K
                have hkb := (nb8_153).keep_grown hga (by simp; omega)
                have hSa := hHeld
                refine stepG 10 (by kernel_rfl) (by simp only [List.getElem?_toArray, List.getElem?_cons_succ, List.getElem?_cons_zero]; rfl) (fun K hK => ?_)
                refine step_store_blk rfl 22 (.tmp 13) (.tmp 52) rfl rfl rfl hkb (by rw [lr4.out, lz.out]) (by rw [lr4.out]; exact infoA16) one4.out ?_
                intro wb hkb2 hgb
                refine hK.out _ _ ?ts130 (fun hHeld => ?_)
                case ts130 => ((try dsimp only); exact hSa.grown hgb (by have hq := hSa.size; have := HK5.out; omega) (by intro k hk; simp at hk; omega))
                clear hK K
                have hka2 := hka.keep_grown hgb (by simp; omega)
                refine doneG (by kernel_rfl) ?_ _
                go_wp2_with fail
                go_meet
                exact ⟨_, _, rfl, rfl, hka2, hkb2, hHeld⟩
              · refine StepOf.mk 5 (by simp only [List.getElem?_toArray, List.getElem?_cons_succ, List.getElem?_cons_zero]; rfl) (fun K hK => ?_)
                go_simp
                obtain ⟨ws154, hw154⟩ : ∃ wx : World, wx = ws150.alloc (.cells Z.toArray 5) := ⟨_, rfl⟩
                rw [← hw154]
                have hbs154 : Below ws150.heap.size ws150 ws154 := by rw [hw154]; exact below_new _ _
                have nbs154 : Blk ws154 ws150.heap.size 5 Z.toArray := by rw [hw154]; exact Blk.new _ _ _
                have szs154 : ws150.heap.size < ws154.heap.size := by rw [hw154]; simp
                clear hw154
                have ges154 : K5 ≤ ws150.heap.size := (by have hq := (hs150).size; have := HK5.out; omega)
                refine hK.out _ _ ?tu154 (fun hs154 => ?_)
                case tu154 => exact keepS _ _ hs150 hbs154
                clear hK K
                have nb8_154 := nb8_150.below hbs154 nb8_150.lt
                have nb7_154 := nbs150.below hbs154 nbs150.lt
                refine stepG 2 (by kernel_rfl) (by simp only [List.getElem?_toArray, List.getElem?_cons_succ, List.getElem?_cons_zero]; rfl) (fun K hK => ?_)
                go_simp
                refine (sum_o hb cx cr3 [] (xors T1 T2) Hcx Hcr3 HX.out none 0 0 B k d _ (Rd.none_ _) (TR5.out _ hs154).1 (by omega) (by omega)).mono ?_
                rintro e ws155 ⟨rfl, hbs155⟩
                have szs155 := hbs155.size
                refine hK.out _ _ ?tu155 (fun hs155 => ?_)
                case tu155 => exact keepS _ _ hs154 hbs155
                clear hK K
                have nb8_155 := nb8_154.below hbs155 nb8_154.lt
                have nb7_155 := nb7_154.below hbs155 nb7_154.lt
                have nb5_155 := nbs154.below hbs155 nbs154.lt
                refine stepG 6 (by kernel_rfl) (by simp only [List.getElem?_toArray, List.getElem?_cons_succ, List.getElem?_cons_zero]; rfl) (fun K hK => ?_)
                go_simp
                refine (sum_o hb cx cr4 [] (List.replicate k 0) Hcx Hcr4 HX.out none 0 0 _ k k _ (Rd.none_ _) (rd_blk0 HZZ.out nb5_155 (by omega)) (by omega) (by omega)).mono ?_
                rintro e ws156 ⟨rfl, hbs156⟩
                have szs156 := hbs156.size
                refine hK.out _ _ ?tu156 (fun hs156 => ?_)
                case tu156 => exact keepS _ _ hs155 hbs156
                clear hK K
                have nb8_156 := nb8_155.below hbs156 nb8_155.lt
                have nb7_156 := nb7_155.below hbs156 nb7_155.lt
                have nb5_156 := nb5_155.below hbs156 nb5_155.lt
                refine stepG 9 (by kernel_rfl) (by simp only [List.getElem?_toArray, List.getElem?_cons_succ, List.getElem?_cons_zero]; rfl) (fun K hK => ?_)
                refine step_store_blk rfl 22 (.tmp 12) (.tmp 48) rfl rfl rfl nb7_156 (by rw [lr3.out, lz.out]) (by rw [lr3.out]; exact infoA16) one3.out ?_
                intro wa hka hga
                refine hK.out _ _ ?ts131 (fun hHeld => ?_)
                case ts131 => ((try dsimp only); exact (hs156).grown hga (by have hq := (hs156).size; have := HK5.out; omega) (by intro k hk; simp at hk; omega))
                clear hK K
                have hkb := (nb8_156).keep_grown hga (by simp; omega)
                have hSa := hHeld
                refine stepG 10 (by kernel_rfl) (by simp only [List.getElem?_toArray, List.getElem?_cons_succ, List.getElem?_cons_zero]; rfl) (fun K hK => ?_)
                refine step_store_blk rfl 22 (.tmp 13) (.tmp 52) rfl rfl rfl hkb (by rw [lr4.out, lz.out]) (by rw [lr4.out]; exact infoA16) one4.out ?_
                intro wb hkb2 hgb
                refine hK.out _ _ ?ts132 (fun hHeld => ?_)
                case ts132 => ((try dsimp only); exact hSa.grown hgb (by have hq := hSa.size; have := HK5.out; omega) (by intro k hk; simp at hk; omega))
                clear hK K
                have hka2 := hka.keep_grown hgb (by simp; omega)
                refine doneG (by kernel_rfl) ?_ _
                go_wp2_with fail
                go_meet
                exact ⟨_, _, rfl, rfl, hka2, hkb2, hHeld⟩
        case rest =>
          obtain ⟨b12, b13, rfl, rfl, k12, k13, hSd⟩ := hcut
          obtain ⟨_, kxd, k10, k11, hBd⟩ := TR5.out _ hSd
          have K10w := Lib.hid k10
          have K11w := Lib.hid k11
          have K12w := Lib.hid k12
          have K13w := Lib.hid k13
          have HBw' := Lib.hid hBd
          clear k10 k11 k12 k13 kxd hBd hSd TR5 KS5 HS5 HK5
          obtain ⟨ce, Hce⟩ : ∃ cs, Hid (cs = (be (gfin (num hb) [] T1 ^^^ gfin (num hb) [] T2) 16).map B8) := ⟨_, rfl⟩
          have b1 := gfin_lt (num hb) [] T1 (num_lt16 hb HX.out)
          have b2 := gfin_lt (num hb) [] T2 (num_lt16 hb HX.out)
          have b3 := gfin_lt (num hb) [] (xors T1 T2) (num_lt16 hb HX.out)
          have b4 := gfin_lt (num hb) [] (List.replicate k 0) (num_lt16 hb HX.out)
          have hsum1 : Hid (ce = (gadd (be (gfin (num hb) [] T1) 16) (be (gfin (num hb) [] T2) 16)).map B8) := by
            show _ = _
            rw [gadd_be _ _ (be_length _ 16) (be_length _ 16), num_be16 _ b1, num_be16 _ b2, Hce.out]
          have hsum2 : Hid (ce = (gadd (be (gfin (num hb) [] (xors T1 T2)) 16) (be (gfin (num hb) [] (List.replicate k 0)) 16)).map B8) := by
            show _ = _
            rw [gadd_be _ _ (be_length _ 16) (be_length _ 16), num_be16 _ b3, num_be16 _ b4, Hce.out, adds_law (num hb) k T1 T2 R1.out.len.symm R2.out.len.symm]
          have hq := eqcs _ ce Hce (be_length _ 16)
          clear b1 b2 b3 b4
          go_wp2_with fail
          refine region_gate 11 (fun w' => Blk w' b10 22 cr1.toArray ∧ Blk w' b11 22 cr2.toArray ∧ Blk w' b12 22 cr3.toArray ∧ Blk w' b13 22 cr4.toArray ∧ Below H w w') (by kernel_rfl) ?th133 (fun hHeld => ?tk133)
          case th133 => ((try dsimp only); exact ⟨K10w.out.drew, K11w.out.drew, K12w.out.drew, K13w.out.drew, HBw'.out.drew⟩)
          refine' takeV 0 (oi := _) (d := _) (v := _) ?ti134 ?td134 (by kernel_rfl) (by kernel_rfl) (by kernel_rfl) (by kernel_rfl) (by decide) (fun _ _ _ _ _ h => h) ?tg134 ?ty134 (by assumption) ?tr134
          case ti134 => (simp only [List.getElem?_toArray, List.getElem?_cons_succ, List.getElem?_cons_zero]; rfl)
          case td134 => exact rfl
          case tg134 => exact rfl
          case ty134 => (intro w hSw; (try dsimp only at hSw); rw [exec_load_blk 22 (.tmp 10) rfl rfl hSw.1 _ HU.out rfl (by rw [lr1.out]; exact infoA16)])
          simp only [List.setIfInBounds_toArray, List.set_cons_zero, List.set_cons_succ]
          refine' takeV 1 (oi := _) (d := _) (v := _) ?ti135 ?td135 (by kernel_rfl) (by kernel_rfl) (by kernel_rfl) (by kernel_rfl) (by decide) (fun _ _ _ _ _ h => h) ?tg135 ?ty135 (by assumption) ?tr135
          case ti135 => (simp only [List.getElem?_toArray, List.getElem?_cons_succ, List.getElem?_cons_zero]; rfl)
          case td135 => exact rfl
          case tg135 => exact rfl
          case ty135 => (intro w hSw; (try dsimp only at hSw); rw [exec_load_blk 22 (.tmp 11) rfl rfl hSw.2.1 _ HU.out rfl (by rw [lr2.out]; exact infoA16)])
          simp only [List.setIfInBounds_toArray, List.set_cons_zero, List.set_cons_succ]
          refine' takeV 3 (oi := _) (d := _) (v := _) ?ti136 ?td136 (by kernel_rfl) (by kernel_rfl) (by kernel_rfl) (by kernel_rfl) (by decide) (fun _ _ _ _ _ h => h) ?tg136 ?ty136 (by assumption) ?tr136
          case ti136 => (simp only [List.getElem?_toArray, List.getElem?_cons_succ, List.getElem?_cons_zero]; rfl)
          case td136 => exact rfl
          case tg136 => exact rfl
          case ty136 => (intro w hSw; (try dsimp only at hSw); rw [exec_load_blk 22 (.tmp 12) rfl rfl hSw.2.2.1 _ HU.out rfl (by rw [lr3.out]; exact infoA16)])
          simp only [List.setIfInBounds_toArray, List.set_cons_zero, List.set_cons_succ]
          refine' takeV 4 (oi := _) (d := _) (v := _) ?ti137 ?td137 (by kernel_rfl) (by kernel_rfl) (by kernel_rfl) (by kernel_rfl) (by decide) (fun _ _ _ _ _ h => h) ?tg137 ?ty137 (by assumption) ?tr137
          case ti137 => (simp only [List.getElem?_toArray, List.getElem?_cons_succ, List.getElem?_cons_zero]; rfl)
          case td137 => exact rfl
          case tg137 => exact rfl
          case ty137 => (intro w hSw; (try dsimp only at hSw); rw [exec_load_blk 22 (.tmp 13) rfl rfl hSw.2.2.2.1 _ HU.out rfl (by rw [lr4.out]; exact infoA16)])
          simp only [List.setIfInBounds_toArray, List.set_cons_zero, List.set_cons_succ]
          obtain ⟨j1, j2, j3, j4, j5⟩ := hHeld
          refine stepG 2 (by kernel_rfl) (by simp only [List.getElem?_toArray, List.getElem?_cons_succ, List.getElem?_cons_zero]; rfl) (fun K hK => ?_)
          go_simp
          refine (plus_o _ _ cr1 cr2 ce Hcr1 Hcr2 hsum1 (be_length _ 16) (be_length _ 16) _).mono ?_
          rintro e wp1 ⟨rfl, hp1⟩
          refine hK.out _ _ ?ts138 (fun hHeld => ?_)
          case ts138 => ((try dsimp only); exact ⟨j1.below hp1 j1.lt, j2.below hp1 j2.lt, j3.below hp1 j3.lt, j4.below hp1 j4.lt, j5.trans (hp1.mono (by have := j5.size; have := HH.out; omega))⟩)
          clear hK K
          obtain ⟨q1, q2, q3, q4, q5⟩ := hHeld
          refine stepG 5 (by kernel_rfl) (by simp only [List.getElem?_toArray, List.getElem?_cons_succ, List.getElem?_cons_zero]; rfl) (fun K hK => ?_)
          go_simp
          refine (plus_o _ _ cr3 cr4 ce Hcr3 Hcr4 hsum2 (be_length _ 16) (be_length _ 16) _).mono ?_
          rintro e wp2 ⟨rfl, hp2⟩
          refine hK.out _ _ ?ts139 (fun hHeld => ?_)
          case ts139 => ((try dsimp only); exact ⟨q1.below hp2 q1.lt, q2.below hp2 q2.lt, q3.below hp2 q3.lt, q4.below hp2 q4.lt, q5.trans (hp2.mono (by have := q5.size; have := HH.out; omega))⟩)
          clear hK K
          obtain ⟨r1, r2, r3, r4, r5⟩ := hHeld
          refine stepG 6 (by kernel_rfl) (by simp only [List.getElem?_toArray, List.getElem?_cons_succ, List.getElem?_cons_zero]; rfl) (fun K hK => ?_)
          go_simp
          refine hK.out _ _ ?ts140 (fun hHeld => ?_)
          case ts140 => ((try dsimp only); exact ⟨r1, r2, r3, r4, r5⟩)
          clear hK K
          refine stepG 7 (by kernel_rfl) (by simp only [List.getElem?_toArray, List.getElem?_cons_succ, List.getElem?_cons_zero]; rfl) (fun K hK => ?_)
          go_simp
          refine hK.out _ _ ?ts141 (fun hHeld => ?_)
          case ts141 => ((try dsimp only); exact ⟨r1, r2, r3, r4, r5⟩)
          clear hK K
          refine stepG 8 (by kernel_rfl) (by simp only [List.getElem?_toArray, List.getElem?_cons_succ, List.getElem?_cons_zero]; rfl) (fun K hK => ?_)
          go_simp
          refine (known_any _).mono ?_
          rintro e wp3 ⟨rfl, hp3⟩
          refine hK.out _ _ ?ts142 (fun hHeld => ?_)
          case ts142 => ((try dsimp only); exact ⟨r1.below hp3 r1.lt, r2.below hp3 r2.lt, r3.below hp3 r3.lt, r4.below hp3 r4.lt, r5.trans (hp3.mono (by have := r5.size; have := HH.out; omega))⟩)
          clear hK K
          obtain ⟨t1, t2, t3, t4, t5⟩ := hHeld
          refine stepG 9 (by kernel_rfl) (by simp only [List.getElem?_toArray, List.getElem?_cons_succ, List.getElem?_cons_zero]; rfl) (fun K hK => ?_)
          go_simp
          refine hK.out _ _ ?ts143 (fun hHeld => ?_)
          case ts143 => ((try dsimp only); exact ⟨t1, t2, t3, t4, t5⟩)
          clear hK K
          refine stepG 10 (by kernel_rfl) (by simp only [List.getElem?_toArray, List.getElem?_cons_succ, List.getElem?_cons_zero]; rfl) (fun K hK => ?_)
          go_simp
          refine hK.out _ _ ?ts144 (fun hHeld => ?_)
          case ts144 => ((try dsimp only); exact ⟨t1, t2, t3, t4, t5⟩)
          clear hK K
          refine doneG (by kernel_rfl) ?_ _
          go_wp2
          go_ret
          exact ⟨rfl, by rw [HH.out]; exact t5⟩
end Go.Proofs.Ytikhnjoobhfgdaa
