/- Contracts: the leaves that the laws of graft know. -/
import Derived.Test.YtgihcjmcefdkiaaGrFindR
import Derived.Test.YtgihcjmcefdkiaaGrSplit
set_option linter.unusedVariables false
set_option linter.unusedSimpArgs false
namespace Go.Proofs.Ytgihcjmcefdkiaa
open Go.RowKit

/-- A leaf's entries: keys of a byte each, values of sixty noughts. -/
def leafE (ks : List UInt8) : List Ent := ks.map fun x => ⟨[x], List.replicate 60 0, 0, r0, r0⟩
theorem leafE_length (ks : List UInt8) : (leafE ks).length = ks.length := by simp [leafE]
theorem leafE_at (ks : List UInt8) (i : Nat) (h : i < ks.length) : (leafE ks).getD i ent0 = ⟨[ks.getD i 0], List.replicate 60 0, 0, r0, r0⟩ := by simp [leafE, List.getD, h]
theorem Own.of_blk {W : World} {H g n : Nat} {l : List UInt8} {cs : List Value} (hb : Blk W g 5 cs.toArray) (hg : H ≤ g) (hcs : cs = l.map B8) (hn : n = l.length) (hm : n ≤ 140737488355328) : Own W H (some ⟨g, 0, none⟩) n n l :=
  own_of_heap (cur := cs) hb hg (Nat.le_refl _) (by unfold maxLen; omega) (by rw [hcs, List.length_map, hn]) (by rw [hcs, List.take_of_length_le (by rw [List.length_map, hn]; exact Nat.le_refl _)]) hn
set_option maxRecDepth 100000 in
set_option maxHeartbeats 3200000 in
theorem leaf_any (sb : ByteArray) (ks : List UInt8) (w : World) (hks : sb.data.toList = ks) (hN : ks.length ≤ 100) :
    Calls Try.prog 42 #[.string sb] w fun e w' => ∃ A' c', e = .returned (NdV 1 0 A' ks.length c') ∧ OwnN w' w.heap.size A' ks.length c' (leafE ks) ∧ Below w.heap.size w w' := by
  have hsz : sb.size = ks.length := by rw [← hks]; rfl
  obtain ⟨i0, hi0, hz0, hz1, hz2⟩ := info_parts infoU8
  obtain ⟨Z, HZ⟩ : ∃ Z, Hid (Z = (List.replicate 60 (0 : UInt8)).map B8) := ⟨_, rfl⟩
  have hmk : ∀ W : World, (Instr.makeSlice 28 (.int .i64 60) (.int .i64 60)).run Try.prog W = .ok (.slice (some ⟨W.heap.size, 0, none⟩) 60 60) (W.alloc (.cells Z.toArray 5)) := by
    intro W
    have := run_make_rowN (P := Try.prog) 28 5 i0 (.int .u8 0) Try.underlying28 hi0 hz0 .i64 .i64 60 60 (by omega) (by rw [hz2]; omega) (by omega) W
    rw [hz1] at this
    rw [HZ.out, ← made_bytes 60]
    exact this
  clear hi0 hz0 hz1 hz2
  obtain ⟨n, hn⟩ : ∃ n, ks.length = n := ⟨_, rfl⟩
  have HKS := Lib.hid hks
  have HN := Lib.hid hn
  rw [hn] at hsz hN ⊢
  obtain ⟨W, hW⟩ : ∃ W, W = (w.alloc (.cells #[.int .u8 0, .int .u8 0, .slice none 0 0] 24)).alloc (.cells #[.int .u8 1, .int .u8 0, .slice none 0 0] 24) := ⟨_, rfl⟩
  have HWB : Hid (Below w.heap.size w W) := by rw [hW]; exact (below_new _ _).alloc (by simp) _
  have KZ : Hid (Blk W w.heap.size 24 [Value.int .u8 0, .int .u8 0, .slice none 0 0].toArray) := by rw [hW]; exact (Blk.new _ _ _).alloc _
  have KM : Hid (Blk W (w.heap.size + 1) 24 (ndA 1 0 none 0 0)) := by rw [hW]; exact Blk.new' _ _ _ _ (by simp)
  have HW := Lib.hid hW
  have hWm := KM.out.lt
  clear hW hks hn
  go_enter Try.func42, Try.ntmps42
  go_wp2_with fail
  rw [← HW.out]
  go_wp2_with fail
  go_loopw [8] (fun z wr => ∃ (i c2 : Nat) (A2 : Option Addr), i ≤ n ∧ z = .int .i64 (i : Int) ∧ Blk wr (w.heap.size + 1) 24 (ndA 1 0 A2 i c2) ∧ OwnN wr W.heap.size A2 i c2 (leafE ks) ∧ Below (w.heap.size + 1) W wr) (fun z _ => n - (intOf z).toNat)
  case atStart => exact ⟨0, 0, none, Nat.zero_le _, rfl, KM.out, OwnN.nil _ _ _, Below.refl _ _⟩
  case round =>
    obtain ⟨i, c3, A3, hi, rfl, hkm, hown, hbel⟩ := hrel
    have HKM := Lib.hid hkm
    have HO := Lib.hid hown
    have HBE := Lib.hid hbel
    have hbs := hbel.size
    clear hkm hown hbel
    by_cases hlt : i < n
    · have i1 : (0 : Int) ≤ (i : Int) := by omega
      have i2 : (i : Int) < (n : Int) := by omega
      obtain ⟨x, HX⟩ : ∃ x, Hid (ks.getD i 0 = x) := ⟨_, rfl⟩
      have hx := str_index (P := Try.prog) 9 Try.underlying9 sb i i rfl (by omega) x (by rw [HKS.out]; exact HX.out)
      have TR : Hid (∀ V, Below W.heap.size wr V → V.cell? ⟨w.heap.size + 1, 2, none⟩ = some (.slice A3 i c3) ∧ Below W.heap.size wr V) := fun V hb => ⟨(HKM.out.below hb (by omega)).cell 2, hb⟩
      go_wp2_with fail
      refine region_gate 11 (fun V => V.cell? ⟨w.heap.size + 1, 2, none⟩ = some (.slice A3 i c3) ∧ Below W.heap.size wr V) (by kernel_rfl) ?th1 (fun hHeld => ?tk1)
      case th1 => ((try dsimp only); exact TR.out _ (Below.refl _ _).drew)
      refine' takeV 0 (oi := _) (d := _) (v := _) ?ti2 ?td2 (by kernel_rfl) (by kernel_rfl) (by kernel_rfl) (by kernel_rfl) (by decide) (fun _ _ _ _ _ h => h) ?tg2 ?ty2 (by assumption) ?tr2
      case ti2 => (simp only [List.getElem?_toArray, List.getElem?_cons_succ, List.getElem?_cons_zero]; rfl)
      case td2 => exact rfl
      case tg2 => exact rfl
      case ty2 => (intro w hSw; (try dsimp only at hSw); go_split_ands; go_simp; try with_reducible rfl)
      simp only [List.setIfInBounds_toArray, List.set_cons_zero, List.set_cons_succ]
      refine' takeV 1 (oi := _) (d := _) (v := _) ?ti3 ?td3 (by kernel_rfl) (by kernel_rfl) (by kernel_rfl) (by kernel_rfl) (by decide) (fun _ _ _ _ _ h => h) ?tg3 ?ty3 (by assumption) ?tr3
      case ti3 => (simp only [List.getElem?_toArray, List.getElem?_cons_succ, List.getElem?_cons_zero]; rfl)
      case td3 => exact rfl
      case tg3 => exact rfl
      case ty3 => (intro w hSw; (try dsimp only at hSw); go_split_ands; go_simp; try with_reducible rfl)
      simp only [List.setIfInBounds_toArray, List.set_cons_zero, List.set_cons_succ]
      refine' takeV 2 (oi := _) (d := _) (v := _) ?ti4 ?td4 (by kernel_rfl) (by kernel_rfl) (by kernel_rfl) (by kernel_rfl) (by decide) (fun _ _ _ _ _ h => h) ?tg4 ?ty4 (by assumption) ?tr4
      case ti4 => (simp only [List.getElem?_toArray, List.getElem?_cons_succ, List.getElem?_cons_zero]; rfl)
      case td4 => exact rfl
      case tg4 => exact rfl
      case ty4 => (intro w hSw; (try dsimp only at hSw); go_split_ands; go_simp; try with_reducible rfl)
      simp only [List.setIfInBounds_toArray, List.set_cons_zero, List.set_cons_succ]
      refine' takeV 3 (oi := _) (d := _) (v := _) ?ti5 ?td5 (by kernel_rfl) (by kernel_rfl) (by kernel_rfl) (by kernel_rfl) (by decide) (fun _ _ _ _ _ h => h) ?tg5 ?ty5 (by assumption) ?tr5
      case ti5 => (simp only [List.getElem?_toArray, List.getElem?_cons_succ, List.getElem?_cons_zero]; rfl)
      case td5 => exact rfl
      case tg5 => exact rfl
      case ty5 => (intro w hSw; (try dsimp only at hSw); go_split_ands; go_simp; try with_reducible rfl)
      simp only [List.setIfInBounds_toArray, List.set_cons_zero, List.set_cons_succ]
      refine' takeV 4 (oi := _) (d := _) (v := _) ?ti6 ?td6 (by kernel_rfl) (by kernel_rfl) (by kernel_rfl) (by kernel_rfl) (by decide) (fun _ _ _ _ _ h => h) ?tg6 ?ty6 (by assumption) ?tr6
      case ti6 => (simp only [List.getElem?_toArray, List.getElem?_cons_succ, List.getElem?_cons_zero]; rfl)
      case td6 => exact rfl
      case tg6 => exact rfl
      case ty6 => (intro w hSw; (try dsimp only at hSw); go_split_ands; go_simp; try with_reducible rfl)
      simp only [List.setIfInBounds_toArray, List.set_cons_zero, List.set_cons_succ]
      obtain ⟨V0, hV0⟩ : ∃ V0, V0 = wr.drew := ⟨_, rfl⟩
      have B0 : Hid (Below wr.heap.size wr V0) := by rw [hV0]; exact (Below.refl _ _).drew
      rw [← hV0] at hHeld ⊢
      clear hV0
      have s0 := B0.out.size
      have keepS : ∀ wa wb : World, (fun V : World => V.cell? ⟨w.heap.size + 1, 2, none⟩ = some (.slice A3 i c3) ∧ Below W.heap.size wr V) wa → Below wa.heap.size wa wb → (fun V : World => V.cell? ⟨w.heap.size + 1, 2, none⟩ = some (.slice A3 i c3) ∧ Below W.heap.size wr V) wb := fun wa wb h hb => TR.out wb (h.2.trans (hb.mono (by have := h.2.size; omega)))
      have hkv := HKM.out.below B0.out HKM.out.lt
      have hov := HO.out.below B0.out
      refine stepG2 5 6 (by kernel_rfl) ?_ ?_
      · refine StepOf.mk 5 (by simp only [List.getElem?_toArray, List.getElem?_cons_succ, List.getElem?_cons_zero]; rfl) (fun K hK => ?_)
        go_simp
        obtain ⟨ws1, hw1⟩ : ∃ wx : World, wx = V0.alloc (.cells [.int .u8 (x.toNat : Int)].toArray 5) := ⟨_, rfl⟩
        rw [← hw1]
        have hbs1 : Below V0.heap.size V0 ws1 := by rw [hw1]; exact below_new _ _
        have nbs1 : Blk ws1 V0.heap.size 5 [.int .u8 (x.toNat : Int)].toArray := by rw [hw1]; exact Blk.new _ _ _
        have szs1 : V0.heap.size < ws1.heap.size := by rw [hw1]; simp
        clear hw1
        have ges1 : wr.heap.size ≤ V0.heap.size := (hHeld).2.size
        refine hK.out _ _ ?tu1 (fun hs1 => ?_)
        case tu1 => exact keepS _ _ hHeld hbs1
        clear hK K
        have nb101_1 := hkv.below hbs1 hkv.lt
        have fy200_1 := hov.below hbs1
        refine stepG 6 (by kernel_rfl) (by simp only [List.getElem?_toArray, List.getElem?_cons_succ, List.getElem?_cons_zero]; rfl) (fun K hK => ?_)
        go_simp
        obtain ⟨ws2, hw2⟩ : ∃ wx : World, wx = ws1.alloc (.cells Z.toArray 5) := ⟨_, rfl⟩
        rw [← hw2]
        have hbs2 : Below ws1.heap.size ws1 ws2 := by rw [hw2]; exact below_new _ _
        have nbs2 : Blk ws2 ws1.heap.size 5 Z.toArray := by rw [hw2]; exact Blk.new _ _ _
        have szs2 : ws1.heap.size < ws2.heap.size := by rw [hw2]; simp
        clear hw2
        have ges2 : wr.heap.size ≤ ws1.heap.size := (hs1).2.size
        refine hK.out _ _ ?tu2 (fun hs2 => ?_)
        case tu2 => exact keepS _ _ hs1 hbs2
        clear hK K
        have nb101_2 := nb101_1.below hbs2 nb101_1.lt
        have nb5_2 := nbs1.below hbs2 nbs1.lt
        have fy200_2 := fy200_1.below hbs2
        have KO : Own ws2 W.heap.size (some ⟨V0.heap.size, 0, none⟩) 1 1 [x] := Own.of_blk (cs := [.int .u8 (x.toNat : Int)]) nb5_2 (by omega) rfl rfl (by omega)
        have VO : Own ws2 W.heap.size (some ⟨ws1.heap.size, 0, none⟩) 60 60 (List.replicate 60 0) := Own.of_blk nbs2 (by omega) HZ.out (by simp) (by omega)
        have hec : EC ws2 W.heap.size (enC (some ⟨V0.heap.size, 0, none⟩) 1 1 (some ⟨ws1.heap.size, 0, none⟩) 60 60 0 r0 r0) ((leafE ks).getD i ent0) := by
          rw [leafE_at ks i (by rw [HN.out]; exact hlt), HX.out]
          exact ⟨_, _, _, _, _, _, rfl, KO, VO⟩
        have HEC := Lib.hid hec
        have BB1 : Hid (Below W.heap.size wr ws2) := (hs2).2
        have HOW := Lib.hid fy200_2
        have HKW := Lib.hid nb101_2
        clear hHeld KO VO hec
        refine' takeV 7 (oi := _) (d := _) (v := _) ?ti7 ?td7 (by kernel_rfl) (by kernel_rfl) (by kernel_rfl) (by kernel_rfl) (by decide) (fun _ _ _ _ _ h => h) ?tg7 ?ty7 (by assumption) ?tr7
        case ti7 => (simp only [List.getElem?_toArray, List.getElem?_cons_succ, List.getElem?_cons_zero]; rfl)
        case td7 => exact rfl
        case tg7 => exact rfl
        case ty7 => (intro w hSw; (try dsimp only at hSw); go_split_ands; go_simp; try with_reducible rfl)
        simp only [List.setIfInBounds_toArray, List.set_cons_zero, List.set_cons_succ]
        have s1 := BB1.out.size
        have s2 : wr.heap.size ≤ ws2.heap.size := by omega
        refine stepG 8 (by kernel_rfl) (by simp only [List.getElem?_toArray, List.getElem?_cons_succ, List.getElem?_cons_zero]; rfl) (fun K hK => ?_)
        go_simp
        refine hK.out _ _ ?ts8 (fun hHeld => ?_)
        case ts8 => ((try dsimp only); exact TR.out _ (BB1.out.alloc (by omega) _))
        clear hK K
        obtain ⟨V2, hV2⟩ : ∃ V2, V2 = ws2.alloc (.cells #[.slice (some ⟨V0.heap.size, 0, none⟩) 1 1, .slice (some ⟨ws1.heap.size, 0, none⟩) 60 60, .int .i64 0, .int .u32 0, .int .u64 0, .int .u16 0, .int .u32 0, .int .u64 0, .int .u16 0] 46) := ⟨_, rfl⟩
        have KE : Hid (Blk V2 ws2.heap.size 46 (enC (some ⟨V0.heap.size, 0, none⟩) 1 1 (some ⟨ws1.heap.size, 0, none⟩) 60 60 0 r0 r0).toArray) := by rw [hV2]; exact Blk.new _ _ _
        have hb2 : Below ws2.heap.size ws2 V2 := by rw [hV2]; exact below_new _ _
        have BB2 : Hid (Below W.heap.size wr V2) := BB1.out.trans (hb2.mono (by omega))
        have HEC2 := Lib.hid (HEC.out.below hb2)
        have KM2 := Lib.hid (HKW.out.below hb2 HKW.out.lt)
        obtain ⟨css, hoe, hall⟩ := HOW.out
        have HOE2 := Lib.hid (hoe.below hb2)
        have HALL2 : Hid (∀ j, j < i → EC V2 W.heap.size (css.getD j []) ((leafE ks).getD j ent0)) := fun j hj => (hall j hj).below hb2
        rw [← hV2] at hHeld ⊢
        clear hV2 HEC hHeld hb2 hoe hall HOW HKW
        have s3 := BB2.out.size
        refine stepG 9 (by kernel_rfl) (by simp only [List.getElem?_toArray, List.getElem?_cons_succ, List.getElem?_cons_zero]; rfl) (fun K hK => ?_)
        refine step_appE 22 Try.underlying22 rfl (.tmp 12) (.tmp 19) rfl rfl rfl HOE2.out KE.out rfl (enC_one _ _ _ _ _ _ _ _ _) (by omega) (by omega) ?_
        intro A4 c4 w3 hown3 hg3 hb3
        refine hK.out _ _ ?ts9 (fun hHeld => ?_)
        case ts9 => ((try dsimp only); exact ⟨(HOE2.out.keepBlk KM2.out (by decide) hg3).cell 2, BB2.out.trans hb3⟩)
        clear hK K
        have HPU := Lib.hid (OwnN.push HOE2.out HALL2.out HEC2.out hown3 hg3)
        have KM3 := Lib.hid (HOE2.out.keepBlk KM2.out (by decide) hg3)
        have BB3 : Hid (Below W.heap.size wr w3) := BB2.out.trans hb3
        clear hown3 hg3 hb3
        refine stepG 10 (by kernel_rfl) (by simp only [List.getElem?_toArray, List.getElem?_cons_succ, List.getElem?_cons_zero]; rfl) (fun K hK => ?_)
        go_simp
        refine hK.out _ _ ?ts10 (fun hHeld => ?_)
        case ts10 => ((try dsimp only); exact hHeld)
        clear hK K
        have hfr : w3.frozen? ⟨w.heap.size + 1, 2, none⟩ = false := KM3.out.frozen 2
        refine stepGate 11 (by kernel_rfl) (by kernel_rfl) (by simp only [List.getElem?_toArray, List.getElem?_cons_succ, List.getElem?_cons_zero]; rfl) (fun K hK => ?_)
        go_simp
        refine hK.out _ _ ?_
        clear hK K
        refine doneG (by kernel_rfl) ?_ _
        clear hHeld
        go_wp2_with fail
        go_roundw
        case rel => exact ⟨i + 1, c4, A4, by omega, by go_num, KM3.out.set_ 2 _, HPU.out.keptE KM3.out (by decide) (by decide) (grown_setCell _ _ _ _), (HBE.out.trans (BB3.out.mono (by omega))).setCell (Nat.le_refl _) _⟩
        case measure => first | (simp [intOf]; done) | (simp [intOf]; omega)
      · refine StepOf.mk 6 (by simp only [List.getElem?_toArray, List.getElem?_cons_succ, List.getElem?_cons_zero]; rfl) (fun K hK => ?_)
        go_simp
        obtain ⟨ws3, hw3⟩ : ∃ wx : World, wx = V0.alloc (.cells Z.toArray 5) := ⟨_, rfl⟩
        rw [← hw3]
        have hbs3 : Below V0.heap.size V0 ws3 := by rw [hw3]; exact below_new _ _
        have nbs3 : Blk ws3 V0.heap.size 5 Z.toArray := by rw [hw3]; exact Blk.new _ _ _
        have szs3 : V0.heap.size < ws3.heap.size := by rw [hw3]; simp
        clear hw3
        have ges3 : wr.heap.size ≤ V0.heap.size := (hHeld).2.size
        refine hK.out _ _ ?tu3 (fun hs3 => ?_)
        case tu3 => exact keepS _ _ hHeld hbs3
        clear hK K
        have nb101_3 := hkv.below hbs3 hkv.lt
        have fy200_3 := hov.below hbs3
        refine stepG 5 (by kernel_rfl) (by simp only [List.getElem?_toArray, List.getElem?_cons_succ, List.getElem?_cons_zero]; rfl) (fun K hK => ?_)
        go_simp
        obtain ⟨ws4, hw4⟩ : ∃ wx : World, wx = ws3.alloc (.cells [.int .u8 (x.toNat : Int)].toArray 5) := ⟨_, rfl⟩
        rw [← hw4]
        have hbs4 : Below ws3.heap.size ws3 ws4 := by rw [hw4]; exact below_new _ _
        have nbs4 : Blk ws4 ws3.heap.size 5 [.int .u8 (x.toNat : Int)].toArray := by rw [hw4]; exact Blk.new _ _ _
        have szs4 : ws3.heap.size < ws4.heap.size := by rw [hw4]; simp
        clear hw4
        have ges4 : wr.heap.size ≤ ws3.heap.size := (hs3).2.size
        refine hK.out _ _ ?tu4 (fun hs4 => ?_)
        case tu4 => exact keepS _ _ hs3 hbs4
        clear hK K
        have nb101_4 := nb101_3.below hbs4 nb101_3.lt
        have nb6_4 := nbs3.below hbs4 nbs3.lt
        have fy200_4 := fy200_3.below hbs4
        have KO : Own ws4 W.heap.size (some ⟨ws3.heap.size, 0, none⟩) 1 1 [x] := Own.of_blk (cs := [.int .u8 (x.toNat : Int)]) nbs4 (by omega) rfl rfl (by omega)
        have VO : Own ws4 W.heap.size (some ⟨V0.heap.size, 0, none⟩) 60 60 (List.replicate 60 0) := Own.of_blk nb6_4 (by omega) HZ.out (by simp) (by omega)
        have hec : EC ws4 W.heap.size (enC (some ⟨ws3.heap.size, 0, none⟩) 1 1 (some ⟨V0.heap.size, 0, none⟩) 60 60 0 r0 r0) ((leafE ks).getD i ent0) := by
          rw [leafE_at ks i (by rw [HN.out]; exact hlt), HX.out]
          exact ⟨_, _, _, _, _, _, rfl, KO, VO⟩
        have HEC := Lib.hid hec
        have BB1 : Hid (Below W.heap.size wr ws4) := (hs4).2
        have HOW := Lib.hid fy200_4
        have HKW := Lib.hid nb101_4
        clear hHeld KO VO hec
        refine' takeV 7 (oi := _) (d := _) (v := _) ?ti11 ?td11 (by kernel_rfl) (by kernel_rfl) (by kernel_rfl) (by kernel_rfl) (by decide) (fun _ _ _ _ _ h => h) ?tg11 ?ty11 (by assumption) ?tr11
        case ti11 => (simp only [List.getElem?_toArray, List.getElem?_cons_succ, List.getElem?_cons_zero]; rfl)
        case td11 => exact rfl
        case tg11 => exact rfl
        case ty11 => (intro w hSw; (try dsimp only at hSw); go_split_ands; go_simp; try with_reducible rfl)
        simp only [List.setIfInBounds_toArray, List.set_cons_zero, List.set_cons_succ]
        have s1 := BB1.out.size
        have s2 : wr.heap.size ≤ ws4.heap.size := by omega
        refine stepG 8 (by kernel_rfl) (by simp only [List.getElem?_toArray, List.getElem?_cons_succ, List.getElem?_cons_zero]; rfl) (fun K hK => ?_)
        go_simp
        refine hK.out _ _ ?ts12 (fun hHeld => ?_)
        case ts12 => ((try dsimp only); exact TR.out _ (BB1.out.alloc (by omega) _))
        clear hK K
        obtain ⟨V2, hV2⟩ : ∃ V2, V2 = ws4.alloc (.cells #[.slice (some ⟨ws3.heap.size, 0, none⟩) 1 1, .slice (some ⟨V0.heap.size, 0, none⟩) 60 60, .int .i64 0, .int .u32 0, .int .u64 0, .int .u16 0, .int .u32 0, .int .u64 0, .int .u16 0] 46) := ⟨_, rfl⟩
        have KE : Hid (Blk V2 ws4.heap.size 46 (enC (some ⟨ws3.heap.size, 0, none⟩) 1 1 (some ⟨V0.heap.size, 0, none⟩) 60 60 0 r0 r0).toArray) := by rw [hV2]; exact Blk.new _ _ _
        have hb2 : Below ws4.heap.size ws4 V2 := by rw [hV2]; exact below_new _ _
        have BB2 : Hid (Below W.heap.size wr V2) := BB1.out.trans (hb2.mono (by omega))
        have HEC2 := Lib.hid (HEC.out.below hb2)
        have KM2 := Lib.hid (HKW.out.below hb2 HKW.out.lt)
        obtain ⟨css, hoe, hall⟩ := HOW.out
        have HOE2 := Lib.hid (hoe.below hb2)
        have HALL2 : Hid (∀ j, j < i → EC V2 W.heap.size (css.getD j []) ((leafE ks).getD j ent0)) := fun j hj => (hall j hj).below hb2
        rw [← hV2] at hHeld ⊢
        clear hV2 HEC hHeld hb2 hoe hall HOW HKW
        have s3 := BB2.out.size
        refine stepG 9 (by kernel_rfl) (by simp only [List.getElem?_toArray, List.getElem?_cons_succ, List.getElem?_cons_zero]; rfl) (fun K hK => ?_)
        refine step_appE 22 Try.underlying22 rfl (.tmp 12) (.tmp 19) rfl rfl rfl HOE2.out KE.out rfl (enC_one _ _ _ _ _ _ _ _ _) (by omega) (by omega) ?_
        intro A4 c4 w3 hown3 hg3 hb3
        refine hK.out _ _ ?ts13 (fun hHeld => ?_)
        case ts13 => ((try dsimp only); exact ⟨(HOE2.out.keepBlk KM2.out (by decide) hg3).cell 2, BB2.out.trans hb3⟩)
        clear hK K
        have HPU := Lib.hid (OwnN.push HOE2.out HALL2.out HEC2.out hown3 hg3)
        have KM3 := Lib.hid (HOE2.out.keepBlk KM2.out (by decide) hg3)
        have BB3 : Hid (Below W.heap.size wr w3) := BB2.out.trans hb3
        clear hown3 hg3 hb3
        refine stepG 10 (by kernel_rfl) (by simp only [List.getElem?_toArray, List.getElem?_cons_succ, List.getElem?_cons_zero]; rfl) (fun K hK => ?_)
        go_simp
        refine hK.out _ _ ?ts14 (fun hHeld => ?_)
        case ts14 => ((try dsimp only); exact hHeld)
        clear hK K
        have hfr : w3.frozen? ⟨w.heap.size + 1, 2, none⟩ = false := KM3.out.frozen 2
        refine stepGate 11 (by kernel_rfl) (by kernel_rfl) (by simp only [List.getElem?_toArray, List.getElem?_cons_succ, List.getElem?_cons_zero]; rfl) (fun K hK => ?_)
        go_simp
        refine hK.out _ _ ?_
        clear hK K
        refine doneG (by kernel_rfl) ?_ _
        clear hHeld
        go_wp2_with fail
        go_roundw
        case rel => exact ⟨i + 1, c4, A4, by omega, by go_num, KM3.out.set_ 2 _, HPU.out.keptE KM3.out (by decide) (by decide) (grown_setCell _ _ _ _), (HBE.out.trans (BB3.out.mono (by omega))).setCell (Nat.le_refl _) _⟩
        case measure => first | (simp [intOf]; done) | (simp [intOf]; omega)
    · obtain rfl : i = n := by omega
      have m0 : wr.cell? ⟨w.heap.size + 1, 0, none⟩ = some (.int .u8 1) := HKM.out.cell 0
      have m1 : wr.cell? ⟨w.heap.size + 1, 1, none⟩ = some (.int .u8 0) := HKM.out.cell 1
      have m2 : wr.cell? ⟨w.heap.size + 1, 2, none⟩ = some (.slice A3 i c3) := HKM.out.cell 2
      have KZr := Lib.hid (KZ.out.below HBE.out (by omega))
      have hlz : [Value.int .u8 0, .int .u8 0, .slice none 0 0].length = [Value.int .u8 1, .int .u8 0, .slice A3 i c3].length := rfl
      have hiz : (Try.prog.info? 24).map (·.size) = some [Value.int .u8 1, .int .u8 0, .slice A3 i c3].length := infoNd
      have h1 : ∀ v ∈ [Value.int .u8 1, .int .u8 0, .slice A3 i c3], v.oneCell' = true := nd_one 1 0 A3 i c3
      clear hi hlt
      go_wp2_with (with_reducible refine wpList_store_blk rfl 24 (.tmp 2) (.tmp 23) rfl rfl (cs := [Value.int .u8 1, .int .u8 0, .slice A3 i c3]) rfl KZr.out hlz hiz h1 ?_; intro W5 hk5 hg5)
      refine bodyPost_ret (v := NdV 1 0 A3 i c3) (ret_blk (p := 2) rfl rfl hk5 _ Try.underlying24 rfl infoNd) rfl ⟨A3, c3, rfl, (HO.out.keptE KZr.out (by decide) (by decide) hg5).mono (by omega), ?_⟩
      exact (HWB.out.trans (HBE.out.mono (by omega))).grown hg5 (by omega) (by intro k hk; simp at hk; omega)
end Go.Proofs.Ytgihcjmcefdkiaa
