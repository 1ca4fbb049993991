/- Contracts: a node in memory of its own. -/
import Derived.Test.YtihbpmceggghgaaOwnE
set_option linter.unusedVariables false
set_option linter.unusedSimpArgs false
namespace Go.Proofs.Ytihbpmceggghgaa
open Go.RowKit

set_option maxRecDepth 100000 in
set_option maxHeartbeats 3200000 in
theorem copynode_any (k l : Nat) (A : Option Addr) (n c : Nat) (es : List Ent) (w : World) (h : RdL w A n c es) (hn : n ≤ 10000) (hs : ∀ j, j < es.length → (es.getD j ent0).key.length ≤ 4096 ∧ (es.getD j ent0).val.length ≤ 4096) :
    Calls Try.prog 11 #[NdV k l A n c] w fun e w' => ∃ A' c', e = .returned (NdV k l A' n c') ∧ OwnN w' w.heap.size A' n c' es ∧ Below w.heap.size w w' := by
  have hcap := h.cap
  have hmax := h.max
  unfold maxLen at hmax
  have HLn := Lib.hid h.len
  have HS := Lib.hid hs
  obtain ⟨W, hW⟩ : ∃ W, W = ((w.alloc (.cells #[.int .u8 (k : Int), .int .u8 (l : Int), .slice A n c] 24)).alloc (.cells #[.int .u8 0, .int .u8 0, .slice none 0 0] 24)).alloc (.cells #[.int .u8 (k : Int), .int .u8 (l : Int), .slice none 0 0] 24) := ⟨_, rfl⟩
  have HWB : Hid (Below w.heap.size w W) := by rw [hW]; exact ((below_new _ _).alloc (by simp) _).alloc (by simp; omega) _
  have KN : Hid (Blk W w.heap.size 24 (ndA k l A n c)) := by rw [hW]; exact ((Blk.new _ _ _).alloc _).alloc _
  have KZ : Hid (Blk W (w.heap.size + 1) 24 #[.int .u8 0, .int .u8 0, .slice none 0 0]) := by rw [hW]; exact (Blk.new' _ _ _ _ (by simp)).alloc _
  have KM : Hid (Blk W (w.heap.size + 1 + 1) 24 (ndA k l none 0 0)) := by rw [hW]; exact Blk.new' _ _ _ _ (by simp)
  have HR := Lib.hid h
  have HW := Lib.hid hW
  have hWs : w.heap.size < w.heap.size + 1 + 1 := by omega
  have hWm := KM.out.lt
  clear h hs hW
  go_enter Try.func11, Try.ntmps11
  go_wp2_with fail
  rw [← HW.out]
  go_loopw [4] (fun z wr => ∃ (i c2 : Nat) (A2 : Option Addr), i ≤ n ∧ z = .int .i64 (i : Int) ∧ Blk wr (w.heap.size + 1 + 1) 24 (ndA k l A2 i c2) ∧ OwnN wr W.heap.size A2 i c2 es ∧ Below (w.heap.size + 1 + 1) W wr) (fun z _ => n - (intOf z).toNat)
  case atStart => exact ⟨0, 0, none, Nat.zero_le _, rfl, KM.out, OwnN.nil _ _ _, Below.refl _ _⟩
  case round =>
    obtain ⟨i, c3, A3, hi, rfl, hkm, hown, hbel⟩ := hrel
    have HKM := Lib.hid hkm
    have HO := Lib.hid hown
    have HBE := Lib.hid hbel
    have hbs := hbel.size
    have KNr := Lib.hid (KN.out.below hbel (by omega))
    clear hkm hown hbel
    by_cases hlt : i < n
    · obtain ⟨b, o, A1, n1, c1, A2, n2, c2, L, r, s, Ky, Va, rfl, hat, hrk, hrv, hent⟩ := HR.out.pair i hlt
      have HWr : Hid (Below w.heap.size w wr) := HWB.out.trans (HBE.out.mono (by omega))
      have hatr := hat.below HWr.out
      have hbl := hat.lt
      have TR : Hid (∀ w', Below W.heap.size wr w' → w'.cell? ⟨w.heap.size + 1 + 1, 2, none⟩ = some (.slice A3 i c3) ∧ w'.cell? ⟨w.heap.size, 2, none⟩ = some (.slice (some ⟨b, o, none⟩) n c) ∧ w'.cell? ⟨b, o + i * 9, none⟩ = some (.slice A1 n1 c1) ∧ w'.cell? ⟨b, o + i * 9 + 1, none⟩ = some (.slice A2 n2 c2) ∧ w'.cell? ⟨b, o + i * 9 + 2, none⟩ = some (.int .i64 L) ∧ w'.cell? ⟨b, o + i * 9 + 3, none⟩ = some (.int .u32 (r.1 : Int)) ∧ w'.cell? ⟨b, o + i * 9 + 4, none⟩ = some (.int .u64 (r.2.1 : Int)) ∧ w'.cell? ⟨b, o + i * 9 + 5, none⟩ = some (.int .u16 (r.2.2 : Int)) ∧ w'.cell? ⟨b, o + i * 9 + 6, none⟩ = some (.int .u32 (s.1 : Int)) ∧ w'.cell? ⟨b, o + i * 9 + 7, none⟩ = some (.int .u64 (s.2.1 : Int)) ∧ w'.cell? ⟨b, o + i * 9 + 8, none⟩ = some (.int .u16 (s.2.2 : Int)) ∧ Below W.heap.size wr w') := fun wx hb => by
        have k1 := hatr.keep (hb.block b (by omega))
        have k2 := HKM.out.below hb (by omega)
        have k3 := KNr.out.below hb (by omega)
        exact ⟨k2.cell 2, k3.cell 2, k1.c0, k1.c1, k1.c2, k1.c3, k1.c4, k1.c5, k1.c6, k1.c7, k1.c8, hb⟩
      have HRK := Lib.hid (hrk.below HWr.out)
      have HRV := Lib.hid (hrv.below HWr.out)
      have HEN := Lib.hid hent
      have d2 : wr.cell? ⟨w.heap.size, 2, none⟩ = some (.slice (some ⟨b, o, none⟩) n c) := KNr.out.cell 2
      have i1 : (0 : Int) ≤ (i : Int) := by omega
      have i2 : (i : Int) < (n : Int) := by omega
      have hln : n1 ≤ 140737488355328 ∧ n2 ≤ 140737488355328 := by
        have := HS.out i (by rw [← HLn.out]; exact hlt)
        rw [hent] at this
        rw [hrk.len, hrv.len]
        dsimp only at this
        omega
      clear hat hatr hrk hrv hent
      go_wp2_with fail
      clear d2
      refine region_gate 11 (fun w' => w'.cell? ⟨w.heap.size + 1 + 1, 2, none⟩ = some (.slice A3 i c3) ∧ w'.cell? ⟨w.heap.size, 2, none⟩ = some (.slice (some ⟨b, o, none⟩) n c) ∧ w'.cell? ⟨b, o + i * 9, none⟩ = some (.slice A1 n1 c1) ∧ w'.cell? ⟨b, o + i * 9 + 1, none⟩ = some (.slice A2 n2 c2) ∧ w'.cell? ⟨b, o + i * 9 + 2, none⟩ = some (.int .i64 L) ∧ w'.cell? ⟨b, o + i * 9 + 3, none⟩ = some (.int .u32 (r.1 : Int)) ∧ w'.cell? ⟨b, o + i * 9 + 4, none⟩ = some (.int .u64 (r.2.1 : Int)) ∧ w'.cell? ⟨b, o + i * 9 + 5, none⟩ = some (.int .u16 (r.2.2 : Int)) ∧ w'.cell? ⟨b, o + i * 9 + 6, none⟩ = some (.int .u32 (s.1 : Int)) ∧ w'.cell? ⟨b, o + i * 9 + 7, none⟩ = some (.int .u64 (s.2.1 : Int)) ∧ w'.cell? ⟨b, o + i * 9 + 8, none⟩ = some (.int .u16 (s.2.2 : Int)) ∧ Below W.heap.size wr w') (by kernel_rfl) ?th1 (fun hHeld => ?tk1)
      case th1 => ((try dsimp only); exact TR.out _ (Below.refl _ _).drew)
      refine' takeV 0 (oi := _) (d := _) (v := _) ?ti2 ?td2 (by kernel_rfl) (by kernel_rfl) (by kernel_rfl) (by kernel_rfl) (by decide) (fun _ _ _ _ _ h => h) ?tg2 ?ty2 (by assumption) ?tr2
      case ti2 => (simp only [List.getElem?_toArray, List.getElem?_cons_succ, List.getElem?_cons_zero]; rfl)
      case td2 => exact rfl
      case tg2 => exact rfl
      case ty2 => (intro w hSw; (try dsimp only at hSw); go_split_ands; go_simp; try with_reducible rfl)
      simp only [List.setIfInBounds_toArray, List.set_cons_zero, List.set_cons_succ]
      refine' takeV 1 (oi := _) (d := _) (v := _) ?ti3 ?td3 (by kernel_rfl) (by kernel_rfl) (by kernel_rfl) (by kernel_rfl) (by decide) (fun _ _ _ _ _ h => h) ?tg3 ?ty3 (by assumption) ?tr3
      case ti3 => (simp only [List.getElem?_toArray, List.getElem?_cons_succ, List.getElem?_cons_zero]; rfl)
      case td3 => exact rfl
      case tg3 => exact rfl
      case ty3 => (intro w hSw; (try dsimp only at hSw); go_split_ands; go_simp; try with_reducible rfl)
      simp only [List.setIfInBounds_toArray, List.set_cons_zero, List.set_cons_succ]
      refine' takeV 2 (oi := _) (d := _) (v := _) ?ti4 ?td4 (by kernel_rfl) (by kernel_rfl) (by kernel_rfl) (by kernel_rfl) (by decide) (fun _ _ _ _ _ h => h) ?tg4 ?ty4 (by assumption) ?tr4
      case ti4 => (simp only [List.getElem?_toArray, List.getElem?_cons_succ, List.getElem?_cons_zero]; rfl)
      case td4 => exact rfl
      case tg4 => exact rfl
      case ty4 => (intro w hSw; (try dsimp only at hSw); go_split_ands; go_simp; try with_reducible rfl)
      simp only [List.setIfInBounds_toArray, List.set_cons_zero, List.set_cons_succ]
      refine' takeV 3 (oi := _) (d := _) (v := _) ?ti5 ?td5 (by kernel_rfl) (by kernel_rfl) (by kernel_rfl) (by kernel_rfl) (by decide) (fun _ _ _ _ _ h => h) ?tg5 ?ty5 (by assumption) ?tr5
      case ti5 => (simp only [List.getElem?_toArray, List.getElem?_cons_succ, List.getElem?_cons_zero]; rfl)
      case td5 => exact rfl
      case tg5 => exact rfl
      case ty5 => (intro w hSw; (try dsimp only at hSw); go_split_ands; go_simp; try with_reducible rfl)
      simp only [List.setIfInBounds_toArray, List.set_cons_zero, List.set_cons_succ]
      refine' takeV 4 (oi := _) (d := _) (v := _) ?ti6 ?td6 (by kernel_rfl) (by kernel_rfl) (by kernel_rfl) (by kernel_rfl) (by decide) (fun _ _ _ _ _ h => h) ?tg6 ?ty6 (by assumption) ?tr6
      case ti6 => (simp only [List.getElem?_toArray, List.getElem?_cons_succ, List.getElem?_cons_zero]; rfl)
      case td6 => exact rfl
      case tg6 => exact rfl
      case ty6 => (intro w hSw; (try dsimp only at hSw); go_split_ands; go_simp; try with_reducible rfl)
      simp only [List.setIfInBounds_toArray, List.set_cons_zero, List.set_cons_succ]
      refine' takeV 5 (oi := _) (d := _) (v := _) ?ti7 ?td7 (by kernel_rfl) (by kernel_rfl) (by kernel_rfl) (by kernel_rfl) (by decide) (fun _ _ _ _ _ h => h) ?tg7 ?ty7 (by assumption) ?tr7
      case ti7 => (simp only [List.getElem?_toArray, List.getElem?_cons_succ, List.getElem?_cons_zero]; rfl)
      case td7 => exact rfl
      case tg7 => exact rfl
      case ty7 => (intro w hSw; (try dsimp only at hSw); go_split_ands; go_simp; try with_reducible rfl)
      simp only [List.setIfInBounds_toArray, List.set_cons_zero, List.set_cons_succ]
      refine' takeV 6 (oi := _) (d := _) (v := _) ?ti8 ?td8 (by kernel_rfl) (by kernel_rfl) (by kernel_rfl) (by kernel_rfl) (by decide) (fun _ _ _ _ _ h => h) ?tg8 ?ty8 (by assumption) ?tr8
      case ti8 => (simp only [List.getElem?_toArray, List.getElem?_cons_succ, List.getElem?_cons_zero]; rfl)
      case td8 => exact rfl
      case tg8 => exact rfl
      case ty8 => (intro w hSw; (try dsimp only at hSw); go_split_ands; go_simp; try with_reducible rfl)
      simp only [List.setIfInBounds_toArray, List.set_cons_zero, List.set_cons_succ]
      obtain ⟨V0, hV0⟩ : ∃ V0, V0 = wr.drew := ⟨_, rfl⟩
      have B0 : Hid (Below wr.heap.size wr V0) := by rw [hV0]; exact (Below.refl _ _).drew
      rw [← hV0]
      clear hV0 hHeld
      have s0 := B0.out.size
      refine stepG 7 (by kernel_rfl) (by simp only [List.getElem?_toArray, List.getElem?_cons_succ, List.getElem?_cons_zero]; rfl) (fun K hK => ?_)
      go_simp
      refine (copyent_any A1 n1 c1 A2 n2 c2 L r s Ky Va _ (HRK.out.below B0.out) (HRV.out.below B0.out) hln.1 hln.2).mono ?_
      rintro e w1 ⟨B1, d1, B2, d2, rfl, hown1, hown2, hb1⟩
      refine hK.out _ _ ?ts9 (fun hHeld => ?_)
      case ts9 => ((try dsimp only); exact TR.out _ ((B0.out.trans (hb1.mono s0)).mono (by omega)))
      clear hK K
      have BB1 := Lib.hid (B0.out.trans (hb1.mono s0))
      have s1 := BB1.out.size
      have hec : EC w1 W.heap.size (enC B1 n1 d1 B2 n2 d2 L r s) (es.getD i ent0) := by
        rw [HEN.out]
        exact ⟨B1, n1, d1, B2, n2, d2, rfl, hown1.mono (by omega), hown2.mono (by omega)⟩
      have HEC := Lib.hid hec
      clear hown1 hown2 hb1 hHeld hec
      refine stepG 8 (by kernel_rfl) (by simp only [List.getElem?_toArray, List.getElem?_cons_succ, List.getElem?_cons_zero]; rfl) (fun K hK => ?_)
      go_simp
      refine hK.out _ _ ?ts10 (fun hHeld => ?_)
      case ts10 => ((try dsimp only); exact TR.out _ ((BB1.out.alloc s1 _).mono (by omega)))
      clear hK K
      obtain ⟨V2, hV2⟩ : ∃ V2, V2 = w1.alloc (.cells (enA B1 n1 d1 B2 n2 d2 L r s) 49) := ⟨_, rfl⟩
      have KE : Hid (Blk V2 w1.heap.size 49 (enC B1 n1 d1 B2 n2 d2 L r s).toArray) := by rw [hV2]; exact Blk.new _ _ _
      have BB2 : Hid (Below wr.heap.size wr V2) := by rw [hV2]; exact BB1.out.alloc s1 _
      have HEC2 : Hid (EC V2 W.heap.size (enC B1 n1 d1 B2 n2 d2 L r s) (es.getD i ent0)) := by rw [hV2]; exact HEC.out.below (below_new _ _)
      have s2 := BB2.out.size
      rw [← hV2] at hHeld ⊢
      clear hV2 HEC hHeld
      obtain ⟨css, hoe, hall⟩ := HO.out
      have HOE2 := Lib.hid (hoe.below BB2.out)
      have HALL2 : Hid (∀ j, j < i → EC V2 W.heap.size (css.getD j []) (es.getD j ent0)) := fun j hj => (hall j hj).below BB2.out
      have KM2 := Lib.hid (HKM.out.below BB2.out HKM.out.lt)
      clear hoe hall
      refine stepG 9 (by kernel_rfl) (by simp only [List.getElem?_toArray, List.getElem?_cons_succ, List.getElem?_cons_zero]; rfl) (fun K hK => ?_)
      refine step_appE 22 Try.underlying22 rfl (.tmp 18) (.tmp 25) rfl rfl rfl HOE2.out KE.out rfl (enC_one _ _ _ _ _ _ _ _ _) (by omega) (by omega) ?_
      intro A4 c4 w3 hown3 hg3 hb3
      refine hK.out _ _ ?ts11 (fun hHeld => ?_)
      case ts11 => ((try dsimp only); exact TR.out _ ((BB2.out.mono (by omega)).trans hb3))
      clear hK K
      have HPU := Lib.hid (OwnN.push HOE2.out HALL2.out HEC2.out hown3 hg3)
      have KM3 := Lib.hid (HOE2.out.keepBlk KM2.out (by decide) hg3)
      have BB3 : Hid (Below W.heap.size wr w3) := (BB2.out.mono (by omega)).trans hb3
      clear hown3 hg3 hb3
      refine stepG 10 (by kernel_rfl) (by simp only [List.getElem?_toArray, List.getElem?_cons_succ, List.getElem?_cons_zero]; rfl) (fun K hK => ?_)
      go_simp
      refine hK.out _ _ ?ts12 (fun hHeld => ?_)
      case ts12 => ((try dsimp only); exact hHeld)
      clear hK K
      have hfr : w3.frozen? ⟨w.heap.size + 1 + 1, 2, none⟩ = false := KM3.out.frozen 2
      refine stepGate 11 (by kernel_rfl) (by kernel_rfl) (by simp only [List.getElem?_toArray, List.getElem?_cons_succ, List.getElem?_cons_zero]; rfl) (fun K hK => ?_)
      go_simp
      refine hK.out _ _ ?_
      clear hK K
      refine doneG (by kernel_rfl) ?_ _
      clear hHeld
      go_wp2_with fail
      have hgs : w3.grownBy (w3.setCell ⟨w.heap.size + 1 + 1, 2, none⟩ (.slice A4 (i + 1) c4)) (some (w.heap.size + 1 + 1)) := ⟨rfl, rfl, rfl, by simp [World.setCell], fun k _ hk => Below.heap_setCell w3 _ _ k (fun e => hk (by rw [e]))⟩
      go_roundw
      case rel =>
        refine ⟨i + 1, c4, A4, by omega, by go_num, KM3.out.set_ 2 _, HPU.out.keptE KM3.out (by decide) (by decide) hgs, ?_⟩
        exact (HBE.out.trans (BB3.out.mono (by omega))).setCell (Nat.le_refl _) _
      case measure => first | (simp [intOf]; done) | (simp [intOf]; omega)
    · obtain rfl : i = n := by omega
      have d2 : wr.cell? ⟨w.heap.size, 2, none⟩ = some (.slice A i c) := KNr.out.cell 2
      have m0 : wr.cell? ⟨w.heap.size + 1 + 1, 0, none⟩ = some (.int .u8 (k : Int)) := HKM.out.cell 0
      have m1 : wr.cell? ⟨w.heap.size + 1 + 1, 1, none⟩ = some (.int .u8 (l : Int)) := HKM.out.cell 1
      have m2 : wr.cell? ⟨w.heap.size + 1 + 1, 2, none⟩ = some (.slice A3 i c3) := HKM.out.cell 2
      have KZr := Lib.hid (KZ.out.below HBE.out (by omega))
      have z0 : wr.cell? ⟨w.heap.size + 1, 0, none⟩ = some (.int .u8 0) := KZr.out.cell 0
      have z1 : wr.cell? ⟨w.heap.size + 1, 1, none⟩ = some (.int .u8 0) := KZr.out.cell 1
      have z2 : wr.cell? ⟨w.heap.size + 1, 2, none⟩ = some (.slice none 0 0) := KZr.out.cell 2
      have f0 := KZr.out.frozen 0
      have f1 := KZr.out.frozen 1
      have f2 := KZr.out.frozen 2
      clear hi hlt
      go_wp2_with fail
      have hbk := ((KZr.out.set_ 0 (.int .u8 (k : Int))).set_ 1 (.int .u8 (l : Int))).set_ 2 (.slice A3 i c3)
      have e0 := hbk.cell 0
      have e1 := hbk.cell 1
      have e2 := hbk.cell 2
      have g1 : wr.grownBy (wr.setCell ⟨w.heap.size + 1, 0, none⟩ (.int .u8 (k : Int))) (some (w.heap.size + 1)) := ⟨rfl, rfl, rfl, by simp [World.setCell], fun k _ hk => Below.heap_setCell wr _ _ k (fun e => hk (by rw [e]))⟩
      have g2 : (wr.setCell ⟨w.heap.size + 1, 0, none⟩ (.int .u8 (k : Int))).grownBy ((wr.setCell ⟨w.heap.size + 1, 0, none⟩ (.int .u8 (k : Int))).setCell ⟨w.heap.size + 1, 1, none⟩ (.int .u8 (l : Int))) (some (w.heap.size + 1)) := ⟨rfl, rfl, rfl, by simp [World.setCell], fun k _ hk => Below.heap_setCell _ _ _ k (fun e => hk (by rw [e]))⟩
      have g3 : ((wr.setCell ⟨w.heap.size + 1, 0, none⟩ (.int .u8 (k : Int))).setCell ⟨w.heap.size + 1, 1, none⟩ (.int .u8 (l : Int))).grownBy (((wr.setCell ⟨w.heap.size + 1, 0, none⟩ (.int .u8 (k : Int))).setCell ⟨w.heap.size + 1, 1, none⟩ (.int .u8 (l : Int))).setCell ⟨w.heap.size + 1, 2, none⟩ (.slice A3 i c3)) (some (w.heap.size + 1)) := ⟨rfl, rfl, rfl, by simp [World.setCell], fun k _ hk => Below.heap_setCell _ _ _ k (fun e => hk (by rw [e]))⟩
      have hfin := ((HO.out.keptE KZr.out (by decide) (by decide) g1).keptE (KZr.out.set_ 0 _) (by decide) (by decide) g2).keptE ((KZr.out.set_ 0 _).set_ 1 _) (by decide) (by decide) g3
      refine bodyPost_ret (v := NdV k l A3 i c3) ?_ rfl ⟨A3, c3, rfl, hfin.mono (by omega), ?_⟩
      · simp [results, Try.results11, go_sem, e0, e1, e2]
      · exact (((HWB.out.trans (HBE.out.mono (by omega))).setCell (Nat.le_succ _) _).setCell (Nat.le_succ _) _).setCell (Nat.le_succ _) _
end Go.Proofs.Ytihbpmceggghgaa
