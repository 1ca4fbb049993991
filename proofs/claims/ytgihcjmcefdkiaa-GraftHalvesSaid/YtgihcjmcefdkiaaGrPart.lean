/- Contracts: donjonref14.part. -/
import Derived.Test.YtgihcjmcefdkiaaGrSl
set_option linter.unusedVariables false
set_option linter.unusedSimpArgs false
namespace Go.Proofs.Ytgihcjmcefdkiaa
open Go.RowKit

/-- An inner node's entries without the first one's key. -/
def mE (k : Nat) (es : List Ent) : List Ent := if k = 2 then nk es else es
theorem mE_length (k : Nat) (es : List Ent) : (mE k es).length = es.length := by unfold mE; split <;> simp [nk_length]
/-- Some entries of a node. -/
def segE (es : List Ent) (f t : Nat) : List Ent := (es.drop f).take (t - f)
theorem segE_length {es : List Ent} {f t : Nat} (ht : t ≤ es.length) : (segE es f t).length = t - f := by
  rw [segE, List.length_take, List.length_drop]; omega
theorem segE_at {es : List Ent} {f t j : Nat} (h : f + j < t) : (segE es f t).getD j ent0 = es.getD (f + j) ent0 := by
  rw [segE, take_getD _ _ _ (by omega), drop_getD]
theorem OwnN.key0m {w : World} {H g n c : Nat} {es : List Ent} (h : OwnN w H (some ⟨g, 0, none⟩) n c es) (hn : 0 < n) (he : n = es.length) : OwnN (w.setCell ⟨g, 0, none⟩ (.slice none 0 0)) H (some ⟨g, 0, none⟩) n c (mE 2 es) := by
  rw [mE, if_pos rfl]; exact h.key0 hn he
/-- The first entry's key cell, of a row of the call's own. -/
theorem OwnN.first {w : World} {H n c : Nat} {A : Option Addr} {es : List Ent} (h : OwnN w H A n c es) (hn : 0 < n) : ∃ g v, A = some ⟨g, 0, none⟩ ∧ w.cell? ⟨g, 0, none⟩ = some v ∧ w.frozen? ⟨g, 0, none⟩ = false ∧ H ≤ g := by
  obtain ⟨css, hoe, hall⟩ := h
  obtain ⟨g, rfl, hg⟩ := hoe.split hn
  obtain ⟨B1, n1, d1, B2, n2, d2, hcs, hk1, hk2⟩ := hall 0 hn
  have hat := hoe.eat 0 hn hcs 0 rfl
  exact ⟨g, _, rfl, hat.c0, hoe.1.frozenAt 0, hg⟩
set_option maxRecDepth 100000 in
set_option maxHeartbeats 3200000 in
theorem part_any (k l : Nat) (A : Option Addr) (n c : Nat) (es : List Ent) (f t : Nat) (w : World) (h : RdL w A n c es) (hk : k < 256) (hl : l < 256) (hft : f ≤ t) (htn : t ≤ n) (hN : n ≤ 9000) (hs : shortE es) :
    Calls Try.prog 46 #[NdV k l A n c, .int .i64 (f : Int), .int .i64 (t : Int)] w fun e w' => ∃ A' c', e = .returned (NdV k l A' (t - f) c') ∧ OwnN w' w.heap.size A' (t - f) c' (mE k (segE es f t)) ∧ Below w.heap.size w w' := by
  have hcap := h.cap
  have hmax := h.max
  unfold maxLen at hmax
  have HLn := Lib.hid h.len
  have HS := Lib.hid hs
  obtain ⟨L, HL⟩ : ∃ L, Hid (segE es f t = L) := ⟨_, rfl⟩
  have HLL : Hid (L.length = t - f) := by show _ = _; rw [← HL.out]; exact segE_length (by rw [← HLn.out]; exact htn)
  have HAT : Hid (∀ j, f + j < t → L.getD j ent0 = es.getD (f + j) ent0) := fun j hj => by rw [← HL.out]; exact segE_at hj
  obtain ⟨N, HNN⟩ : ∃ N, Hid (t - f = N) := ⟨_, rfl⟩
  rw [HL.out, HNN.out]
  rw [HNN.out] at HLL
  obtain ⟨W, hW⟩ : ∃ W, W = ((w.alloc (.cells #[.int .u8 (k : Int), .int .u8 (l : Int), .slice A n c] 24)).alloc (.cells #[.int .u8 0, .int .u8 0, .slice none 0 0] 24)).alloc (.cells #[.int .u8 (k : Int), .int .u8 (l : Int), .slice none 0 0] 24) := ⟨_, rfl⟩
  have HWB : Hid (Below w.heap.size w W) := by rw [hW]; exact ((below_new _ _).alloc (by simp) _).alloc (by simp; omega) _
  have KN : Hid (Blk W w.heap.size 24 (ndA k l A n c)) := by rw [hW]; exact ((Blk.new _ _ _).alloc _).alloc _
  have KZ : Hid (Blk W (w.heap.size + 1) 24 [Value.int .u8 0, .int .u8 0, .slice none 0 0].toArray) := by rw [hW]; exact (Blk.new' _ _ _ _ (by simp)).alloc _
  have KM : Hid (Blk W (w.heap.size + 1 + 1) 24 (ndA k l none 0 0)) := by rw [hW]; exact Blk.new' _ _ _ _ (by simp)
  have HR := Lib.hid h
  have HW := Lib.hid hW
  have hWm := KM.out.lt
  have hWn : w.heap.size < W.heap.size := by omega
  have hWb : w.heap.size ≤ W.heap.size := by omega
  clear h hs hW
  go_enter Try.func46, Try.ntmps46
  go_wp2_with fail
  rw [← HW.out]
  go_loopw [8] (fun z wr => ∃ (j q c2 : Nat) (A2 : Option Addr), j = f + q ∧ j ≤ t ∧ z = .int .i64 (j : Int) ∧ Blk wr (w.heap.size + 1 + 1) 24 (ndA k l A2 q c2) ∧ OwnN wr W.heap.size A2 q c2 L ∧ Below (w.heap.size + 1 + 1) W wr) (fun z _ => t - (intOf z).toNat)
  case atStart => exact ⟨f, 0, 0, none, rfl, hft, rfl, KM.out, OwnN.nil _ _ _, Below.refl _ _⟩
  case round =>
    obtain ⟨j, q, c3, A3, hjq, hj, rfl, hkm, hown, hbel⟩ := hrel
    have HKM := Lib.hid hkm
    have HO := Lib.hid hown
    have HBE := Lib.hid hbel
    have hbs := hbel.size
    have KNr := Lib.hid (KN.out.below hbel (by omega))
    have HWr : Hid (Below w.heap.size w wr) := HWB.out.trans (HBE.out.mono (by omega))
    have HJ := Lib.hid hjq
    clear hkm hown hbel
    by_cases hjt : j < t
    · have hlt : j < n := by omega
      have HQ : Hid (L.getD q ent0 = es.getD j ent0) := by show _ = _; rw [HAT.out q (by omega), ← HJ.out]
      have j0 : decide ((j : Int) < (t : Int)) = true := decide_eq_true (by omega)
      have hq9 : q ≤ 9000 := by omega
      clear hjq
      obtain ⟨b, o, A1, n1, c1, A2, n2, c2, L0, r0_, s0_, Ky, Va, rfl, hat, hrk, hrv, hent⟩ := HR.out.pair j hlt
      have hatr := hat.below HWr.out
      have hbl := hat.lt
      have HRK := Lib.hid (hrk.below HWr.out)
      have HRV := Lib.hid (hrv.below HWr.out)
      have HEN : Hid (L.getD q ent0 = ⟨Ky, Va, L0, r0_, s0_⟩) := by show _ = _; rw [HQ.out]; exact hent
      have hln : n1 ≤ 140737488355328 ∧ n2 ≤ 140737488355328 := by
        have := HS.out j (by rw [← HLn.out]; exact hlt)
        rw [hent] at this
        rw [hrk.len, hrv.len]
        exact this
      have i1 : (0 : Int) ≤ (j : Int) := by omega
      have i2 : (j : Int) < (n : Int) := by omega
      have TR : Hid (∀ V, V.cell? ⟨w.heap.size + 1 + 1, 2, none⟩ = some (.slice A3 q c3) → Below W.heap.size wr V → (fun V => V.cell? ⟨w.heap.size + 1 + 1, 2, none⟩ = some (.slice A3 q c3) ∧ V.cell? ⟨w.heap.size, 2, none⟩ = some (.slice (some ⟨b, o, none⟩) n c) ∧ V.cell? ⟨b, o + j * 9, none⟩ = some (.slice A1 n1 c1) ∧ V.cell? ⟨b, o + j * 9 + 1, none⟩ = some (.slice A2 n2 c2) ∧ V.cell? ⟨b, o + j * 9 + 2, none⟩ = some (.int .i64 L0) ∧ V.cell? ⟨b, o + j * 9 + 3, none⟩ = some (.int .u32 (r0_.1 : Int)) ∧ V.cell? ⟨b, o + j * 9 + 4, none⟩ = some (.int .u64 (r0_.2.1 : Int)) ∧ V.cell? ⟨b, o + j * 9 + 5, none⟩ = some (.int .u16 (r0_.2.2 : Int)) ∧ V.cell? ⟨b, o + j * 9 + 6, none⟩ = some (.int .u32 (s0_.1 : Int)) ∧ V.cell? ⟨b, o + j * 9 + 7, none⟩ = some (.int .u64 (s0_.2.1 : Int)) ∧ V.cell? ⟨b, o + j * 9 + 8, none⟩ = some (.int .u16 (s0_.2.2 : Int)) ∧ Below W.heap.size wr V) V) := fun V hm2 hb => by
        have k1 := hatr.keep (hb.block b (by omega))
        have k3 := KNr.out.below hb (by omega)
        exact ⟨hm2, k3.cell 2, k1.c0, k1.c1, k1.c2, k1.c3, k1.c4, k1.c5, k1.c6, k1.c7, k1.c8, hb⟩
      have d2 : wr.cell? ⟨w.heap.size, 2, none⟩ = some (.slice (some ⟨b, o, none⟩) n c) := KNr.out.cell 2
      clear hat hatr hrk hrv hent
      go_wp2_with fail
      clear d2
      refine region_gate 11 (fun V => V.cell? ⟨w.heap.size + 1 + 1, 2, none⟩ = some (.slice A3 q c3) ∧ V.cell? ⟨w.heap.size, 2, none⟩ = some (.slice (some ⟨b, o, none⟩) n c) ∧ V.cell? ⟨b, o + j * 9, none⟩ = some (.slice A1 n1 c1) ∧ V.cell? ⟨b, o + j * 9 + 1, none⟩ = some (.slice A2 n2 c2) ∧ V.cell? ⟨b, o + j * 9 + 2, none⟩ = some (.int .i64 L0) ∧ V.cell? ⟨b, o + j * 9 + 3, none⟩ = some (.int .u32 (r0_.1 : Int)) ∧ V.cell? ⟨b, o + j * 9 + 4, none⟩ = some (.int .u64 (r0_.2.1 : Int)) ∧ V.cell? ⟨b, o + j * 9 + 5, none⟩ = some (.int .u16 (r0_.2.2 : Int)) ∧ V.cell? ⟨b, o + j * 9 + 6, none⟩ = some (.int .u32 (s0_.1 : Int)) ∧ V.cell? ⟨b, o + j * 9 + 7, none⟩ = some (.int .u64 (s0_.2.1 : Int)) ∧ V.cell? ⟨b, o + j * 9 + 8, none⟩ = some (.int .u16 (s0_.2.2 : Int)) ∧ Below W.heap.size wr V) (by kernel_rfl) ?th1 (fun hHeld => ?tk1)
      case th1 => ((try dsimp only); exact TR.out _ (HKM.out.cell 2) (Below.refl _ _).drew)
      refine' takeV 0 (oi := _) (d := _) (v := _) ?ti2 ?td2 (by kernel_rfl) (by kernel_rfl) (by kernel_rfl) (by kernel_rfl) (by decide) (fun _ _ _ _ _ h => h) ?tg2 ?ty2 (by assumption) ?tr2
      case ti2 => (simp only [List.getElem?_toArray, List.getElem?_cons_succ, List.getElem?_cons_zero]; rfl)
      case td2 => exact rfl
      case tg2 => exact rfl
      case ty2 => (intro w hSw; (try dsimp only at hSw); go_split_ands; go_simp; try with_reducible rfl)
      simp only [List.setIfInBounds_toArray, List.set_cons_zero, List.set_cons_succ]
      refine' takeV 1 (oi := _) (d := _) (v := _) ?ti3 ?td3 (by kernel_rfl) (by kernel_rfl) (by kernel_rfl) (by kernel_rfl) (by decide) (fun _ _ _ _ _ h => h) ?tg3 ?ty3 (by assumption) ?tr3
      case ti3 => (simp only [List.getElem?_toArray, List.getElem?_cons_succ, List.getElem?_cons_zero]; rfl)
      case td3 => exact rfl
      case tg3 => exact rfl
      case ty3 => (intro w hSw; (try dsimp only at hSw); go_split_ands; go_simp; try with_reducible rfl)
      simp only [List.setIfInBounds_toArray, List.set_cons_zero, List.set_cons_succ]
      refine' takeV 2 (oi := _) (d := _) (v := _) ?ti4 ?td4 (by kernel_rfl) (by kernel_rfl) (by kernel_rfl) (by kernel_rfl) (by decide) (fun _ _ _ _ _ h => h) ?tg4 ?ty4 (by assumption) ?tr4
      case ti4 => (simp only [List.getElem?_toArray, List.getElem?_cons_succ, List.getElem?_cons_zero]; rfl)
      case td4 => exact rfl
      case tg4 => exact rfl
      case ty4 => (intro w hSw; (try dsimp only at hSw); go_split_ands; go_simp; try with_reducible rfl)
      simp only [List.setIfInBounds_toArray, List.set_cons_zero, List.set_cons_succ]
      refine' takeV 3 (oi := _) (d := _) (v := _) ?ti5 ?td5 (by kernel_rfl) (by kernel_rfl) (by kernel_rfl) (by kernel_rfl) (by decide) (fun _ _ _ _ _ h => h) ?tg5 ?ty5 (by assumption) ?tr5
      case ti5 => (simp only [List.getElem?_toArray, List.getElem?_cons_succ, List.getElem?_cons_zero]; rfl)
      case td5 => exact rfl
      case tg5 => exact rfl
      case ty5 => (intro w hSw; (try dsimp only at hSw); go_split_ands; go_simp; try with_reducible rfl)
      simp only [List.setIfInBounds_toArray, List.set_cons_zero, List.set_cons_succ]
      refine' takeV 4 (oi := _) (d := _) (v := _) ?ti6 ?td6 (by kernel_rfl) (by kernel_rfl) (by kernel_rfl) (by kernel_rfl) (by decide) (fun _ _ _ _ _ h => h) ?tg6 ?ty6 (by assumption) ?tr6
      case ti6 => (simp only [List.getElem?_toArray, List.getElem?_cons_succ, List.getElem?_cons_zero]; rfl)
      case td6 => exact rfl
      case tg6 => exact rfl
      case ty6 => (intro w hSw; (try dsimp only at hSw); go_split_ands; go_simp; try with_reducible rfl)
      simp only [List.setIfInBounds_toArray, List.set_cons_zero, List.set_cons_succ]
      refine' takeV 5 (oi := _) (d := _) (v := _) ?ti7 ?td7 (by kernel_rfl) (by kernel_rfl) (by kernel_rfl) (by kernel_rfl) (by decide) (fun _ _ _ _ _ h => h) ?tg7 ?ty7 (by assumption) ?tr7
      case ti7 => (simp only [List.getElem?_toArray, List.getElem?_cons_succ, List.getElem?_cons_zero]; rfl)
      case td7 => exact rfl
      case tg7 => exact rfl
      case ty7 => (intro w hSw; (try dsimp only at hSw); go_split_ands; go_simp; try with_reducible rfl)
      simp only [List.setIfInBounds_toArray, List.set_cons_zero, List.set_cons_succ]
      refine' takeV 6 (oi := _) (d := _) (v := _) ?ti8 ?td8 (by kernel_rfl) (by kernel_rfl) (by kernel_rfl) (by kernel_rfl) (by decide) (fun _ _ _ _ _ h => h) ?tg8 ?ty8 (by assumption) ?tr8
      case ti8 => (simp only [List.getElem?_toArray, List.getElem?_cons_succ, List.getElem?_cons_zero]; rfl)
      case td8 => exact rfl
      case tg8 => exact rfl
      case ty8 => (intro w hSw; (try dsimp only at hSw); go_split_ands; go_simp; try with_reducible rfl)
      simp only [List.setIfInBounds_toArray, List.set_cons_zero, List.set_cons_succ]
      obtain ⟨V0, hV0⟩ : ∃ V0, V0 = wr.drew := ⟨_, rfl⟩
      have B0 : Hid (Below wr.heap.size wr V0) := by rw [hV0]; exact (Below.refl _ _).drew
      rw [← hV0]
      clear hV0 hHeld
      have s0 := B0.out.size
      refine stepG 7 (by kernel_rfl) (by simp only [List.getElem?_toArray, List.getElem?_cons_succ, List.getElem?_cons_zero]; rfl) (fun K hK => ?_)
      go_simp
      refine (copyent_any A1 n1 c1 A2 n2 c2 L0 r0_ s0_ Ky Va _ (HRK.out.below B0.out) (HRV.out.below B0.out) hln.1 hln.2).mono ?_
      rintro e wm1 ⟨B1, d1, B2, d2, rfl, hown1, hown2, hb1⟩
      refine hK.out _ _ ?ts9 (fun hHeld => ?_)
      case ts9 => ((try dsimp only); exact TR.out _ ((HKM.out.below (B0.out.trans (hb1.mono s0)) HKM.out.lt).cell 2) ((B0.out.trans (hb1.mono s0)).mono (by omega)))
      clear hK K
      have BB1 := Lib.hid (B0.out.trans (hb1.mono s0))
      have s1 := BB1.out.size
      have hec : EC wm1 W.heap.size (enC B1 n1 d1 B2 n2 d2 L0 r0_ s0_) (L.getD q ent0) := by
        rw [HEN.out]
        exact ⟨B1, n1, d1, B2, n2, d2, rfl, hown1.mono (by omega), hown2.mono (by omega)⟩
      have HEC := Lib.hid hec
      clear hown1 hown2 hb1 hHeld hec
      refine stepG 8 (by kernel_rfl) (by simp only [List.getElem?_toArray, List.getElem?_cons_succ, List.getElem?_cons_zero]; rfl) (fun K hK => ?_)
      go_simp
      refine hK.out _ _ ?ts10 (fun hHeld => ?_)
      case ts10 => ((try dsimp only); exact TR.out _ ((HKM.out.below (BB1.out.alloc s1 _) HKM.out.lt).cell 2) ((BB1.out.alloc s1 _).mono (by omega)))
      clear hK K
      obtain ⟨V2, hV2⟩ : ∃ V2, V2 = wm1.alloc (.cells (enA B1 n1 d1 B2 n2 d2 L0 r0_ s0_) 46) := ⟨_, rfl⟩
      have KE : Hid (Blk V2 wm1.heap.size 46 (enC B1 n1 d1 B2 n2 d2 L0 r0_ s0_).toArray) := by rw [hV2]; exact Blk.new _ _ _
      have BB2 : Hid (Below wr.heap.size wr V2) := by rw [hV2]; exact BB1.out.alloc s1 _
      have HEC2 : Hid (EC V2 W.heap.size (enC B1 n1 d1 B2 n2 d2 L0 r0_ s0_) (L.getD q ent0)) := by rw [hV2]; exact HEC.out.below (below_new _ _)
      have s2 := BB2.out.size
      rw [← hV2] at hHeld ⊢
      clear hV2 HEC hHeld
      obtain ⟨css, hoe, hall⟩ := HO.out
      have HOE2 := Lib.hid (hoe.below BB2.out)
      have HALL2 : Hid (∀ jj, jj < q → EC V2 W.heap.size (css.getD jj []) (L.getD jj ent0)) := fun jj hj => (hall jj hj).below BB2.out
      have KM2 := Lib.hid (HKM.out.below BB2.out HKM.out.lt)
      clear hoe hall
      refine stepG 9 (by kernel_rfl) (by simp only [List.getElem?_toArray, List.getElem?_cons_succ, List.getElem?_cons_zero]; rfl) (fun K hK => ?_)
      refine step_appE 22 Try.underlying22 rfl (.tmp 21) (.tmp 28) rfl rfl rfl HOE2.out KE.out rfl (enC_one _ _ _ _ _ _ _ _ _) (by omega) (by omega) ?_
      intro A4 c4 w3 hown3 hg3 hb3
      refine hK.out _ _ ?ts11 (fun hHeld => ?_)
      case ts11 => ((try dsimp only); exact TR.out _ ((HOE2.out.keepBlk KM2.out (by decide) hg3).cell 2) ((BB2.out.mono (by omega)).trans hb3))
      clear hK K
      have HPU := Lib.hid (OwnN.push HOE2.out HALL2.out HEC2.out hown3 hg3)
      have KM3 := Lib.hid (HOE2.out.keepBlk KM2.out (by decide) hg3)
      have BB3 : Hid (Below W.heap.size wr w3) := (BB2.out.mono (by omega)).trans hb3
      clear hown3 hg3 hb3
      refine stepG 10 (by kernel_rfl) (by simp only [List.getElem?_toArray, List.getElem?_cons_succ, List.getElem?_cons_zero]; rfl) (fun K hK => ?_)
      go_simp
      refine hK.out _ _ ?ts12 (fun hHeld => ?_)
      case ts12 => ((try dsimp only); exact hHeld)
      clear hK K
      have hfr : w3.frozen? ⟨w.heap.size + 1 + 1, 2, none⟩ = false := KM3.out.frozen 2
      refine stepGate 11 (by kernel_rfl) (by kernel_rfl) (by simp only [List.getElem?_toArray, List.getElem?_cons_succ, List.getElem?_cons_zero]; rfl) (fun K hK => ?_)
      go_simp
      refine hK.out _ _ ?_
      clear hK K
      refine doneG (by kernel_rfl) ?_ _
      clear hHeld
      go_wp2_with fail
      go_roundw
      case rel => exact ⟨j + 1, q + 1, c4, A4, by have := HJ.out; omega, by omega, by go_num, KM3.out.set_ 2 _, HPU.out.keptE KM3.out (by decide) (by decide) (grown_setCell _ _ _ _), (HBE.out.trans (BB3.out.mono (by omega))).setCell (Nat.le_refl _) _⟩
      case measure => first | (simp [intOf]; done) | (simp [intOf]; omega)
    · obtain rfl : j = t := by omega
      have hq : q = N := by have := HNN.out; omega
      have HLQ : Hid (q = L.length) := by show _ = _; rw [HLL.out, hq]
      clear HNN HLL hjq hj hjt
      subst hq
      have m0 : wr.cell? ⟨w.heap.size + 1 + 1, 0, none⟩ = some (.int .u8 (k : Int)) := HKM.out.cell 0
      have m1 : wr.cell? ⟨w.heap.size + 1 + 1, 1, none⟩ = some (.int .u8 (l : Int)) := HKM.out.cell 1
      have m2 : wr.cell? ⟨w.heap.size + 1 + 1, 2, none⟩ = some (.slice A3 q c3) := HKM.out.cell 2
      have KZr : Hid (Blk wr (w.heap.size + 1) 24 [Value.int .u8 0, .int .u8 0, .slice none 0 0].toArray) := KZ.out.below HBE.out (by omega)
      have hq2 : q ≤ c3 := HO.out.cap.1
      have hc3 : c3 ≤ 9223372036854775807 := by have := HO.out.cap.2; unfold maxLen at this; omega
      have j0 : decide ((j : Int) < (j : Int)) = false := decide_eq_false (by omega)
      by_cases hkq : k = 2 ∧ 0 < q
      · obtain ⟨hk2, hq0⟩ := hkq
        obtain ⟨g, v0, rfl, a0, hfr, hg⟩ := HO.out.first hq0
        have hd : ((k : Int) == 2) = true := by rw [beq_iff_eq]; omega
        have hd2 : decide (0 < q) = true := decide_eq_true hq0
        have hd3 : (0 : Int) < (q : Int) := by omega
        have HNE := Lib.hid (HO.out.lt _ rfl)
        have hgk := Lib.hid (HO.out.key0m hq0 HLQ.out)
        have HG := Lib.hid (grown_setCell wr g 0 (.slice none 0 0))
        go_upto_region 8 with fail
        obtain ⟨w5, hw5⟩ : ∃ w5, w5 = wr.setCell ⟨g, 0, none⟩ (.slice none 0 0) := ⟨_, rfl⟩
        rw [← hw5] at hgk HG ⊢
        clear hw5
        have hgz : g ≠ w.heap.size + 1 ∧ g ≠ w.heap.size + 1 + 1 := ⟨by omega, by omega⟩
        have KM5 := Lib.hid (HKM.out.keep_grown HG.out (by simp; omega))
        have KZ5 := Lib.hid (KZr.out.keep_grown HG.out (by simp; omega))
        have HB5 : Hid (Below (w.heap.size + 1) W w5) := (HBE.out.mono (by omega)).grown HG.out (by omega) (by intro q hq; simp at hq; omega)
        clear m0 m1 m2 a0 hfr HBE HG
        have HKE : Hid (mE k L = mE 2 L) := by rw [hk2]; rfl
        clear hk2
        have s5 := HB5.out.size
        have m0 := KM5.out.cell 0
        have m1 := KM5.out.cell 1
        have m2 := KM5.out.cell 2
        have hlz : [Value.int .u8 0, .int .u8 0, .slice none 0 0].length = [Value.int .u8 (k : Int), .int .u8 (l : Int), .slice (some ⟨g, 0, none⟩) q c3].length := rfl
        have hiz : (Try.prog.info? 24).map (·.size) = some [Value.int .u8 (k : Int), .int .u8 (l : Int), .slice (some ⟨g, 0, none⟩) q c3].length := infoNd
        have h1 : ∀ v ∈ [Value.int .u8 (k : Int), .int .u8 (l : Int), .slice (some ⟨g, 0, none⟩) q c3], v.oneCell' = true := nd_one k l (some ⟨g, 0, none⟩) q c3
        go_wp2_with (with_reducible refine wpList_store_blk rfl 24 (.tmp 6) (.tmp 44) rfl rfl (cs := [Value.int .u8 (k : Int), .int .u8 (l : Int), .slice (some ⟨g, 0, none⟩) q c3]) rfl KZ5.out hlz hiz h1 ?_; intro w6 hk6 hg6)
        refine bodyPost_ret (v := NdV k l (some ⟨g, 0, none⟩) q c3) (ret_blk (p := 6) rfl rfl hk6 _ Try.underlying24 rfl infoNd) rfl ⟨(some ⟨g, 0, none⟩), c3, rfl, ?_, ?_⟩
        · rw [HKE.out]
          exact (hgk.out.keptE KZ5.out (by decide) (by decide) hg6).mono (by omega)
        · exact (HWB.out.trans (HB5.out.mono (by omega))).grown hg6 (by omega) (by intro q hq; simp at hq; omega)
      · have HKE : Hid (mE k L = L) := by
          show _ = _
          rw [mE]; split
          · have hq0 : q = 0 := by omega
            have : L = [] := List.eq_nil_of_length_eq_zero (by rw [← HLQ.out]; exact hq0)
            rw [this]; rfl
          · rfl
        by_cases hk2 : k = 2
        · have hd : ((k : Int) == 2) = true := by rw [beq_iff_eq]; omega
          have hd2 : decide (0 < q) = false := decide_eq_false (by omega)
          have hd3 : decide ((q : Int) > 0) = false := decide_eq_false (by omega)
          have hd4 : decide ((0 : Int) < (q : Int)) = false := decide_eq_false (by omega)
          clear hkq hk2
          have m0 := HKM.out.cell 0
          have m1 := HKM.out.cell 1
          have m2 := HKM.out.cell 2
          have hlz : [Value.int .u8 0, .int .u8 0, .slice none 0 0].length = [Value.int .u8 (k : Int), .int .u8 (l : Int), .slice A3 q c3].length := rfl
          have hiz : (Try.prog.info? 24).map (·.size) = some [Value.int .u8 (k : Int), .int .u8 (l : Int), .slice A3 q c3].length := infoNd
          have h1 : ∀ v ∈ [Value.int .u8 (k : Int), .int .u8 (l : Int), .slice A3 q c3], v.oneCell' = true := nd_one k l A3 q c3
          go_wp2_with (with_reducible refine wpList_store_blk rfl 24 (.tmp 6) (.tmp 44) rfl rfl (cs := [Value.int .u8 (k : Int), .int .u8 (l : Int), .slice A3 q c3]) rfl KZr.out hlz hiz h1 ?_; intro w6 hk6 hg6)
          refine bodyPost_ret (v := NdV k l A3 q c3) (ret_blk (p := 6) rfl rfl hk6 _ Try.underlying24 rfl infoNd) rfl ⟨A3, c3, rfl, ?_, ?_⟩
          · rw [HKE.out]
            exact (HO.out.keptE KZr.out (by decide) (by decide) hg6).mono (by omega)
          · exact (HWB.out.trans (HBE.out.mono (by omega))).grown hg6 (by omega) (by intro q hq; simp at hq; omega)
        · have hd : ((k : Int) == 2) = false := by rw [beq_eq_false_iff_ne]; omega
          clear hkq hk2
          have m0 := HKM.out.cell 0
          have m1 := HKM.out.cell 1
          have m2 := HKM.out.cell 2
          have hlz : [Value.int .u8 0, .int .u8 0, .slice none 0 0].length = [Value.int .u8 (k : Int), .int .u8 (l : Int), .slice A3 q c3].length := rfl
          have hiz : (Try.prog.info? 24).map (·.size) = some [Value.int .u8 (k : Int), .int .u8 (l : Int), .slice A3 q c3].length := infoNd
          have h1 : ∀ v ∈ [Value.int .u8 (k : Int), .int .u8 (l : Int), .slice A3 q c3], v.oneCell' = true := nd_one k l A3 q c3
          go_wp2_with (with_reducible refine wpList_store_blk rfl 24 (.tmp 6) (.tmp 44) rfl rfl (cs := [Value.int .u8 (k : Int), .int .u8 (l : Int), .slice A3 q c3]) rfl KZr.out hlz hiz h1 ?_; intro w6 hk6 hg6)
          refine bodyPost_ret (v := NdV k l A3 q c3) (ret_blk (p := 6) rfl rfl hk6 _ Try.underlying24 rfl infoNd) rfl ⟨A3, c3, rfl, ?_, ?_⟩
          · rw [HKE.out]
            exact (HO.out.keptE KZr.out (by decide) (by decide) hg6).mono (by omega)
          · exact (HWB.out.trans (HBE.out.mono (by omega))).grown hg6 (by omega) (by intro q hq; simp at hq; omega)
end Go.Proofs.Ytgihcjmcefdkiaa
