/- The walk of GhashMul. -/
import Derived.Test.YtikhnjoobhfgdaaGhF
import Derived.Deep.RegionHeld3
set_option linter.unusedVariables false
namespace Go.Proofs.Ytikhnjoobhfgdaa
open Go.RowKit

theorem mul_o (x y : List UInt8) (cx cy cr : List Value) (hcx : Hid (cx = x.map B8)) (hcy : Hid (cy = y.map B8)) (hcr : Hid (cr = (be (gmul (num x) (num y)) 16).map B8)) (hx : x.length = 16) (hy : y.length = 16) (w : World) :
    Calls Try.prog 14 #[.agg cx.toArray, .agg cy.toArray] w fun e w' => e = .returned (.agg cr.toArray) ∧ Below w.heap.size w w' := by
  rw [hcx.out, hcy.out, hcr.out]
  exact mul_any x y hx hy w
theorem refmul_o (x y : List UInt8) (cx cy cr : List Value) (hcx : Hid (cx = x.map B8)) (hcy : Hid (cy = y.map B8)) (hcr : Hid (cr = (be (gmul (num x) (num y)) 16).map B8)) (hx : x.length = 16) (hy : y.length = 16) (w : World) :
    Calls Try.prog 15 #[.agg cx.toArray, .agg cy.toArray] w fun e w' => e = .returned (.agg cr.toArray) ∧ Below w.heap.size w w' := by
  rw [hcx.out, hcy.out, hcr.out]
  exact refmul_any x y hx hy w

set_option maxRecDepth 100000 in
set_option maxHeartbeats 3200000 in
theorem ghashMul_walk (x y : List UInt8) (w : World) (hx : x.length = 16) (hy : y.length = 16) :
    Calls Try.prog 5 #[.agg (x.map B8).toArray, .agg (y.map B8).toArray] w fun e w' => e = .returned (.bool true) ∧ Below w.heap.size w w' := by
  obtain ⟨H, HH⟩ : ∃ H, Hid (w.heap.size = H) := ⟨_, rfl⟩
  obtain ⟨cx, Hcx⟩ : ∃ cs, Hid (cs = x.map B8) := ⟨_, rfl⟩
  obtain ⟨cy, Hcy⟩ : ∃ cs, Hid (cs = y.map B8) := ⟨_, rfl⟩
  obtain ⟨cr, Hcr⟩ : ∃ cs, Hid (cs = (be (gmul (num x) (num y)) 16).map B8) := ⟨_, rfl⟩
  have lx : Hid (cx.length = 16) := by show _ = _; rw [Hcx.out]; simpa using hx
  have ly : Hid (cy.length = 16) := by show _ = _; rw [Hcy.out]; simpa using hy
  have HX := Lib.hid hx
  have HY := Lib.hid hy
  have HU : Hid (Try.prog.underlying 22 = some (.array 16 5)) := Try.underlying22
  have hq : ∀ W, (Op.equalIn 10000 22 (.agg cr.toArray) (.agg cr.toArray)).run Try.prog W = .ok true W := fun W => by
    have := eq16 _ _ (be_length (gmul (num x) (num y)) 16) (be_length (gmul (num x) (num y)) 16) W
    rw [beq_self_eq_true, A16, ← Hcr.out] at this
    exact this
  rw [← Hcx.out, ← Hcy.out]
  clear hx hy
  go_enter Try.func5, Try.ntmps5
  go_wp2_with fail
  obtain ⟨W, hW⟩ : ∃ W, W = ((w.alloc (.cells cx.toArray 22)).alloc (.cells cy.toArray 22)) := ⟨_, rfl⟩
  have KX : Hid (Blk W H 22 cx.toArray) := by rw [hW]; exact (Blk.new' _ _ _ _ HH.out).alloc _
  have KY : Hid (Blk W (H + 1) 22 cy.toArray) := by rw [hW]; exact Blk.new' _ _ _ _ (by simp [HH.out])
  have HB : Hid (Below H w W) := by
    rw [hW, ← HH.out]
    exact (below_new _ _).alloc (by simp) _
  rw [← hW, HH.out]
  clear hW
  refine region_gate 11 (fun w' => Blk w' H 22 cx.toArray ∧ Blk w' (H + 1) 22 cy.toArray ∧ Below H w w') (by kernel_rfl) ?th1 (fun hHeld => ?tk1)
  case th1 => ((try dsimp only); exact ⟨KX.out.drew, KY.out.drew, HB.out.drew⟩)
  refine' takeV 0 (oi := _) (d := _) (v := _) ?ti2 ?td2 (by kernel_rfl) (by kernel_rfl) (by kernel_rfl) (by kernel_rfl) (by decide) (fun _ _ _ _ _ h => h) ?tg2 ?ty2 (by assumption) ?tr2
  case ti2 => (simp only [List.getElem?_toArray, List.getElem?_cons_succ, List.getElem?_cons_zero]; rfl)
  case td2 => exact rfl
  case tg2 => exact rfl
  case ty2 => (intro w hSw; (try dsimp only at hSw); rw [exec_load_blk 22 (.tmp 2) rfl rfl hSw.1 _ HU.out rfl (by rw [lx.out]; exact infoA16)])
  simp only [List.setIfInBounds_toArray, List.set_cons_zero, List.set_cons_succ]
  refine' takeV 1 (oi := _) (d := _) (v := _) ?ti3 ?td3 (by kernel_rfl) (by kernel_rfl) (by kernel_rfl) (by kernel_rfl) (by decide) (fun _ _ _ _ _ h => h) ?tg3 ?ty3 (by assumption) ?tr3
  case ti3 => (simp only [List.getElem?_toArray, List.getElem?_cons_succ, List.getElem?_cons_zero]; rfl)
  case td3 => exact rfl
  case tg3 => exact rfl
  case ty3 => (intro w hSw; (try dsimp only at hSw); rw [exec_load_blk 22 (.tmp 3) rfl rfl hSw.2.1 _ HU.out rfl (by rw [ly.out]; exact infoA16)])
  simp only [List.setIfInBounds_toArray, List.set_cons_zero, List.set_cons_succ]
  refine' takeV 3 (oi := _) (d := _) (v := _) ?ti4 ?td4 (by kernel_rfl) (by kernel_rfl) (by kernel_rfl) (by kernel_rfl) (by decide) (fun _ _ _ _ _ h => h) ?tg4 ?ty4 (by assumption) ?tr4
  case ti4 => (simp only [List.getElem?_toArray, List.getElem?_cons_succ, List.getElem?_cons_zero]; rfl)
  case td4 => exact rfl
  case tg4 => exact rfl
  case ty4 => (intro w hSw; (try dsimp only at hSw); rw [exec_load_blk 22 (.tmp 2) rfl rfl hSw.1 _ HU.out rfl (by rw [lx.out]; exact infoA16)])
  simp only [List.setIfInBounds_toArray, List.set_cons_zero, List.set_cons_succ]
  refine' takeV 4 (oi := _) (d := _) (v := _) ?ti5 ?td5 (by kernel_rfl) (by kernel_rfl) (by kernel_rfl) (by kernel_rfl) (by decide) (fun _ _ _ _ _ h => h) ?tg5 ?ty5 (by assumption) ?tr5
  case ti5 => (simp only [List.getElem?_toArray, List.getElem?_cons_succ, List.getElem?_cons_zero]; rfl)
  case td5 => exact rfl
  case tg5 => exact rfl
  case ty5 => (intro w hSw; (try dsimp only at hSw); rw [exec_load_blk 22 (.tmp 3) rfl rfl hSw.2.1 _ HU.out rfl (by rw [ly.out]; exact infoA16)])
  simp only [List.setIfInBounds_toArray, List.set_cons_zero, List.set_cons_succ]
  have hw0 : Below H w W.drew := HB.out.drew
  refine stepG 2 (by kernel_rfl) (by simp only [List.getElem?_toArray, List.getElem?_cons_succ, List.getElem?_cons_zero]; rfl) (fun K hK => ?_)
  go_simp
  refine (mul_o x y cx cy cr Hcx Hcy Hcr HX.out HY.out _).mono ?_
  rintro e w1 ⟨rfl, hb1⟩
  refine hK.out _ _ ?ts6 (fun hHeld => ?_)
  case ts6 => ((try dsimp only); exact ⟨KX.out.drew.below hb1 KX.out.drew.lt, KY.out.drew.below hb1 KY.out.drew.lt, hw0.trans (hb1.mono (Nat.le_of_lt KX.out.drew.lt))⟩)
  clear hK K
  obtain ⟨kx1, ky1, hB1⟩ := hHeld
  refine stepG 5 (by kernel_rfl) (by simp only [List.getElem?_toArray, List.getElem?_cons_succ, List.getElem?_cons_zero]; rfl) (fun K hK => ?_)
  go_simp
  refine (refmul_o x y cx cy cr Hcx Hcy Hcr HX.out HY.out _).mono ?_
  rintro e w2 ⟨rfl, hb2⟩
  refine hK.out _ _ ?ts7 (fun hHeld => ?_)
  case ts7 => ((try dsimp only); exact ⟨kx1.below hb2 kx1.lt, ky1.below hb2 ky1.lt, hB1.trans (hb2.mono (Nat.le_of_lt kx1.lt))⟩)
  clear hK K
  obtain ⟨kx2, ky2, hB2⟩ := hHeld
  refine stepG 6 (by kernel_rfl) (by simp only [List.getElem?_toArray, List.getElem?_cons_succ, List.getElem?_cons_zero]; rfl) (fun K hK => ?_)
  go_simp
  refine hK.out _ _ ?ts8 (fun hHeld => ?_)
  case ts8 => ((try dsimp only); exact ⟨kx2, ky2, hB2⟩)
  clear hK K
  refine stepG 7 (by kernel_rfl) (by simp only [List.getElem?_toArray, List.getElem?_cons_succ, List.getElem?_cons_zero]; rfl) (fun K hK => ?_)
  go_simp
  refine hK.out _ _ ?ts9 (fun hHeld => ?_)
  case ts9 => ((try dsimp only); exact ⟨kx2, ky2, hB2⟩)
  clear hK K
  refine stepG 8 (by kernel_rfl) (by simp only [List.getElem?_toArray, List.getElem?_cons_succ, List.getElem?_cons_zero]; rfl) (fun K hK => ?_)
  go_simp
  refine (known_any _).mono ?_
  rintro e w3 ⟨rfl, hb3⟩
  refine hK.out _ _ ?ts10 (fun hHeld => ?_)
  case ts10 => ((try dsimp only); exact ⟨kx2.below hb3 kx2.lt, ky2.below hb3 ky2.lt, hB2.trans (hb3.mono (Nat.le_of_lt kx2.lt))⟩)
  clear hK K
  obtain ⟨kx3, ky3, hB3⟩ := hHeld
  refine stepG 9 (by kernel_rfl) (by simp only [List.getElem?_toArray, List.getElem?_cons_succ, List.getElem?_cons_zero]; rfl) (fun K hK => ?_)
  go_simp
  refine hK.out _ _ ?ts11 (fun hHeld => ?_)
  case ts11 => ((try dsimp only); exact ⟨kx3, ky3, hB3⟩)
  clear hK K
  refine stepG 10 (by kernel_rfl) (by simp only [List.getElem?_toArray, List.getElem?_cons_succ, List.getElem?_cons_zero]; rfl) (fun K hK => ?_)
  go_simp
  refine hK.out _ _ ?ts12 (fun hHeld => ?_)
  case ts12 => ((try dsimp only); exact ⟨kx3, ky3, hB3⟩)
  clear hK K
  refine doneG (by kernel_rfl) ?_ _
  go_wp2
  go_ret
  exact ⟨rfl, by rw [HH.out]; exact hB3⟩
end Go.Proofs.Ytikhnjoobhfgdaa
