/- Contracts: ghash's product of two elements as bytes. -/
import Derived.Test.YtikhnjoobhfgdaaGhB
set_option linter.unusedVariables false
namespace Go.Proofs.Ytikhnjoobhfgdaa
open Go.RowKit

theorem of_el' (b : List UInt8) (cs : List Value) (hcs : Hid (cs = b.map B8)) (hb : b.length = 16) (h l : Nat) (hh : Hid (hi (num b) = h)) (hl : Hid (lo (num b) = l)) (w : World) :
    Calls Try.prog 17 #[.agg cs.toArray] w fun e w' => e = .returned (EV h l) ∧ Below w.heap.size w w' := by
  have := of_el b hb w
  rw [hh.out, hl.out, A16, ← hcs.out] at this
  exact this
theorem elInfo : (Try.prog.info? 37).map (·.size) = some 2 := by kernel_rfl
set_option maxRecDepth 100000 in
set_option maxHeartbeats 3200000 in
theorem mul_any (x y : List UInt8) (hx : x.length = 16) (hy : y.length = 16) (w : World) :
    Calls Try.prog 14 #[A16 x, A16 y] w fun e w' => e = .returned (A16 (be (gmul (num x) (num y)) 16)) ∧ Below w.heap.size w w' := by
  obtain ⟨H, HH⟩ : ∃ H, Hid (w.heap.size = H) := ⟨_, rfl⟩
  obtain ⟨cx, Hcx⟩ : ∃ cs, Hid (cs = x.map B8) := ⟨_, rfl⟩
  obtain ⟨cy, Hcy⟩ : ∃ cs, Hid (cs = y.map B8) := ⟨_, rfl⟩
  obtain ⟨z, HZ⟩ : ∃ z, Hid (z = List.replicate 16 (Value.int .u8 0)) := ⟨_, rfl⟩
  have lx : Hid (cx.length = 16) := by show _ = _; rw [Hcx.out]; simpa using hx
  have ly : Hid (cy.length = 16) := by show _ = _; rw [Hcy.out]; simpa using hy
  have lz : Hid (z.length = 16) := by show _ = _; rw [HZ.out]; simp
  have HX := Lib.hid hx
  have HY := Lib.hid hy
  have hu : Try.prog.underlying 22 = some (.array 16 5) := Try.underlying22
  have HU := Lib.hid hu
  clear hx hy hu
  rw [A16, A16, ← Hcx.out, ← Hcy.out]
  go_enter Try.func14, Try.ntmps14
  go_wp2_with fail
  obtain ⟨W, hW⟩ : ∃ W, W = (((w.alloc (.cells cx.toArray 22)).alloc (.cells cy.toArray 22)).alloc (.cells (List.replicate 16 (Value.int .u8 0)).toArray 22)) := ⟨_, rfl⟩
  have KX : Hid (Blk W H 22 cx.toArray) := by rw [hW]; exact ((Blk.new' _ _ _ _ HH.out).alloc _).alloc _
  have KY : Hid (Blk W (H + 1) 22 cy.toArray) := by rw [hW]; exact (Blk.new' _ _ _ _ (by simp [HH.out])).alloc _
  have KR : Hid (Blk W (H + 1 + 1) 22 z.toArray) := by rw [hW, HZ.out]; exact Blk.new' _ _ _ _ (by simp [HH.out])
  have HB : Hid (Below H w W) := by
    rw [hW, ← HH.out]
    exact ((below_new _ _).alloc (by simp) _).alloc (by simp; omega) _
  simp only [List.replicate_succ, List.replicate_zero] at hW
  rw [← hW, HH.out]
  clear hW
  obtain ⟨xh, Hxh⟩ : ∃ v, Hid (hi (num x) = v) := ⟨_, rfl⟩
  obtain ⟨xl, Hxl⟩ : ∃ v, Hid (lo (num x) = v) := ⟨_, rfl⟩
  obtain ⟨yh, Hyh⟩ : ∃ v, Hid (hi (num y) = v) := ⟨_, rfl⟩
  obtain ⟨yl, Hyl⟩ : ∃ v, Hid (lo (num y) = v) := ⟨_, rfl⟩
  refine region_gate 6 (fun w' => Blk w' H 22 cx.toArray ∧ Blk w' (H + 1) 22 cy.toArray ∧ Blk w' (H + 1 + 1) 22 z.toArray ∧ Below H w w') (by kernel_rfl) ?th1 (fun hHeld => ?tk1)
  case th1 => ((try dsimp only); exact ⟨KX.out.drew, KY.out.drew, KR.out.drew, HB.out.drew⟩)
  refine' takeV 0 (oi := _) (d := _) (v := _) ?ti2 ?td2 (by kernel_rfl) (by kernel_rfl) (by kernel_rfl) (by kernel_rfl) (by decide) (fun _ _ _ _ _ h => h) ?tg2 ?ty2 (by assumption) ?tr2
  case ti2 => (simp only [List.getElem?_toArray, List.getElem?_cons_succ, List.getElem?_cons_zero]; rfl)
  case td2 => exact rfl
  case tg2 => exact rfl
  case ty2 => (intro w hSw; (try dsimp only at hSw); rw [exec_load_blk 22 (.tmp 2) rfl rfl hSw.1 _ HU.out rfl (by rw [lx.out]; exact infoA16)])
  simp only [List.setIfInBounds_toArray, List.set_cons_zero, List.set_cons_succ]
  refine' takeV 2 (oi := _) (d := _) (v := _) ?ti3 ?td3 (by kernel_rfl) (by kernel_rfl) (by kernel_rfl) (by kernel_rfl) (by decide) (fun _ _ _ _ _ h => h) ?tg3 ?ty3 (by assumption) ?tr3
  case ti3 => (simp only [List.getElem?_toArray, List.getElem?_cons_succ, List.getElem?_cons_zero]; rfl)
  case td3 => exact rfl
  case tg3 => exact rfl
  case ty3 => (intro w hSw; (try dsimp only at hSw); rw [exec_load_blk 22 (.tmp 3) rfl rfl hSw.2.1 _ HU.out rfl (by rw [ly.out]; exact infoA16)])
  simp only [List.setIfInBounds_toArray, List.set_cons_zero, List.set_cons_succ]
  have hw0 : Below H w W.drew := HB.out.drew
  refine stepG 1 (by kernel_rfl) (by simp only [List.getElem?_toArray, List.getElem?_cons_succ, List.getElem?_cons_zero]; rfl) (fun K hK => ?_)
  go_simp
  refine (of_el' x cx Hcx HX.out xh xl Hxh Hxl _).mono ?_
  rintro e w1 ⟨rfl, hb1⟩
  refine hK.out _ _ ?ts4 (fun hHeld => ?_)
  case ts4 => ((try dsimp only); exact ⟨KX.out.drew.below hb1 KX.out.drew.lt, KY.out.drew.below hb1 KY.out.drew.lt, KR.out.drew.below hb1 KR.out.drew.lt, hw0.trans (hb1.mono (Nat.le_of_lt KX.out.drew.lt))⟩)
  clear hK K
  obtain ⟨kx1, ky1, kr1, hB1⟩ := hHeld
  refine stepG 3 (by kernel_rfl) (by simp only [List.getElem?_toArray, List.getElem?_cons_succ, List.getElem?_cons_zero]; rfl) (fun K hK => ?_)
  go_simp
  refine (of_el' y cy Hcy HY.out yh yl Hyh Hyl _).mono ?_
  rintro e w2 ⟨rfl, hb2⟩
  refine hK.out _ _ ?ts5 (fun hHeld => ?_)
  case ts5 => ((try dsimp only); exact ⟨kx1.below hb2 kx1.lt, ky1.below hb2 ky1.lt, kr1.below hb2 kr1.lt, hB1.trans (hb2.mono (Nat.le_of_lt kx1.lt))⟩)
  clear hK K
  obtain ⟨kx2, ky2, kr2, hB2⟩ := hHeld
  have HT : Hid (∀ W : World, Calls Try.prog 18 #[EV xh xl, EV yh yl] W fun e w' => e = .returned (EV (hi (gmul (num x) (num y))) (lo (gmul (num x) (num y)))) ∧ Below W.heap.size W w') := fun W => by
    have := times_el (num x) (num y) (num_lt16 x HX.out) (num_lt16 y HY.out) W
    rwa [Hxh.out, Hxl.out, Hyh.out, Hyl.out] at this
  refine stepG 4 (by kernel_rfl) (by simp only [List.getElem?_toArray, List.getElem?_cons_succ, List.getElem?_cons_zero]; rfl) (fun K hK => ?_)
  go_simp
  refine (HT.out _).mono ?_
  rintro e w3 ⟨rfl, hb3⟩
  refine hK.out _ _ ?ts6 (fun hHeld => ?_)
  case ts6 => ((try dsimp only); exact ⟨kx2.below hb3 kx2.lt, ky2.below hb3 ky2.lt, kr2.below hb3 kr2.lt, hB2.trans (hb3.mono (Nat.le_of_lt kx2.lt))⟩)
  clear hK K
  obtain ⟨kx3, ky3, kr3, hB3⟩ := hHeld
  have HGB := Lib.hid (gmul_lt (x := num x) (num_lt16 y HY.out))
  refine stepG 5 (by kernel_rfl) (by simp only [List.getElem?_toArray, List.getElem?_cons_succ, List.getElem?_cons_zero]; rfl) (fun K hK => ?_)
  go_simp
  refine (ofbytes _ HGB.out _).mono ?_
  rintro e w4 ⟨rfl, hb4⟩
  refine hK.out _ _ ?ts7 (fun hHeld => ?_)
  case ts7 => ((try dsimp only); exact ⟨kx3.below hb4 kx3.lt, ky3.below hb4 ky3.lt, kr3.below hb4 kr3.lt, hB3.trans (hb4.mono (Nat.le_of_lt kx3.lt))⟩)
  clear hK K
  obtain ⟨kx4, ky4, kr4, hB4⟩ := hHeld
  have LR : Hid (((be (gmul (num x) (num y)) 16).map B8).length = 16) := by simp [be_length, Hid]
  refine stepGate 6 (by kernel_rfl) (by kernel_rfl) (by simp only [List.getElem?_toArray, List.getElem?_cons_succ, List.getElem?_cons_zero]; rfl) (fun K hK => ?_)
  refine step_store_blk rfl 22 (.tmp 4) (.tmp 10) rfl rfl rfl kr4 (by rw [LR.out, lz.out]) (by rw [LR.out]; exact infoA16) b8_one ?_
  intro w5 hk5 hg5
  refine hK.out _ _ ?_
  clear hK K
  refine doneG (by kernel_rfl) ?_ _
  go_wp2
  refine bodyPost_ret (v := A16 (be (gmul (num x) (num y)) 16)) (ret_blk (p := 4) rfl rfl hk5 _ HU.out rfl (by rw [List.size_toArray, LR.out]; exact infoA16)) rfl ⟨rfl, ?_⟩
  rw [HH.out]
  exact hB4.grown hg5 (by have := kx4.lt; omega) (by intro k hk; simp at hk; omega)
end Go.Proofs.Ytikhnjoobhfgdaa
