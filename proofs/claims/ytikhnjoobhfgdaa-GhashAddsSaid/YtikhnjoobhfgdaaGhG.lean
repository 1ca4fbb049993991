/- Contracts: two elements added, as the reference and as the laws do it; a text filled up; plain laws on both. -/
import Derived.Test.YtikhnjoobhfgdaaGhF
import Derived.BigRegion
set_option linter.unusedVariables false
namespace Go.Proofs.Ytikhnjoobhfgdaa
open Go.RowKit

/-- The first i bytes of x added to y's, the others as they are. -/
def axm (x y : List UInt8) (i : Nat) : List UInt8 := (List.range 16).map fun t => if t < i then x.getD t 0 ^^^ y.getD t 0 else x.getD t 0
theorem axm_length (x y : List UInt8) (i : Nat) : (axm x y i).length = 16 := by simp [axm]
theorem axm_get (x y : List UInt8) (i t : Nat) (h : t < 16) : (axm x y i).getD t 0 = if t < i then x.getD t 0 ^^^ y.getD t 0 else x.getD t 0 := by
  simp [axm, List.getD_eq_getElem?_getD, h]
theorem axm_zero (x y : List UInt8) (hx : x.length = 16) : axm x y 0 = x := by
  apply List.ext_getElem (by rw [axm_length, hx])
  intro t h1 h2
  simp [axm, List.getD, List.getElem?_eq_getElem h2]
theorem axm_step (x y : List UInt8) (i : Nat) (h : i < 16) : (axm x y i).set i (x.getD i 0 ^^^ y.getD i 0) = axm x y (i + 1) := by
  apply List.ext_getElem (by simp [axm])
  intro t h1 h2
  have ht : t < 16 := by rw [axm_length] at h2; exact h2
  rw [List.getElem_set]
  by_cases e : i = t
  · subst e; rw [if_pos rfl]; simp [axm]
  · rw [if_neg e]
    simp only [axm, List.getElem_map, List.getElem_range]
    by_cases h3 : t < i
    · rw [if_pos h3, if_pos (by omega)]
    · rw [if_neg h3, if_neg (by omega)]
/-- Two elements added, as bytes. -/
def gadd (x y : List UInt8) : List UInt8 := axm x y 16
theorem gadd_length (x y : List UInt8) : (gadd x y).length = 16 := axm_length x y 16
theorem num_gadd (x y : List UInt8) (hx : x.length = 16) (hy : y.length = 16) : num (gadd x y) = num x ^^^ num y := by
  apply gbit_ext _ _ (num_lt16 _ (gadd_length x y)) (xor_lt (num_lt16 x hx) (num_lt16 y hy))
  intro i hi
  rw [gbit_num _ (gadd_length x y) i hi, gbit_xor, gbit_num x hx i hi, gbit_num y hy i hi, gadd, axm_get x y 16 _ (by omega), if_pos (by omega), UInt8.toNat_xor, Nat.testBit_xor]
theorem gadd_be (x y : List UInt8) (hx : x.length = 16) (hy : y.length = 16) : gadd x y = be (num x ^^^ num y) 16 := by
  rw [← num_gadd x y hx hy]
  have := be_num (gadd x y)
  rw [gadd_length] at this
  exact this.symm
theorem num_be16 (v : Nat) (h : v < 2 ^ 128) : num (be v 16) = v := num_be_lt v 16 h

theorem mul_o (x y : List UInt8) (cx cy cr : List Value) (hcx : Hid (cx = x.map B8)) (hcy : Hid (cy = y.map B8)) (hcr : Hid (cr = (be (gmul (num x) (num y)) 16).map B8)) (hx : x.length = 16) (hy : y.length = 16) (w : World) :
    Calls Try.prog 14 #[.agg cx.toArray, .agg cy.toArray] w fun e w' => e = .returned (.agg cr.toArray) ∧ Below w.heap.size w w' := by
  rw [hcx.out, hcy.out, hcr.out]
  exact mul_any x y hx hy w
theorem refmul_o (x y : List UInt8) (cx cy cr : List Value) (hcx : Hid (cx = x.map B8)) (hcy : Hid (cy = y.map B8)) (hcr : Hid (cr = (be (gmul (num x) (num y)) 16).map B8)) (hx : x.length = 16) (hy : y.length = 16) (w : World) :
    Calls Try.prog 15 #[.agg cx.toArray, .agg cy.toArray] w fun e w' => e = .returned (.agg cr.toArray) ∧ Below w.heap.size w w' := by
  rw [hcx.out, hcy.out, hcr.out]
  exact refmul_any x y hx hy w

set_option maxRecDepth 100000 in
set_option maxHeartbeats 1600000 in
theorem add_any (x y : List UInt8) (hx : x.length = 16) (hy : y.length = 16) (w : World) :
    Calls Try.prog 22 #[A16 x, A16 y] w fun e w' => e = .returned (A16 (gadd x y)) ∧ Below w.heap.size w w' := by
  obtain ⟨H, HH⟩ : ∃ H, Hid (w.heap.size = H) := ⟨_, rfl⟩
  obtain ⟨cx, Hcx⟩ : ∃ cs, Hid (cs = x.map B8) := ⟨_, rfl⟩
  obtain ⟨cy, Hcy⟩ : ∃ cs, Hid (cs = y.map B8) := ⟨_, rfl⟩
  obtain ⟨z, HZ⟩ : ∃ z, Hid (z = List.replicate 16 (Value.int .u8 0)) := ⟨_, rfl⟩
  have lz : Hid (z.length = 16) := by show _ = _; rw [HZ.out]; simp
  have HX := Lib.hid hx
  have HY := Lib.hid hy
  have HU : Hid (Try.prog.underlying 22 = some (.array 16 5)) := Try.underlying22
  have hz2 : ∀ W : World, (zeroValue 22).run Try.prog W = .ok (.agg z.toArray) W := fun W => by rw [HZ.out]; kernel_rfl
  rw [A16, A16, ← Hcx.out, ← Hcy.out]
  clear hx hy
  go_enter Try.func22, Try.ntmps22
  go_wp2_with fail
  obtain ⟨W, hW⟩ : ∃ W, W = (((w.alloc (.cells cx.toArray 22)).alloc (.cells cy.toArray 22)).alloc (.cells z.toArray 22)) := ⟨_, rfl⟩
  have KX : Hid (Blk W H 22 ((axm x y 0).map B8).toArray) := by rw [hW, axm_zero x y HX.out, ← Hcx.out]; exact ((Blk.new' _ _ _ _ HH.out).alloc _).alloc _
  have KY : Hid (Blk W (H + 1) 22 cy.toArray) := by rw [hW]; exact (Blk.new' _ _ _ _ (by simp [HH.out])).alloc _
  have KR : Hid (Blk W (H + 1 + 1) 22 z.toArray) := by rw [hW]; exact Blk.new' _ _ _ _ (by simp [HH.out])
  have HB : Hid (Below H w W) := by
    rw [hW, ← HH.out]
    exact ((below_new _ _).alloc (by simp) _).alloc (by simp; omega) _
  rw [← hW, HH.out]
  clear hW hz2
  go_loopw [5] (fun s5 wr => ∃ i : Nat, i ≤ 16 ∧ s5 = .int .i64 i ∧ Blk wr H 22 ((axm x y i).map B8).toArray ∧ Blk wr (H + 1) 22 cy.toArray ∧ Blk wr (H + 1 + 1) 22 z.toArray ∧ Below H w wr) (fun s5 _ => 16 - (intOf s5).toNat)
  case atStart => exact ⟨0, by omega, rfl, KX.out, KY.out, KR.out, HB.out⟩
  case round =>
    clear KX KY KR HB
    obtain ⟨i, hi, rfl, hx, hy, hr, hbel⟩ := hrel
    have BX := Lib.hid hx
    have BY := Lib.hid hy
    have BR := Lib.hid hr
    clear hx hy hr
    by_cases hlt : i < 16
    · obtain ⟨a, Ha⟩ : ∃ a, Hid (a = x.getD i 0) := ⟨_, rfl⟩
      obtain ⟨b, Hb⟩ : ∃ a, Hid (a = y.getD i 0) := ⟨_, rfl⟩
      have ca : wr.cell? ⟨H, i, none⟩ = some (.int .u8 (a.toNat : Int)) := by
        rw [BX.out.cell]
        have h1 : i < (axm x y i).length := by rw [axm_length]; exact hlt
        have h2 := axm_get x y i i hlt
        rw [if_neg (by omega), List.getD_eq_getElem?_getD, List.getElem?_eq_getElem h1] at h2
        simp only [List.getElem?_toArray, List.getElem?_map, List.getElem?_eq_getElem h1, Option.map_some]
        rw [Ha.out, ← h2]; rfl
      have cb : wr.cell? ⟨H + 1, i, none⟩ = some (.int .u8 (b.toNat : Int)) := by
        rw [BY.out.cell, Hcy.out, Hb.out]
        simp [List.getD, List.getElem?_eq_getElem (show i < y.length by rw [HY.out]; exact hlt)]
      have fr := BX.out.frozen i
      have ba := a.toNat_lt
      have bb := b.toNat_lt
      have hxo := u8_xor_nat a.toNat b.toNat (by omega) (by omega)
      go_wp2_with fail
      go_region
      go_wp2
      go_roundw
      case rel =>
        refine ⟨i + 1, by omega, by go_num, ?_, (BY.out.far (by simp) _).drew, (BR.out.far (by simp; omega) _).drew, (hbel.setCell (by simp) _).drew⟩
        have hs := (BX.out.set_ i (B8 (a ^^^ b))).drew
        rw [List.setIfInBounds_toArray, ← List.map_set, Ha.out, Hb.out, axm_step x y i hlt] at hs
        rw [← Ha.out, ← Hb.out] at hs
        rw [show ((a.toNat ^^^ b.toNat : Nat) : Int) = (((a ^^^ b).toNat : Nat) : Int) by rw [UInt8.toNat_xor]]
        exact hs
      case measure => first | (simp [intOf]; done) | (simp [intOf]; omega)
    · obtain rfl : i = 16 := by omega
      have LR : Hid (((gadd x y).map B8).length = 16) := by simp [gadd_length, Hid]
      have BG : Hid (Blk wr H 22 ((gadd x y).map B8).toArray) := BX.out
      clear BX
      go_wp2_with (first
        | (with_reducible refine wpList_load_blk rfl 22 (.tmp 2) rfl rfl BG.out _ HU.out rfl (by rw [LR.out]; exact infoA16) ?_)
        | (with_reducible refine wpList_store_blk rfl 22 (.tmp 4) (.tmp 19) rfl rfl rfl BR.out (by rw [LR.out, lz.out]) (by rw [LR.out]; exact infoA16) b8_one ?_; intro w8 hk8 hg8))
      refine bodyPost_ret (v := A16 (gadd x y)) (ret_blk (p := 4) rfl rfl hk8 _ HU.out rfl (by rw [List.size_toArray, LR.out]; exact infoA16)) rfl ⟨rfl, ?_⟩
      rw [HH.out]
      exact hbel.grown hg8 (by have := BR.out.lt; omega) (by intro k hk; simp at hk; omega)
set_option maxRecDepth 100000 in
set_option maxHeartbeats 1600000 in
theorem plus_any (x y : List UInt8) (hx : x.length = 16) (hy : y.length = 16) (w : World) :
    Calls Try.prog 13 #[A16 x, A16 y] w fun e w' => e = .returned (A16 (gadd x y)) ∧ Below w.heap.size w w' := by
  obtain ⟨H, HH⟩ : ∃ H, Hid (w.heap.size = H) := ⟨_, rfl⟩
  obtain ⟨cx, Hcx⟩ : ∃ cs, Hid (cs = x.map B8) := ⟨_, rfl⟩
  obtain ⟨cy, Hcy⟩ : ∃ cs, Hid (cs = y.map B8) := ⟨_, rfl⟩
  obtain ⟨z, HZ⟩ : ∃ z, Hid (z = List.replicate 16 (Value.int .u8 0)) := ⟨_, rfl⟩
  have lz : Hid (z.length = 16) := by show _ = _; rw [HZ.out]; simp
  have HX := Lib.hid hx
  have HY := Lib.hid hy
  have HU : Hid (Try.prog.underlying 22 = some (.array 16 5)) := Try.underlying22
  have hz2 : ∀ W : World, (zeroValue 22).run Try.prog W = .ok (.agg z.toArray) W := fun W => by rw [HZ.out]; kernel_rfl
  rw [A16, A16, ← Hcx.out, ← Hcy.out]
  clear hx hy
  go_enter Try.func13, Try.ntmps13
  go_wp2_with fail
  obtain ⟨W, hW⟩ : ∃ W, W = (((w.alloc (.cells cx.toArray 22)).alloc (.cells cy.toArray 22)).alloc (.cells z.toArray 22)) := ⟨_, rfl⟩
  have KX : Hid (Blk W H 22 ((axm x y 0).map B8).toArray) := by rw [hW, axm_zero x y HX.out, ← Hcx.out]; exact ((Blk.new' _ _ _ _ HH.out).alloc _).alloc _
  have KY : Hid (Blk W (H + 1) 22 cy.toArray) := by rw [hW]; exact (Blk.new' _ _ _ _ (by simp [HH.out])).alloc _
  have KR : Hid (Blk W (H + 1 + 1) 22 z.toArray) := by rw [hW]; exact Blk.new' _ _ _ _ (by simp [HH.out])
  have HB : Hid (Below H w W) := by
    rw [hW, ← HH.out]
    exact ((below_new _ _).alloc (by simp) _).alloc (by simp; omega) _
  rw [← hW, HH.out]
  clear hW hz2
  go_loopw [6] (fun s5 wr => ∃ i : Nat, i ≤ 16 ∧ s5 = .int .i64 i ∧ Blk wr H 22 ((axm x y i).map B8).toArray ∧ Blk wr (H + 1) 22 cy.toArray ∧ Blk wr (H + 1 + 1) 22 z.toArray ∧ Below H w wr) (fun s5 _ => 16 - (intOf s5).toNat)
  case atStart => exact ⟨0, by omega, rfl, KX.out, KY.out, KR.out, HB.out⟩
  case round =>
    clear KX KY KR HB
    obtain ⟨i, hi, rfl, hx, hy, hr, hbel⟩ := hrel
    have BX := Lib.hid hx
    have BY := Lib.hid hy
    have BR := Lib.hid hr
    clear hx hy hr
    by_cases hlt : i < 16
    · obtain ⟨a, Ha⟩ : ∃ a, Hid (a = x.getD i 0) := ⟨_, rfl⟩
      obtain ⟨b, Hb⟩ : ∃ a, Hid (a = y.getD i 0) := ⟨_, rfl⟩
      have ca : wr.cell? ⟨H, i, none⟩ = some (.int .u8 (a.toNat : Int)) := by
        rw [BX.out.cell]
        have h1 : i < (axm x y i).length := by rw [axm_length]; exact hlt
        have h2 := axm_get x y i i hlt
        rw [if_neg (by omega), List.getD_eq_getElem?_getD, List.getElem?_eq_getElem h1] at h2
        simp only [List.getElem?_toArray, List.getElem?_map, List.getElem?_eq_getElem h1, Option.map_some]
        rw [Ha.out, ← h2]; rfl
      have cb : wr.cell? ⟨H + 1, i, none⟩ = some (.int .u8 (b.toNat : Int)) := by
        rw [BY.out.cell, Hcy.out, Hb.out]
        simp [List.getD, List.getElem?_eq_getElem (show i < y.length by rw [HY.out]; exact hlt)]
      have fr := BX.out.frozen i
      have ba := a.toNat_lt
      have bb := b.toNat_lt
      have hxo := u8_xor_nat a.toNat b.toNat (by omega) (by omega)
      go_wp2_with fail
      go_region
      go_wp2
      go_roundw
      case rel =>
        refine ⟨i + 1, by omega, by go_num, ?_, (BY.out.far (by simp) _).drew, (BR.out.far (by simp; omega) _).drew, (hbel.setCell (by simp) _).drew⟩
        have hs := (BX.out.set_ i (B8 (a ^^^ b))).drew
        rw [List.setIfInBounds_toArray, ← List.map_set, Ha.out, Hb.out, axm_step x y i hlt] at hs
        rw [← Ha.out, ← Hb.out] at hs
        rw [show ((a.toNat ^^^ b.toNat : Nat) : Int) = (((a ^^^ b).toNat : Nat) : Int) by rw [UInt8.toNat_xor]]
        exact hs
      case measure => first | (simp [intOf]; done) | (simp [intOf]; omega)
    · obtain rfl : i = 16 := by omega
      have LR : Hid (((gadd x y).map B8).length = 16) := by simp [gadd_length, Hid]
      have BG : Hid (Blk wr H 22 ((gadd x y).map B8).toArray) := BX.out
      clear BX
      go_wp2_with (first
        | (with_reducible refine wpList_load_blk rfl 22 (.tmp 2) rfl rfl BG.out _ HU.out rfl (by rw [LR.out]; exact infoA16) ?_)
        | (with_reducible refine wpList_store_blk rfl 22 (.tmp 4) (.tmp 18) rfl rfl rfl BR.out (by rw [LR.out, lz.out]) (by rw [LR.out]; exact infoA16) b8_one ?_; intro w8 hk8 hg8))
      refine bodyPost_ret (v := A16 (gadd x y)) (ret_blk (p := 4) rfl rfl hk8 _ HU.out rfl (by rw [List.size_toArray, LR.out]; exact infoA16)) rfl ⟨rfl, ?_⟩
      rw [HH.out]
      exact hbel.grown hg8 (by have := BR.out.lt; omega) (by intro k hk; simp at hk; omega)
end Go.Proofs.Ytikhnjoobhfgdaa
