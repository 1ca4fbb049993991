/- Contracts: the reference's bit, and its product. -/
import Derived.Test.YtikhnjoobhfgdaaGhC
set_option linter.unusedVariables false
namespace Go.Proofs.Ytikhnjoobhfgdaa
open Go.RowKit

abbrev VB (b : Bool) : Value := .int .i64 (b.toNat : Int)
theorem bit_val (b i : Nat) (hb : b < 256) : Int.tmod (wrap64 ((b : Int) / 2 ^ (7 - i % 8))) 2 = ((b.testBit (7 - i % 8)).toNat : Int) := by
  have e : ((b : Int) / 2 ^ (7 - i % 8)) = ((b / 2 ^ (7 - i % 8) : Nat) : Int) := by simp
  have hle : b / 2 ^ (7 - i % 8) ≤ b := Nat.div_le_self _ _
  rw [e, Nat.testBit_eq_decide_div_mod_eq]
  generalize b / 2 ^ (7 - i % 8) = q at hle
  have ew : wrap64 (q : Int) = (q : Int) := by unfold wrap64; omega
  rw [ew, Int.tmod_eq_emod_of_nonneg (by omega)]
  rcases Nat.mod_two_eq_zero_or_one q with h | h
  · simp [h]; omega
  · simp [h]; omega
set_option maxRecDepth 100000 in
set_option maxHeartbeats 1600000 in
theorem refbit_any (x : List UInt8) (cx : List Value) (Hcx : Hid (cx = x.map B8)) (hx : x.length = 16) (i : Nat) (hi : i < 128) (b : Bool) (hb : Hid (gbit (num x) i = b)) (w : World) :
    Calls Try.prog 23 #[.agg cx.toArray, .int .i64 i] w fun e w' => e = .returned (VB b) ∧ Below w.heap.size w w' := by
  have hc : (w.alloc (.cells cx.toArray 22)).cell? ⟨w.heap.size, i / 8, none⟩ = some (B8 (x.getD (i / 8) 0)) := by
    rw [(Blk.new w _ cx.toArray).cell (i / 8), Hcx.out]
    simp [List.getD, List.getElem?_eq_getElem (show i / 8 < x.length by omega)]
  obtain ⟨y, Hy⟩ : ∃ y, Hid (y = x.getD (i / 8) 0) := ⟨_, rfl⟩
  rw [← Hy.out] at hc
  have hy := y.toNat_lt
  have hv := bit_val y.toNat i (by omega)
  have hb' : (y.toNat.testBit (7 - i % 8)) = b := by rw [Hy.out, ← gbit_num x hx i hi]; exact hb.out
  rw [hb'] at hv
  clear hx hb'
  go_enter Try.func23, Try.ntmps23
  have HV := Lib.hid hv
  clear hv
  go_wp2
  go_ret
  exact ⟨ret_int HV.out, below_new _ _⟩
theorem xor_bit (a b : Bool) : bits .xor .i64 (a.toNat : Int) (b.toNat : Int) = (((a ^^ b).toNat : Nat) : Int) := by
  cases a <;> cases b <;> decide +kernel
theorem vb_get (ps : List Bool) (j : Nat) (h : j < ps.length) : (ps.map VB).toArray[j]? = some (VB (ps.getD j false)) := by
  simp [List.getD, List.getElem?_eq_getElem h]
theorem vb_set (ps : List Bool) (j : Nat) (b : Bool) : (ps.map VB).toArray.setIfInBounds j (VB b) = ((ps.set j b).map VB).toArray := by
  rw [List.setIfInBounds_toArray, List.map_set]

set_option maxRecDepth 100000 in
set_option maxHeartbeats 3200000 in
theorem refmul_any (x y : List UInt8) (hx : x.length = 16) (hy : y.length = 16) (w : World) :
    Calls Try.prog 15 #[A16 x, A16 y] w fun e w' => e = .returned (A16 (be (gmul (num x) (num y)) 16)) ∧ Below w.heap.size w w' := by
  obtain ⟨H, HH⟩ : ∃ H, Hid (w.heap.size = H) := ⟨_, rfl⟩
  obtain ⟨cx, Hcx⟩ : ∃ cs, Hid (cs = x.map B8) := ⟨_, rfl⟩
  obtain ⟨cy, Hcy⟩ : ∃ cs, Hid (cs = y.map B8) := ⟨_, rfl⟩
  obtain ⟨z, HZ⟩ : ∃ z, Hid (z = List.replicate 16 (Value.int .u8 0)) := ⟨_, rfl⟩
  have lx : Hid (cx.length = 16) := by show _ = _; rw [Hcx.out]; simpa using hx
  have ly : Hid (cy.length = 16) := by show _ = _; rw [Hcy.out]; simpa using hy
  have lz : Hid (z.length = 16) := by show _ = _; rw [HZ.out]; simp
  have HX := Lib.hid hx
  have HY := Lib.hid hy
  have hu : Try.prog.underlying 22 = some (.array 16 5) := Try.underlying22
  have HU := Lib.hid hu
  clear hx hy hu
  rw [A16, A16, ← Hcx.out, ← Hcy.out]
  obtain ⟨p0, HP0⟩ : ∃ p, Hid (p = List.replicate 255 (Value.int .i64 0)) := ⟨_, rfl⟩
  have hz1 : ∀ W : World, (zeroValue 43).run Try.prog W = .ok (.agg p0.toArray) W := fun W => by rw [HP0.out]; kernel_rfl
  have hz2 : ∀ W : World, (zeroValue 22).run Try.prog W = .ok (.agg z.toArray) W := fun W => by rw [HZ.out]; kernel_rfl
  go_enter Try.func15, Try.ntmps15
  go_wp2_with fail
  obtain ⟨W, hW⟩ : ∃ W, W = ((((w.alloc (.cells cx.toArray 22)).alloc (.cells cy.toArray 22)).alloc (.cells z.toArray 22)).alloc (.cells p0.toArray 43)) := ⟨_, rfl⟩
  have KX : Hid (Blk W H 22 cx.toArray) := by rw [hW]; exact (((Blk.new' _ _ _ _ HH.out).alloc _).alloc _).alloc _
  have KY : Hid (Blk W (H + 1) 22 cy.toArray) := by rw [hW]; exact ((Blk.new' _ _ _ _ (by simp [HH.out])).alloc _).alloc _
  have KR : Hid (Blk W (H + 1 + 1) 22 z.toArray) := by rw [hW]; exact (Blk.new' _ _ _ _ (by simp [HH.out])).alloc _
  have KP : Hid (Blk W (H + 1 + 1 + 1) 43 p0.toArray) := by rw [hW]; exact Blk.new' _ _ _ _ (by simp [HH.out])
  have HB : Hid (Below H w W) := by
    rw [hW, ← HH.out]
    exact (((below_new _ _).alloc (by simp) _).alloc (by simp; omega) _).alloc (by simp; omega) _
  rw [← hW, HH.out]
  clear hW
  have hY := num_lt16 y HY.out
  have HYL := Lib.hid hY
  clear hY
  obtain ⟨X, HXX⟩ : ∃ v, Hid (num x = v) := ⟨_, rfl⟩
  obtain ⟨Y, HYY⟩ : ∃ v, Hid (num y = v) := ⟨_, rfl⟩
  go_loopw [6] (fun s6 wr => ∃ (i : Nat) (ps : List Bool), i ≤ 128 ∧ s6 = .int .i64 i ∧ ps.length = 255 ∧ gev ps 0 = gsum X Y i ∧ Blk wr (H + 1 + 1 + 1) 43 (ps.map VB).toArray ∧
      Blk wr H 22 cx.toArray ∧ Blk wr (H + 1) 22 cy.toArray ∧ Blk wr (H + 1 + 1) 22 z.toArray ∧ Below H w wr) (fun s6 _ => 128 - (intOf s6).toNat)
  case atStart => exact ⟨0, List.replicate 255 false, by omega, rfl, by simp, gev_none 255 0, by rw [List.map_replicate]; have := KP.out; rw [HP0.out] at this; exact this, KX.out, KY.out, KR.out, HB.out⟩
  case round =>
    clear hz1
    obtain ⟨i, ps, hi, rfl, hl, hev, hp, hx, hy, hr, hbel⟩ := hrel
    have LP := Lib.hid hl
    have EV0 := Lib.hid hev
    have BP := Lib.hid hp
    have BX := Lib.hid hx
    have BY := Lib.hid hy
    have BR := Lib.hid hr
    clear hl hev hp hx hy hr
    by_cases hlt : i < 128
    · cases hb : gbit (num x) i with
      | false =>
        have HBT := Lib.hid hb
        clear hb
        go_wp2_with (first
          | (with_reducible refine wpList_load_blk rfl 22 (.tmp 2) rfl rfl BX.out _ HU.out rfl (by rw [lx.out]; exact infoA16) ?_)
          | (go_at_call 23; refine (refbit_any x cx Hcx HX.out i hlt false HBT.out _).mono ?_; rintro e w1 ⟨rfl, hb1⟩))
        go_roundw
        case rel => exact ⟨i + 1, ps, by omega, by go_num, LP.out, by rw [EV0.out, ← HXX.out]; exact row_none _ Y i HBT.out, BP.out.below hb1 BP.out.lt, BX.out.below hb1 BX.out.lt, BY.out.below hb1 BY.out.lt, BR.out.below hb1 BR.out.lt, hbel.trans (hb1.mono (Nat.le_of_lt BX.out.lt))⟩
        case measure => first | (simp [intOf]; done) | (simp [intOf]; omega)
      | true =>
        have HBT := Lib.hid hb
        clear hb
        go_wp2_with (first
          | (with_reducible refine wpList_load_blk rfl 22 (.tmp 2) rfl rfl BX.out _ HU.out rfl (by rw [lx.out]; exact infoA16) ?_)
          | (go_at_call 23; refine (refbit_any x cx Hcx HX.out i hlt true HBT.out _).mono ?_; rintro e w1 ⟨rfl, hb1⟩))
        have CP := Lib.hid (BP.out.below hb1 BP.out.lt)
        have CX := Lib.hid (BX.out.below hb1 BX.out.lt)
        have CY := Lib.hid (BY.out.below hb1 BY.out.lt)
        have CR := Lib.hid (BR.out.below hb1 BR.out.lt)
        have hbel1 := hbel.trans (hb1.mono (Nat.le_of_lt BX.out.lt))
        clear hb1 hbel
        go_loopw [7] (fun s7 wr => ∃ (k : Nat) (ps : List Bool), k ≤ 128 ∧ s7 = .int .i64 k ∧ ps.length = 255 ∧ gev ps 0 = gsum X Y i ^^^ gxn i (gsum Y gone k) ∧ Blk wr (H + 1 + 1 + 1) 43 (ps.map VB).toArray ∧
            Blk wr H 22 cx.toArray ∧ Blk wr (H + 1) 22 cy.toArray ∧ Blk wr (H + 1 + 1) 22 z.toArray ∧ Below H w wr) (fun s7 _ => 128 - (intOf s7).toNat)
        case atStart => exact ⟨0, ps, by omega, rfl, LP.out, by rw [EV0.out]; simp [gsum, gxn_zero], CP.out, CX.out, CY.out, CR.out, hbel1⟩
        case round =>
          clear hbel1
          obtain ⟨k, qs, hk, rfl, hl, hev, hp, hx, hy, hr, hbel⟩ := hrel
          have LQ := Lib.hid hl
          have EV1 := Lib.hid hev
          have DP := Lib.hid hp
          have DX := Lib.hid hx
          have DY := Lib.hid hy
          have DR := Lib.hid hr
          clear hl hev hp hx hy hr
          by_cases hlk : k < 128
          · obtain ⟨by_, HBY⟩ : ∃ b, Hid (gbit (num y) k = b) := ⟨_, rfl⟩
            obtain ⟨bp, HBP⟩ : ∃ b, Hid (b = qs.getD (i + k) false) := ⟨_, rfl⟩
            have hcell : wr.cell? ⟨H + 1 + 1 + 1, i + k, none⟩ = some (VB bp) := by rw [DP.out.cell, HBP.out]; exact vb_get qs (i + k) (by rw [LQ.out]; omega)
            have hfr : wr.frozen? ⟨H + 1 + 1 + 1, i + k, none⟩ = false := DP.out.frozen (i + k)
            have hw1 : IntKind.i64.wrap ((i : Int) + (k : Int)) = (i : Int) + (k : Int) := IntWalk.i64_in _ (by omega)
            have hge : (0 : Int) ≤ (i : Int) + (k : Int) := by omega
            have hlt255 : (i : Int) + (k : Int) < 255 := by omega
            have htn : ((i : Int) + (k : Int)).toNat = i + k := by omega
            have hxo := xor_bit bp by_
            go_wp2_with fail
            refine region_gate 13 (fun w' => w'.cell? ⟨H + 1 + 1 + 1, i + k, none⟩ = some (VB bp) ∧ w'.frozen? ⟨H + 1 + 1 + 1, i + k, none⟩ = false ∧ Blk w' (H + 1) 22 cy.toArray) (by kernel_rfl) ?th1 (fun hHeld => ?tk1)
            case th1 => ((try dsimp only); exact ⟨hcell, hfr, DY.out.drew⟩)
            refine' takeV 0 (oi := _) (d := _) (v := _) ?ti2 ?td2 (by kernel_rfl) (by kernel_rfl) (by kernel_rfl) (by kernel_rfl) (by decide) (fun _ _ _ _ _ h => h) ?tg2 ?ty2 (by assumption) ?tr2
            case ti2 => (simp only [List.getElem?_toArray, List.getElem?_cons_succ, List.getElem?_cons_zero]; rfl)
            case td2 => exact rfl
            case tg2 => exact rfl
            case ty2 => (intro w hSw; (try dsimp only at hSw); go_split_ands; go_simp; try with_reducible rfl)
            simp only [List.setIfInBounds_toArray, List.set_cons_zero, List.set_cons_succ]
            refine' takeV 1 (oi := _) (d := _) (v := _) ?ti3 ?td3 (by kernel_rfl) (by kernel_rfl) (by kernel_rfl) (by kernel_rfl) (by decide) (fun _ _ _ _ _ h => h) ?tg3 ?ty3 (by assumption) ?tr3
            case ti3 => (simp only [List.getElem?_toArray, List.getElem?_cons_succ, List.getElem?_cons_zero]; rfl)
            case td3 => exact rfl
            case tg3 => exact rfl
            case ty3 => (intro w hSw; (try dsimp only at hSw); go_split_ands; go_simp; try with_reducible rfl)
            simp only [List.setIfInBounds_toArray, List.set_cons_zero, List.set_cons_succ]
            refine' takeV 2 (oi := _) (d := _) (v := _) ?ti4 ?td4 (by kernel_rfl) (by kernel_rfl) (by kernel_rfl) (by kernel_rfl) (by decide) (fun _ _ _ _ _ h => h) ?tg4 ?ty4 (by assumption) ?tr4
            case ti4 => (simp only [List.getElem?_toArray, List.getElem?_cons_succ, List.getElem?_cons_zero]; rfl)
            case td4 => exact rfl
            case tg4 => exact rfl
            case ty4 => (intro w hSw; (try dsimp only at hSw); go_split_ands; go_simp; try with_reducible rfl)
            simp only [List.setIfInBounds_toArray, List.set_cons_zero, List.set_cons_succ]
            refine' takeV 3 (oi := _) (d := _) (v := _) ?ti5 ?td5 (by kernel_rfl) (by kernel_rfl) (by kernel_rfl) (by kernel_rfl) (by decide) (fun _ _ _ _ _ h => h) ?tg5 ?ty5 (by assumption) ?tr5
            case ti5 => (simp only [List.getElem?_toArray, List.getElem?_cons_succ, List.getElem?_cons_zero]; rfl)
            case td5 => exact rfl
            case tg5 => exact rfl
            case ty5 => (intro w hSw; (try dsimp only at hSw); go_split_ands; go_simp; try with_reducible rfl)
            simp only [List.setIfInBounds_toArray, List.set_cons_zero, List.set_cons_succ]
            refine' takeV 4 (oi := _) (d := _) (v := _) ?ti6 ?td6 (by kernel_rfl) (by kernel_rfl) (by kernel_rfl) (by kernel_rfl) (by decide) (fun _ _ _ _ _ h => h) ?tg6 ?ty6 (by assumption) ?tr6
            case ti6 => (simp only [List.getElem?_toArray, List.getElem?_cons_succ, List.getElem?_cons_zero]; rfl)
            case td6 => exact rfl
            case tg6 => exact rfl
            case ty6 => (intro w hSw; (try dsimp only at hSw); go_split_ands; go_simp; try with_reducible rfl)
            simp only [List.setIfInBounds_toArray, List.set_cons_zero, List.set_cons_succ]
            refine' takeV 5 (oi := _) (d := _) (v := _) ?ti7 ?td7 (by kernel_rfl) (by kernel_rfl) (by kernel_rfl) (by kernel_rfl) (by decide) (fun _ _ _ _ _ h => h) ?tg7 ?ty7 (by assumption) ?tr7
            case ti7 => (simp only [List.getElem?_toArray, List.getElem?_cons_succ, List.getElem?_cons_zero]; rfl)
            case td7 => exact rfl
            case tg7 => exact rfl
            case ty7 => (intro w hSw; (try dsimp only at hSw); go_split_ands; go_simp; try with_reducible rfl)
            simp only [List.setIfInBounds_toArray, List.set_cons_zero, List.set_cons_succ]
            refine' takeV 6 (oi := _) (d := _) (v := _) ?ti8 ?td8 (by kernel_rfl) (by kernel_rfl) (by kernel_rfl) (by kernel_rfl) (by decide) (fun _ _ _ _ _ h => h) ?tg8 ?ty8 (by assumption) ?tr8
            case ti8 => (simp only [List.getElem?_toArray, List.getElem?_cons_succ, List.getElem?_cons_zero]; rfl)
            case td8 => exact rfl
            case tg8 => exact rfl
            case ty8 => (intro w hSw; (try dsimp only at hSw); go_split_ands; go_simp; try with_reducible rfl)
            simp only [List.setIfInBounds_toArray, List.set_cons_zero, List.set_cons_succ]
            refine' takeV 7 (oi := _) (d := _) (v := _) ?ti9 ?td9 (by kernel_rfl) (by kernel_rfl) (by kernel_rfl) (by kernel_rfl) (by decide) (fun _ _ _ _ _ h => h) ?tg9 ?ty9 (by assumption) ?tr9
            case ti9 => (simp only [List.getElem?_toArray, List.getElem?_cons_succ, List.getElem?_cons_zero]; rfl)
            case td9 => exact rfl
            case tg9 => exact rfl
            case ty9 => (intro w hSw; (try dsimp only at hSw); go_split_ands; go_simp; try with_reducible rfl)
            simp only [List.setIfInBounds_toArray, List.set_cons_zero, List.set_cons_succ]
            refine' takeV 8 (oi := _) (d := _) (v := _) ?ti10 ?td10 (by kernel_rfl) (by kernel_rfl) (by kernel_rfl) (by kernel_rfl) (by decide) (fun _ _ _ _ _ h => h) ?tg10 ?ty10 (by assumption) ?tr10
            case ti10 => (simp only [List.getElem?_toArray, List.getElem?_cons_succ, List.getElem?_cons_zero]; rfl)
            case td10 => exact rfl
            case tg10 => exact rfl
            case ty10 => (intro w hSw; (try dsimp only at hSw); rw [exec_load_blk 22 (.tmp 3) rfl rfl hSw.2.2 _ HU.out rfl (by rw [ly.out]; exact infoA16)])
            simp only [List.setIfInBounds_toArray, List.set_cons_zero, List.set_cons_succ]
            refine' takeV 9 (oi := _) (d := _) (v := _) ?ti11 ?td11 (by kernel_rfl) (by kernel_rfl) (by kernel_rfl) (by kernel_rfl) (by decide) (fun _ _ _ _ _ h => h) ?tg11 ?ty11 (by assumption) ?tr11
            case ti11 => (simp only [List.getElem?_toArray, List.getElem?_cons_succ, List.getElem?_cons_zero]; rfl)
            case td11 => exact rfl
            case tg11 => exact rfl
            case ty11 => (intro w hSw; (try dsimp only at hSw); go_split_ands; go_simp; try with_reducible rfl)
            simp only [List.setIfInBounds_toArray, List.set_cons_zero, List.set_cons_succ]
            refine stepG 10 (by kernel_rfl) (by simp only [List.getElem?_toArray, List.getElem?_cons_succ, List.getElem?_cons_zero]; rfl) (fun K hK => ?_)
            go_simp
            refine (refbit_any y cy Hcy HY.out k hlk by_ HBY.out _).mono ?_
            rintro e w2 ⟨rfl, hb2⟩
            refine hK.out _ _ ?ts12 (fun hHeld => ?_)
            case ts12 => ((try dsimp only); exact ⟨by rw [(DP.out.drew.below hb2 DP.out.drew.lt).cell, HBP.out]; exact vb_get qs (i + k) (by rw [LQ.out]; omega), (DP.out.drew.below hb2 DP.out.drew.lt).frozen _, DY.out.drew.below hb2 DY.out.drew.lt⟩)
            clear hK K
            refine' takeV 11 (oi := _) (d := _) (v := _) ?ti13 ?td13 (by kernel_rfl) (by kernel_rfl) (by kernel_rfl) (by kernel_rfl) (by decide) (fun _ _ _ _ _ h => h) ?tg13 ?ty13 (by assumption) ?tr13
            case ti13 => (simp only [List.getElem?_toArray, List.getElem?_cons_succ, List.getElem?_cons_zero]; rfl)
            case td13 => exact rfl
            case tg13 => exact rfl
            case ty13 => (intro w hSw; (try dsimp only at hSw); go_split_ands; go_simp; try with_reducible rfl)
            simp only [List.setIfInBounds_toArray, List.set_cons_zero, List.set_cons_succ]
            refine' takeV 12 (oi := _) (d := _) (v := _) ?ti14 ?td14 (by kernel_rfl) (by kernel_rfl) (by kernel_rfl) (by kernel_rfl) (by decide) (fun _ _ _ _ _ h => h) ?tg14 ?ty14 (by assumption) ?tr14
            case ti14 => (simp only [List.getElem?_toArray, List.getElem?_cons_succ, List.getElem?_cons_zero]; rfl)
            case td14 => exact rfl
            case tg14 => exact rfl
            case ty14 => (intro w hSw; (try dsimp only at hSw); go_split_ands; go_simp; try with_reducible rfl)
            simp only [List.setIfInBounds_toArray, List.set_cons_zero, List.set_cons_succ]
            obtain ⟨hc2, hf2, _⟩ := hHeld
            refine stepGate 13 (by kernel_rfl) (by kernel_rfl) (by simp only [List.getElem?_toArray, List.getElem?_cons_succ, List.getElem?_cons_zero]; rfl) (fun K hK => ?_)
            go_simp
            refine hK.out _ _ ?_
            clear hK K
            refine doneG (by kernel_rfl) ?_ _
            have EP := Lib.hid (DP.out.drew.below hb2 DP.out.drew.lt)
            have EX := Lib.hid (DX.out.drew.below hb2 DX.out.drew.lt)
            have EY := Lib.hid (DY.out.drew.below hb2 DY.out.drew.lt)
            have ER := Lib.hid (DR.out.drew.below hb2 DR.out.drew.lt)
            have hbel2 := hbel.drew.trans (hb2.mono (Nat.le_of_lt DX.out.drew.lt))
            clear hb2 hbel
            go_wp2
            go_roundw
            case rel =>
              refine ⟨k + 1, gflip qs (i + k) by_, by omega, by go_num, by rw [gflip_length]; exact LQ.out, ?_, ?_, EX.out.far (by first | (simp; done) | (simp; omega)) _, EY.out.far (by first | (simp; done) | (simp; omega)) _, ER.out.far (by simp) _, hbel2.setCell (by simp; omega) _⟩
              · rw [← HBY.out, HYY.out]
                exact row_step qs X Y i k _ hlt hlk LQ.out EV1.out
              · have := EP.out.set_ (i + k) (VB (bp ^^ by_))
                rw [vb_set] at this
                unfold gflip
                rw [← HBP.out]
                exact this
            case measure => first | (simp [intOf]; done) | (simp [intOf]; omega)
          · obtain rfl : k = 128 := by omega
            go_wp2
            go_roundw
            case rel => exact ⟨i + 1, qs, by omega, by go_num, LQ.out, by rw [EV1.out]; exact row_end X Y i (by rw [← HYY.out]; exact HYL.out) (by rw [← HXX.out]; exact HBT.out), DP.out, DX.out, DY.out, DR.out, hbel⟩
            case measure => first | (simp [intOf]; done) | (simp [intOf]; omega)
    · obtain rfl : i = 128 := by omega
      have EVG : Hid (gev ps 0 = gmul X Y) := EV0.out
      clear EV0
      go_wp2_with fail
      go_loopw [8] (fun s8 wr => ∃ (n : Nat) (ps : List Bool), n ≤ 127 ∧ s8 = .int .i64 ((n : Int) + 127) ∧ ps.length = 255 ∧ gev ps 0 = gmul X Y ∧ (∀ j, n + 127 < j → ps.getD j false = false) ∧ Blk wr (H + 1 + 1 + 1) 43 (ps.map VB).toArray ∧
          Blk wr (H + 1 + 1) 22 z.toArray ∧ Below H w wr) (fun s8 _ => (intOf s8 - 127).toNat)
      case atStart => exact ⟨127, ps, by omega, rfl, LP.out, EVG.out, fun j hj => by rw [List.getD_eq_getElem?_getD, List.getElem?_eq_none (by rw [LP.out]; omega)]; rfl, BP.out, BR.out, hbel⟩
      case round =>
        clear BP BX BY BR LP EVG hbel
        obtain ⟨n, ps, hn, rfl, hl, hev, hz, hp, hr, hbel⟩ := hrel
        have LP := Lib.hid hl
        have EV0 := Lib.hid hev
        have HZZ := Lib.hid hz
        have BP := Lib.hid hp
        have BR := Lib.hid hr
        clear hl hev hz hp hr
        rcases Nat.eq_zero_or_pos n with h0 | h0
        · subst h0
          go_wp2_with fail
          have HZN : Hid (∀ j, 128 ≤ j → ps.getD j false = false) := fun j hj => HZZ.out j (by omega)
          have KP4 : Hid (Blk (wr.alloc (.cells z.toArray 22)) (H + 1 + 1 + 1) 43 (ps.map VB).toArray) := BP.out.alloc _
          have KR4 : Hid (Blk (wr.alloc (.cells z.toArray 22)) (H + 1 + 1) 22 z.toArray) := BR.out.alloc _
          have KZ4 : Hid (Blk (wr.alloc (.cells z.toArray 22)) wr.heap.size 22 z.toArray) := Blk.new _ _ _
          have hltG : H + 1 + 1 + 1 < wr.heap.size := BP.out.lt
          have HB4 : Hid (Below H w (wr.alloc (.cells z.toArray 22))) := hbel.alloc (by omega) _
          have HP0 : Hid (gev ps 0 = gmul X Y) := EV0.out
          clear BP BR hbel HZZ EV0
          obtain ⟨G, hG⟩ : ∃ G, G = wr.heap.size := ⟨_, rfl⟩
          rw [← hG] at KZ4 hltG ⊢
          clear hG
          go_loopw [10] (fun s10 wr => ∃ i : Nat, i ≤ 128 ∧ s10 = .int .i64 i ∧ Blk wr G 22 ((zat ps i).map B8).toArray ∧ Blk wr (H + 1 + 1 + 1) 43 (ps.map VB).toArray ∧ Blk wr (H + 1 + 1) 22 z.toArray ∧ Below H w wr)
            (fun s10 _ => 128 - (intOf s10).toNat)
          case atStart => exact ⟨0, by omega, rfl, by rw [zat_zero, List.map_replicate]; have := KZ4.out; have e : z = List.replicate 16 (B8 0) := HZ.out; rw [e] at this ⊢; exact this, KP4.out, KR4.out, HB4.out⟩
          case round =>
            clear KP4 KR4 KZ4 HB4
            obtain ⟨i, hi, rfl, hz, hp, hr, hbel⟩ := hrel
            have CZ := Lib.hid hz
            have CP := Lib.hid hp
            have CR := Lib.hid hr
            clear hz hp hr
            by_cases hlt : i < 128
            · obtain ⟨zb, Hzb⟩ : ∃ b, Hid (b = (zat ps i).getD (i / 8) 0) := ⟨_, rfl⟩
              obtain ⟨pb, Hpb⟩ : ∃ b, Hid (b = ps.getD i false) := ⟨_, rfl⟩
              have cz : wr.cell? ⟨G, i / 8, none⟩ = some (.int .u8 (zb.toNat : Int)) := by
                rw [CZ.out.cell, Hzb.out]
                have : i / 8 < (zat ps i).length := by rw [zat_length]; omega
                simp [List.getD, List.getElem?_eq_getElem this]
              have cp : wr.cell? ⟨H + 1 + 1 + 1, i, none⟩ = some (.int .i64 (pb.toNat : Int)) := by rw [CP.out.cell, vb_get ps i (by rw [LP.out]; omega), Hpb.out]
              have fz := CZ.out.frozen (i / 8)
              have bz := zb.toNat_lt
              have bp := pb.toNat_le
              go_wp2_with fail
              go_region
              go_wp2
              go_roundw
              case rel =>
                refine ⟨i + 1, by omega, by go_num, ?_, (CP.out.far (by simp; omega) _).drew, (CR.out.far (by simp; omega) _).drew, (hbel.setCell (by simp; omega) _).drew⟩
                have hs := (CZ.out.set_ (i / 8) (B8 (UInt8.ofNat (2 * zb.toNat + pb.toNat)))).drew
                rw [List.setIfInBounds_toArray, ← List.map_set, Hzb.out, Hpb.out, ← zat_step ps i hlt] at hs
                rw [← Hzb.out, ← Hpb.out] at hs
                have ev : (2 * (zb.toNat : Int) % 256 + (pb.toNat : Int)) = ((UInt8.ofNat (2 * zb.toNat + pb.toNat)).toNat : Int) := by
                  rw [UInt8.toNat_ofNat']; omega
                rw [ev]
                exact hs
              case measure => first | (simp [intOf]; done) | (simp [intOf]; omega)
            · obtain rfl : i = 128 := by omega
              have hfin : (zat ps 128) = be (gmul X Y) 16 := by
                have h1 := num_zat ps LP.out HZN.out
                rw [HP0.out] at h1
                have h2 := be_num (zat ps 128)
                rw [zat_length, h1] at h2
                exact h2.symm
              rw [hfin] at CZ
              have LR : Hid (((be (gmul X Y) 16).map B8).length = 16) := by simp [be_length, Hid]
              clear hfin
              go_wp2_with (first
                | (with_reducible refine wpList_load_blk rfl 22 (.tmp 9) rfl rfl CZ.out _ HU.out rfl (by rw [LR.out]; exact infoA16) ?_)
                | (with_reducible refine wpList_store_blk rfl 22 (.tmp 4) (.tmp 95) rfl rfl rfl CR.out (by rw [LR.out, lz.out]) (by rw [LR.out]; exact infoA16) b8_one ?_; intro w8 hk8 hg8))
              refine bodyPost_ret (v := A16 (be (gmul X Y) 16)) (ret_blk (p := 4) rfl rfl hk8 _ HU.out rfl (by rw [List.size_toArray, LR.out]; exact infoA16)) rfl ⟨by rw [HXX.out, HYY.out], ?_⟩
              rw [HH.out]
              exact hbel.grown hg8 (by have := CR.out.lt; omega) (by intro k hk; simp at hk; omega)
        · obtain ⟨n, rfl⟩ : ∃ m, n = m + 1 := ⟨n - 1, by omega⟩
          have e127 : (((n + 1 : Nat) : Int) + 127) = (n : Int) + 128 := by omega
          rw [e127]
          clear e127 h0
          have t128 : ((n : Int) + 128).toNat = n + 128 := by omega
          have lt128 : (n : Int) + 128 < 255 := by omega
          have ge128 : (0 : Int) ≤ (n : Int) + 128 := by omega
          have hfr := fun j => BP.out.frozen j
          cases hb : ps.getD (n + 128) false with
          | false =>
            have hcell : wr.cell? ⟨H + 1 + 1 + 1, n + 128, none⟩ = some (.int .i64 0) := by rw [BP.out.cell, vb_get ps (n + 128) (by rw [LP.out]; omega), hb]; rfl
            have HBF := Lib.hid hb
            clear hb hfr
            go_wp2
            go_roundw
            case rel =>
              refine ⟨n, ps, by omega, by go_num, LP.out, EV0.out, ?_, BP.out, BR.out, hbel⟩
              intro j hj
              by_cases hj2 : j = n + 128
              · rw [hj2]; exact HBF.out
              · exact HZZ.out j (by omega)
            case measure => first | (simp [intOf]; done) | (simp [intOf]; omega)
          | true =>
            have hcell : wr.cell? ⟨H + 1 + 1 + 1, n + 128, none⟩ = some (.int .i64 1) := by rw [BP.out.cell, vb_get ps (n + 128) (by rw [LP.out]; omega), hb]; rfl
            obtain ⟨b0, Hb0⟩ : ∃ b, Hid (b = ps.getD n false) := ⟨_, rfl⟩
            obtain ⟨b1, Hb1⟩ : ∃ b, Hid (b = ps.getD (n + 1) false) := ⟨_, rfl⟩
            obtain ⟨b2, Hb2⟩ : ∃ b, Hid (b = ps.getD (n + 2) false) := ⟨_, rfl⟩
            obtain ⟨b7, Hb7⟩ : ∃ b, Hid (b = ps.getD (n + 7) false) := ⟨_, rfl⟩
            have c0 : wr.cell? ⟨H + 1 + 1 + 1, n, none⟩ = some (VB b0) := by rw [BP.out.cell, vb_get ps n (by rw [LP.out]; omega), Hb0.out]
            have c1 : wr.cell? ⟨H + 1 + 1 + 1, n + 1, none⟩ = some (VB b1) := by rw [BP.out.cell, vb_get ps (n + 1) (by rw [LP.out]; omega), Hb1.out]
            have c2 : wr.cell? ⟨H + 1 + 1 + 1, n + 2, none⟩ = some (VB b2) := by rw [BP.out.cell, vb_get ps (n + 2) (by rw [LP.out]; omega), Hb2.out]
            have c7 : wr.cell? ⟨H + 1 + 1 + 1, n + 7, none⟩ = some (VB b7) := by rw [BP.out.cell, vb_get ps (n + 7) (by rw [LP.out]; omega), Hb7.out]
            have f128 := hfr (n + 128)
            have f0 := hfr n
            have f1 := hfr (n + 1)
            have f2 := hfr (n + 2)
            have f7 := hfr (n + 7)
            have x0 : bits .xor .i64 (b0.toNat : Int) 1 = ((b0 ^^ true).toNat : Int) := xor_bit b0 true
            have x1 : bits .xor .i64 (b1.toNat : Int) 1 = ((b1 ^^ true).toNat : Int) := xor_bit b1 true
            have x2 : bits .xor .i64 (b2.toNat : Int) 1 = ((b2 ^^ true).toNat : Int) := xor_bit b2 true
            have x7 : bits .xor .i64 (b7.toNat : Int) 1 = ((b7 ^^ true).toNat : Int) := xor_bit b7 true
            have s0 : IntKind.i64.wrap ((n : Int) + 128 - 128) = (n : Int) := by rw [IntWalk.i64_in _ (by omega)]; omega
            have s1 : IntKind.i64.wrap ((n : Int) + 128 - 127) = (n : Int) + 1 := by rw [IntWalk.i64_in _ (by omega)]; omega
            have s2 : IntKind.i64.wrap ((n : Int) + 128 - 126) = (n : Int) + 2 := by rw [IntWalk.i64_in _ (by omega)]; omega
            have s7 : IntKind.i64.wrap ((n : Int) + 128 - 121) = (n : Int) + 7 := by rw [IntWalk.i64_in _ (by omega)]; omega
            have HBT := Lib.hid hb
            clear hb hfr
            go_wp2
            go_roundw
            case rel =>
              have hk := ((((BP.out.set_ (n + 128) (VB false)).set_ n (VB (!b0))).set_ (n + 1) (VB (!b1))).set_ (n + 2) (VB (!b2))).set_ (n + 7) (VB (!b7))
              rw [vb_set, vb_set, vb_set, vb_set, vb_set, Hb0.out, Hb1.out, Hb2.out, Hb7.out, ← gdown_set ps n HBT.out] at hk
              refine ⟨n, gdown ps (n + 128), by omega, by go_num, by rw [gdown_length]; exact LP.out, by rw [gdown_ev ps (n + 128) (by omega) (by omega) LP.out]; exact EV0.out, ?_, ?_, ((((BR.out.far (by simp) _).far (by simp) _).far (by simp) _).far (by simp) _).far (by simp) _, ((((hbel.setCell (by simp; omega) _).setCell (by simp; omega) _).setCell (by simp; omega) _).setCell (by simp; omega) _).setCell (by simp; omega) _⟩
              · intro j hj
                by_cases hj2 : j = n + 128
                · rw [hj2]; exact gdown_at ps (n + 128) (by omega) (by omega) LP.out
                · rw [gdown_above ps (n + 128) j (by omega) (by omega) LP.out (by omega)]; exact HZZ.out j (by omega)
              · rw [Hb0.out, Hb1.out, Hb2.out, Hb7.out]
                exact hk
            case measure => first | (simp [intOf]; done) | (simp [intOf]; omega)
end Go.Proofs.Ytikhnjoobhfgdaa
