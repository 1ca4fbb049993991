/- Contracts: the product of two elements. -/
import Derived.Test.YtikhnjoobhfgdaaGhB0
import Derived.Deep.DeepCutAuto
import Derived.BigRegion
set_option linter.unusedVariables false
namespace Go.Proofs.Ytikhnjoobhfgdaa
open Go.RowKit

set_option maxHeartbeats 6400000 in
set_option maxRecDepth 100000 in
theorem times_el (X Y : Nat) (hX : X < 2 ^ 128) (hY : Y < 2 ^ 128) (w : World) :
    Calls Try.prog 18 #[EV (hi X) (lo X), EV (hi Y) (lo Y)] w fun e w' => e = .returned (EV (hi (gmul X Y)) (lo (gmul X Y))) ∧ Below w.heap.size w w' := by
  obtain ⟨H, HH⟩ : ∃ H, Hid (w.heap.size = H) := ⟨_, rfl⟩
  obtain ⟨xh, HXh⟩ : ∃ v, Hid (hi X = v) := ⟨_, rfl⟩
  obtain ⟨xl, HXl⟩ : ∃ v, Hid (lo X = v) := ⟨_, rfl⟩
  rw [HXh.out, HXl.out]
  have HHX := Lib.hid hX
  have HHY := Lib.hid hY
  clear hX hY
  go_enter Try.func18, Try.ntmps18
  go_wp2_with fail
  obtain ⟨W, hW⟩ : ∃ W, W = ((((w.alloc (.cells #[.int .u64 xh, .int .u64 xl] 37)).alloc (.cells #[.int .u64 (hi Y), .int .u64 (lo Y)] 37)).alloc (.cells #[.int .u64 0, .int .u64 0] 37)).alloc (.cells #[.int .u64 0, .int .u64 0] 37)) := ⟨_, rfl⟩
  have KX : Hid (Blk W H 37 #[.int .u64 xh, .int .u64 xl]) := by rw [hW]; exact (((Blk.new' _ _ _ _ HH.out).alloc _).alloc _).alloc _
  have KY : Hid (Blk W (H + 1) 37 #[.int .u64 (hi Y), .int .u64 (lo Y)]) := by rw [hW]; exact ((Blk.new' _ _ _ _ (by simp [HH.out])).alloc _).alloc _
  have KR : Hid (Blk W (H + 1 + 1) 37 #[.int .u64 0, .int .u64 0]) := by rw [hW]; exact (Blk.new' _ _ _ _ (by simp [HH.out])).alloc _
  have KZ : Hid (Blk W (H + 1 + 1 + 1) 37 #[.int .u64 0, .int .u64 0]) := by rw [hW]; exact Blk.new' _ _ _ _ (by simp [HH.out])
  have HB : Hid (Below H w W) := by
    rw [hW, ← HH.out]
    exact (((below_new _ _).alloc (by simp) _).alloc (by simp; omega) _).alloc (by simp; omega) _
  rw [← hW, HH.out]
  clear hW
  go_loopw [10] (fun i wr => ∃ k : Nat, k ≤ 128 ∧ i = .int .i64 k ∧ Blk wr (H + 1 + 1 + 1) 37 #[.int .u64 (hi (gsum X Y k)), .int .u64 (lo (gsum X Y k))] ∧
      Blk wr (H + 1) 37 #[.int .u64 (hi (gxn k Y)), .int .u64 (lo (gxn k Y))] ∧ Blk wr H 37 #[.int .u64 xh, .int .u64 xl] ∧ Blk wr (H + 1 + 1) 37 #[.int .u64 0, .int .u64 0] ∧ Below H w wr)
    (fun i _ => 128 - (intOf i).toNat)
  case atStart => exact ⟨0, by omega, rfl, by rw [show hi (gsum X Y 0) = 0 by simp [gsum, hi], show lo (gsum X Y 0) = 0 by simp [gsum, lo]]; exact KZ.out, KY.out, KX.out, KR.out, HB.out⟩
  case round =>
    obtain ⟨k, hk, rfl, hz, hy, hx, hr, hbel⟩ := hrel
    have HZ := Lib.hid hz
    have HY := Lib.hid hy
    have HX := Lib.hid hx
    have HR := Lib.hid hr
    clear hz hy hx hr
    obtain ⟨zh, Hzh⟩ : ∃ v, Hid (hi (gsum X Y k) = v) := ⟨_, rfl⟩
    obtain ⟨zl, Hzl⟩ : ∃ v, Hid (lo (gsum X Y k) = v) := ⟨_, rfl⟩
    obtain ⟨yh, Hyh⟩ : ∃ v, Hid (hi (gxn k Y) = v) := ⟨_, rfl⟩
    obtain ⟨yl, Hyl⟩ : ∃ v, Hid (lo (gxn k Y) = v) := ⟨_, rfl⟩
    rw [Hzh.out, Hzl.out] at HZ
    rw [Hyh.out, Hyl.out] at HY
    have bzh : zh < 18446744073709551616 := by rw [← Hzh.out]; exact hi_lt (gsum_lt k HHY.out)
    have bzl : zl < 18446744073709551616 := by rw [← Hzl.out]; exact lo_lt _
    have byh : yh < 18446744073709551616 := by rw [← Hyh.out]; exact hi_lt (gxn_lt k HHY.out)
    have byl : yl < 18446744073709551616 := by rw [← Hyl.out]; exact lo_lt _
    have bxh : xh < 18446744073709551616 := by rw [← HXh.out]; exact hi_lt HHX.out
    have bxl : xl < 18446744073709551616 := by rw [← HXl.out]; exact lo_lt _
    by_cases hlt : k < 128
    · have x0 := HX.out.cell 0
      have x1 := HX.out.cell 1
      have y0 := HY.out.cell 0
      have y1 := HY.out.cell 1
      have z0 := HZ.out.cell 0
      have z1 := HZ.out.cell 1
      have fy0 := HY.out.frozen 0
      have fy1 := HY.out.frozen 1
      have fz0 := HZ.out.frozen 0
      have fz1 := HZ.out.frozen 1
      have HZ' : Hid (gsum X Y (k + 1) = gsum X Y k ^^^ (if gbit X k then gxn k Y else 0)) := rfl
      have HY' : Hid (gxn (k + 1) Y = gx (gxn k Y)) := rfl
      obtain ⟨yl2, Hyl2⟩ : ∃ v, Hid (yl / 2 + yh % 2 * 9223372036854775808 = v) := ⟨_, rfl⟩
      obtain ⟨yh3, Hyh3⟩ : ∃ v, Hid (yh / 2 ^^^ 16212958658533785600 = v) := ⟨_, rfl⟩
      obtain ⟨zh2, Hzh2⟩ : ∃ v, Hid (zh ^^^ yh = v) := ⟨_, rfl⟩
      obtain ⟨zl2, Hzl2⟩ : ∃ v, Hid (zl ^^^ yl = v) := ⟨_, rfl⟩
      -- what the round leaves: the element times x
      have fin0 : ∀ wz : World, Below H w wz → Blk wz (H + 1 + 1 + 1) 37 #[.int .u64 (hi (gsum X Y (k + 1))), .int .u64 (lo (gsum X Y (k + 1)))] → Blk wz (H + 1) 37 #[.int .u64 yh, .int .u64 yl] → Blk wz H 37 #[.int .u64 xh, .int .u64 xl] → Blk wz (H + 1 + 1) 37 #[.int .u64 0, .int .u64 0] → yl % 2 ≠ 1 →
          ∃ k1 : Nat, k1 ≤ 128 ∧ Value.int .i64 ((k : Int) + 1) = .int .i64 k1 ∧ Blk ((wz.setCell ⟨H + 1, 0, none⟩ (.int .u64 ((yh : Int) / 2))).setCell ⟨H + 1, 1, none⟩ (.int .u64 (yl2 : Int))) (H + 1 + 1 + 1) 37 #[.int .u64 (hi (gsum X Y k1)), .int .u64 (lo (gsum X Y k1))] ∧
            Blk ((wz.setCell ⟨H + 1, 0, none⟩ (.int .u64 ((yh : Int) / 2))).setCell ⟨H + 1, 1, none⟩ (.int .u64 (yl2 : Int))) (H + 1) 37 #[.int .u64 (hi (gxn k1 Y)), .int .u64 (lo (gxn k1 Y))] ∧
            Blk ((wz.setCell ⟨H + 1, 0, none⟩ (.int .u64 ((yh : Int) / 2))).setCell ⟨H + 1, 1, none⟩ (.int .u64 (yl2 : Int))) H 37 #[.int .u64 xh, .int .u64 xl] ∧
            Blk ((wz.setCell ⟨H + 1, 0, none⟩ (.int .u64 ((yh : Int) / 2))).setCell ⟨H + 1, 1, none⟩ (.int .u64 (yl2 : Int))) (H + 1 + 1) 37 #[.int .u64 0, .int .u64 0] ∧
            Below H w ((wz.setCell ⟨H + 1, 0, none⟩ (.int .u64 ((yh : Int) / 2))).setCell ⟨H + 1, 1, none⟩ (.int .u64 (yl2 : Int))) := by
        intro wz hb hz hy hx hr ho
        refine ⟨k + 1, by omega, by go_num, (hz.far (by first | (simp; done) | (simp; omega)) _).far (by first | (simp; done) | (simp; omega)) _, ?_, (hx.far (by first | (simp; done) | (simp; omega)) _).far (by first | (simp; done) | (simp; omega)) _, (hr.far (by first | (simp; done) | (simp; omega)) _).far (by first | (simp; done) | (simp; omega)) _, (hb.setCell (by simp) _).setCell (by simp) _⟩
        have hp := hy.pair (.int .u64 ((yh : Int) / 2)) (.int .u64 (yl2 : Int))
        rw [HY'.out, gx_hi, gx_lo, Hyh.out, Hyl.out, if_neg ho, Nat.xor_zero, Hyl2.out]
        rw [show ((yh / 2 : Nat) : Int) = (yh : Int) / 2 by omega]
        exact hp
      have fin1 : ∀ wz : World, Below H w wz → Blk wz (H + 1 + 1 + 1) 37 #[.int .u64 (hi (gsum X Y (k + 1))), .int .u64 (lo (gsum X Y (k + 1)))] → Blk wz (H + 1) 37 #[.int .u64 yh, .int .u64 yl] → Blk wz H 37 #[.int .u64 xh, .int .u64 xl] → Blk wz (H + 1 + 1) 37 #[.int .u64 0, .int .u64 0] → yl % 2 = 1 →
          ∃ k1 : Nat, k1 ≤ 128 ∧ Value.int .i64 ((k : Int) + 1) = .int .i64 k1 ∧ Blk (((wz.setCell ⟨H + 1, 0, none⟩ (.int .u64 ((yh : Int) / 2))).setCell ⟨H + 1, 1, none⟩ (.int .u64 (yl2 : Int))).setCell ⟨H + 1, 0, none⟩ (.int .u64 (yh3 : Int))) (H + 1 + 1 + 1) 37 #[.int .u64 (hi (gsum X Y k1)), .int .u64 (lo (gsum X Y k1))] ∧
            Blk (((wz.setCell ⟨H + 1, 0, none⟩ (.int .u64 ((yh : Int) / 2))).setCell ⟨H + 1, 1, none⟩ (.int .u64 (yl2 : Int))).setCell ⟨H + 1, 0, none⟩ (.int .u64 (yh3 : Int))) (H + 1) 37 #[.int .u64 (hi (gxn k1 Y)), .int .u64 (lo (gxn k1 Y))] ∧
            Blk (((wz.setCell ⟨H + 1, 0, none⟩ (.int .u64 ((yh : Int) / 2))).setCell ⟨H + 1, 1, none⟩ (.int .u64 (yl2 : Int))).setCell ⟨H + 1, 0, none⟩ (.int .u64 (yh3 : Int))) H 37 #[.int .u64 xh, .int .u64 xl] ∧
            Blk (((wz.setCell ⟨H + 1, 0, none⟩ (.int .u64 ((yh : Int) / 2))).setCell ⟨H + 1, 1, none⟩ (.int .u64 (yl2 : Int))).setCell ⟨H + 1, 0, none⟩ (.int .u64 (yh3 : Int))) (H + 1 + 1) 37 #[.int .u64 0, .int .u64 0] ∧
            Below H w (((wz.setCell ⟨H + 1, 0, none⟩ (.int .u64 ((yh : Int) / 2))).setCell ⟨H + 1, 1, none⟩ (.int .u64 (yl2 : Int))).setCell ⟨H + 1, 0, none⟩ (.int .u64 (yh3 : Int))) := by
        intro wz hb hz hy hx hr ho
        refine ⟨k + 1, by omega, by go_num, ((hz.far (by first | (simp; done) | (simp; omega)) _).far (by first | (simp; done) | (simp; omega)) _).far (by first | (simp; done) | (simp; omega)) _, ?_, ((hx.far (by first | (simp; done) | (simp; omega)) _).far (by first | (simp; done) | (simp; omega)) _).far (by first | (simp; done) | (simp; omega)) _, ((hr.far (by first | (simp; done) | (simp; omega)) _).far (by first | (simp; done) | (simp; omega)) _).far (by first | (simp; done) | (simp; omega)) _, ((hb.setCell (by simp) _).setCell (by simp) _).setCell (by simp) _⟩
        have hp := (hy.pair (.int .u64 ((yh : Int) / 2)) (.int .u64 (yl2 : Int))).set_ 0 (.int .u64 (yh3 : Int))
        rw [HY'.out, gx_hi, gx_lo, Hyh.out, Hyl.out, if_pos ho, Hyl2.out, Hyh3.out]
        simpa using hp
      have hol := or_low yh yl byl
      have hxt := xor_top yh byh
      have hx1 := u64_xor_nat zh yh bzh byh
      have hx2 := u64_xor_nat zl yl bzl byl
      rw [Hyl2.out] at hol
      rw [Hyh3.out] at hxt
      rw [Hzh2.out] at hx1
      rw [Hzl2.out] at hx2
      have hodd := bit_test yl byl
      obtain ⟨xw, Hxw⟩ : ∃ xw, Hid ((if 63 < k then lo X else hi X) = xw) := ⟨_, rfl⟩
      have bxw : xw < 18446744073709551616 := by
        rw [← Hxw.out]; split
        · exact lo_lt X
        · exact hi_lt HHX.out
      have hbit := word_test X k hlt xw Hxw.out bxw
      have F0 := Lib.hid fin0
      have F1 := Lib.hid fin1
      have zsame : Hid (gbit X k = false → hi (gsum X Y (k + 1)) = zh ∧ lo (gsum X Y (k + 1)) = zl) := fun hb => by
        rw [HZ'.out, hb]; simp [Hzh.out, Hzl.out]
      have znew : Hid (gbit X k = true → hi (gsum X Y (k + 1)) = zh2 ∧ lo (gsum X Y (k + 1)) = zl2) := fun hb => by
        rw [HZ'.out, hb, if_pos rfl, hi_xor, lo_xor, Hzh.out, Hzl.out, Hyh.out, Hyl.out]; exact ⟨Hzh2.out, Hzl2.out⟩
      clear fin0 fin1
      have hword : Hid (63 < k → xl = xw) := fun h => by rw [← Hxw.out, if_pos h]; exact HXl.out.symm
      have hword2 : Hid (¬ 63 < k → xh = xw) := fun h => by rw [← Hxw.out, if_neg h]; exact HXh.out.symm
      obtain ⟨b63, hd⟩ : ∃ b, decide ((k : Int) > 63) = b := ⟨_, rfl⟩
      have hwt : Hid (b63 = true → xl = xw) := fun e => hword.out (by have := of_decide_eq_true (hd.trans e); omega)
      have hwf : Hid (b63 = false → xh = xw) := fun e => hword2.out (by have := of_decide_eq_false (hd.trans e); omega)
      go_upto_if 16 with fail
      go_cut [7] (fun s7 wx => s7 = .int .u64 xw ∧ wx = wr)
      case first =>
        cases b63 with
        | true =>
          obtain rfl := hwt.out rfl
          go_wp2_with fail
          go_meet
          exact ⟨rfl, rfl⟩
        | false =>
          obtain rfl := hwf.out rfl
          go_wp2_with fail
          go_meet
          exact ⟨rfl, rfl⟩
      case rest =>
        obtain ⟨rfl, hwc⟩ := hcut
        subst hwc
        clear hd hwt hwf
        cases hgb : gbit X k with
        | false =>
          rw [hgb] at hbit
          obtain ⟨zs1, zs2⟩ := zsame.out hgb
          have ZZ : Hid (Blk wc (H + 1 + 1 + 1) 37 #[.int .u64 (hi (gsum X Y (k + 1))), .int .u64 (lo (gsum X Y (k + 1)))]) := by rw [zs1, zs2]; exact HZ.out
          clear zs1 zs2 hgb
          by_cases ho : yl % 2 = 1
          · have HO := Lib.hid ho
            rw [decide_eq_true ho] at hodd
            clear ho
            go_wp2
            go_roundw
            case rel => exact F1.out _ hbel ZZ.out HY.out HX.out HR.out HO.out
            case measure => first | (simp [intOf]; done) | (simp [intOf]; omega)
          · have HO := Lib.hid ho
            rw [decide_eq_false ho] at hodd
            clear ho
            go_wp2
            go_roundw
            case rel => exact F0.out _ hbel ZZ.out HY.out HX.out HR.out HO.out
            case measure => first | (simp [intOf]; done) | (simp [intOf]; omega)
        | true =>
          rw [hgb] at hbit
          obtain ⟨zs1, zs2⟩ := znew.out hgb
          have ZE := Lib.hid (And.intro zs1 zs2)
          clear zs1 zs2 hgb
          go_wp2_with fail
          go_region
          obtain ⟨W9, hW9⟩ : ∃ W9, W9 = ((wc.setCell ⟨H + 1 + 1 + 1, 0, none⟩ (.int .u64 zh2)).setCell ⟨H + 1 + 1 + 1, 1, none⟩ (.int .u64 zl2)).drew := ⟨_, rfl⟩
          have KZ9 : Hid (Blk W9 (H + 1 + 1 + 1) 37 #[.int .u64 (hi (gsum X Y (k + 1))), .int .u64 (lo (gsum X Y (k + 1)))]) := by rw [hW9, ZE.out.1, ZE.out.2]; exact (HZ.out.pair _ _).drew
          have KY9 : Hid (Blk W9 (H + 1) 37 #[.int .u64 yh, .int .u64 yl]) := by rw [hW9]; exact ((HY.out.far (by first | (simp; done) | (simp; omega)) _).far (by first | (simp; done) | (simp; omega)) _).drew
          have KX9 : Hid (Blk W9 H 37 #[.int .u64 xh, .int .u64 xl]) := by rw [hW9]; exact ((HX.out.far (by first | (simp; done) | (simp; omega)) _).far (by first | (simp; done) | (simp; omega)) _).drew
          have KR9 : Hid (Blk W9 (H + 1 + 1) 37 #[.int .u64 0, .int .u64 0]) := by rw [hW9]; exact ((HR.out.far (by first | (simp; done) | (simp; omega)) _).far (by first | (simp; done) | (simp; omega)) _).drew
          have HB9 : Hid (Below H w W9) := by rw [hW9]; exact ((hbel.setCell (by first | (simp; done) | (simp; omega)) _).setCell (by first | (simp; done) | (simp; omega)) _).drew
          rw [← hW9]
          clear hW9 x0 x1 y0 y1 z0 z1 fy0 fy1 fz0 fz1 hx1 hx2 hbit
          have y0 := KY9.out.cell 0
          have y1 := KY9.out.cell 1
          have fy0 := KY9.out.frozen 0
          have fy1 := KY9.out.frozen 1
          by_cases ho : yl % 2 = 1
          · have HO := Lib.hid ho
            rw [decide_eq_true ho] at hodd
            clear ho
            go_wp2
            go_roundw
            case rel => exact F1.out W9 HB9.out KZ9.out KY9.out KX9.out KR9.out HO.out
            case measure => first | (simp [intOf]; done) | (simp [intOf]; omega)
          · have HO := Lib.hid ho
            rw [decide_eq_false ho] at hodd
            clear ho
            go_wp2
            go_roundw
            case rel => exact F0.out W9 HB9.out KZ9.out KY9.out KX9.out KR9.out HO.out
            case measure => first | (simp [intOf]; done) | (simp [intOf]; omega)
    · obtain rfl : k = 128 := by omega
      have z0 := HZ.out.cell 0
      have z1 := HZ.out.cell 1
      have r0 := HR.out.cell 0
      have r1 := HR.out.cell 1
      have fr0 := HR.out.frozen 0
      have fr1 := HR.out.frozen 1
      go_wp2
      have hk := HR.out.pair (.int .u64 zh) (.int .u64 zl)
      have k0 := hk.cell 0
      have k1 := hk.cell 1
      have ez : hi (gmul X Y) = zh := Hzh.out
      have ez2 : lo (gmul X Y) = zl := Hzl.out
      refine bodyPost_ret (v := EV zh zl) ?_ rfl ⟨by rw [ez, ez2], ?_⟩
      · simp [results, Try.results18, go_sem, k0, k1]
      · rw [HH.out]; exact (hbel.setCell (by first | (simp; done) | (simp; omega)) _).setCell (by first | (simp; done) | (simp; omega)) _
end Go.Proofs.Ytikhnjoobhfgdaa
