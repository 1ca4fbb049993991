/- Contracts of galois' small functions: twice an element, the product, powers. -/
import Derived.Test.YtfmgpnaahkpmiaaRows
import Derived.Test.YtfmgpnaahkpmiaaWords
import Derived.Test.YtfmgpnaahkpmiaaGalPlain
import Derived.Deep.QuietTactic
import Derived.BigQuiet
set_option linter.unusedVariables false
namespace Go.Proofs.Ytfmgpnaahkpmiaa
open Go.RowKit Gal

theorem ret_int {k : IntKind} {a b : Int} (h : a = b) : Ending.returned (.int k a) = .returned (.int k b) := by rw [h]
theorem bit_high (a : Nat) (ha : a < 256) : a.testBit 7 = decide (128 ≤ a) := by
  rw [testBit_div, decide_eq_decide]; omega
theorem and_high (a : Nat) (ha : a < 256) : bits .and .u8 (a : Int) 128 = if 128 ≤ a then 128 else 0 := by
  have h := u8_and_nat a 128 ha (by omega)
  have e : a &&& 128 = a / 2 ^ 7 % 2 * 2 ^ 7 := nat_bit 7 a
  rw [e] at h
  have h' : bits .and .u8 (a : Int) 128 = ((a / 2 ^ 7 % 2 * 2 ^ 7 : Nat) : Int) := h
  rw [h']
  split <;> omega
theorem and_low (a : Nat) (ha : a < 256) : bits .and .u8 (a : Int) 1 = ((a % 2 : Nat) : Int) := by
  have h := u8_and_nat a 1 ha (by omega)
  rw [nat_mask1] at h
  exact h

set_option maxHeartbeats 400000 in
theorem double_any (a : Nat) (ha : a < 256) (w : World) : Calls Try.prog 28 #[.int .u8 a] w fun e w' => e = .returned (.int .u8 (dbl a)) ∧ w = w' := by
  have HD : Hid (dbl a = if 128 ≤ a then 27 ^^^ (a * 2 % 256) else a * 2) := by
    show dbl a = _
    unfold dbl
    rw [bit_high a ha]
    by_cases h : 128 ≤ a
    · simp [h, cnd]
    · simp [h, cnd]; omega
  have hand := and_high a ha
  by_cases h : 128 ≤ a
  · rw [if_pos h] at hand
    have hxo := u8_xor_nat (a * 2 % 256) 27 (by omega) (by omega)
    have HX := Lib.hid hxo
    clear hxo
    go_enter Try.func28, Try.ntmps28
    go_wp2
    go_ret
    refine ⟨ret_int ?_, rfl⟩
    rw [HD.out, if_pos h, Nat.xor_comm, ← HX.out]
    rfl
  · rw [if_neg h] at hand
    go_enter Try.func28, Try.ntmps28
    go_wp2
    go_ret
    refine ⟨ret_int ?_, rfl⟩
    rw [HD.out, if_neg h]
    rfl


theorem bit_low (b : Nat) : b.testBit 0 = decide (b % 2 = 1) := by rw [testBit_div]; simp
theorem g_step (k a b : Nat) : g (k + 1) a b = (if b % 2 = 1 then a else 0) ^^^ g k (dbl a) (b / 2) := by
  simp only [g, bit_low]
  by_cases h : b % 2 = 1
  · simp [h, cnd]
  · simp [h, cnd]

set_option maxHeartbeats 800000 in
theorem mul_any (a0 b0 : Nat) (ha : a0 < 256) (hb : b0 < 256) (w : World) : Calls Try.prog 13 #[.int .u8 a0, .int .u8 b0] w fun e w' => e = .returned (.int .u8 (gm a0 b0)) ∧ w = w' := by
  go_enter Try.func13, Try.ntmps13
  go_wp2
  go_loop [0, 1, 5] (fun x y z => ∃ (k a b c : Nat), a < 256 ∧ b < 256 ∧ c < 256 ∧ b < 2 ^ k ∧ x = .int .u8 a ∧ y = .int .u8 b ∧ z = .int .u8 c ∧ c ^^^ g k a b = gm a0 b0) (fun _ y _ => (intOf y).toNat)
  case atStart => exact ⟨8, a0, b0, 0, ha, hb, by omega, hb, rfl, rfl, rfl, by simp [gm]⟩
  case round =>
    clear ha hb
    obtain ⟨k, a, b, c, ha, hb, hc, hk, rfl, rfl, rfl, hg⟩ := hrel
    have HG := Lib.hid hg
    have HK := Lib.hid hk
    clear hg hk
    by_cases hb0 : b = 0
    · subst hb0
      have HC : Hid (c = gm a0 b0) := by have := HG.out; rw [g_zero, Nat.xor_zero] at this; exact this
      go_wp2
      go_ret
      exact ⟨ret_int (by rw [← HC.out]), rfl⟩
    · have hne : ((b : Int) != 0) = true := by rw [bne_iff_ne]; omega
      obtain ⟨j, rfl⟩ : ∃ j, k = j + 1 := ⟨k - 1, by
        have := HK.out
        rcases k with _ | k
        · simp at this; omega
        · omega⟩
      have hj : b / 2 < 2 ^ j := by have := HK.out; rw [Nat.pow_succ] at this; omega
      have HJ := Lib.hid hj
      clear hj
      have hand := and_low b hb
      by_cases ho : b % 2 = 1
      · rw [ho] at hand
        have hxo := u8_xor_nat c a hc ha
        have HX := Lib.hid hxo
        clear hxo
        have hst := HG.out
        rw [g_step, if_pos ho, ← Nat.xor_assoc] at hst
        have HS := Lib.hid hst
        clear hst
        go_wp2_with (go_at_call 28; refine (double_any a ha w).mono ?_; rintro e w' ⟨rfl, rfl⟩)
        go_round
        case rel => exact ⟨j, dbl a, b / 2, c ^^^ a, dbl_lt a, by omega, xor_lt c a hc ha, HJ.out, rfl, by go_num, by rw [HX.out], HS.out⟩
        case measure => simp [intOf]; omega
      · have ho' : b % 2 = 0 := by omega
        rw [ho'] at hand
        have hst := HG.out
        rw [g_step, if_neg ho, Nat.zero_xor] at hst
        have HS := Lib.hid hst
        clear hst
        go_wp2_with (go_at_call 28; refine (double_any a ha w).mono ?_; rintro e w' ⟨rfl, rfl⟩)
        go_round
        case rel => exact ⟨j, dbl a, b / 2, c, dbl_lt a, by omega, hc, HJ.out, rfl, by go_num, rfl, HS.out⟩
        case measure => simp [intOf]; omega

set_option maxHeartbeats 800000 in
theorem power_any (a0 n0 : Nat) (ha : a0 < 256) (hn : n0 < 4294967296) (w : World) : Calls Try.prog 18 #[.int .u8 a0, .int .u32 n0] w fun e w' => e = .returned (.int .u8 (pw a0 n0)) ∧ w = w' := by
  go_enter Try.func18, Try.ntmps18
  go_wp2
  go_loop [0, 1, 5] (fun x y z => ∃ (a n c : Nat), a < 256 ∧ n < 4294967296 ∧ c < 256 ∧ x = .int .u8 a ∧ y = .int .u32 n ∧ z = .int .u8 c ∧ gm c (pw a n) = pw a0 n0) (fun _ y _ => (intOf y).toNat)
  case atStart => exact ⟨a0, n0, 1, ha, hn, by omega, rfl, rfl, rfl, one_gm _ (pw_lt a0 ha n0)⟩
  case round =>
    clear ha hn
    obtain ⟨a, n, c, ha, hn, hc, rfl, rfl, rfl, hg⟩ := hrel
    have HG := Lib.hid hg
    clear hg
    by_cases hn0 : n = 0
    · subst hn0
      have HC : Hid (c = pw a0 n0) := by have := HG.out; rw [show pw a 0 = 1 from rfl, gm_one c hc] at this; exact this
      go_wp2
      go_ret
      exact ⟨ret_int (by rw [← HC.out]), rfl⟩
    · have hpos : (0 : Int) < n := by omega
      have haa := gm_lt a a ha
      have hand : bits .and .u32 (n : Int) 1 = ((n % 2 : Nat) : Int) := by
        have h := u32_and_nat n 1 hn (by omega)
        rw [nat_mask1] at h
        exact h
      by_cases ho : n % 2 = 1
      · rw [ho] at hand
        have hca := gm_lt c a hc
        have hst : gm (gm c a) (pw (gm a a) (n / 2)) = pw a0 n0 := by
          rw [← HG.out, gm_assoc c a _ hc ha (pw_lt _ haa _), ← pw_sq1 a ha]
          congr 2; omega
        have HS := Lib.hid hst
        clear hst
        have m1 := mul_any c a hc ha w
        have m2 := mul_any a a ha ha w
        have M1 := Lib.hid m1
        have M2 := Lib.hid m2
        clear m1 m2
        go_wp2_with fail
        refine M1.out.mono ?_
        rintro e w' ⟨rfl, rfl⟩
        go_wp2_with fail
        refine M2.out.mono ?_
        rintro e w' ⟨rfl, rfl⟩
        go_wp2
        go_round
        case rel => exact ⟨gm a a, n / 2, gm c a, haa, by omega, hca, rfl, by go_num, rfl, HS.out⟩
        case measure => simp [intOf]; omega
      · have ho' : n % 2 = 0 := by omega
        rw [ho'] at hand
        have hst : gm c (pw (gm a a) (n / 2)) = pw a0 n0 := by
          rw [← HG.out, ← pw_sq a ha]
          congr 2; omega
        have HS := Lib.hid hst
        clear hst
        have m2 := mul_any a a ha ha w
        have M2 := Lib.hid m2
        clear m2
        go_wp2_with fail
        refine M2.out.mono ?_
        rintro e w' ⟨rfl, rfl⟩
        go_wp2
        go_round
        case rel => exact ⟨gm a a, n / 2, c, haa, by omega, hc, rfl, by go_num, rfl, HS.out⟩
        case measure => simp [intOf]; omega
theorem inv_any (a : Nat) (ha : a < 256) (w : World) : Calls Try.prog 16 #[.int .u8 a] w fun e w' => e = .returned (.int .u8 (inv a)) ∧ w = w' := by
  have k : Calls Try.prog 18 #[.int .u8 a, .int .u32 254] w fun e w' => e = .returned (.int .u8 (inv a)) ∧ w = w' := power_any a 254 ha (by omega) w
  have K := Lib.hid k
  clear k
  go_enter Try.func16, Try.ntmps16
  go_wp2_with (go_at_call 18; refine K.out.mono ?_; rintro e w' ⟨rfl, rfl⟩)
  go_ret
  exact ⟨rfl, rfl⟩
theorem round_any (a n : Nat) (ha : a < 256) (hn : n ≤ 8) (w : World) : Calls Try.prog 30 #[.int .u8 a, .int .i64 n] w fun e w' => e = .returned (.int .u8 (rot a n)) ∧ ∃ m, w' = w.drewN m := by
  have hor := u8_or_nat (a * 2 ^ n % 256) (a / 2 ^ (8 - n)) (by omega) (Nat.lt_of_le_of_lt (Nat.div_le_self _ _) ha)
  have HO := Lib.hid hor
  clear hor
  have hw : IntKind.i64.wrap (8 - (n : Int)) = 8 - (n : Int) := IntWalk.i64_in _ (by omega)
  go_enter Try.func30, Try.ntmps30
  go_wp2
  go_quiet (fail)
  go_wp2
  go_ret
  refine ⟨ret_int ?_, _, rfl⟩
  have e1 : ((a * 2 ^ n % 256 : Nat) : Int) = (a : Int) * 2 ^ n % 256 := by rw [Int.natCast_emod, Int.natCast_mul, Int.natCast_pow]; rfl
  have e2 : ((a / 2 ^ (8 - n) : Nat) : Int) = (a : Int) / 2 ^ (8 - n) := by rw [Int.natCast_ediv, Int.natCast_pow]; rfl
  have h := HO.out
  rw [e1, e2] at h
  exact h
end Go.Proofs.Ytfmgpnaahkpmiaa
