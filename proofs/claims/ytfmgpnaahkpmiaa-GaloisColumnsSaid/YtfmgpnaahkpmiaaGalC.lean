/- Contracts: the reference's bit, product, inverse, power. -/
import Derived.Test.YtfmgpnaahkpmiaaGalB
set_option linter.unusedVariables false
namespace Go.Proofs.Ytfmgpnaahkpmiaa
open Go.RowKit Gal

theorem i64_cast (n : Nat) (h : n < 9223372036854775808) : IntKind.i64.wrap (n : Int) = n := IntWalk.i64_in _ (by omega)
theorem tmod_bit (a k : Nat) : ((a : Int) / 2 ^ k).tmod 2 = ((a / 2 ^ k % 2 : Nat) : Int) := by
  have e : ((a : Int) / 2 ^ k) = ((a / 2 ^ k : Nat) : Int) := by simp
  rw [e, Int.tmod_eq_emod_of_nonneg (Int.natCast_nonneg _)]
  rfl
theorem ofInt_i64 (a : Nat) (ha : a < 9223372036854775808) : (BitVec.ofInt 64 (a : Int)).toNat = a := by
  rw [BitVec.ofInt_natCast, BitVec.toNat_ofNat]; exact Nat.mod_eq_of_lt (by omega)
theorem i64_xor_nat (a b : Nat) (ha : a < 9223372036854775808) (hb : b < 9223372036854775808) : bits .xor .i64 (a : Int) (b : Int) = ((a ^^^ b : Nat) : Int) := by
  have hx : a ^^^ b < 2 ^ 63 := Nat.xor_lt_two_pow (by omega) (by omega)
  show IntKind.i64.wrap ((BitVec.ofInt 64 (a : Int) ^^^ BitVec.ofInt 64 (b : Int)).toNat : Int) = _
  rw [BitVec.toNat_xor, ofInt_i64 a ha, ofInt_i64 b hb, IntKind.wrap_i64]
  omega
theorem mul_pow_le (a i m : Nat) (h : i ≤ m) : a * 2 ^ i ≤ a * 2 ^ m := Nat.mul_le_mul_left _ (Nat.pow_le_pow_right (by omega) h)
theorem mulP_lt (a b : Nat) (ha : a < 256) : ∀ i, i ≤ 8 → mulP a b i < 2 ^ 15
  | 0, _ => by simp [mulP]
  | i + 1, h => by
    apply Nat.xor_lt_two_pow
    · exact mulP_lt a b ha i (by omega)
    · have := mul_pow_le a i 7 (by omega)
      unfold cnd; split <;> omega
theorem mulP_succ (a b k : Nat) : mulP a b (k + 1) = if b.testBit k = true then mulP a b k ^^^ a * 2 ^ k else mulP a b k := by
  simp only [mulP]
  cases h : b.testBit k <;> simp [cnd]
theorem redP_succ (p j : Nat) : redP p (j + 1) = if p.testBit (j + 8) = true then redP (p ^^^ 283 * 2 ^ j) j else redP p j := by
  simp only [redP]
  cases h : p.testBit (j + 8) <;> simp [cnd]

theorem bit_any (a i : Nat) (ha : a < 256) (hi : i < 16) (w : World) : Calls Try.prog 29 #[.int .u8 a, .int .i64 i] w fun e w' => e = .returned (.int .i64 (rbit a i)) ∧ w = w' := by
  have hq : a / 2 ^ (i % 8) < 256 := Nat.lt_of_le_of_lt (Nat.div_le_self _ _) ha
  have e1 : ((a : Int) / 2 ^ (i % 8)) = ((a / 2 ^ (i % 8) : Nat) : Int) := by simp
  have hw : IntKind.i64.wrap ((a : Int) / 2 ^ (i % 8)) = (a : Int) / 2 ^ (i % 8) := by rw [e1]; exact i64_cast _ (Nat.lt_trans hq (by omega))
  have ht : Hid (((a : Int) / 2 ^ (i % 8)).tmod 2 = ((a / 2 ^ (i % 8) % 2 : Nat) : Int)) := tmod_bit a (i % 8)
  clear e1 hq
  go_enter Try.func29, Try.ntmps29
  go_wp2
  go_ret
  exact ⟨ret_int ht.out, rfl⟩
theorem bit_lit (a i x : Nat) (z : Int) (ha : a < 256) (hi : i < 16) (hz : z = (i : Int)) (hx : rbit a i = x) (W : World) : Calls Try.prog 29 #[.int .u8 a, .int .i64 z] W fun e w' => e = .returned (.int .i64 x) ∧ W = w' := by
  subst hz; subst hx
  exact bit_any a i ha hi W
set_option maxHeartbeats 1600000 in
theorem refmul_any (a b : Nat) (ha : a < 256) (hb : b < 256) (w : World) : Calls Try.prog 14 #[.int .u8 a, .int .u8 b] w fun e w' => e = .returned (.int .u8 (gm a b)) ∧ w = w' := by
  have HR : Hid (redP (mulP a b 8) 7 % 256 = gm a b) := rm_eq a b ha hb
  go_enter Try.func14, Try.ntmps14
  go_wp2
  go_loop [5, 6] (fun p i => ∃ k : Nat, k ≤ 8 ∧ i = .int .i64 k ∧ p = .int .i64 (mulP a b k)) (fun _ i => 8 - (intOf i).toNat)
  case atStart => exact ⟨0, by omega, rfl, rfl⟩
  case round =>
    obtain ⟨k, hk, rfl, rfl⟩ := hrel
    have hp := mulP_lt a b ha k hk
    obtain ⟨p, Hp⟩ : ∃ p, Hid (p = mulP a b k) := ⟨_, rfl⟩
    rw [← Hp.out] at hp ⊢
    have hp' : p < 32768 := hp
    clear hp
    by_cases hlt : k < 8
    · have hsh := mul_pow_le a k 7 (by omega)
      have hsh2 : a * 2 ^ k < 32768 := by omega
      have hcast : ((a : Int) * 2 ^ k) = ((a * 2 ^ k : Nat) : Int) := by rw [Int.natCast_mul, Int.natCast_pow]; rfl
      have hwr : IntKind.i64.wrap ((a : Int) * 2 ^ k) = (a : Int) * 2 ^ k := by rw [hcast]; exact i64_cast _ (by omega)
      have hxo : bits .xor .i64 (p : Int) ((a : Int) * 2 ^ k) = ((p ^^^ a * 2 ^ k : Nat) : Int) := by rw [hcast]; exact i64_xor_nat p (a * 2 ^ k) (by omega) (by omega)
      have HX := Lib.hid hxo
      clear hxo hcast hsh hsh2
      have hm8 : k % 8 = k := by omega
      have hbk := mulP_succ a b k
      rw [← Hp.out] at hbk
      by_cases ht : b.testBit k = true
      · rw [if_pos ht] at hbk
        have HB := Lib.hid hbk
        have hr : rbit b k = 1 := by unfold rbit; rw [hm8]; rw [testBit_div] at ht; simpa using ht
        have M := Lib.hid (bit_lit b k 1 k hb (by omega) rfl hr w)
        clear hbk ht hr hm8
        go_wp2_with fail
        refine M.out.mono ?_
        rintro e w' ⟨rfl, rfl⟩
        go_wp2
        go_round
        case rel => exact ⟨k + 1, by omega, by go_num, by rw [HX.out, HB.out]⟩
        case measure => simp [intOf]; omega
      · rw [if_neg ht] at hbk
        have HB := Lib.hid hbk
        have hr : rbit b k = 0 := by unfold rbit; rw [hm8]; rw [testBit_div] at ht; simp at ht; omega
        have M := Lib.hid (bit_lit b k 0 k hb (by omega) rfl hr w)
        clear hbk ht hr hm8
        go_wp2_with fail
        refine M.out.mono ?_
        rintro e w' ⟨rfl, rfl⟩
        go_wp2
        go_round
        case rel => exact ⟨k + 1, by omega, by go_num, by rw [HB.out]⟩
        case measure => simp [intOf]; omega
    · obtain rfl : k = 8 := by omega
      rw [← Hp.out] at HR
      go_wp2
      clear hlt
      go_loop [5, 7] (fun x i => ∃ (j q : Nat), j ≤ 7 ∧ q < 32768 ∧ i = .int .i64 ((j : Int) + 7) ∧ x = .int .i64 q ∧ redP q j = redP p 7) (fun _ i => (intOf i - 7).toNat)
      case atStart => exact ⟨7, p, by omega, hp', rfl, rfl, rfl⟩
      case round =>
        obtain ⟨j, q, hj, hq, rfl, rfl, hred⟩ := hrel
        have HQ := Lib.hid hred
        clear hred
        rcases Nat.eq_zero_or_pos j with h0 | h0
        · subst h0
          have HE : Hid (q % 256 = gm a b) := by have := HQ.out; show q % 256 = _; rw [← HR.out, ← this]; rfl
          go_wp2
          go_ret
          refine ⟨ret_int ?_, rfl⟩
          rw [← HE.out]
          first | rfl | (simp; done) | omega
        · obtain ⟨j, rfl⟩ : ∃ i, j = i + 1 := ⟨j - 1, by omega⟩
          have e8 : ((j + 1 : Nat) : Int) + 7 = (j : Int) + 8 := by omega
          rw [e8]
          clear e8
          have hcast : ((283 : Int) * 2 ^ j) = ((283 * 2 ^ j : Nat) : Int) := by rw [Int.natCast_mul, Int.natCast_pow]; rfl
          have hsh := mul_pow_le 283 j 6 (by omega)
          have hwr : IntKind.i64.wrap ((283 : Int) * 2 ^ j) = (283 : Int) * 2 ^ j := by rw [hcast]; exact i64_cast _ (by omega)
          have hxo : bits .xor .i64 (q : Int) ((283 : Int) * 2 ^ j) = ((q ^^^ 283 * 2 ^ j : Nat) : Int) := by rw [hcast]; exact i64_xor_nat q (283 * 2 ^ j) (by omega) (by omega)
          have hxl : q ^^^ 283 * 2 ^ j < 32768 := Nat.xor_lt_two_pow (n := 15) hq (by omega)
          have HX := Lib.hid hxo
          have hst := HQ.out
          rw [redP_succ] at hst
          have htm := tmod_bit q (j + 8)
          clear hxo hcast hsh
          by_cases ht : q.testBit (j + 8) = true
          · rw [if_pos ht] at hst
            have HS := Lib.hid hst
            have hr : q / 2 ^ (j + 8) % 2 = 1 := by rw [testBit_div] at ht; simpa using ht
            rw [hr] at htm
            clear ht hst hr
            go_wp2
            go_round
            case rel => exact ⟨j, _, by omega, hxl, by go_num, by rw [HX.out], HS.out⟩
            case measure => simp [intOf]; omega
          · rw [if_neg ht] at hst
            have HS := Lib.hid hst
            have hr : q / 2 ^ (j + 8) % 2 = 0 := by rw [testBit_div] at ht; simp at ht; omega
            rw [hr] at htm
            clear ht hst hr
            go_wp2
            go_round
            case rel => exact ⟨j, _, by omega, hq, by go_num, rfl, HS.out⟩
            case measure => simp [intOf]; omega
end Go.Proofs.Ytfmgpnaahkpmiaa
