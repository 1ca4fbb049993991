/- Contracts: the product of two elements. -/
import Derived.Test.YtikhnjoobhfgdaaGhA
import Derived.Lib.Zigzag
set_option linter.unusedVariables false
namespace Go.Proofs.Ytikhnjoobhfgdaa
open Go.RowKit

theorem gx_hi (v : Nat) : hi (gx v) = hi v / 2 ^^^ (if lo v % 2 = 1 then 16212958658533785600 else 0) := by
  unfold gx
  rw [hi_xor, hi_half]
  congr 1
  have : lo v % 2 = v % 2 := by unfold lo; omega
  rw [this]
  split <;> rfl
theorem gx_lo (v : Nat) : lo (gx v) = lo v / 2 + hi v % 2 * 9223372036854775808 := by
  unfold gx
  rw [lo_xor, lo_half]
  have : lo (if v % 2 = 1 then 0xe1000000000000000000000000000000 else 0) = 0 := by split <;> rfl
  rw [this, Nat.xor_zero]
theorem bit_test (a : Nat) (ha : a < 18446744073709551616) : (bits .and .u64 (a : Int) 1 != 0) = decide (a % 2 = 1) := by
  rw [Lib.u64_and1 _ (by omega) (by omega)]
  rw [Bool.eq_iff_iff, bne_iff_ne, decide_eq_true_eq]
  omega
theorem word_test (X k : Nat) (h : k < 128) (xw : Nat) (hw : (if 63 < k then lo X else hi X) = xw) (hb : xw < 18446744073709551616) : (bits .and .u64 ((xw : Int) / 2 ^ (63 - k % 64)) 1 != 0) = gbit X k := by
  have e : ((xw : Int) / 2 ^ (63 - k % 64)) = ((xw / 2 ^ (63 - k % 64) : Nat) : Int) := by simp
  rw [e, bit_test _ (Nat.lt_of_le_of_lt (Nat.div_le_self _ _) hb), gbit_word X k h, hw]
  have := Nat.mod_lt (xw / 2 ^ (63 - k % 64)) (show 0 < 2 by omega)
  rw [Bool.eq_iff_iff, decide_eq_true_eq, decide_eq_true_eq]
  omega
theorem or_low (yh yl : Nat) (hl : yl < 18446744073709551616) : bits .or .u64 ((yl : Int) / 2) (IntKind.u64.wrap ((yh : Int) * 9223372036854775808)) = ((yl / 2 + yh % 2 * 9223372036854775808 : Nat) : Int) := by
  have e : IntKind.u64.wrap ((yh : Int) * 9223372036854775808) = ((yh % 2 * 9223372036854775808 : Nat) : Int) := by
    rw [IntKind.wrap_u64]; omega
  have e2 : ((yl : Int) / 2) = ((yl / 2 : Nat) : Int) := by omega
  rw [e, e2, u64_or_nat _ _ (by omega) (by omega)]
  congr 1
  have h1 : yl / 2 < 2 ^ 63 := by omega
  rw [Nat.or_comm, Nat.mul_comm, show (9223372036854775808 : Nat) = 2 ^ 63 by rfl, ← Nat.two_pow_add_eq_or_of_lt h1, Nat.add_comm]
theorem xor_top (yh : Nat) (hh : yh < 18446744073709551616) : bits .xor .u64 ((yh : Int) / 2) 16212958658533785600 = ((yh / 2 ^^^ 16212958658533785600 : Nat) : Int) := by
  have e2 : ((yh : Int) / 2) = ((yh / 2 : Nat) : Int) := by omega
  rw [e2]
  exact u64_xor_nat (yh / 2) 16212958658533785600 (by omega) (by omega)
theorem ival {k : IntKind} {a b : Int} (h : a = b) : Value.int k a = .int k b := by rw [h]
/-- Two words stored over an element. -/
theorem Blk.pair {w : World} {g : Nat} {t : TypeId} {a b : Value} (h : Blk w g t #[a, b]) (c d : Value) : Blk ((w.setCell ⟨g, 0, none⟩ c).setCell ⟨g, 1, none⟩ d) g t #[c, d] := by
  have := (h.set_ 0 c).set_ 1 d
  simpa using this

end Go.Proofs.Ytikhnjoobhfgdaa
