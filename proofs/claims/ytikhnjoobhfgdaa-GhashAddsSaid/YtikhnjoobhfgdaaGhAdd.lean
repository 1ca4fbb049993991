/- The hash is a sum's sum, as plain numbers: no program in sight. -/
import Derived.Test.YtikhnjoobhfgdaaGhSum
namespace Go.Proofs.Ytikhnjoobhfgdaa

theorem num_xors : ∀ a b : List UInt8, a.length = b.length → num (xors a b) = num a ^^^ num b
  | [], [], _ => by simp [xors, num]
  | [], y :: b, h => by simp at h
  | x :: a, [], h => by simp at h
  | x :: a, y :: b, h => by
    have hl : a.length = b.length := by simpa using h
    have ih := num_xors a b hl
    have e : xors (x :: a) (y :: b) = (x ^^^ y) :: xors a b := rfl
    have ha := num_lt a
    have hb := num_lt b
    rw [e, num_cons, num_cons, num_cons, xors_length, ← hl, Nat.min_self, ih]
    rw [← hl] at hb
    rw [← pow_256] at ha hb ⊢
    apply Nat.eq_of_testBit_eq
    intro j
    rw [Nat.testBit_xor, Nat.mul_comm, Nat.mul_comm x.toNat, Nat.mul_comm y.toNat, Nat.testBit_two_pow_mul_add _ (Nat.xor_lt_two_pow ha hb), Nat.testBit_two_pow_mul_add _ ha, Nat.testBit_two_pow_mul_add _ hb]
    split
    · rw [Nat.testBit_xor]
    · rw [UInt8.toNat_xor, Nat.testBit_xor]
theorem xors_rep (n : Nat) : xors (List.replicate n 0) (List.replicate n 0) = List.replicate n 0 := by
  induction n with
  | zero => rfl
  | succ n ih =>
    show (0 ^^^ 0 : UInt8) :: xors (List.replicate n 0) (List.replicate n 0) = _
    rw [ih]
    rfl
theorem pad16_xors (a b : List UInt8) (h : a.length = b.length) : pad16 (xors a b) = xors (pad16 a) (pad16 b) := by
  unfold pad16
  rw [xors_length, ← h, Nat.min_self]
  have e := xors_rep (16 - a.length)
  unfold xors at e ⊢
  rw [List.zipWith_append (by simp [h]), e, List.take_zipWith]
theorem ght_xors (h : Nat) : ∀ (n s t : Nat) (a b : List UInt8), a.length ≤ n → a.length = b.length → ght h (s ^^^ t) (xors a b) = ght h s a ^^^ ght h t b := by
  intro n
  induction n with
  | zero =>
    intro s t a b ha hl
    have e1 : a = [] := List.eq_nil_of_length_eq_zero (by omega)
    have e2 : b = [] := List.eq_nil_of_length_eq_zero (by omega)
    subst e1; subst e2
    rfl
  | succ n ih =>
    intro s t a b ha hl
    rcases Nat.eq_zero_or_pos a.length with h0 | h0
    · have e1 : a = [] := List.eq_nil_of_length_eq_zero (by omega)
      have e2 : b = [] := List.eq_nil_of_length_eq_zero (by omega)
      subst e1; subst e2
      rfl
    · rw [ght_step h _ (xors a b) (by rw [xors_length]; omega), ght_step h s a h0, ght_step h t b (by omega), pad16_xors a b hl, num_xors _ _ (by rw [pad16_length, pad16_length]), xor4, gmul_xor_left]
      have e : (xors a b).drop 16 = xors (a.drop 16) (b.drop 16) := by unfold xors; rw [List.drop_zipWith]
      rw [e]
      exact ih _ _ _ _ (by rw [List.length_drop]; omega) (by rw [List.length_drop, List.length_drop, hl])
theorem ght_none (h n : Nat) : ght h 0 (List.replicate n 0) = 0 := by
  have e := ght_xors h n 0 0 (List.replicate n 0) (List.replicate n 0) (by simp) rfl
  rw [xors_rep, Nat.xor_self, Nat.xor_self] at e
  exact e
/-- The law. -/
theorem adds_law (h n : Nat) (a b : List UInt8) (ha : a.length = n) (hb : b.length = n) : gfin h [] a ^^^ gfin h [] b = gfin h [] (xors a b) ^^^ gfin h [] (List.replicate n 0) := by
  have e3 : ght h 0 [] = 0 := rfl
  have e1 : ght h 0 (xors a b) = ght h 0 a ^^^ ght h 0 b := by
    have := ght_xors h n 0 0 a b (by omega) (by omega)
    rwa [Nat.xor_self] at this
  rw [gfin, gfin, gfin, gfin, e3, e1, ght_none, ← gmul_xor_left, ← gmul_xor_left, xor4, xor4 _ _ 0, xors_length, List.length_replicate, ha, hb, Nat.min_self, Nat.xor_self, Nat.xor_zero, Nat.xor_zero]
end Go.Proofs.Ytikhnjoobhfgdaa
