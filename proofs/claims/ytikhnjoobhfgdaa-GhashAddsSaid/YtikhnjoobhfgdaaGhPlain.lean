/- The field of 2^128 elements, as plain numbers: no program in sight. -/
namespace Go.Proofs.Ytikhnjoobhfgdaa

/-- Times x: the element's bits go one down; what falls off comes back. -/
def gx (v : Nat) : Nat := v / 2 ^^^ (if v % 2 = 1 then 0xe1000000000000000000000000000000 else 0)
def gxn : Nat → Nat → Nat
  | 0, v => v
  | k + 1, v => gx (gxn k v)
/-- The coefficient of x^i. -/
def gbit (v i : Nat) : Bool := v.testBit (127 - i)
def gone : Nat := 0x80000000000000000000000000000000
/-- The first k coefficients of x, times y. -/
def gsum (x y : Nat) : Nat → Nat
  | 0 => 0
  | k + 1 => gsum x y k ^^^ (if gbit x k then gxn k y else 0)
def gmul (x y : Nat) : Nat := gsum x y 128

theorem xor4 (a b c d : Nat) : (a ^^^ b) ^^^ (c ^^^ d) = (a ^^^ c) ^^^ (b ^^^ d) := by
  rw [Nat.xor_assoc, Nat.xor_assoc, ← Nat.xor_assoc b, Nat.xor_comm b c, Nat.xor_assoc c]
theorem xor_mod2 (a b : Nat) : (a ^^^ b) % 2 = (a % 2 ^^^ b % 2) := by
  have := Nat.xor_mod_two_pow (a := a) (b := b) (n := 1)
  simpa using this
theorem xor_div2 (a b : Nat) : (a ^^^ b) / 2 = (a / 2 ^^^ b / 2) := by
  have := Nat.xor_div_two_pow (a := a) (b := b) (n := 1)
  simpa using this
theorem gx_xor (a b : Nat) : gx (a ^^^ b) = gx a ^^^ gx b := by
  unfold gx
  rw [xor_div2, xor_mod2, xor4]
  congr 1
  rcases Nat.mod_two_eq_zero_or_one a with h | h <;> rcases Nat.mod_two_eq_zero_or_one b with k | k <;> simp [h, k]
theorem gx_zero : gx 0 = 0 := by decide
theorem gx_lt {v : Nat} (h : v < 2 ^ 128) : gx v < 2 ^ 128 := by
  unfold gx
  apply Nat.xor_lt_two_pow
  · omega
  · split <;> decide
theorem gxn_xor (k a b : Nat) : gxn k (a ^^^ b) = gxn k a ^^^ gxn k b := by
  induction k with
  | zero => rfl
  | succ k ih => simp [gxn, ih, gx_xor]
theorem gxn_zero (k : Nat) : gxn k 0 = 0 := by
  induction k with
  | zero => rfl
  | succ k ih => simp [gxn, ih, gx_zero]
theorem gxn_lt {v : Nat} (k : Nat) (h : v < 2 ^ 128) : gxn k v < 2 ^ 128 := by
  induction k with
  | zero => exact h
  | succ k ih => exact gx_lt ih
theorem gxn_add (j k v : Nat) : gxn (j + k) v = gxn j (gxn k v) := by
  induction j with
  | zero => simp [gxn]
  | succ j ih => rw [show j + 1 + k = (j + k) + 1 by omega]; simp [gxn, ih]
theorem gxn_gx (k v : Nat) : gxn k (gx v) = gx (gxn k v) := by
  induction k with
  | zero => rfl
  | succ k ih => simp [gxn, ih]
theorem gbit_xor (a b i : Nat) : gbit (a ^^^ b) i = (gbit a i ^^ gbit b i) := by simp [gbit, Nat.testBit_xor]
theorem gsum_xor_left (a b y k : Nat) : gsum (a ^^^ b) y k = gsum a y k ^^^ gsum b y k := by
  induction k with
  | zero => simp [gsum]
  | succ k ih =>
    simp only [gsum, ih, gbit_xor, xor4]
    congr 1
    cases gbit a k <;> cases gbit b k <;> simp
theorem gsum_xor_right (x a b k : Nat) : gsum x (a ^^^ b) k = gsum x a k ^^^ gsum x b k := by
  induction k with
  | zero => simp [gsum]
  | succ k ih =>
    simp only [gsum, ih, gxn_xor, xor4]
    congr 1
    cases gbit x k <;> simp
theorem gmul_xor_left (a b y : Nat) : gmul (a ^^^ b) y = gmul a y ^^^ gmul b y := gsum_xor_left a b y 128
theorem gmul_xor_right (x a b : Nat) : gmul x (a ^^^ b) = gmul x a ^^^ gmul x b := gsum_xor_right x a b 128
theorem gsum_zero (x k : Nat) : gsum x 0 k = 0 := by
  induction k with
  | zero => rfl
  | succ k ih => simp [gsum, ih, gxn_zero]
theorem gmul_zero (x : Nat) : gmul x 0 = 0 := gsum_zero x 128
theorem zero_gmul (y : Nat) : gmul 0 y = 0 := by
  have : ∀ k, gsum 0 y k = 0 := by
    intro k
    induction k with
    | zero => rfl
    | succ k ih => simp [gsum, ih, gbit]
  exact this 128
theorem gsum_lt {x y : Nat} (k : Nat) (h : y < 2 ^ 128) : gsum x y k < 2 ^ 128 := by
  induction k with
  | zero => simp [gsum]
  | succ k ih =>
    apply Nat.xor_lt_two_pow ih
    split
    · exact gxn_lt k h
    · decide
theorem gmul_lt {x y : Nat} (h : y < 2 ^ 128) : gmul x y < 2 ^ 128 := gsum_lt 128 h
theorem gsum_gx (x y k : Nat) : gsum x (gx y) k = gx (gsum x y k) := by
  induction k with
  | zero => simp [gsum, gx_zero]
  | succ k ih =>
    simp only [gsum, ih, gx_xor, gxn_gx]
    congr 1
    split <;> simp [gx_zero]
theorem gmul_gx (x y : Nat) : gmul x (gx y) = gx (gmul x y) := gsum_gx x y 128

theorem gone_lt : gone < 2 ^ 128 := by decide
/-- 1, x, x^2 .. -/
theorem gxn_one : ∀ k, k < 128 → gxn k gone = 2 ^ (127 - k) := by decide +kernel
theorem gxn_one_128 : gxn 128 gone = 0xe1000000000000000000000000000000 := by decide +kernel
/-- Each element is a sum of these. -/
theorem gsum_one (x k : Nat) (hk : k ≤ 128) (hx : x < 2 ^ 128) : gsum x gone k = x / 2 ^ (128 - k) * 2 ^ (128 - k) := by
  induction k with
  | zero =>
    show 0 = _
    rw [Nat.div_eq_of_lt (by simpa using hx), Nat.zero_mul]
  | succ k ih =>
    rw [gsum, ih (by omega), gxn_one k (by omega)]
    apply Nat.eq_of_testBit_eq
    intro i
    have e : ∀ m i, (x / 2 ^ m * 2 ^ m).testBit i = (decide (m ≤ i) && x.testBit i) := by
      intro m i
      rw [← Nat.shiftRight_eq_div_pow, ← Nat.shiftLeft_eq, Nat.testBit_shiftLeft, Nat.testBit_shiftRight]
      by_cases h : m ≤ i
      · simp [h, show m + (i - m) = i by omega]
      · simp [h]
    rw [Nat.testBit_xor, e, e]
    unfold gbit
    by_cases h : i = 127 - k
    · subst h
      have h1 : ¬ 128 - k ≤ 127 - k := by omega
      have h2 : 128 - (k + 1) ≤ 127 - k := by omega
      simp only [h1, h2, decide_false, decide_true, Bool.false_and, Bool.true_and, Bool.false_xor]
      cases x.testBit (127 - k) <;> simp [Nat.testBit_two_pow_self]
    · have h0 : (if x.testBit (127 - k) then 2 ^ (127 - k) else 0).testBit i = false := by
        split
        · exact Nat.testBit_two_pow_of_ne (fun e => h e.symm)
        · simp
      rw [h0, Bool.xor_false]
      have e : decide (128 - k ≤ i) = decide (128 - (k + 1) ≤ i) := by
        rw [Bool.eq_iff_iff]; simp only [decide_eq_true_eq]; omega
      rw [e]
theorem gmul_one (x : Nat) (hx : x < 2 ^ 128) : gmul x gone = x := by
  have := gsum_one x 128 (Nat.le_refl _) hx
  simpa [gmul] using this
/-- Induction over all elements: 0, 1, times x, sums. -/
theorem gind {P : Nat → Prop} (h0 : P 0) (h1 : P gone) (hx : ∀ x, P x → P (gx x)) (ha : ∀ x y, P x → P y → P (x ^^^ y)) (x : Nat) (h : x < 2 ^ 128) : P x := by
  have hp : ∀ k, P (gxn k gone) := by
    intro k
    induction k with
    | zero => exact h1
    | succ k ih => exact hx _ ih
  have hs : ∀ k, P (gsum x gone k) := by
    intro k
    induction k with
    | zero => exact h0
    | succ k ih =>
      apply ha _ _ ih
      split
      · exact hp k
      · exact h0
  have := hs 128
  rwa [show gsum x gone 128 = x from gmul_one x h] at this
theorem one_gmul (y : Nat) : gmul gone y = y := by
  have hb : ∀ k, k < 127 → gbit gone (k + 1) = false := by decide +kernel
  have : ∀ k, k < 128 → gsum gone y (k + 1) = y := by
    intro k
    induction k with
    | zero => intro _; show 0 ^^^ (if gbit gone 0 then y else 0) = y; rw [if_pos (by decide +kernel)]; simp
    | succ k ih => intro hk; rw [gsum, ih (by omega), hb k (by omega)]; simp
  exact this 127 (by omega)
/-- x^128 is x^7 + x^2 + x + 1. -/
theorem gx128 (y : Nat) (hy : y < 2 ^ 128) : gxn 128 y = gxn 7 y ^^^ gxn 2 y ^^^ gxn 1 y ^^^ y := by
  refine gind (P := fun y => gxn 128 y = gxn 7 y ^^^ gxn 2 y ^^^ gxn 1 y ^^^ y) ?_ ?_ ?_ ?_ y hy
  · simp [gxn_zero]
  · decide +kernel
  · intro x h; simp only [gxn_gx, h, gx_xor]
  · intro a b h k
    simp only [gxn_xor, h, k]
    apply Nat.eq_of_testBit_eq; intro i; simp only [Nat.testBit_xor]
    cases (gxn 7 a).testBit i <;> cases (gxn 2 a).testBit i <;> cases (gxn 1 a).testBit i <;> cases a.testBit i <;> simp
theorem gx_gmul_one (y : Nat) (hy : y < 2 ^ 128) : ∀ k, k < 128 → gmul (gx (gxn k gone)) y = gx (gmul (gxn k gone) y) := by
  have base : ∀ k, k < 128 → gmul (gxn k gone) y = gxn k y := by
    intro k hk
    have hb : ∀ j, j < 128 → gbit (gxn k gone) j = decide (j = k) := by
      intro j hj
      rw [gxn_one k hk, gbit, Nat.testBit_two_pow]
      by_cases h : j = k <;> simp [h] <;> omega
    have : ∀ j, j ≤ 128 → gsum (gxn k gone) y j = if k < j then gxn k y else 0 := by
      intro j
      induction j with
      | zero => intro _; simp [gsum]
      | succ j ih =>
        intro hj
        rw [gsum, ih (by omega), hb j (by omega)]
        by_cases h : j = k
        · subst h; simp
        · by_cases h2 : k < j
          · simp [h, h2, show k < j + 1 by omega]
          · simp [h, h2, show ¬ k < j + 1 by omega]
    have := this 128 (Nat.le_refl _)
    rw [if_pos hk] at this
    exact this
  intro k hk
  rw [base k hk]
  by_cases h : k + 1 < 128
  · exact base (k + 1) h
  · obtain rfl : k = 127 := by omega
    show gmul (gxn 128 gone) y = gxn 128 y
    rw [gx128 y hy, gx128 gone (by decide)]
    simp only [gmul_xor_left]
    rw [base 7 (by omega), base 2 (by omega), base 1 (by omega), one_gmul]
theorem gx_gmul (x y : Nat) (hx : x < 2 ^ 128) (hy : y < 2 ^ 128) : gmul (gx x) y = gx (gmul x y) := by
  have : ∀ k, k ≤ 128 → gmul (gx (gsum x gone k)) y = gx (gmul (gsum x gone k) y) := by
    intro k
    induction k with
    | zero => intro _; show gmul (gx 0) y = gx (gmul 0 y); rw [gx_zero, zero_gmul, gx_zero]
    | succ k ih =>
      intro hk
      simp only [gsum, gx_xor, gmul_xor_left, ih (by omega)]
      congr 1
      split
      · exact gx_gmul_one y hy k (by omega)
      · rw [gx_zero, zero_gmul, gx_zero]
  have := this 128 (Nat.le_refl _)
  rwa [show gsum x gone 128 = x from gmul_one x hx] at this


theorem xor_lt {a b : Nat} (h : a < 2 ^ 128) (k : b < 2 ^ 128) : a ^^^ b < 2 ^ 128 := Nat.xor_lt_two_pow h k
theorem gmul_comm (x y : Nat) (hx : x < 2 ^ 128) (hy : y < 2 ^ 128) : gmul x y = gmul y x := by
  have := gind (P := fun x => x < 2 ^ 128 ∧ gmul x y = gmul y x) ⟨by decide, by rw [zero_gmul, gmul_zero]⟩ ⟨gone_lt, by rw [one_gmul, gmul_one y hy]⟩
    (fun x h => ⟨gx_lt h.1, by rw [gx_gmul x y h.1 hy, gmul_gx, h.2]⟩) (fun a b h k => ⟨xor_lt h.1 k.1, by rw [gmul_xor_left, gmul_xor_right, h.2, k.2]⟩) x hx
  exact this.2
theorem gmul_assoc (x y z : Nat) (hx : x < 2 ^ 128) (hy : y < 2 ^ 128) (hz : z < 2 ^ 128) : gmul (gmul x y) z = gmul x (gmul y z) := by
  have := gind (P := fun x => x < 2 ^ 128 ∧ gmul (gmul x y) z = gmul x (gmul y z)) ⟨by decide, by rw [zero_gmul, zero_gmul, zero_gmul]⟩ ⟨gone_lt, by rw [one_gmul, one_gmul]⟩
    (fun x h => ⟨gx_lt h.1, by rw [gx_gmul x y h.1 hy, gx_gmul _ z (gmul_lt hy) hz, h.2, gx_gmul x _ h.1 (gmul_lt hz)]⟩)
    (fun a b h k => ⟨xor_lt h.1 k.1, by rw [gmul_xor_left, gmul_xor_left, gmul_xor_left, h.2, k.2]⟩) x hx
  exact this.2
end Go.Proofs.Ytikhnjoobhfgdaa
