/- The reference's product, coefficient by coefficient, is the field's: no program in sight. -/
import Derived.Test.YtikhnjoobhfgdaaGhPlain
import Derived.Test.YtikhnjoobhfgdaaPlain
namespace Go.Proofs.Ytikhnjoobhfgdaa

theorem num_testBit (b : List UInt8) : ∀ j, j < 8 * b.length → (num b).testBit j = (b.getD (b.length - 1 - j / 8) 0).toNat.testBit (j % 8) := by
  induction b using rev_ind with
  | h0 => intro j hj; simp at hj
  | h1 l x ih =>
    intro j hj
    rw [num_snoc, show 256 * num l + x.toNat = 2 ^ 8 * num l + x.toNat by rfl, Nat.testBit_two_pow_mul_add _ (by have := x.toNat_lt; omega)]
    by_cases h : j < 8
    · rw [if_pos h, show j / 8 = 0 by omega, show j % 8 = j by omega]
      simp
    · rw [if_neg h]
      have hl : (l ++ [x]).length = l.length + 1 := by simp
      rw [hl] at hj
      rw [ih (j - 8) (by omega), hl, show l.length - 1 - (j - 8) / 8 = l.length + 1 - 1 - j / 8 by omega, show (j - 8) % 8 = j % 8 by omega]
      congr 2
      rw [List.getD_eq_getElem?_getD, List.getD_eq_getElem?_getD, List.getElem?_append_left (by omega)]
/-- Bit i of an element: in byte i / 8. -/
theorem gbit_num (b : List UInt8) (hb : b.length = 16) (i : Nat) (hi : i < 128) : gbit (num b) i = (b.getD (i / 8) 0).toNat.testBit (7 - i % 8) := by
  unfold gbit
  rw [num_testBit b (127 - i) (by omega), hb, show 16 - 1 - (127 - i) / 8 = i / 8 by omega, show (127 - i) % 8 = 7 - i % 8 by omega]
theorem num_lt16 (b : List UInt8) (hb : b.length = 16) : num b < 2 ^ 128 := by
  have := num_lt b
  rw [hb] at this
  exact this

/-- The element with these coefficients. -/
def gev : List Bool → Nat → Nat
  | [], _ => 0
  | b :: l, j => (if b then gxn j gone else 0) ^^^ gev l (j + 1)
theorem gev_set (l : List Bool) (b : Bool) : ∀ i j, i < l.length → gev (l.set i (l.getD i false ^^ b)) j = gev l j ^^^ (if b then gxn (j + i) gone else 0) := by
  induction l with
  | nil => intro i j h; simp at h
  | cons c l ih =>
    intro i j h
    cases i with
    | zero =>
      simp only [List.set_cons_zero, List.getD_cons_zero, gev, Nat.add_zero]
      rw [Nat.xor_assoc, Nat.xor_comm (gev l (j + 1)), ← Nat.xor_assoc]
      congr 1
      cases c <;> cases b <;> simp
    | succ i =>
      simp only [List.set_cons_succ, List.getD_cons_succ, gev]
      rw [ih i (j + 1) (by simpa using h), ← Nat.xor_assoc, show j + 1 + i = j + (i + 1) by omega]
theorem gev_none (n : Nat) : ∀ j, gev (List.replicate n false) j = 0 := by
  induction n with
  | zero => intro j; rfl
  | succ n ih => intro j; simp [List.replicate_succ, gev, ih]
/-- One coefficient turned. -/
def gflip (l : List Bool) (i : Nat) (b : Bool) : List Bool := l.set i (l.getD i false ^^ b)
theorem gflip_length (l : List Bool) (i : Nat) (b : Bool) : (gflip l i b).length = l.length := by simp [gflip]
theorem gev_flip (l : List Bool) (i : Nat) (b : Bool) (h : i < l.length) : gev (gflip l i b) 0 = gev l 0 ^^^ (if b then gxn i gone else 0) := by
  have := gev_set l b i 0 h
  rwa [Nat.zero_add] at this
theorem gflip_getD (l : List Bool) (i : Nat) (b : Bool) (j : Nat) (h : i < l.length) : (gflip l i b).getD j false = if j = i then (l.getD i false ^^ b) else l.getD j false := by
  unfold gflip
  rw [List.getD_eq_getElem?_getD, List.getElem?_set]
  by_cases e : i = j
  · subst e; simp [h]
  · rw [if_neg e, if_neg (fun k => e k.symm), ← List.getD_eq_getElem?_getD]

theorem gxn_gsum (i y : Nat) : ∀ k, gxn i (gsum y gone (k + 1)) = gxn i (gsum y gone k) ^^^ (if gbit y k then gxn (i + k) gone else 0) := by
  intro k
  rw [gsum, gxn_xor, gxn_add]
  congr 1
  split
  · rfl
  · exact gxn_zero i
/-- Row i of the product, the first k coefficients of it. -/
theorem row_step (l : List Bool) (x y i k E : Nat) (hi : i < 128) (hk : k < 128) (hl : l.length = 255) (h : gev l 0 = E ^^^ gxn i (gsum y gone k)) :
    gev (gflip l (i + k) (gbit y k)) 0 = E ^^^ gxn i (gsum y gone (k + 1)) := by
  rw [gev_flip l _ _ (by omega), h, gxn_gsum, ← Nat.xor_assoc]
theorem row_end (x y i : Nat) (hy : y < 2 ^ 128) (hb : gbit x i = true) : gsum x y i ^^^ gxn i (gsum y gone 128) = gsum x y (i + 1) := by
  have e : gsum y gone 128 = y := gmul_one y hy
  rw [e, gsum, if_pos hb]
theorem row_none (x y i : Nat) (hb : gbit x i = false) : gsum x y i = gsum x y (i + 1) := by
  rw [gsum, if_neg (by simp [hb])]; simp
/-- The rest: what stands at x^i, i beyond 127, goes down. -/
def gdown (l : List Bool) (i : Nat) : List Bool :=
  if l.getD i false then gflip (gflip (gflip (gflip (l.set i false) (i - 128) true) (i - 127) true) (i - 126) true) (i - 121) true else l
theorem gdown_length (l : List Bool) (i : Nat) : (gdown l i).length = l.length := by
  unfold gdown
  split
  · simp [gflip_length]
  · rfl
theorem gdown_ev (l : List Bool) (i : Nat) (h1 : 128 ≤ i) (h2 : i < 255) (hl : l.length = 255) : gev (gdown l i) 0 = gev l 0 := by
  unfold gdown
  split
  · next h =>
    have e : l.set i false = gflip l i true := by unfold gflip; rw [h]; rfl
    rw [e]
    rw [gev_flip _ _ _ (by simp [gflip_length]; omega), gev_flip _ _ _ (by simp [gflip_length]; omega), gev_flip _ _ _ (by simp [gflip_length]; omega), gev_flip _ _ _ (by simp [gflip_length]; omega), gev_flip _ _ _ (by omega)]
    simp only [if_true]
    have h128 := gx128 (gxn (i - 128) gone) (gxn_lt _ gone_lt)
    rw [← gxn_add, ← gxn_add, ← gxn_add, ← gxn_add, show 128 + (i - 128) = i by omega, show 7 + (i - 128) = i - 121 by omega, show 2 + (i - 128) = i - 126 by omega, show 1 + (i - 128) = i - 127 by omega] at h128
    rw [h128]
    apply Nat.eq_of_testBit_eq; intro j; simp only [Nat.testBit_xor]
    cases (gxn (i - 121) gone).testBit j <;> cases (gxn (i - 126) gone).testBit j <;> cases (gxn (i - 127) gone).testBit j <;> cases (gxn (i - 128) gone).testBit j <;> simp
  · rfl
theorem gdown_at (l : List Bool) (i : Nat) (h1 : 128 ≤ i) (h2 : i < 255) (hl : l.length = 255) : (gdown l i).getD i false = false := by
  unfold gdown
  split
  · have hs : (l.set i false).getD i false = false := by simp [List.getD_eq_getElem?_getD, hl, h2]
    rw [gflip_getD _ _ _ _ (by simp [gflip_length]; omega), if_neg (by omega), gflip_getD _ _ _ _ (by simp [gflip_length]; omega), if_neg (by omega), gflip_getD _ _ _ _ (by simp [gflip_length]; omega), if_neg (by omega), gflip_getD _ _ _ _ (by simp; omega), if_neg (by omega), hs]
  · next h => simpa using h
theorem gdown_above (l : List Bool) (i j : Nat) (h1 : 128 ≤ i) (h2 : i < 255) (hl : l.length = 255) (hj : i < j) : (gdown l i).getD j false = l.getD j false := by
  unfold gdown
  split
  · have hs : (l.set i false).getD j false = l.getD j false := by
      rw [List.getD_eq_getElem?_getD, List.getElem?_set, if_neg (by omega), ← List.getD_eq_getElem?_getD]
    rw [gflip_getD _ _ _ _ (by simp [gflip_length]; omega), if_neg (by omega), gflip_getD _ _ _ _ (by simp [gflip_length]; omega), if_neg (by omega), gflip_getD _ _ _ _ (by simp [gflip_length]; omega), if_neg (by omega), gflip_getD _ _ _ _ (by simp; omega), if_neg (by omega), hs]
  · rfl

theorem getD_set_far (l : List Bool) (i j : Nat) (b : Bool) (h : i ≠ j) : (l.set i b).getD j false = l.getD j false := by
  rw [List.getD_eq_getElem?_getD, List.getElem?_set, if_neg h, ← List.getD_eq_getElem?_getD]
theorem gdown_set (l : List Bool) (n : Nat) (h : l.getD (n + 128) false = true) :
    gdown l (n + 128) = ((((l.set (n + 128) false).set n (!l.getD n false)).set (n + 1) (!l.getD (n + 1) false)).set (n + 2) (!l.getD (n + 2) false)).set (n + 7) (!l.getD (n + 7) false) := by
  unfold gdown
  rw [if_pos h, show n + 128 - 128 = n by omega, show n + 128 - 127 = n + 1 by omega, show n + 128 - 126 = n + 2 by omega, show n + 128 - 121 = n + 7 by omega]
  unfold gflip
  simp only [Bool.xor_true]
  rw [getD_set_far _ (n + 128) n _ (by omega)]
  rw [getD_set_far _ n (n + 1) _ (by omega), getD_set_far _ (n + 128) (n + 1) _ (by omega)]
  rw [getD_set_far _ (n + 1) (n + 2) _ (by omega), getD_set_far _ n (n + 2) _ (by omega), getD_set_far _ (n + 128) (n + 2) _ (by omega)]
  rw [getD_set_far _ (n + 2) (n + 7) _ (by omega), getD_set_far _ (n + 1) (n + 7) _ (by omega), getD_set_far _ n (n + 7) _ (by omega), getD_set_far _ (n + 128) (n + 7) _ (by omega)]
/-- n coefficients from place s on, as a number. -/
def bval (l : List Bool) (s : Nat) : Nat → Nat
  | 0 => 0
  | n + 1 => 2 * bval l s n + (l.getD (s + n) false).toNat
theorem bval_lt (l : List Bool) (s n : Nat) : bval l s n < 2 ^ n := by
  induction n with
  | zero => simp [bval]
  | succ n ih =>
    rw [bval, Nat.pow_succ]
    cases l.getD (s + n) false <;> simp <;> omega
/-- The sixteen bytes, behind i coefficients. -/
def zat (l : List Bool) (i : Nat) : List UInt8 := (List.range 16).map fun t => UInt8.ofNat (bval l (8 * t) (min 8 (i - 8 * t)))
theorem zat_length (l : List Bool) (i : Nat) : (zat l i).length = 16 := by simp [zat]
theorem zat_get (l : List Bool) (i t : Nat) (ht : t < 16) : (zat l i).getD t 0 = UInt8.ofNat (bval l (8 * t) (min 8 (i - 8 * t))) := by
  simp [zat, List.getD_eq_getElem?_getD, ht]
theorem bval8 (l : List Bool) (s m : Nat) (h : m ≤ 8) : (UInt8.ofNat (bval l s m)).toNat = bval l s m := by
  rw [UInt8.toNat_ofNat']
  apply Nat.mod_eq_of_lt
  have := bval_lt l s m
  have hp : 2 ^ m ≤ 2 ^ 8 := Nat.pow_le_pow_right (by omega) h
  omega
theorem zat_step (l : List Bool) (i : Nat) (hi : i < 128) : zat l (i + 1) = (zat l i).set (i / 8) (UInt8.ofNat (2 * ((zat l i).getD (i / 8) 0).toNat + (l.getD i false).toNat)) := by
  apply List.ext_getElem
  · simp [zat]
  · intro t h1 h2
    have ht : t < 16 := by simpa [zat] using h1
    rw [List.getElem_set]
    by_cases e : i / 8 = t
    · rw [if_pos e, zat_get l i _ (by omega), e, bval8 _ _ _ (by omega)]
      simp only [zat, List.getElem_map, List.getElem_range]
      rw [show min 8 (i + 1 - 8 * t) = min 8 (i - 8 * t) + 1 by omega, bval, show 8 * t + min 8 (i - 8 * t) = i by omega]
    · rw [if_neg e]
      simp only [zat, List.getElem_map, List.getElem_range]
      rw [show min 8 (i + 1 - 8 * t) = min 8 (i - 8 * t) by omega]
theorem zat_zero (l : List Bool) : zat l 0 = List.replicate 16 0 := by
  rw [List.eq_replicate_iff]
  refine ⟨zat_length l 0, ?_⟩
  intro b hb
  simp only [zat, List.mem_map, Nat.zero_sub, Nat.min_zero] at hb
  obtain ⟨t, _, rfl⟩ := hb
  rfl
theorem bval_testBit (l : List Bool) (s : Nat) : ∀ n j, j < n → (bval l s n).testBit (n - 1 - j) = l.getD (s + j) false := by
  intro n
  induction n with
  | zero => intro j h; omega
  | succ n ih =>
    intro j hj
    rw [bval, show 2 * bval l s n + (l.getD (s + n) false).toNat = 2 ^ 1 * bval l s n + (l.getD (s + n) false).toNat by rfl, Nat.testBit_two_pow_mul_add _ (by cases l.getD (s + n) false <;> simp)]
    by_cases h : j = n
    · subst h
      rw [if_pos (by omega), show j + 1 - 1 - j = 0 by omega]
      cases l.getD (s + j) false <;> rfl
    · rw [if_neg (by omega), ← ih j (by omega)]
      congr 1
      omega
theorem gbit_zat (l : List Bool) (i : Nat) (hi : i < 128) : gbit (num (zat l 128)) i = l.getD i false := by
  rw [gbit_num _ (zat_length l 128) i hi, zat_get l 128 _ (by omega), show min 8 (128 - 8 * (i / 8)) = 8 by omega, bval8 _ _ _ (by omega)]
  have := bval_testBit l (8 * (i / 8)) 8 (i % 8) (by omega)
  rw [show 8 - 1 - i % 8 = 7 - i % 8 by omega, show 8 * (i / 8) + i % 8 = i by omega] at this
  exact this
theorem gev_testBit (l : List Bool) : ∀ j, l.length + j ≤ 128 → ∀ i, i < 128 → gbit (gev l j) i = (decide (j ≤ i) && l.getD (i - j) false) := by
  induction l with
  | nil => intro j _ i hi; simp [gev, gbit]
  | cons b l ih =>
    intro j hj i hi
    have hjl : j < 128 := by simp at hj; omega
    rw [gev, gbit_xor, ih (j + 1) (by simp at hj ⊢; omega) i hi, gxn_one j hjl]
    have e : gbit (if b = true then 2 ^ (127 - j) else 0) i = (b && decide (i = j)) := by
      cases b
      · simp [gbit]
      · simp only [if_true, gbit, Nat.testBit_two_pow, Bool.true_and]
        rw [Bool.eq_iff_iff]; simp only [decide_eq_true_eq]; omega
    rw [e]
    by_cases h : i = j
    · subst h; simp [show ¬ (i + 1 ≤ i) by omega]
    · by_cases h2 : j ≤ i
      · rw [show i - j = (i - (j + 1)) + 1 by omega]
        simp [h, h2, show j + 1 ≤ i by omega]
      · simp [h, h2, show ¬ (j + 1 ≤ i) by omega]
theorem gev_take (l : List Bool) (hz : ∀ j, 128 ≤ j → l.getD j false = false) : gev l 0 = gev (l.take 128) 0 := by
  have ap : ∀ (a b : List Bool) j, gev (a ++ b) j = gev a j ^^^ gev b (j + a.length) := by
    intro a
    induction a with
    | nil => intro b j; simp [gev]
    | cons c a ih =>
      intro b j
      simp only [List.cons_append, gev, ih, Nat.xor_assoc, List.length_cons]
      rw [show j + 1 + a.length = j + (a.length + 1) by omega]
  have hd : l.drop 128 = List.replicate (l.drop 128).length false := by
    rw [List.eq_replicate_iff]
    refine ⟨rfl, fun b hb => ?_⟩
    obtain ⟨i, hi, rfl⟩ := List.mem_iff_getElem.1 hb
    have := hz (128 + i) (by omega)
    rw [List.getD_eq_getElem?_getD] at this
    rw [List.getElem_drop]
    rw [List.getElem?_eq_getElem (by simp at hi; omega)] at this
    exact this
  conv => lhs; rw [← List.take_append_drop 128 l]
  rw [ap, hd, gev_none]; simp
theorem gev_lt (l : List Bool) : ∀ j, gev l j < 2 ^ 128 := by
  induction l with
  | nil => intro j; simp [gev]
  | cons b l ih =>
    intro j
    apply Nat.xor_lt_two_pow _ (ih _)
    split
    · exact gxn_lt j gone_lt
    · decide
theorem gbit_ext (a b : Nat) (ha : a < 2 ^ 128) (hb : b < 2 ^ 128) (h : ∀ i, i < 128 → gbit a i = gbit b i) : a = b := by
  apply Nat.eq_of_testBit_eq
  intro j
  by_cases hj : j < 128
  · have := h (127 - j) (by omega)
    unfold gbit at this
    rwa [show 127 - (127 - j) = j by omega] at this
  · have hp : 2 ^ 128 ≤ 2 ^ j := Nat.pow_le_pow_right (by omega) (by omega)
    rw [Nat.testBit_lt_two_pow (by omega), Nat.testBit_lt_two_pow (by omega)]
/-- What the reference has at its end is the element. -/
theorem num_zat (l : List Bool) (hl : l.length = 255) (hz : ∀ j, 128 ≤ j → l.getD j false = false) : num (zat l 128) = gev l 0 := by
  rw [gev_take l hz]
  apply gbit_ext _ _ (num_lt16 _ (zat_length l 128)) (gev_lt _ _)
  intro i hi
  rw [gbit_zat l i hi, gev_testBit _ 0 (by simp [hl]) i hi]
  simp [List.getD_eq_getElem?_getD, List.getElem?_take, hi]
end Go.Proofs.Ytikhnjoobhfgdaa
