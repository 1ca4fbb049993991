/- The field of 256 elements in plain numbers: no program in sight. -/
namespace Go.Proofs.Ytfmgpnaahkpmiaa.Gal

theorem testBit_div (p i : Nat) : p.testBit i = decide (p / 2 ^ i % 2 = 1) := Nat.testBit_eq_decide_div_mod_eq
theorem xor_lt (a b : Nat) (ha : a < 256) (hb : b < 256) : a ^^^ b < 256 := Nat.xor_lt_two_pow (n := 8) ha hb
theorem xor_mul2 (a b : Nat) : (a ^^^ b) * 2 = a * 2 ^^^ b * 2 := by
  have := Nat.shiftLeft_xor_distrib (i := 1) (a := a) (b := b)
  simpa [Nat.shiftLeft_eq] using this
theorem xor_mulpow (a b i : Nat) : (a ^^^ b) * 2 ^ i = a * 2 ^ i ^^^ b * 2 ^ i := by
  have := Nat.shiftLeft_xor_distrib (i := i) (a := a) (b := b)
  simpa [Nat.shiftLeft_eq] using this
theorem xor_mod256 (a b : Nat) : (a ^^^ b) % 256 = a % 256 ^^^ b % 256 := Nat.xor_mod_two_pow (n := 8)
theorem xor_div2 (a b : Nat) : (a ^^^ b) / 2 = a / 2 ^^^ b / 2 := by
  have := Nat.shiftRight_xor_distrib (i := 1) (a := a) (b := b)
  simpa [Nat.shiftRight_eq_div_pow] using this
theorem x4 (a b c d : Nat) : (a ^^^ b) ^^^ (c ^^^ d) = (a ^^^ c) ^^^ (b ^^^ d) := by
  rw [Nat.xor_assoc, Nat.xor_assoc, ← Nat.xor_assoc b c d, Nat.xor_comm b c, Nat.xor_assoc c b d]

/-- A number, or 0. -/
def cnd (c : Bool) (m : Nat) : Nat := if c then m else 0
theorem cnd_xor (c d : Bool) (m : Nat) : cnd (c ^^ d) m = cnd c m ^^^ cnd d m := by cases c <;> cases d <;> simp [cnd]
theorem cnd_xor2 (c : Bool) (m n : Nat) : cnd c (m ^^^ n) = cnd c m ^^^ cnd c n := by cases c <;> simp [cnd]

/-- Twice an element. -/
def dbl (a : Nat) : Nat := cnd (a.testBit 7) 27 ^^^ a * 2 % 256
theorem dbl_lt (a : Nat) : dbl a < 256 := by
  apply xor_lt
  · unfold cnd; split <;> omega
  · omega
theorem dbl_xor (a b : Nat) : dbl (a ^^^ b) = dbl a ^^^ dbl b := by
  unfold dbl
  rw [Nat.testBit_xor, cnd_xor, xor_mul2, xor_mod256, x4]

/-- The product, k bits of b. -/
def g : Nat → Nat → Nat → Nat
  | 0, _, _ => 0
  | k + 1, a, b => cnd (b.testBit 0) a ^^^ g k (dbl a) (b / 2)
theorem g_lt : ∀ (k a b : Nat), a < 256 → g k a b < 256
  | 0, _, _, _ => by simp [g]
  | k + 1, a, b, ha => by
    apply xor_lt
    · unfold cnd; split <;> omega
    · exact g_lt k _ _ (dbl_lt a)
theorem g_left : ∀ (k a a' b : Nat), g k (a ^^^ a') b = g k a b ^^^ g k a' b
  | 0, _, _, _ => by simp [g]
  | k + 1, a, a', b => by
    simp only [g]
    rw [dbl_xor, g_left k, cnd_xor2, x4]
theorem g_right : ∀ (k a b b' : Nat), g k a (b ^^^ b') = g k a b ^^^ g k a b'
  | 0, _, _, _ => by simp [g]
  | k + 1, a, b, b' => by
    simp only [g]
    rw [Nat.testBit_xor, cnd_xor, xor_div2, g_right k, x4]
theorem g_zero : ∀ (k a : Nat), g k a 0 = 0
  | 0, _ => rfl
  | k + 1, a => by simp [g, cnd, g_zero k]

/-- THE PRODUCT. -/
def gm (a b : Nat) : Nat := g 8 a b
theorem gm_lt (a b : Nat) (ha : a < 256) : gm a b < 256 := g_lt 8 a b ha

/-- Two maps that spread over sums, and agree at the eight bits, agree at every element. -/
theorem lin_ext (f h : Nat → Nat) (hf : ∀ x y, f (x ^^^ y) = f x ^^^ f y) (hh : ∀ x y, h (x ^^^ y) = h x ^^^ h y) (hb : ∀ i : Fin 8, f (2 ^ i.val) = h (2 ^ i.val)) : ∀ z, z < 256 → f z = h z := by
  have f0 : f 0 = 0 := by have := hf 0 0; simpa using this
  have h0 : h 0 = 0 := by have := hh 0 0; simpa using this
  have key : ∀ k, k ≤ 8 → ∀ z, z < 2 ^ k → f z = h z := by
    intro k
    induction k with
    | zero => intro _ z hz; have : z = 0 := by simpa using hz
              subst this; rw [f0, h0]
    | succ k ih =>
      intro hk z hz
      rcases Nat.lt_or_ge z (2 ^ k) with hlt | hge
      · exact ih (by omega) z hlt
      · have hz2 : z - 2 ^ k < 2 ^ k := by rw [Nat.pow_succ] at hz; omega
        have e : z = 2 ^ k ^^^ (z - 2 ^ k) := by
          have h1 : 2 ^ k + (z - 2 ^ k) = 2 ^ k ||| (z - 2 ^ k) := by
            have := Nat.two_pow_add_eq_or_of_lt hz2 1
            simpa using this
          have h2 : 2 ^ k ^^^ (z - 2 ^ k) = 2 ^ k ||| (z - 2 ^ k) := by
            apply Nat.eq_of_testBit_eq
            intro i
            rw [Nat.testBit_xor, Nat.testBit_or, Nat.testBit_two_pow]
            by_cases hi : k = i
            · subst hi
              rw [Nat.testBit_lt_two_pow hz2]; simp
            · simp [hi]
          rw [h2, ← h1]; omega
        rw [e, hf, hh, ih (by omega) _ hz2, hb ⟨k, by omega⟩]
  intro z hz
  exact key 8 (Nat.le_refl _) z hz

theorem gm_left (a a' b : Nat) : gm (a ^^^ a') b = gm a b ^^^ gm a' b := g_left 8 a a' b
theorem gm_right (a b b' : Nat) : gm a (b ^^^ b') = gm a b ^^^ gm a b' := g_right 8 a b b'
theorem gm_comm (a b : Nat) (ha : a < 256) (hb : b < 256) : gm a b = gm b a := by
  refine lin_ext (fun z => gm z b) (fun z => gm b z) (fun x y => gm_left x y b) (fun x y => gm_right b x y) ?_ a ha
  intro i
  refine lin_ext (fun z => gm (2 ^ i.val) z) (fun z => gm z (2 ^ i.val)) (fun x y => gm_right _ x y) (fun x y => gm_left x y _) ?_ b hb
  revert i
  decide
theorem gm_assoc (a b c : Nat) (ha : a < 256) (hb : b < 256) (hc : c < 256) : gm (gm a b) c = gm a (gm b c) := by
  refine lin_ext (fun z => gm (gm z b) c) (fun z => gm z (gm b c)) (fun x y => by simp only [gm_left]) (fun x y => by simp only [gm_left]) ?_ a ha
  intro i
  refine lin_ext (fun z => gm (gm (2 ^ i.val) z) c) (fun z => gm (2 ^ i.val) (gm z c)) (fun x y => by simp only [gm_left, gm_right]) (fun x y => by simp only [gm_left, gm_right]) ?_ b hb
  intro j
  refine lin_ext (fun z => gm (gm (2 ^ i.val) (2 ^ j.val)) z) (fun z => gm (2 ^ i.val) (gm (2 ^ j.val) z)) (fun x y => by simp only [gm_right]) (fun x y => by simp only [gm_right]) ?_ c hc
  revert i j
  decide +kernel
theorem gm_one (a : Nat) (ha : a < 256) : gm a 1 = a :=
  lin_ext (fun z => gm z 1) (fun z => z) (fun x y => gm_left x y 1) (fun _ _ => rfl) (by decide) a ha
theorem one_gm (a : Nat) (ha : a < 256) : gm 1 a = a := by rw [gm_comm 1 a (by omega) ha, gm_one a ha]
theorem gm_zero (a : Nat) : gm a 0 = 0 := g_zero 8 a
theorem zero_gm (b : Nat) (hb : b < 256) : gm 0 b = 0 := by rw [gm_comm 0 b (by omega) hb, gm_zero]

/-- Powers: one product behind the other. -/
def pw (a : Nat) : Nat → Nat
  | 0 => 1
  | n + 1 => gm (pw a n) a
theorem pw_lt (a : Nat) (ha : a < 256) : ∀ n, pw a n < 256
  | 0 => by simp [pw]
  | n + 1 => gm_lt _ _ (pw_lt a ha n)
theorem pw_add (a : Nat) (ha : a < 256) (m : Nat) : ∀ n, pw a (m + n) = gm (pw a m) (pw a n)
  | 0 => (gm_one _ (pw_lt a ha m)).symm
  | n + 1 => by
    show gm (pw a (m + n)) a = gm (pw a m) (gm (pw a n) a)
    rw [pw_add a ha m n, gm_assoc _ _ _ (pw_lt a ha m) (pw_lt a ha n) ha]
theorem pw_one (a : Nat) (ha : a < 256) : pw a 1 = a := one_gm a ha
theorem pw_sq (a : Nat) (ha : a < 256) : ∀ n, pw a (2 * n) = pw (gm a a) n
  | 0 => rfl
  | n + 1 => by
    have h2 := pw_lt a ha (2 * n)
    show gm (gm (pw a (2 * n)) a) a = gm (pw (gm a a) n) (gm a a)
    rw [← pw_sq a ha n, gm_assoc _ _ _ h2 ha ha]
theorem pw_sq1 (a : Nat) (ha : a < 256) (n : Nat) : pw a (2 * n + 1) = gm a (pw (gm a a) n) := by
  show gm (pw a (2 * n)) a = _
  rw [pw_sq a ha n, gm_comm _ _ (pw_lt _ (gm_lt a a ha) n) ha]
theorem pw_mul (a : Nat) (ha : a < 256) (m : Nat) : ∀ n, pw a (m * n) = pw (pw a m) n
  | 0 => rfl
  | n + 1 => by
    rw [Nat.mul_succ, pw_add a ha, pw_mul a ha m n]
    rfl
theorem one_pw : ∀ n, pw 1 n = 1
  | 0 => rfl
  | n + 1 => by show gm (pw 1 n) 1 = 1; rw [one_pw n]; decide
theorem zero_pw (n : Nat) : pw 0 (n + 1) = 0 := by
  show gm (pw 0 n) 0 = 0
  exact gm_zero _

/-- Powers, squared on. -/
def ps : Nat → Nat → Nat → Nat → Nat
  | 0, c, _, _ => c
  | k + 1, c, a, n => ps k (if n % 2 = 1 then gm c a else c) (gm a a) (n / 2)
theorem ps_pw : ∀ (k c a n : Nat), c < 256 → a < 256 → n < 2 ^ k → ps k c a n = gm c (pw a n)
  | 0, c, a, n, hc, ha, hn => by
    have : n = 0 := by simpa using hn
    subst this
    exact (gm_one c hc).symm
  | k + 1, c, a, n, hc, ha, hn => by
    have haa := gm_lt a a ha
    have hn2 : n / 2 < 2 ^ k := by rw [Nat.pow_succ] at hn; omega
    simp only [ps]
    by_cases h : n % 2 = 1
    · rw [if_pos h, ps_pw k _ _ _ (gm_lt c a hc) haa hn2]
      have e : n = 2 * (n / 2) + 1 := by omega
      conv => rhs; rw [e, pw_sq1 a ha]
      rw [gm_assoc c a _ hc ha (pw_lt _ haa _)]
    · rw [if_neg h, ps_pw k _ _ _ hc haa hn2]
      have e : n = 2 * (n / 2) := by omega
      conv => rhs; rw [e, pw_sq a ha]
theorem pw_ps (a n : Nat) (ha : a < 256) (hn : n < 256) : pw a n = ps 8 1 a n := by
  rw [ps_pw 8 1 a n (by omega) ha (by simpa using hn), one_gm _ (pw_lt a ha n)]
theorem fermat_ps : ∀ a : Fin 256, ps 8 1 a.val 255 = if a.val = 0 then 0 else 1 := by decide +kernel
theorem fermat (a : Nat) (ha : a < 256) : pw a 255 = if a = 0 then 0 else 1 := by
  rw [pw_ps a 255 ha (by omega)]; exact fermat_ps ⟨a, ha⟩
theorem pw_mod (a : Nat) (ha : a < 256) (h0 : a ≠ 0) (n : Nat) : pw a n = pw a (n % 255) := by
  have e : n = 255 * (n / 255) + n % 255 := by omega
  have hr := pw_lt a ha (n % 255)
  conv => lhs; rw [e, pw_add a ha, pw_mul a ha, fermat a ha, if_neg h0, one_pw, one_gm _ hr]

/-- The inverse. -/
def inv (a : Nat) : Nat := pw a 254
theorem inv_lt (a : Nat) (ha : a < 256) : inv a < 256 := pw_lt a ha 254
theorem gm_inv (a : Nat) (ha : a < 256) (h0 : a ≠ 0) : gm a (inv a) = 1 := by
  have : gm (pw a 254) a = pw a 255 := rfl
  rw [gm_comm a _ ha (inv_lt a ha)]
  show gm (pw a 254) a = 1
  rw [this, fermat a ha, if_neg h0]
theorem inv_unique (a i : Nat) (ha : a < 256) (hi : i < 256) (h : gm a i = 1) : i = inv a := by
  have h0 : a ≠ 0 := by rintro rfl; rw [zero_gm i hi] at h; omega
  have := gm_inv a ha h0
  have h2 : gm (gm i a) (inv a) = inv a := by rw [gm_comm i a hi ha, h, one_gm _ (inv_lt a ha)]
  rw [gm_assoc i a _ hi ha (inv_lt a ha), this, gm_one i hi] at h2
  exact h2
theorem inv_zero : inv 0 = 0 := zero_pw 253
theorem gm_eq_zero (a b : Nat) (ha : a < 256) (hb : b < 256) (h : gm a b = 0) : a = 0 ∨ b = 0 := by
  by_cases h0 : a = 0
  · exact .inl h0
  · right
    have h1 : gm (gm (inv a) a) b = b := by rw [gm_comm _ a (inv_lt a ha) ha, gm_inv a ha h0, one_gm b hb]
    rw [gm_assoc _ a b (inv_lt a ha) ha hb, h, gm_zero] at h1
    exact h1.symm

/-- The product as the reference makes it: the polynomials', then the rest. -/
def mulP (a b : Nat) : Nat → Nat
  | 0 => 0
  | i + 1 => mulP a b i ^^^ cnd (b.testBit i) (a * 2 ^ i)
def redP (p : Nat) : Nat → Nat
  | 0 => p
  | j + 1 => redP (p ^^^ cnd (p.testBit (j + 8)) (283 * 2 ^ j)) j
def rm (a b : Nat) : Nat := redP (mulP a b 8) 7 % 256
theorem mulP_left (a a' b : Nat) : ∀ i, mulP (a ^^^ a') b i = mulP a b i ^^^ mulP a' b i
  | 0 => by simp [mulP]
  | i + 1 => by
    simp only [mulP]
    rw [mulP_left a a' b i, xor_mulpow, cnd_xor2, x4]
theorem mulP_right (a b b' : Nat) : ∀ i, mulP a (b ^^^ b') i = mulP a b i ^^^ mulP a b' i
  | 0 => by simp [mulP]
  | i + 1 => by
    simp only [mulP]
    rw [mulP_right a b b' i, Nat.testBit_xor, cnd_xor, x4]
theorem redP_xor : ∀ (j p q : Nat), redP (p ^^^ q) j = redP p j ^^^ redP q j
  | 0, _, _ => rfl
  | j + 1, p, q => by
    simp only [redP]
    rw [Nat.testBit_xor, cnd_xor, x4, redP_xor j]
theorem rm_eq (a b : Nat) (ha : a < 256) (hb : b < 256) : rm a b = gm a b := by
  have hl : ∀ x y c, rm (x ^^^ y) c = rm x c ^^^ rm y c := fun x y c => by unfold rm; rw [mulP_left, redP_xor, xor_mod256]
  have hr : ∀ c x y, rm c (x ^^^ y) = rm c x ^^^ rm c y := fun c x y => by unfold rm; rw [mulP_right, redP_xor, xor_mod256]
  refine lin_ext (fun z => rm z b) (fun z => gm z b) (fun x y => hl x y b) (fun x y => gm_left x y b) ?_ a ha
  intro i
  refine lin_ext (fun z => rm (2 ^ i.val) z) (fun z => gm (2 ^ i.val) z) (fun x y => hr _ x y) (fun x y => gm_right _ x y) ?_ b hb
  revert i
  decide +kernel

/-- A byte's bits turned round. -/
def rot (a n : Nat) : Nat := (a * 2 ^ n % 256) ||| (a / 2 ^ (8 - n))
/-- The substitute's second half, and as the reference makes it, bit by bit. -/
def aff (b : Nat) : Nat := b ^^^ rot b 1 ^^^ rot b 2 ^^^ rot b 3 ^^^ rot b 4 ^^^ 99
def rbit (a i : Nat) : Nat := a / 2 ^ (i % 8) % 2
def raff (b : Nat) : Nat → Nat
  | 0 => 0
  | k + 1 => 2 * raff b k + (rbit b (7 - k) + rbit b (7 - k + 4) + rbit b (7 - k + 5) + rbit b (7 - k + 6) + rbit b (7 - k + 7) + rbit 99 (7 - k)) % 2
theorem raff_eq (b : Nat) (hb : b < 256) : raff b 8 = aff b := by
  have : ∀ b : Fin 256, raff b.val 8 = aff b.val := by decide +kernel
  exact this ⟨b, hb⟩
theorem rot_lt (a n : Nat) (ha : a < 256) (hn : n ≤ 8) : rot a n < 256 := by
  unfold rot
  apply Nat.or_lt_two_pow (n := 8)
  · omega
  · exact Nat.lt_of_le_of_lt (Nat.div_le_self _ _) ha
theorem aff_lt (b : Nat) (hb : b < 256) : aff b < 256 := by
  unfold aff
  exact xor_lt _ _ (xor_lt _ _ (xor_lt _ _ (xor_lt _ _ (xor_lt _ _ hb (rot_lt b 1 hb (by omega))) (rot_lt b 2 hb (by omega))) (rot_lt b 3 hb (by omega))) (rot_lt b 4 hb (by omega))) (by omega)
def sub (a : Nat) : Nat := aff (inv a)
theorem sub_lt (a : Nat) (ha : a < 256) : sub a < 256 := aff_lt _ (inv_lt a ha)
def pre (a : Nat) : Nat := rot a 1 ^^^ rot a 3 ^^^ rot a 6 ^^^ 5
theorem pre_lt (a : Nat) (ha : a < 256) : pre a < 256 := by
  unfold pre
  exact xor_lt _ _ (xor_lt _ _ (xor_lt _ _ (rot_lt a 1 ha (by omega)) (rot_lt a 3 ha (by omega))) (rot_lt a 6 ha (by omega))) (by omega)
def back (a : Nat) : Nat := inv (pre a)
theorem back_lt (a : Nat) (ha : a < 256) : back a < 256 := inv_lt _ (pre_lt a ha)
theorem pre_aff (b : Nat) (hb : b < 256) : pre (aff b) = b := by
  have : ∀ b : Fin 256, pre (aff b.val) = b.val := by decide +kernel
  exact this ⟨b, hb⟩
theorem aff_pre (b : Nat) (hb : b < 256) : aff (pre b) = b := by
  have : ∀ b : Fin 256, aff (pre b.val) = b.val := by decide +kernel
  exact this ⟨b, hb⟩
theorem inv_inv (a : Nat) (ha : a < 256) : inv (inv a) = a := by
  by_cases h0 : a = 0
  · subst h0; rw [inv_zero, inv_zero]
  · have h1 := gm_inv a ha h0
    rw [gm_comm _ _ ha (inv_lt a ha)] at h1
    exact (inv_unique (inv a) a (inv_lt a ha) ha h1).symm
theorem back_sub (a : Nat) (ha : a < 256) : back (sub a) = a := by
  unfold back sub
  rw [pre_aff _ (inv_lt a ha), inv_inv a ha]
theorem sub_back (a : Nat) (ha : a < 256) : sub (back a) = a := by
  unfold back sub
  rw [inv_inv _ (pre_lt a ha), aff_pre a ha]
theorem sub_inj (a b : Nat) (ha : a < 256) (hb : b < 256) : sub a = sub b ↔ a = b :=
  ⟨fun h => by rw [← back_sub a ha, h, back_sub b hb], fun h => by rw [h]⟩
theorem inv_ps (a : Nat) (ha : a < 256) : inv a = ps 8 1 a 254 := pw_ps a 254 ha (by omega)
theorem sub_own (a : Nat) (ha : a < 256) : sub a ≠ a ∧ sub a ≠ 255 - a := by
  have : ∀ a : Fin 256, aff (ps 8 1 a.val 254) ≠ a.val ∧ aff (ps 8 1 a.val 254) ≠ 255 - a.val := by decide +kernel
  unfold sub
  rw [inv_ps a ha]
  exact this ⟨a, ha⟩
end Go.Proofs.Ytfmgpnaahkpmiaa.Gal
