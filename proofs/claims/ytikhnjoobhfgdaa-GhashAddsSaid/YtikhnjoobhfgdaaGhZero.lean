/- No product of two elements but 0 is 0, in the field of 2^128 elements: no program in sight. -/
import Derived.Test.YtikhnjoobhfgdaaGhPlain
namespace Go.Proofs.Ytikhnjoobhfgdaa

def gsq (a : Nat) : Nat := gmul a a
theorem gsq_lt {a : Nat} (h : a < 2 ^ 128) : gsq a < 2 ^ 128 := gmul_lt h
theorem gsq_xor (a b : Nat) (ha : a < 2 ^ 128) (hb : b < 2 ^ 128) : gsq (a ^^^ b) = gsq a ^^^ gsq b := by
  unfold gsq
  rw [gmul_xor_left, gmul_xor_right, gmul_xor_right, gmul_comm b a hb ha]
  apply Nat.eq_of_testBit_eq; intro i; simp only [Nat.testBit_xor]
  cases (gmul a a).testBit i <;> cases (gmul a b).testBit i <;> cases (gmul b b).testBit i <;> rfl
theorem gsq_mul (a b : Nat) (ha : a < 2 ^ 128) (hb : b < 2 ^ 128) : gsq (gmul a b) = gmul (gsq a) (gsq b) := by
  unfold gsq
  rw [gmul_assoc a b _ ha hb (gmul_lt hb), ← gmul_assoc b a b hb ha hb, gmul_comm b a hb ha, gmul_assoc a b b ha hb hb, gmul_assoc a a _ ha ha (gmul_lt hb)]
def gsqs : Nat → Nat → Nat
  | 0, a => a
  | k + 1, a => gsq (gsqs k a)
theorem gsqs_lt {a : Nat} (k : Nat) (h : a < 2 ^ 128) : gsqs k a < 2 ^ 128 := by
  induction k with
  | zero => exact h
  | succ k ih => exact gsq_lt ih
theorem gsqs_xor (k a b : Nat) (ha : a < 2 ^ 128) (hb : b < 2 ^ 128) : gsqs k (a ^^^ b) = gsqs k a ^^^ gsqs k b := by
  induction k with
  | zero => rfl
  | succ k ih => simp only [gsqs]; rw [ih, gsq_xor _ _ (gsqs_lt k ha) (gsqs_lt k hb)]
theorem gsqs_mul (k a b : Nat) (ha : a < 2 ^ 128) (hb : b < 2 ^ 128) : gsqs k (gmul a b) = gmul (gsqs k a) (gsqs k b) := by
  induction k with
  | zero => rfl
  | succ k ih => simp only [gsqs]; rw [ih, gsq_mul _ _ (gsqs_lt k ha) (gsqs_lt k hb)]
theorem gsqs_zero (k : Nat) : gsqs k 0 = 0 := by
  induction k with
  | zero => rfl
  | succ k ih => simp only [gsqs]; rw [ih]; exact zero_gmul 0
theorem gsqs_one (k : Nat) : gsqs k gone = gone := by
  induction k with
  | zero => rfl
  | succ k ih => simp only [gsqs]; rw [ih]; exact one_gmul gone

/-- The same, as the kernel counts it: one pass over the bits. -/
def fmul : Nat → Nat → Nat → Nat → Nat
  | 0, _, _, s => s
  | k + 1, x, y, s => fmul k x (Nat.xor (Nat.div y 2) (Nat.mul (Nat.mod y 2) 0xe1000000000000000000000000000000)) (Nat.xor s (Nat.mul (Nat.mod (Nat.div x (Nat.pow 2 k)) 2) y))
theorem mul_gx (y : Nat) : Nat.xor (Nat.div y 2) (Nat.mul (Nat.mod y 2) 0xe1000000000000000000000000000000) = gx y := by
  show y / 2 ^^^ (y % 2 * 0xe1000000000000000000000000000000) = _
  unfold gx
  rcases Nat.mod_two_eq_zero_or_one y with h | h <;> simp [h]
theorem fmul_eq (x y : Nat) : ∀ k, k ≤ 128 → fmul k x (gxn (128 - k) y) (gsum x y (128 - k)) = gmul x y := by
  intro k
  induction k with
  | zero => intro _; rfl
  | succ k ih =>
    intro hk
    have ih' := ih (by omega)
    have e : 128 - k = (128 - (k + 1)) + 1 := by omega
    rw [e, gxn, gsum] at ih'
    rw [fmul, mul_gx]
    have e2 : gbit x (128 - (k + 1)) = x.testBit k := by unfold gbit; congr 1; omega
    have e3 : Nat.xor (gsum x y (128 - (k + 1))) (Nat.mul (Nat.mod (Nat.div x (Nat.pow 2 k)) 2) (gxn (128 - (k + 1)) y)) = gsum x y (128 - (k + 1)) ^^^ (if gbit x (128 - (k + 1)) then gxn (128 - (k + 1)) y else 0) := by
      show _ ^^^ (x / 2 ^ k % 2 * _) = _
      rw [e2, Nat.testBit_eq_decide_div_mod_eq]
      rcases Nat.mod_two_eq_zero_or_one (x / 2 ^ k) with h | h <;> simp [h]
    rw [e3]
    exact ih'
def fsqs : Nat → Nat → Nat
  | 0, a => a
  | k + 1, a => fsqs k (fmul 128 a a 0)
theorem fsq_eq (a : Nat) : fmul 128 a a 0 = gsq a := fmul_eq a a 128 (Nat.le_refl _)
theorem fsqs_eq (k : Nat) : ∀ a j, fsqs k (gsqs j a) = gsqs (j + k) a := by
  induction k with
  | zero => intro a j; rfl
  | succ k ih =>
    intro a j
    rw [fsqs, fsq_eq]
    show fsqs k (gsqs (j + 1) a) = _
    rw [ih a (j + 1), show j + 1 + k = j + (k + 1) by omega]
theorem x_2_128 : gsqs 128 (gx gone) = gx gone := by
  have h : fsqs 128 (gx gone) = gx gone := by decide +kernel
  have := fsqs_eq 128 (gx gone) 0
  rw [show gsqs 0 (gx gone) = gx gone from rfl, h] at this
  simpa using this.symm
theorem gx_eq (a : Nat) (ha : a < 2 ^ 128) : gx a = gmul (gx gone) a := by rw [gx_gmul _ _ gone_lt ha, one_gmul]
theorem frob (a : Nat) (h : a < 2 ^ 128) : gsqs 128 a = a := by
  have := gind (P := fun a => a < 2 ^ 128 ∧ gsqs 128 a = a) ⟨by decide, gsqs_zero 128⟩ ⟨gone_lt, gsqs_one 128⟩
    (fun x h => ⟨gx_lt h.1, by rw [gx_eq x h.1, gsqs_mul _ _ _ (gx_lt gone_lt) h.1, x_2_128, h.2]⟩)
    (fun a b h k => ⟨xor_lt h.1 k.1, by rw [gsqs_xor _ _ _ h.1 k.1, h.2, k.2]⟩) a h
  exact this.2

/-- A linear map that leads v*v + v back to v, less its coefficient of 1. -/
def gcols : List Nat := 
[0x0,
  0x4a2ade42a1db558927495c4d4e62fc1,
  0x35bd0e43ef6cf78dcef750ee63bd3171,
  0x41d77801d619af2a38dab35b297373a6,
  0x36dc3b3404788e15d4cfd6f8f5447461,
  0x7adc3b3404788e15d4cfd6f8f5447467,
  0x5f67891c31b7edb03c86875f90384d1c,
  0x646cca29e3d6cc8fd093e2fc4c0f4ad5,
  0x51eae8be2fe60df61bf9191de1788d94,
  0x36e717e02724b8e1d1527df73b8e8241,
  0x5f86cdbc744e28fe3430f49ddf071154,
  0x2561da5c536a901fe562896ae4899333,
  0x99a6e1cca2f8641a0b0910804c90841,
  0x2cfbb4409945165e45d21862e0409b32,
  0xd94d9da18080030c4db699e5dc0,
  0x197d9b438cafcf2f8e88275824a90133,
  0x645919a4b35879f7d7a68d71cb5770d5,
  0x7348a7e5645f93d076e747a9d181ec26,
  0x602105ae977251e64834e0c2dd2d5a94,
  0x2c14dbb71e26fc964f314b9433eb3eb2,
  0x44eaa59bd8819a999287fa5ed58ad81,
  0x77dcb1c60e3ad5c9e2190477682adba7,
  0x701c741cbd9fc8b06b94eadf79b8c426,
  0x46f806225397f491bb49eab33e4cf467,
  0x79b07befedd921e9cd751ec18ebeebe7,
  0x56f3167fe31302df9eb885b869165d55,
  0x6462e2cc93c28627d2d0526e0d66c2d5,
  0x1a24eaaa541c8b0f9092b01169688933,
  0x4bf6a9a1f02e1f698fec4b1a74166be7,
  0x21ce3a83c07744de74dad50f0d583b32,
  0x634efa836deeebf650dae654442b4894,
  0x224d20acccef41ee67fd0ac2e3641972,
  0x4bf8b9d33b8f38198de17cdee54751e7,
  0x698e6217d7fa8627ef6aa903c013fa95,
  0x457534e82f16f649aa2d862c91005ba7,
  0x144558bb6c9dfcd7bc4c239cf48626f3,
  0x3cfddc25f2ae2df86391fd8d3387a7c0,
  0x2bd77bb364af6b3fc733d8875e039333,
  0x26d44eb77ddd535ff0b1c738de72bb33,
  0x6aef57603cdbfceff55228f556d54755,
  0x285aabc679b16ad7d6c2852abfdb1eb3,
  0x38e6217d7f479d8109554569546afc0,
  0x79880aa666d696d9c926622882fff1e7,
  0x312705524db61730583bcf844c342240,
  0x5c33b52f8947e9462158188b7248d294,
  0x3bdc8ad604b36599e246fae899f68fc1,
  0x72ccff3fd3d186182e1ce9a41041041,
  0x5252e8c1d3a8e3be0d2c5beb59e57554,
  0x489a0b11781e0c1196cc4fdebc394c27,
  0x1af0929920b9589f9fb368dce89d2373,
  0x2f76850d57908a5e54a716d46cf0bb32,
  0x3f46b4c41d7d395874f4e33b9d331780,
  0x7986f6afcfc951e9cb9188c1a5beebe7,
  0x258e6f54bc4bf6f7ef54f70e70ef2ef3,
  0x55aabdbeec28a2078079924a4cd2f295,
  0x229a33517c61d3ee69739a8be16c1972,
  0x49a065cd7758d5196f0e3578d383201,
  0x428019a10caacb8824c8241264b2fba6,
  0x4622ba58b211bb21b69fb337b1785627,
  0x5cea6fd5b105659e2d1ccaeb5d2c7d54,
  0x36e9eb0be64d6b99d3ec2e5e502bb781,
  0x5ce7c3e3d68e47f62e5390ab45fe70d4,
  0x329f337db88e12004e8e904902080000,
  0x48afd66e759a994991d0e977a9aa5ba7,
  0x4a2ade42a1db559927495c4d4e62fc1,
  0x41d77801d619af2838dab35b297373a6,
  0x7adc3b3404788e11d4cfd6f8f5447467,
  0x646cca29e3d6cc87d093e2fc4c0f4ad5,
  0x36e717e02724b8f1d1527df73b8e8241,
  0x2561da5c536a903fe562896ae4899333,
  0x2cfbb4409945161e45d21862e0409b32,
  0x197d9b438cafcfaf8e88275824a90133,
  0x7348a7e5645f92d076e747a9d181ec26,
  0x2c14dbb71e26fe964f314b9433eb3eb2,
  0x77dcb1c60e3ad1c9e2190477682adba7,
  0x46f806225397fc91bb49eab33e4cf467,
  0x56f3167fe31312df9eb885b869165d55,
  0x1a24eaaa541cab0f9092b01169688933,
  0x21ce3a83c07704de74dad50f0d583b32,
  0x224d20acccefc1ee67fd0ac2e3641972,
  0x698e6217d7fb8627ef6aa903c013fa95,
  0x144558bb6c9ffcd7bc4c239cf48626f3,
  0x2bd77bb364ab6b3fc733d8875e039333,
  0x6aef57603cd3fceff55228f556d54755,
  0x38e6217d7e479d8109554569546afc0,
  0x312705524d961730583bcf844c342240,
  0x3bdc8ad604f36599e246fae899f68fc1,
  0x5252e8c1d328e3be0d2c5beb59e57554,
  0x1af0929921b9589f9fb368dce89d2373,
  0x3f46b4c41f7d395874f4e33b9d331780,
  0x258e6f54b84bf6f7ef54f70e70ef2ef3,
  0x229a33517461d3ee69739a8be16c1972,
  0x428019a11caacb8824c8241264b2fba6,
  0x5cea6fd59105659e2d1ccaeb5d2c7d54,
  0x5ce7c3e3968e47f62e5390ab45fe70d4,
  0x48afd66ef59a994991d0e977a9aa5ba7,
  0x41d77800d619af2838dab35b297373a6,
  0x646cca2be3d6cc87d093e2fc4c0f4ad5,
  0x2561da58536a903fe562896ae4899333,
  0x197d9b4b8cafcfaf8e88275824a90133,
  0x2c14dba71e26fe964f314b9433eb3eb2,
  0x46f806025397fc91bb49eab33e4cf467,
  0x1a24eaea541cab0f9092b01169688933,
  0x224d202cccefc1ee67fd0ac2e3641972,
  0x144559bb6c9ffcd7bc4c239cf48626f3,
  0x6aef55603cd3fceff55228f556d54755,
  0x312701524d961730583bcf844c342240,
  0x5252e0c1d328e3be0d2c5beb59e57554,
  0x3f46a4c41f7d395874f4e33b9d331780,
  0x229a13517461d3ee69739a8be16c1972,
  0x5cea2fd59105659e2d1ccaeb5d2c7d54,
  0x48af566ef59a994991d0e977a9aa5ba7,
  0x646dca2be3d6cc87d093e2fc4c0f4ad5,
  0x197f9b4b8cafcfaf8e88275824a90133,
  0x46fc06025397fc91bb49eab33e4cf467,
  0x2245202cccefc1ee67fd0ac2e3641972,
  0x6aff55603cd3fceff55228f556d54755,
  0x5272e0c1d328e3be0d2c5beb59e57554,
  0x22da13517461d3ee69739a8be16c1972,
  0x482f566ef59a994991d0e977a9aa5ba7,
  0x187f9b4b8cafcfaf8e88275824a90133,
  0x2045202cccefc1ee67fd0ac2e3641972,
  0x5672e0c1d328e3be0d2c5beb59e57554,
  0x402f566ef59a994991d0e977a9aa5ba7,
  0x3045202cccefc1ee67fd0ac2e3641972,
  0x602f566ef59a994991d0e977a9aa5ba7,
  0x202f566ef59a994991d0e977a9aa5ba7,
  0x10d04d25f93556e69f58ce2f8d035a94]
def glin : List Nat → Nat → Nat
  | [], _ => 0
  | c :: l, u => Nat.xor (Nat.mul (Nat.mod u 2) c) (glin l (Nat.div u 2))
theorem glin_xor (l : List Nat) : ∀ a b, glin l (a ^^^ b) = glin l a ^^^ glin l b := by
  induction l with
  | nil => intro a b; simp [glin]
  | cons c l ih =>
    intro a b
    show ((a ^^^ b) % 2 * c) ^^^ glin l ((a ^^^ b) / 2) = ((a % 2 * c) ^^^ glin l (a / 2)) ^^^ ((b % 2 * c) ^^^ glin l (b / 2))
    rw [xor_div2, ih, xor4]
    congr 1
    rw [xor_mod2]
    rcases Nat.mod_two_eq_zero_or_one a with h | h <;> rcases Nat.mod_two_eq_zero_or_one b with k | k <;> simp [h, k]
theorem glin_zero : glin gcols 0 = 0 := by decide +kernel
/-- An element less its coefficient of 1. -/
def gtail (v : Nat) : Nat := v % 2 ^ 127
theorem gtail_xor (a b : Nat) : gtail (a ^^^ b) = gtail a ^^^ gtail b := Nat.xor_mod_two_pow
theorem glin_basis : ∀ k, k < 128 → glin gcols (fmul 128 (2 ^ (127 - k)) (2 ^ (127 - k)) 0 ^^^ 2 ^ (127 - k)) = gtail (2 ^ (127 - k)) := by decide +kernel
theorem glin_back (v : Nat) (hv : v < 2 ^ 128) : glin gcols (gsq v ^^^ v) = gtail v := by
  have : ∀ k, k ≤ 128 → gsum v gone k < 2 ^ 128 ∧ glin gcols (gsq (gsum v gone k) ^^^ gsum v gone k) = gtail (gsum v gone k) := by
    intro k
    induction k with
    | zero => intro _; exact ⟨by show 0 < 2 ^ 128; decide, by show glin gcols (gsq 0 ^^^ 0) = gtail 0; decide +kernel⟩
    | succ k ih =>
      intro hk
      obtain ⟨h1, h2⟩ := ih (by omega)
      rw [gsum]
      split
      · have h3 := gxn_lt k gone_lt
        refine ⟨xor_lt h1 h3, ?_⟩
        have e := glin_basis k (by omega)
        rw [fsq_eq, ← gxn_one k (by omega)] at e
        rw [gsq_xor _ _ h1 h3, xor4, glin_xor, h2, gtail_xor, e]
      · simpa using ⟨h1, h2⟩
  have h := (this 128 (Nat.le_refl _)).2
  have e : gsum v gone 128 = v := gmul_one v hv
  rwa [e] at h
set_option maxRecDepth 4096 in
theorem idem (v : Nat) (hv : v < 2 ^ 128) (h : gsq v = v) : v = 0 ∨ v = gone := by
  have := glin_back v hv
  rw [h, Nat.xor_self, glin_zero] at this
  unfold gtail at this
  unfold gone
  omega

/-- x to the power 2^k - 1, less one x. -/
def gpw (x : Nat) : Nat → Nat
  | 0 => gone
  | k + 1 => gmul (gpw x k) (gsqs (k + 1) x)
theorem gpw_lt {x : Nat} (k : Nat) (h : x < 2 ^ 128) : gpw x k < 2 ^ 128 := by
  cases k with
  | zero => exact gone_lt
  | succ k => exact gmul_lt (gsqs_lt _ h)
theorem gpw_mul (x : Nat) (h : x < 2 ^ 128) (k : Nat) : gmul (gmul x (gpw x k)) x = gsqs (k + 1) x := by
  induction k with
  | zero => show gmul (gmul x gone) x = gsq x; rw [gmul_one x h]; rfl
  | succ k ih =>
    have a := gpw_lt k h
    have b := gsqs_lt (k + 1) h
    rw [gpw, ← gmul_assoc x _ _ h a b, gmul_assoc _ _ x (gmul_lt a) b h, gmul_comm _ x b h, ← gmul_assoc _ x _ (gmul_lt a) h b, ih]
    rfl
theorem gmul_none (x y : Nat) (hx : x < 2 ^ 128) (hy : y < 2 ^ 128) (h : gmul x y = 0) : x = 0 ∨ y = 0 := by
  have hw := gpw_lt 127 hx
  have he := gmul_lt (x := x) hw
  have hex : gmul (gmul x (gpw x 127)) x = x := by rw [gpw_mul x hx 127]; exact frob x hx
  have hee : gsq (gmul x (gpw x 127)) = gmul x (gpw x 127) := by
    have : gmul (gmul (gmul x (gpw x 127)) x) (gpw x 127) = gmul x (gpw x 127) := by rw [hex]
    rw [gmul_assoc _ x _ he hx hw] at this
    exact this
  rcases idem _ he hee with h0 | h0
  · left
    rw [← hex, h0, zero_gmul]
  · right
    rw [← one_gmul y, ← h0, gmul_comm x _ hx hw, gmul_assoc _ x y hw hx hy, h, gmul_zero]
end Go.Proofs.Ytikhnjoobhfgdaa
