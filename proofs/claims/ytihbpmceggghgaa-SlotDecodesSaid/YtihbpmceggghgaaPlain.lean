/- Plain laws on lists of bytes: no program in sight. -/
namespace Go.Proofs.Ytihbpmceggghgaa

theorem take_snoc (l : List UInt8) (k : Nat) (h : k < l.length) : l.take (k + 1) = l.take k ++ [l.getD k 0] := by
  rw [List.take_succ_eq_append_getElem h]; simp [List.getD, List.getElem?_eq_getElem h]

/-- Induction from a list's end. -/
theorem rev_ind {α : Type} {P : List α → Prop} (h0 : P []) (h1 : ∀ l x, P l → P (l ++ [x])) (l : List α) : P l := by
  have : ∀ n, ∀ l : List α, l.length = n → P l := by
    intro n
    induction n with
    | zero => intro l hl; rw [List.eq_nil_of_length_eq_zero hl]; exact h0
    | succ n ih =>
      intro l hl
      have hne : l ≠ [] := by intro e; subst e; simp at hl
      rw [← List.dropLast_concat_getLast hne]
      exact h1 _ _ (ih _ (by simp [hl]))
  exact this _ l rfl

/-- The number of some bytes. -/
def num (l : List UInt8) : Nat := l.foldl (fun a x => 256 * a + x.toNat) 0
theorem num_snoc (l : List UInt8) (x : UInt8) : num (l ++ [x]) = 256 * num l + x.toNat := by simp [num]
theorem num_nil : num [] = 0 := rfl
theorem num_lt (l : List UInt8) : num l < 256 ^ l.length := by
  induction l using rev_ind with
  | h0 => simp [num]
  | h1 l x ih => rw [num_snoc, List.length_append, List.length_singleton, Nat.pow_succ]; have := x.toNat_lt; omega
theorem num_step (l : List UInt8) (k : Nat) (x : UInt8) (h : k < l.length) (hx : l.getD k 0 = x) : num (l.take (k + 1)) = 256 * num (l.take k) + x.toNat := by
  rw [take_snoc l k h, num_snoc, hx]
theorem num_take_lt7 (l : List UInt8) (k : Nat) (hk : k ≤ 7) : num (l.take k) < 72057594037927936 := by
  have hb := num_lt (l.take k)
  have hp : 256 ^ (l.take k).length ≤ 256 ^ 7 := Nat.pow_le_pow_right (by omega) (by simp; omega)
  omega
theorem num_lt8 (l : List UInt8) (hk : l.length ≤ 8) : num l < 18446744073709551616 := by
  have hb := num_lt l
  have hp : 256 ^ l.length ≤ 256 ^ 8 := Nat.pow_le_pow_right (by omega) hk
  omega

/-- The lowest 'size' bytes of a number, the highest first. -/
def be (n : Nat) : Nat → List UInt8
  | 0 => []
  | k + 1 => UInt8.ofNat (n / 256 ^ k) :: be n k
theorem be_length (n k : Nat) : (be n k).length = k := by induction k with
  | zero => rfl
  | succ k ih => simp [be, ih]

theorem or_zero_iff (a b : Nat) : a ||| b = 0 ↔ a = 0 ∧ b = 0 := Nat.or_eq_zero_iff
theorem xor_zero (a b : UInt8) : a.toNat ^^^ b.toNat = 0 ↔ a = b := by
  rw [← UInt8.toNat_xor, ← UInt8.toNat_inj]
  constructor
  · intro h
    have h2 : a ^^^ b = 0 := UInt8.toNat_inj.1 (by rw [h]; rfl)
    have h3 : (a ^^^ b) ^^^ b = 0 ^^^ b := by rw [h2]
    rw [UInt8.xor_assoc, UInt8.xor_self, UInt8.xor_zero, UInt8.zero_xor] at h3
    rw [h3]
  · intro h
    rw [UInt8.toNat_inj] at h; subst h
    rw [UInt8.xor_self]; rfl
theorem take_eq_step (l l' : List UInt8) (k : Nat) (x y : UInt8) (h : k < l.length) (h' : k < l'.length) (hx : l.getD k 0 = x) (hy : l'.getD k 0 = y) :
    l.take (k + 1) = l'.take (k + 1) ↔ l.take k = l'.take k ∧ x = y := by
  rw [take_snoc l k h, take_snoc l' k h', hx, hy]
  constructor
  · intro e
    have := List.append_inj' e rfl
    exact ⟨this.1, by simpa using this.2⟩
  · rintro ⟨e1, e2⟩
    rw [e1, e2]

/-- Are all of them 0? -/
def zeros (l : List UInt8) : Bool := l.all (· == 0)
theorem zeros_snoc (l : List UInt8) (x : UInt8) : zeros (l ++ [x]) = (zeros l && x == 0) := by simp [zeros]
theorem zeros_step (l : List UInt8) (k : Nat) (x : UInt8) (h : k < l.length) (hx : l.getD k 0 = x) : zeros (l.take (k + 1)) = (zeros (l.take k) && x == 0) := by
  rw [take_snoc l k h, zeros_snoc, hx]
/-- All of them, one or the other. -/
def ors (l : List UInt8) : UInt8 := l.foldl (· ||| ·) 0
theorem ors_snoc (l : List UInt8) (x : UInt8) : ors (l ++ [x]) = ors l ||| x := by simp [ors]
theorem ors_step (l : List UInt8) (k : Nat) (x : UInt8) (h : k < l.length) (hx : l.getD k 0 = x) : ors (l.take (k + 1)) = ors (l.take k) ||| x := by
  rw [take_snoc l k h, ors_snoc, hx]
theorem u8_or_zero (a b : UInt8) : a ||| b = 0 ↔ a = 0 ∧ b = 0 := by
  rw [← UInt8.toNat_inj, UInt8.toNat_or]
  show a.toNat ||| b.toNat = 0 ↔ _
  rw [or_zero_iff, ← UInt8.toNat_inj, ← UInt8.toNat_inj (a := b)]
  rfl
theorem ors_zeros (l : List UInt8) : (ors l).toNat = 0 ↔ zeros l = true := by
  have e : (ors l).toNat = 0 ↔ ors l = 0 := by rw [← UInt8.toNat_inj]; rfl
  rw [e]
  clear e
  induction l using rev_ind with
  | h0 => simp [ors, zeros]
  | h1 l x ih =>
    have ih' : ors l = 0 ↔ zeros l = true := ih
    rw [ors_snoc, zeros_snoc, u8_or_zero, ih']; simp
/-- Bit by bit, as many as the shorter has. -/
def xors (l m : List UInt8) : List UInt8 := List.zipWith (· ^^^ ·) l m
theorem xors_length (l m : List UInt8) : (xors l m).length = min l.length m.length := by simp [xors]
theorem xors_step (l m : List UInt8) (k : Nat) (x y : UInt8) (h : k < l.length) (h' : k < m.length) (hx : l.getD k 0 = x) (hy : m.getD k 0 = y) :
    xors (l.take (k + 1)) (m.take (k + 1)) = xors (l.take k) (m.take k) ++ [x ^^^ y] := by
  rw [take_snoc l k h, take_snoc m k h', hx, hy]
  unfold xors
  rw [List.zipWith_append (by simp; omega)]
  rfl
theorem zeros_xors : ∀ (l m : List UInt8), l.length = m.length → (zeros (xors l m) = true ↔ l = m)
  | [], [], _ => by simp [xors, zeros]
  | x :: l, y :: m, h => by
    have ih := zeros_xors l m (by simpa using h)
    have e : zeros (xors (x :: l) (y :: m)) = (((x ^^^ y) == 0) && zeros (xors l m)) := by simp [xors, zeros]
    rw [e, Bool.and_eq_true, ih, beq_iff_eq, List.cons.injEq]
    have : x ^^^ y = 0 ↔ x = y := by
      rw [← xor_zero x y, ← UInt8.toNat_xor, ← UInt8.toNat_inj]; rfl
    rw [this]
  | [], _ :: _, h => by simp at h
  | _ :: _, [], h => by simp at h
theorem ors_xors (l m : List UInt8) (h : l.length = m.length) : ((ors (xors l m)).toNat == 0) = (l == m) := by
  rw [Bool.eq_iff_iff, beq_iff_eq, ors_zeros, zeros_xors l m h, beq_iff_eq]
theorem bit_step (a b i : Nat) : (a ^^^ b) / 2 ^ i = 2 * ((a ^^^ b) / 2 ^ (i + 1)) + (if a / 2 ^ i % 2 = b / 2 ^ i % 2 then 0 else 1) := by
  have e : (a ^^^ b) / 2 ^ i % 2 = if a / 2 ^ i % 2 = b / 2 ^ i % 2 then 0 else 1 := by
    have h := Nat.testBit_xor a b i
    simp only [Nat.testBit_eq_decide_div_mod_eq] at h
    have h1 := Nat.mod_two_eq_zero_or_one (a / 2 ^ i)
    have h2 := Nat.mod_two_eq_zero_or_one (b / 2 ^ i)
    have h3 := Nat.mod_two_eq_zero_or_one ((a ^^^ b) / 2 ^ i)
    rcases h1 with h1 | h1 <;> rcases h2 with h2 | h2 <;> rcases h3 with h3 | h3 <;> simp_all
  have hd : (a ^^^ b) / 2 ^ (i + 1) = (a ^^^ b) / 2 ^ i / 2 := by rw [Nat.pow_succ, Nat.div_div_eq_div_mul]
  omega

theorem tmod_bit (a k : Nat) : ((a : Int) / 2 ^ k).tmod 2 = ((a / 2 ^ k % 2 : Nat) : Int) := by
  have e : ((a : Int) / 2 ^ k) = ((a / 2 ^ k : Nat) : Int) := by simp
  rw [e, Int.tmod_eq_emod_of_nonneg (Int.natCast_nonneg _)]
  rfl

/-- The digits of a number below 16. -/
def dig (n : Nat) : UInt8 := if n < 10 then UInt8.ofNat (48 + n) else UInt8.ofNat (87 + n)
/-- The number of a digit; 16: it is none. -/
def undig (c : UInt8) : Nat := if 48 ≤ c.toNat ∧ c.toNat ≤ 57 then c.toNat - 48 else if 97 ≤ c.toNat ∧ c.toNat ≤ 102 then c.toNat - 87 else 16
theorem undig_le (c : UInt8) : undig c ≤ 16 := by unfold undig; (repeat' split) <;> omega
theorem set_zeros (k : Nat) (x : UInt8) (L : List UInt8) : (List.replicate (k + 1) (0 : UInt8) ++ L).set k x = List.replicate k 0 ++ x :: L := by
  induction k with
  | zero => rfl
  | succ k ih => rw [List.replicate_succ, List.cons_append, List.set_cons_succ, ih]; rfl
theorem div256 (n j : Nat) : n / 256 ^ j / 256 = n / 256 ^ (j + 1) := by rw [Nat.pow_succ, Nat.div_div_eq_div_mul]
theorem be_succ (n j : Nat) : be n (j + 1) = UInt8.ofNat (n / 256 ^ j) :: be n j := rfl
/-- Two digits a byte. -/
def hex (l : List UInt8) : List UInt8 := l.flatMap fun x => [dig (x.toNat / 16), dig (x.toNat % 16)]
theorem hex_snoc (l : List UInt8) (x : UInt8) : hex (l ++ [x]) = hex l ++ [dig (x.toNat / 16), dig (x.toNat % 16)] := by simp [hex]
theorem hex_step (l : List UInt8) (k : Nat) (x : UInt8) (h : k < l.length) (hx : l.getD k 0 = x) : hex (l.take (k + 1)) = hex (l.take k) ++ [dig (x.toNat / 16), dig (x.toNat % 16)] := by
  rw [take_snoc l k h, hex_snoc, hx]
theorem hex_length (l : List UInt8) : (hex l).length = 2 * l.length := by
  induction l with
  | nil => rfl
  | cons x l ih =>
    have e : hex (x :: l) = dig (x.toNat / 16) :: dig (x.toNat % 16) :: hex l := rfl
    rw [e, List.length_cons, List.length_cons, ih, List.length_cons]; omega
theorem dig_at : ∀ i : Fin 16, (⟨#[48, 49, 50, 51, 52, 53, 54, 55, 56, 57, 97, 98, 99, 100, 101, 102]⟩ : ByteArray)[i.val]'(i.isLt) = dig i.val := by decide
/-- The digit at a number's place of the text of digits. -/
theorem dig_atI (z : Int) (n : Nat) (e : z.toNat = n) (hn : n < 16) (h : z.toNat < (⟨#[48, 49, 50, 51, 52, 53, 54, 55, 56, 57, 97, 98, 99, 100, 101, 102]⟩ : ByteArray).size) :
    (⟨#[48, 49, 50, 51, 52, 53, 54, 55, 56, 57, 97, 98, 99, 100, 101, 102]⟩ : ByteArray)[z.toNat]'h = dig n := by
  subst e
  exact dig_at ⟨_, hn⟩
theorem num_cons (x : UInt8) (l : List UInt8) : num (x :: l) = x.toNat * 256 ^ l.length + num l := by
  induction l using rev_ind with
  | h0 => simp [num]
  | h1 l y ih =>
    have ih' : num (x :: l) = x.toNat * 256 ^ l.length + num l := ih
    rw [← List.cons_append, num_snoc, num_snoc, ih', List.length_append, List.length_singleton, Nat.pow_succ, Nat.mul_add, ← Nat.mul_assoc, ← Nat.mul_assoc]
    have : x.toNat * 256 ^ l.length * 256 = 256 * x.toNat * 256 ^ l.length := by rw [Nat.mul_comm _ 256, Nat.mul_assoc]
    omega
theorem num_be (n k : Nat) : num (be n k) = n % 256 ^ k := by
  induction k with
  | zero => simp [be, num, Nat.mod_one]
  | succ k ih =>
    rw [be_succ, num_cons, be_length, ih]
    have e1 : (UInt8.ofNat (n / 256 ^ k)).toNat = n / 256 ^ k % 256 := by simp
    rw [e1, Nat.pow_succ, Nat.mod_mul, Nat.mul_comm]
    omega
theorem num_be_lt (n k : Nat) (h : n < 256 ^ k) : num (be n k) = n := by rw [num_be, Nat.mod_eq_of_lt h]
theorem be_mod (k : Nat) : ∀ (n m : Nat), n % 256 ^ k = m % 256 ^ k → be n k = be m k := by
  induction k with
  | zero => intro n m _; rfl
  | succ k ih =>
    intro n m h
    rw [be_succ, be_succ]
    have h1 : n % 256 ^ k = m % 256 ^ k := by
      have := congrArg (· % 256 ^ k) h
      simpa [Nat.pow_succ, Nat.mod_mul_right_mod] using this
    have h2 : n / 256 ^ k % 256 = m / 256 ^ k % 256 := by
      rw [Nat.pow_succ, Nat.mod_mul, Nat.mod_mul, h1] at h
      have hp : 0 < 256 ^ k := Nat.pow_pos (by omega)
      exact Nat.eq_of_mul_eq_mul_left hp (by omega)
    rw [ih n m h1]
    congr 1
    rw [← UInt8.toNat_inj]
    simpa using h2
theorem be_num (l : List UInt8) : be (num l) l.length = l := by
  induction l with
  | nil => rfl
  | cons x l ih =>
    have hl := num_lt l
    have hp : 0 < 256 ^ l.length := Nat.pow_pos (by omega)
    have e1 : num (x :: l) / 256 ^ l.length = x.toNat := by
      rw [num_cons, Nat.mul_comm, Nat.mul_add_div hp, Nat.div_eq_of_lt hl]; omega
    rw [List.length_cons, be_succ, e1]
    have e2 : be (num (x :: l)) l.length = l := by
      rw [be_mod l.length (num (x :: l)) (num l) (by rw [num_cons, Nat.mul_comm, Nat.mul_add_mod]), ih]
    rw [e2]
    congr 1
    simp
theorem pow_256 (s : Nat) : (2 : Nat) ^ (8 * s) = 256 ^ s := by rw [Nat.pow_mul]
theorem dig_cut : ∀ i : Fin 16, (⟨#[48, 49, 50, 51, 52, 53, 54, 55, 56, 57, 97, 98, 99, 100, 101, 102]⟩ : ByteArray).extract i.val (i.val + 1) = ⟨#[dig i.val]⟩ := by decide
/-- Are the first k bytes digits? -/
def digs (l : List UInt8) (k : Nat) : Prop := ∀ j, j < k → undig (l.getD j 0) ≤ 15
/-- The first k bytes that pairs of digits tell. -/
def unhexN (l : List UInt8) (k : Nat) : List UInt8 := (List.range k).map fun i => UInt8.ofNat (16 * undig (l.getD (2 * i) 0) + undig (l.getD (2 * i + 1) 0))
theorem unhexN_length (l : List UInt8) (k : Nat) : (unhexN l k).length = k := by simp [unhexN]
theorem unhexN_succ (l : List UInt8) (k : Nat) (x y : UInt8) (hx : l.getD (2 * k) 0 = x) (hy : l.getD (2 * k + 1) 0 = y) : unhexN l (k + 1) = unhexN l k ++ [UInt8.ofNat (16 * undig x + undig y)] := by
  unfold unhexN
  rw [List.range_succ, List.map_append, List.map_singleton, hx, hy]
theorem digs_or (l : List UInt8) : ∀ n : Nat, digs l n ∨ ∃ i, i < n ∧ digs l i ∧ 15 < undig (l.getD i 0)
  | 0 => .inl fun _ h => by omega
  | n + 1 => by
    rcases digs_or l n with h | ⟨i, hi, h1, h2⟩
    · by_cases hn : undig (l.getD n 0) ≤ 15
      · left
        intro j hj
        rcases Nat.lt_or_ge j n with h' | h'
        · exact h j h'
        · obtain rfl : j = n := by omega
          exact hn
      · exact .inr ⟨n, by omega, h, by omega⟩
    · exact .inr ⟨i, by omega, h1, h2⟩
theorem undig_dig : ∀ i : Fin 16, undig (dig i.val) = i.val := by decide
theorem dig_undig (c : UInt8) (h : undig c ≤ 15) : dig (undig c) = c := by
  unfold undig at h ⊢
  have hc := c.toNat_lt
  by_cases h1 : 48 ≤ c.toNat ∧ c.toNat ≤ 57
  · rw [if_pos h1]
    unfold dig
    rw [if_pos (by omega), show 48 + (c.toNat - 48) = c.toNat by omega]
    simp
  · rw [if_neg h1] at h ⊢
    by_cases h2 : 97 ≤ c.toNat ∧ c.toNat ≤ 102
    · rw [if_pos h2]
      unfold dig
      rw [if_neg (by omega), show 87 + (c.toNat - 87) = c.toNat by omega]
      simp
    · rw [if_neg h2] at h; omega
theorem hex_even : ∀ (l : List UInt8) (i : Nat), i < l.length → (hex l).getD (2 * i) 0 = dig ((l.getD i 0).toNat / 16) ∧ (hex l).getD (2 * i + 1) 0 = dig ((l.getD i 0).toNat % 16)
  | [], i, h => by simp at h
  | x :: l, 0, _ => ⟨rfl, rfl⟩
  | x :: l, i + 1, h => by
    have ih := hex_even l i (by simpa using h)
    have e : hex (x :: l) = dig (x.toNat / 16) :: dig (x.toNat % 16) :: hex l := rfl
    rw [e]
    exact ih
theorem hex_digs (l : List UInt8) : digs (hex l) (2 * l.length) := by
  intro j hj
  obtain ⟨h1, h2⟩ := hex_even l (j / 2) (by omega)
  have hx := (l.getD (j / 2) 0).toNat_lt
  rcases Nat.mod_two_eq_zero_or_one j with h | h
  · rw [show j = 2 * (j / 2) by omega, h1]
    have := undig_dig ⟨(l.getD (j / 2) 0).toNat / 16, by omega⟩
    simp only at this
    omega
  · rw [show j = 2 * (j / 2) + 1 by omega, h2]
    have := undig_dig ⟨(l.getD (j / 2) 0).toNat % 16, by omega⟩
    simp only at this
    omega
theorem unhex_hex (l : List UInt8) : unhexN (hex l) l.length = l := by
  apply List.ext_getElem
  · rw [unhexN_length]
  · intro i h1 h2
    have hx := l[i].toNat_lt
    obtain ⟨e1, e2⟩ := hex_even l i h2
    have e3 : l.getD i 0 = l[i] := by simp [List.getD, List.getElem?_eq_getElem h2]
    rw [e3] at e1 e2
    simp only [unhexN, List.getElem_map, List.getElem_range]
    rw [e1, e2]
    have d1 := undig_dig ⟨l[i].toNat / 16, by omega⟩
    have d2 := undig_dig ⟨l[i].toNat % 16, by omega⟩
    simp only at d1 d2
    rw [d1, d2, show 16 * (l[i].toNat / 16) + l[i].toNat % 16 = l[i].toNat by omega]
    simp
theorem hex_unhex (s : List UInt8) (n : Nat) (hn : s.length = 2 * n) (hd : digs s s.length) : hex (unhexN s n) = s := by
  have hl : (hex (unhexN s n)).length = s.length := by rw [hex_length, unhexN_length, hn]
  apply List.ext_getElem hl
  intro j h1 h2
  have hj : j / 2 < n := by omega
  have hj' : j / 2 < (unhexN s n).length := by rw [unhexN_length]; exact hj
  obtain ⟨e1, e2⟩ := hex_even (unhexN s n) (j / 2) hj'
  have g : ∀ (l : List UInt8) (i : Nat) (h : i < l.length), l[i] = l.getD i 0 := fun l i h => by simp [List.getD, List.getElem?_eq_getElem h]
  have hu1 := hd (2 * (j / 2)) (by omega)
  have hu2 := hd (2 * (j / 2) + 1) (by omega)
  have ev : (unhexN s n).getD (j / 2) 0 = UInt8.ofNat (16 * undig (s.getD (2 * (j / 2)) 0) + undig (s.getD (2 * (j / 2) + 1) 0)) := by
    rw [← g _ _ hj']; simp [unhexN]
  have et : ((unhexN s n).getD (j / 2) 0).toNat = 16 * undig (s.getD (2 * (j / 2)) 0) + undig (s.getD (2 * (j / 2) + 1) 0) := by
    rw [ev, UInt8.toNat_ofNat']; exact Nat.mod_eq_of_lt (by omega)
  rw [et] at e1 e2
  rw [g _ _ h1, g _ _ h2]
  rcases Nat.mod_two_eq_zero_or_one j with h | h
  · have ej : j = 2 * (j / 2) := by omega
    rw [ej, e1, show (16 * undig (s.getD (2 * (j / 2)) 0) + undig (s.getD (2 * (j / 2) + 1) 0)) / 16 = undig (s.getD (2 * (j / 2)) 0) by omega, dig_undig _ hu1]
  · have ej : j = 2 * (j / 2) + 1 := by omega
    rw [ej, e2, show (16 * undig (s.getD (2 * (j / 2)) 0) + undig (s.getD (2 * (j / 2) + 1) 0)) % 16 = undig (s.getD (2 * (j / 2) + 1) 0) by omega, dig_undig _ hu2]
theorem xors_comm : ∀ (l m : List UInt8), xors l m = xors m l
  | [], [] => rfl
  | [], _ :: _ => rfl
  | _ :: _, [] => rfl
  | x :: l, y :: m => by
    have ih := xors_comm l m
    show (x ^^^ y) :: xors l m = (y ^^^ x) :: xors m l
    rw [ih, UInt8.xor_comm]
theorem xors_assoc : ∀ (l m k : List UInt8), xors (xors l m) k = xors l (xors m k)
  | [], _, _ => by simp [xors]
  | _ :: _, [], _ => by simp [xors]
  | _ :: _, _ :: _, [] => by simp [xors]
  | x :: l, y :: m, z :: k => by
    have ih := xors_assoc l m k
    show (x ^^^ y ^^^ z) :: xors (xors l m) k = (x ^^^ (y ^^^ z)) :: xors l (xors m k)
    rw [ih, UInt8.xor_assoc]
theorem xors_self_zeros (l : List UInt8) : zeros (xors l l) = true := (zeros_xors l l rfl).2 rfl
theorem xors_back : ∀ (l m : List UInt8), l.length = m.length → xors (xors l m) m = l
  | [], [], _ => rfl
  | x :: l, y :: m, h => by
    have ih := xors_back l m (by simpa using h)
    show (x ^^^ y ^^^ y) :: xors (xors l m) m = x :: l
    rw [ih, UInt8.xor_assoc, UInt8.xor_self, UInt8.xor_zero]
  | [], _ :: _, h => by simp at h
  | _ :: _, [], h => by simp at h
theorem zeros_xors_beq (l m : List UInt8) (h : l.length = m.length) : zeros (xors l m) = (l == m) := by
  rw [Bool.eq_iff_iff, zeros_xors l m h, beq_iff_eq]
end Go.Proofs.Ytihbpmceggghgaa
