/- The hash of two texts, as plain numbers: no program in sight. -/
import Derived.Test.YtikhnjoobhfgdaaGhRef
namespace Go.Proofs.Ytikhnjoobhfgdaa

/-- A text's first sixteen bytes, filled up with noughts. -/
def pad16 (l : List UInt8) : List UInt8 := l.take 16 ++ List.replicate (16 - l.length) 0
theorem pad16_length (l : List UInt8) : (pad16 l).length = 16 := by simp [pad16]; omega
/-- A text, taken up block by block. -/
def ghs (h : Nat) : Nat → Nat → List UInt8 → Nat
  | 0, s, _ => s
  | f + 1, s, l => if l.length = 0 then s else ghs h f (gmul (s ^^^ num (pad16 l)) h) (l.drop 16)
theorem ghs_fuel (h : Nat) : ∀ (f : Nat) (s : Nat) (l : List UInt8), l.length ≤ f → ghs h f s l = ghs h l.length s l := by
  intro f
  induction f using Nat.strongRecOn with
  | _ f ih =>
    intro s l hl
    cases f with
    | zero => rw [show l.length = 0 by omega]
    | succ f =>
      cases hn : l.length with
      | zero => simp [ghs, hn]
      | succ n =>
        rw [ghs, if_neg (by omega), ghs, if_neg (by omega)]
        have hd : (l.drop 16).length ≤ n := by rw [List.length_drop]; omega
        rw [ih f (by omega) _ _ (by omega)]
        rw [ih n (by omega) _ _ hd]
/-- The state behind a text. -/
def ght (h s : Nat) (l : List UInt8) : Nat := ghs h l.length s l
theorem ght_nil (h s : Nat) : ght h s [] = s := rfl
theorem ght_step (h s : Nat) (l : List UInt8) (hl : 0 < l.length) : ght h s l = ght h (gmul (s ^^^ num (pad16 l)) h) (l.drop 16) := by
  unfold ght
  obtain ⟨n, hn⟩ : ∃ n, l.length = n + 1 := ⟨l.length - 1, by omega⟩
  rw [hn, ghs, if_neg (by omega)]
  exact ghs_fuel h n _ _ (by rw [List.length_drop]; omega)
theorem ght_lt (h : Nat) (hh : h < 2 ^ 128) : ∀ (n s : Nat) (l : List UInt8), l.length ≤ n → s < 2 ^ 128 → ght h s l < 2 ^ 128 := by
  intro n
  induction n with
  | zero =>
    intro s l hl hs
    have : l = [] := List.eq_nil_of_length_eq_zero (by omega)
    rw [this]
    exact hs
  | succ n ih =>
    intro s l hl hs
    rcases Nat.eq_zero_or_pos l.length with h0 | h0
    · have : l = [] := List.eq_nil_of_length_eq_zero h0
      rw [this]
      exact hs
    · rw [ght_step h s l h0]
      exact ih _ _ (by rw [List.length_drop]; omega) (gmul_lt hh)
/-- The lengths' block. -/
def glens (a t : Nat) : Nat := 8 * a * 18446744073709551616 + 8 * t
/-- The hash. -/
def gfin (h : Nat) (a t : List UInt8) : Nat := gmul (ght h (ght h 0 a) t ^^^ glens a.length t.length) h
theorem gfin_lt (h : Nat) (a t : List UInt8) (hh : h < 2 ^ 128) : gfin h a t < 2 ^ 128 := gmul_lt hh
end Go.Proofs.Ytikhnjoobhfgdaa
