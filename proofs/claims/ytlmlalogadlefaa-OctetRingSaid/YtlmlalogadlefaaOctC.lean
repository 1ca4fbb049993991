/- Contracts: noughts as the reference has it; the same bytes as octet has it; two bytes bit by bit; digits. -/
import Derived.Test.YtlmlalogadlefaaOctB
set_option linter.unusedVariables false
namespace Go.Proofs.Ytlmlalogadlefaa
open Go.RowKit

theorem nat_beq0 (a : Nat) : ((a : Int) == 0) = (a == 0) := by rw [Bool.eq_iff_iff]; simp

set_option maxHeartbeats 400000 in
theorem refnought_any (A : Option Addr) (n c : Nat) (l : List UInt8) (w : World) (h : Rd w A n c l) :
    Calls Try.prog 26 #[.slice A n c] w fun e w' => e = .returned (.bool (zeros l)) ∧ w = w' := by
  have HL := Lib.hid h.len
  have hcm := h.cap
  have hcx := h.max
  unfold maxLen at hcx
  have HA := Lib.hid h.at_
  clear h
  go_enter Try.func26, Try.ntmps26
  go_wp2
  go_loop [3] (fun i => ∃ k : Nat, k ≤ n ∧ i = .int .i64 k ∧ zeros (l.take k) = true) (fun i => n - (intOf i).toNat)
  case atStart => exact ⟨0, Nat.zero_le _, rfl, rfl⟩
  case round =>
    obtain ⟨k, hk, rfl, hz⟩ := hrel
    have HZ := Lib.hid hz
    clear hz
    by_cases hlt : k < n
    · obtain ⟨b, o, rfl, hc⟩ := HA.out (by omega)
      have HC := Lib.hid hc
      clear hc
      obtain ⟨x, HX, hcell, hx⟩ := Rd.cellx HC k hlt
      have hnext := zeros_step l k x (by rw [← HL.out]; exact hlt) HX.out
      rw [HZ.out] at hnext
      by_cases hx0 : x = 0
      · subst hx0
        have HF := Lib.hid hnext
        clear hnext
        have h0 : ((UInt8.toNat 0 : Nat) : Int) = 0 := rfl
        rw [h0] at hcell
        clear h0
        go_wp2
        go_round
        case rel => exact ⟨k + 1, by omega, by go_num, by rw [HF.out]; rfl⟩
        case measure => simp [intOf]; omega
      · have hne : x.toNat ≠ 0 := by intro e; apply hx0; rw [← UInt8.toNat_inj]; exact e
        have hne' : ((x.toNat : Int) != 0) = true := by rw [bne_iff_ne]; omega
        have HF : Hid (zeros l = false) := by
          cases hzl : zeros l with
          | false => rfl
          | true =>
            exfalso
            have hall : ∀ y ∈ l, (y == 0) = true := by simpa [zeros] using hzl
            have hm : x ∈ l := by
              have hkl : k < l.length := by rw [← HL.out]; exact hlt
              have hX := HX.out
              rw [List.getD_eq_getElem?_getD, List.getElem?_eq_getElem hkl] at hX
              have : l[k] = x := hX
              rw [← this]; exact List.getElem_mem _
            have := hall x hm
            simp at this; exact hx0 this
        clear hnext hne hx0
        go_wp2
        go_ret
        exact ⟨by rw [HF.out]; rfl, rfl⟩
    · obtain rfl : k = n := by omega
      have HN : Hid (l.take k = l) := by rw [HL.out]; exact List.take_length
      go_wp2
      go_ret
      have := HZ.out
      rw [HN.out] at this
      exact ⟨by rw [this]; rfl, rfl⟩

theorem octsame_ne (A : Option Addr) (n c : Nat) (A' : Option Addr) (n' c' : Nat) (w : World) (hn : n ≠ n') (hm : n ≤ 9223372036854775807) (hm' : n' ≤ 9223372036854775807) :
    Calls Try.prog 24 #[.slice A n c, .slice A' n' c'] w fun e w' => e = .returned (.bool false) ∧ ∃ m, w' = w.drewN m := by
  have h1 : ((n : Int) != (n' : Int)) = true := by rw [bne_iff_ne]; omega
  clear hn
  go_enter Try.func24, Try.ntmps24
  go_wp2
  go_ret
  exact ⟨rfl, 0, rfl⟩
set_option maxHeartbeats 800000 in
theorem octsame_eq (A : Option Addr) (n c : Nat) (l : List UInt8) (A' : Option Addr) (c' : Nat) (l' : List UInt8) (w : World) (h : Rd w A n c l) (h' : Rd w A' n c' l') :
    Calls Try.prog 24 #[.slice A n c, .slice A' n c'] w fun e w' => e = .returned (.bool (l == l')) ∧ ∃ m, w' = w.drewN m := by
  have HL := Lib.hid h.len
  have HL' := Lib.hid h'.len
  have hcm := h.cap
  have hcx := h.max
  unfold maxLen at hcx
  have HA := Lib.hid h.at_
  have HA' := Lib.hid h'.at_
  clear h h'
  have h1 : ((n : Int) != (n : Int)) = false := by simp
  go_enter Try.func24, Try.ntmps24
  go_wp2
  go_loopw [5, 14] (fun m i wr => ∃ k q0 : Nat, k ≤ n ∧ i = .int .i64 k ∧ m = .int .u8 (ors (xors (l.take k) (l'.take k))).toNat ∧ wr = w.drewN q0) (fun _ i _ => n - (intOf i).toNat)
  case atStart => exact ⟨0, 0, Nat.zero_le _, rfl, rfl, rfl⟩
  case round =>
    obtain ⟨k, q0, hk, rfl, rfl, rfl⟩ := hrel
    by_cases hlt : k < n
    · obtain ⟨b, o, rfl, hc⟩ := HA.out (by omega)
      obtain ⟨b', o', rfl, hc'⟩ := HA'.out (by omega)
      have HC := Lib.hid hc
      have HC' := Lib.hid hc'
      clear hc hc'
      obtain ⟨x, HX, hcell, hx⟩ := Rd.cellx HC k hlt
      obtain ⟨y, HY, hcell', hy⟩ := Rd.cellx HC' k hlt
      have hnext := xors_step l l' k x y (by rw [← HL.out]; exact hlt) (by rw [← HL'.out]; exact hlt) HX.out HY.out
      have HF := Lib.hid hnext
      clear hnext
      obtain ⟨m, hm⟩ : ∃ m, m = ors (xors (l.take k) (l'.take k)) := ⟨_, rfl⟩
      have HM := Lib.hid hm
      rw [← hm]
      clear hm
      have hb := m.toNat_lt
      have hxo := u8_xor_nat x.toNat y.toNat (by omega) (by omega)
      have hb2 : x.toNat ^^^ y.toNat < 256 := by have := (x ^^^ y).toNat_lt; rw [UInt8.toNat_xor] at this; omega
      have hor := u8_or_nat m.toNat (x.toNat ^^^ y.toNat) (by omega) (by omega)
      have HOR := Lib.hid hor
      clear hor
      go_wp2
      go_quiet (fail)
      go_wp2
      go_roundw
      case rel => exact ⟨k + 1, _, by omega, by go_num, by rw [HF.out, ors_snoc, ← HM.out, UInt8.toNat_or, UInt8.toNat_xor, HOR.out], rfl⟩
      case measure => simp [intOf]; omega
    · obtain rfl : k = n := by omega
      have HN : Hid (l.take k = l) := by rw [HL.out]; exact List.take_length
      have HN' : Hid (l'.take k = l') := by rw [HL'.out]; exact List.take_length
      have HE : Hid (((ors (xors l l')).toNat == 0) = (l == l')) := ors_xors l l' (by rw [← HL.out, ← HL'.out])
      go_wp2
      go_ret
      refine ⟨?_, _, rfl⟩
      rw [← HE.out, HN.out, HN'.out, ← nat_beq0]
      rfl

set_option maxHeartbeats 800000 in
theorem bits_any (a b : UInt8) (w : World) :
    Calls Try.prog 32 #[.int .u8 a.toNat, .int .u8 b.toNat] w fun e w' => e = .returned (.int .u8 (a ^^^ b).toNat) ∧ ∃ m, w' = w.drewN m := by
  have HT : Hid ((a ^^^ b).toNat = a.toNat ^^^ b.toNat) := UInt8.toNat_xor a b
  have hxb : a.toNat ^^^ b.toNat < 256 := by have := (a ^^^ b).toNat_lt; rw [UInt8.toNat_xor] at this; omega
  have ha := a.toNat_lt
  have hb := b.toNat_lt
  obtain ⟨X, hX⟩ : ∃ X, X = a.toNat ^^^ b.toNat := ⟨_, rfl⟩
  rw [← hX] at hxb
  have HX := Lib.hid hX
  clear hX
  go_enter Try.func32, Try.ntmps32
  go_wp2
  go_loopw [5, 6] (fun c i wr => ∃ (k : Int) (q0 : Nat), -1 ≤ k ∧ k ≤ 7 ∧ i = .int .i64 k ∧ c = .int .u8 (X / 2 ^ (k + 1).toNat : Nat) ∧ wr = w.drewN q0) (fun _ i _ => (intOf i + 1).toNat)
  case atStart => exact ⟨7, 0, by omega, by omega, rfl, by rw [show ((7 : Int) + 1).toNat = 8 from rfl, Nat.div_eq_of_lt (by omega)]; rfl, rfl⟩
  case round =>
    obtain ⟨k, q0, hk, hk7, rfl, rfl, rfl⟩ := hrel
    by_cases hlt : 0 ≤ k
    · obtain ⟨k, rfl⟩ := Int.eq_ofNat_of_zero_le hlt
      have hst := bit_step a.toNat b.toNat k
      rw [← HX.out] at hst
      have e1 : ((k : Int) + 1).toNat = k + 1 := by omega
      rw [e1]
      clear e1
      obtain ⟨C, hC⟩ : ∃ C, C = X / 2 ^ (k + 1) := ⟨_, rfl⟩
      rw [← hC]
      have hCb : C ≤ 127 := by rw [hC, Nat.pow_succ]; have : X / (2 ^ k * 2) ≤ X / (1 * 2) := Nat.div_le_div_left (by have := Nat.one_le_two_pow (n := k); omega) (by omega); omega
      rw [← hC] at hst
      have HST := Lib.hid hst
      clear hst hC
      by_cases hbit : a.toNat / 2 ^ k % 2 = b.toNat / 2 ^ k % 2
      · have ht : (((a.toNat : Int) / 2 ^ k).tmod 2 != ((b.toNat : Int) / 2 ^ k).tmod 2) = false := by rw [tmod_bit, tmod_bit]; simp [hbit]
        have HE := HST.out
        rw [if_pos hbit] at HE
        have HF := Lib.hid HE
        clear HE HST hbit
        go_wp2
        go_quiet (fail)
        go_wp2
        go_roundw
        case rel => exact ⟨(k : Int) - 1, _, by omega, by omega, rfl, by rw [show ((k : Int) - 1 + 1).toNat = k by omega, HF.out]; go_num, rfl⟩
        case measure => first | (simp [intOf]; done) | (simp [intOf]; omega)
      · have ht : (((a.toNat : Int) / 2 ^ k).tmod 2 != ((b.toNat : Int) / 2 ^ k).tmod 2) = true := by rw [tmod_bit, tmod_bit, bne_iff_ne]; omega
        have HE := HST.out
        rw [if_neg hbit] at HE
        have HF := Lib.hid HE
        clear HE HST hbit
        go_wp2
        go_quiet (fail)
        go_wp2
        go_roundw
        case rel => exact ⟨(k : Int) - 1, _, by omega, by omega, rfl, by rw [show ((k : Int) - 1 + 1).toNat = k by omega, HF.out]; go_num, rfl⟩
        case measure => first | (simp [intOf]; done) | (simp [intOf]; omega)
    · obtain rfl : k = -1 := by omega
      have HZ : Hid (X / 2 ^ ((-1 : Int) + 1).toNat = X) := by show X / 2 ^ 0 = X; simp
      rw [HZ.out]
      go_wp2
      go_ret
      exact ⟨ret_int (congrArg (fun n : Nat => (n : Int)) HX.out), _, rfl⟩


set_option maxHeartbeats 400000 in
theorem digit_any (c : UInt8) (w : World) : Calls Try.prog 30 #[.int .u8 c.toNat] w fun e w' => e = .returned (.int .u8 (undig c)) ∧ w = w' := by
  have hc := c.toNat_lt
  have HU : Hid (undig c = if 48 ≤ c.toNat ∧ c.toNat ≤ 57 then c.toNat - 48 else if 97 ≤ c.toNat ∧ c.toNat ≤ 102 then c.toNat - 87 else 16) := rfl
  obtain ⟨n, hn⟩ : ∃ n, n = c.toNat := ⟨_, rfl⟩
  rw [← hn] at hc HU ⊢
  have HN := Lib.hid hn
  clear hn
  by_cases h1 : 48 ≤ n
  · by_cases h2 : n ≤ 57
    · go_enter Try.func30, Try.ntmps30
      go_wp2
      go_ret
      exact ⟨ret_int (by rw [HU.out, if_pos ⟨h1, h2⟩]; omega), rfl⟩
    · by_cases h3 : 97 ≤ n
      · by_cases h4 : n ≤ 102
        · go_enter Try.func30, Try.ntmps30
          go_wp2
          go_ret
          exact ⟨ret_int (by rw [HU.out, if_neg (by omega), if_pos ⟨h3, h4⟩]; omega), rfl⟩
        · go_enter Try.func30, Try.ntmps30
          go_wp2
          go_ret
          exact ⟨ret_int (by rw [HU.out, if_neg (by omega), if_neg (by omega)]; rfl), rfl⟩
      · go_enter Try.func30, Try.ntmps30
        go_wp2
        go_ret
        exact ⟨ret_int (by rw [HU.out, if_neg (by omega), if_neg (by omega)]; rfl), rfl⟩
  · go_enter Try.func30, Try.ntmps30
    go_wp2
    go_ret
    exact ⟨ret_int (by rw [HU.out, if_neg (by omega), if_neg (by omega)]; rfl), rfl⟩
/-- What the reference says of a digit: its number, or -1. -/
def refdig (c : UInt8) : Int := if undig c ≤ 15 then (undig c : Int) else -1
set_option maxHeartbeats 800000 in
theorem refdigit_any (c : UInt8) (w : World) : Calls Try.prog 31 #[.int .u8 c.toNat] w fun e w' => e = .returned (.int .i64 (refdig c)) ∧ w = w' := by
  have hc := c.toNat_lt
  have HU : Hid (refdig c = if 48 ≤ c.toNat ∧ c.toNat ≤ 57 then (c.toNat : Int) - 48 else if 97 ≤ c.toNat ∧ c.toNat ≤ 102 then (c.toNat : Int) - 87 else -1) := by
    show refdig c = _
    unfold refdig undig
    (repeat' split) <;> omega
  obtain ⟨n, hn⟩ : ∃ n, n = c.toNat := ⟨_, rfl⟩
  rw [← hn] at hc HU ⊢
  have HN := Lib.hid hn
  clear hn
  have e0 : ((⟨#[48, 49, 50, 51, 52, 53, 54, 55, 56, 57, 97, 98, 99, 100, 101, 102]⟩ : ByteArray)[0]'(by decide)).toNat = 48 := rfl
  have e1 : ((⟨#[48, 49, 50, 51, 52, 53, 54, 55, 56, 57, 97, 98, 99, 100, 101, 102]⟩ : ByteArray)[1]'(by decide)).toNat = 49 := rfl
  have e2 : ((⟨#[48, 49, 50, 51, 52, 53, 54, 55, 56, 57, 97, 98, 99, 100, 101, 102]⟩ : ByteArray)[2]'(by decide)).toNat = 50 := rfl
  have e3 : ((⟨#[48, 49, 50, 51, 52, 53, 54, 55, 56, 57, 97, 98, 99, 100, 101, 102]⟩ : ByteArray)[3]'(by decide)).toNat = 51 := rfl
  have e4 : ((⟨#[48, 49, 50, 51, 52, 53, 54, 55, 56, 57, 97, 98, 99, 100, 101, 102]⟩ : ByteArray)[4]'(by decide)).toNat = 52 := rfl
  have e5 : ((⟨#[48, 49, 50, 51, 52, 53, 54, 55, 56, 57, 97, 98, 99, 100, 101, 102]⟩ : ByteArray)[5]'(by decide)).toNat = 53 := rfl
  have e6 : ((⟨#[48, 49, 50, 51, 52, 53, 54, 55, 56, 57, 97, 98, 99, 100, 101, 102]⟩ : ByteArray)[6]'(by decide)).toNat = 54 := rfl
  have e7 : ((⟨#[48, 49, 50, 51, 52, 53, 54, 55, 56, 57, 97, 98, 99, 100, 101, 102]⟩ : ByteArray)[7]'(by decide)).toNat = 55 := rfl
  have e8 : ((⟨#[48, 49, 50, 51, 52, 53, 54, 55, 56, 57, 97, 98, 99, 100, 101, 102]⟩ : ByteArray)[8]'(by decide)).toNat = 56 := rfl
  have e9 : ((⟨#[48, 49, 50, 51, 52, 53, 54, 55, 56, 57, 97, 98, 99, 100, 101, 102]⟩ : ByteArray)[9]'(by decide)).toNat = 57 := rfl
  have e10 : ((⟨#[48, 49, 50, 51, 52, 53, 54, 55, 56, 57, 97, 98, 99, 100, 101, 102]⟩ : ByteArray)[10]'(by decide)).toNat = 97 := rfl
  have e11 : ((⟨#[48, 49, 50, 51, 52, 53, 54, 55, 56, 57, 97, 98, 99, 100, 101, 102]⟩ : ByteArray)[11]'(by decide)).toNat = 98 := rfl
  have e12 : ((⟨#[48, 49, 50, 51, 52, 53, 54, 55, 56, 57, 97, 98, 99, 100, 101, 102]⟩ : ByteArray)[12]'(by decide)).toNat = 99 := rfl
  have e13 : ((⟨#[48, 49, 50, 51, 52, 53, 54, 55, 56, 57, 97, 98, 99, 100, 101, 102]⟩ : ByteArray)[13]'(by decide)).toNat = 100 := rfl
  have e14 : ((⟨#[48, 49, 50, 51, 52, 53, 54, 55, 56, 57, 97, 98, 99, 100, 101, 102]⟩ : ByteArray)[14]'(by decide)).toNat = 101 := rfl
  have e15 : ((⟨#[48, 49, 50, 51, 52, 53, 54, 55, 56, 57, 97, 98, 99, 100, 101, 102]⟩ : ByteArray)[15]'(by decide)).toNat = 102 := rfl
  go_enter Try.func31, Try.ntmps31
  go_wp2
  refine wp_loop_rounds 17 ?_
  repeat any_goals (rw [rounds_succ]; go_wp2)
  all_goals go_ret
  all_goals refine ⟨ret_int ?_, rfl⟩
  all_goals rw [HU.out]
  all_goals clear HU HN
  all_goals simp only [beq_iff_eq, beq_eq_false_iff_ne, ne_eq] at *
  all_goals ((repeat' split) <;> omega)
end Go.Proofs.Ytlmlalogadlefaa
