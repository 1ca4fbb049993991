/- Contracts: the reference's number of some bytes; noughts, both; the same bytes; one bit by bit. -/
import Derived.Test.YtihbpmceggghgaaOctA
set_option linter.unusedVariables false
set_option linter.unusedSimpArgs false
namespace Go.Proofs.Ytihbpmceggghgaa
open Go.RowKit

set_option maxHeartbeats 400000 in
theorem number_any (A : Option Addr) (n c : Nat) (l : List UInt8) (w : World) (h : Rd w A n c l) (h8 : n ≤ 8) :
    Calls Try.prog 67 #[.slice A n c] w fun e w' => e = .returned (.int .u64 (num l)) ∧ w = w' := by
  have HL := Lib.hid h.len
  have hcm := h.cap
  have hcx := h.max
  unfold maxLen at hcx
  have HA := Lib.hid h.at_
  clear h
  go_enter Try.func67, Try.ntmps67
  go_wp2
  go_loop [3, 4] (fun m i => ∃ k : Nat, k ≤ n ∧ i = .int .i64 k ∧ m = .int .u64 (num (l.take k))) (fun _ i => n - (intOf i).toNat)
  case atStart => exact ⟨0, Nat.zero_le _, rfl, rfl⟩
  case round =>
    obtain ⟨k, hk, rfl, rfl⟩ := hrel
    by_cases hlt : k < n
    · obtain ⟨b, o, rfl, hc⟩ := HA.out (by omega)
      have HC := Lib.hid hc
      clear hc
      obtain ⟨x, HX, hcell, hx⟩ := Rd.cellx HC k hlt
      have hb := num_take_lt7 l k (by omega)
      have hnext := num_step l k x (by rw [← HL.out]; exact hlt) HX.out
      have HF := Lib.hid hnext
      clear hnext
      go_wp2
      go_round
      case rel => exact ⟨k + 1, by omega, by go_num, by rw [HF.out]; go_num⟩
      case measure => simp [intOf]; omega
    · obtain rfl : k = n := by omega
      have HN : Hid (l.take k = l) := by rw [HL.out]; exact List.take_length
      go_wp2
      go_ret
      exact ⟨ret_int (by rw [HN.out]), rfl⟩

theorem get_bad (A : Option Addr) (n c : Nat) (w : World) (h : n < 1 ∨ 8 < n) (hm : n ≤ 9223372036854775807) :
    Calls Try.prog 40 #[.slice A n c] w fun e w' => e = .returned (.tuple #[.int .u64 0, .int .i64 2]) ∧ w = w' := by
  rcases h with h | h
  · obtain rfl : n = 0 := by omega
    go_enter Try.func40, Try.ntmps40
    go_wp2
    go_ret2
    exact ⟨rfl, rfl⟩
  · go_enter Try.func40, Try.ntmps40
    go_wp2
    go_ret2
    exact ⟨rfl, rfl⟩
set_option maxHeartbeats 400000 in
theorem nought_any (A : Option Addr) (n c : Nat) (l : List UInt8) (w : World) (h : Rd w A n c l) :
    Calls Try.prog 45 #[.slice A n c] w fun e w' => e = .returned (.bool (zeros l)) ∧ w = w' := by
  have HL := Lib.hid h.len
  have hcm := h.cap
  have hcx := h.max
  unfold maxLen at hcx
  have HA := Lib.hid h.at_
  clear h
  go_enter Try.func45, Try.ntmps45
  go_wp2
  go_loop [3, 8] (fun m i => ∃ k : Nat, k ≤ n ∧ i = .int .i64 k ∧ m = .int .u8 (ors (l.take k)).toNat) (fun _ i => n - (intOf i).toNat)
  case atStart => exact ⟨0, Nat.zero_le _, rfl, rfl⟩
  case round =>
    obtain ⟨k, hk, rfl, rfl⟩ := hrel
    by_cases hlt : k < n
    · obtain ⟨b, o, rfl, hc⟩ := HA.out (by omega)
      have HC := Lib.hid hc
      clear hc
      obtain ⟨x, HX, hcell, hx⟩ := Rd.cellx HC k hlt
      have hnext := ors_step l k x (by rw [← HL.out]; exact hlt) HX.out
      have HF := Lib.hid hnext
      clear hnext
      obtain ⟨m, hm⟩ : ∃ m, m = ors (l.take k) := ⟨_, rfl⟩
      have HM := Lib.hid hm
      rw [← hm]
      clear hm
      have hb := m.toNat_lt
      have hor := u8_or_nat m.toNat x.toNat (by omega) (by omega)
      go_wp2
      go_round
      case rel => exact ⟨k + 1, by omega, by go_num, by rw [HF.out, ← HM.out, UInt8.toNat_or]⟩
      case measure => simp [intOf]; omega
    · obtain rfl : k = n := by omega
      have HN : Hid (l.take k = l) := by rw [HL.out]; exact List.take_length
      have HZ := Lib.hid (ors_zeros l)
      go_wp2
      go_ret
      refine ⟨?_, rfl⟩
      rw [HN.out]
      have := HZ.out
      cases hz : zeros l <;> simp_all
end Go.Proofs.Ytihbpmceggghgaa
