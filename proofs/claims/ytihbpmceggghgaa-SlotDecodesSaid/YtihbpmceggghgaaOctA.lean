/- Contracts of small functions of octet and of the reference 01 that only read: same letters, the number, noughts, digits. -/
import Derived.Test.YtihbpmceggghgaaRows
import Derived.Test.YtihbpmceggghgaaWords
import Derived.Test.YtihbpmceggghgaaPlain
import Derived.Deep.QuietTactic
import Derived.BigQuiet
set_option linter.unusedVariables false
set_option linter.unusedSimpArgs false
namespace Go.Proofs.Ytihbpmceggghgaa
open Go.RowKit

theorem ret_int {k : IntKind} {a b : Int} (h : a = b) : Ending.returned (.int k a) = .returned (.int k b) := by rw [h]

theorem same_any (A : Option Addr) (n c : Nat) (l : List UInt8) (A' : Option Addr) (n' c' : Nat) (l' : List UInt8) (w : World) (h : Rd w A n c l) (h' : Rd w A' n' c' l') :
    Calls Try.prog 19 #[.slice A n c, .slice A' n' c'] w fun e w' => e = .returned (.bool (l == l')) ∧ w = w' := by
  have k1 := h.str (P := Try.prog) 34 5 9 Try.underlying34 Try.underlying5 Try.underlying9
  have k2 := h'.str (P := Try.prog) 34 5 9 Try.underlying34 Try.underlying5 Try.underlying9
  clear h h'
  go_enter Try.func19, Try.ntmps19
  go_wp2
  go_ret
  exact ⟨rfl, rfl⟩

/-- One step of a number out of bytes, as octet.Get makes it. -/
theorem get_step (m x : Nat) (hm : m < 72057594037927936) (hx : x ≤ 255) : bits .or .u64 ((m : Int) * 256) (x : Int) = ((256 * m + x : Nat) : Int) := by
  have e : ((m : Int) * 256) = ((256 * m : Nat) : Int) := by omega
  rw [e, u64_or_nat (256 * m) x (by omega) (by omega)]
  congr 1
  exact nat_join 8 (256 * m) x (by omega) (by omega)

set_option maxHeartbeats 400000 in
theorem get_any (A : Option Addr) (n c : Nat) (l : List UInt8) (w : World) (h : Rd w A n c l) (h1 : 1 ≤ n) (h8 : n ≤ 8) :
    Calls Try.prog 40 #[.slice A n c] w fun e w' => e = .returned (.tuple #[.int .u64 (num l), .int .i64 0]) ∧ w = w' := by
  obtain ⟨b, o, rfl, hc⟩ := h.at_ h1
  have HL := Lib.hid h.len
  have hcm := h.cap
  have hcx := h.max
  unfold maxLen at hcx
  clear h
  have HC := Lib.hid hc
  clear hc
  go_enter Try.func40, Try.ntmps40
  go_wp2
  go_loop [4, 17] (fun m i => ∃ k : Nat, k ≤ n ∧ i = .int .i64 k ∧ m = .int .u64 (num (l.take k))) (fun _ i => n - (intOf i).toNat)
  case atStart => exact ⟨0, Nat.zero_le _, rfl, rfl⟩
  case round =>
    obtain ⟨k, hk, rfl, rfl⟩ := hrel
    by_cases hlt : k < n
    · obtain ⟨x, HX, hcell, hx⟩ := Rd.cellx HC k hlt
      have hb := num_take_lt7 l k (by omega)
      have hfin := get_step (num (l.take k)) x.toNat hb hx
      have hnext := num_step l k x (by rw [← HL.out]; exact hlt) HX.out
      rw [← hnext] at hfin
      have HF := Lib.hid hfin
      clear hfin hnext
      go_wp2
      go_round
      case rel => exact ⟨k + 1, by omega, by go_num, by rw [HF.out]⟩
      case measure => simp [intOf]; omega
    · obtain rfl : k = n := by omega
      have HN : Hid (l.take k = l) := by rw [HL.out]; exact List.take_length
      go_wp2
      go_ret2
      exact ⟨by simp [HN.out], rfl⟩
end Go.Proofs.Ytihbpmceggghgaa
