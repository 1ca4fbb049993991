/- Contracts of small functions of octet and of the reference 01 that only read: same letters, the number, noughts, digits. -/
import Derived.Test.YtgihcjmcefdkiaaRows
import Derived.Test.YtgihcjmcefdkiaaWords
import Derived.Test.YtgihcjmcefdkiaaPlain
import Derived.Deep.QuietTactic
import Derived.BigQuiet
set_option linter.unusedVariables false
set_option linter.unusedSimpArgs false
namespace Go.Proofs.Ytgihcjmcefdkiaa
open Go.RowKit

theorem ret_int {k : IntKind} {a b : Int} (h : a = b) : Ending.returned (.int k a) = .returned (.int k b) := by rw [h]

theorem same_any (A : Option Addr) (n c : Nat) (l : List UInt8) (A' : Option Addr) (n' c' : Nat) (l' : List UInt8) (w : World) (h : Rd w A n c l) (h' : Rd w A' n' c' l') :
    Calls Try.prog 18 #[.slice A n c, .slice A' n' c'] w fun e w' => e = .returned (.bool (l == l')) ∧ w = w' := by
  have k1 := h.str (P := Try.prog) 28 5 9 Try.underlying28 Try.underlying5 Try.underlying9
  have k2 := h'.str (P := Try.prog) 28 5 9 Try.underlying28 Try.underlying5 Try.underlying9
  clear h h'
  go_enter Try.func18, Try.ntmps18
  go_wp2
  go_ret
  exact ⟨rfl, rfl⟩

/-- One step of a number out of bytes, as octet.Get makes it. -/
theorem get_step (m x : Nat) (hm : m < 72057594037927936) (hx : x ≤ 255) : bits .or .u64 ((m : Int) * 256) (x : Int) = ((256 * m + x : Nat) : Int) := by
  have e : ((m : Int) * 256) = ((256 * m : Nat) : Int) := by omega
  rw [e, u64_or_nat (256 * m) x (by omega) (by omega)]
  congr 1
  exact nat_join 8 (256 * m) x (by omega) (by omega)

end Go.Proofs.Ytgihcjmcefdkiaa
