/- Contracts: noughts as the reference has it; the same bytes as octet has it; two bytes bit by bit; digits. -/
import Derived.Test.YtgihcjmcefdkiaaOctB
set_option linter.unusedVariables false
set_option linter.unusedSimpArgs false
namespace Go.Proofs.Ytgihcjmcefdkiaa
open Go.RowKit

theorem nat_beq0 (a : Nat) : ((a : Int) == 0) = (a == 0) := by rw [Bool.eq_iff_iff]; simp





end Go.Proofs.Ytgihcjmcefdkiaa
