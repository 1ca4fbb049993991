/- Contracts: the reference's number of some bytes; noughts, both; the same bytes; one bit by bit. -/
import Derived.Test.YtikhnjoobhfgdaaOctA
set_option linter.unusedVariables false
namespace Go.Proofs.Ytikhnjoobhfgdaa
open Go.RowKit


theorem get_bad (A : Option Addr) (n c : Nat) (w : World) (h : n < 1 ∨ 8 < n) (hm : n ≤ 9223372036854775807) :
    Calls Try.prog 24 #[.slice A n c] w fun e w' => e = .returned (.tuple #[.int .u64 0, .int .i64 2]) ∧ w = w' := by
  rcases h with h | h
  · obtain rfl : n = 0 := by omega
    go_enter Try.func24, Try.ntmps24
    go_wp2
    go_ret2
    exact ⟨rfl, rfl⟩
  · go_enter Try.func24, Try.ntmps24
    go_wp2
    go_ret2
    exact ⟨rfl, rfl⟩
end Go.Proofs.Ytikhnjoobhfgdaa
