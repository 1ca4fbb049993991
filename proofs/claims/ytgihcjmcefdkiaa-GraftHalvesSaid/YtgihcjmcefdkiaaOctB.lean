/- Contracts: the reference's number of some bytes; noughts, both; the same bytes; one bit by bit. -/
import Derived.Test.YtgihcjmcefdkiaaOctA
set_option linter.unusedVariables false
set_option linter.unusedSimpArgs false
namespace Go.Proofs.Ytgihcjmcefdkiaa
open Go.RowKit


end Go.Proofs.Ytgihcjmcefdkiaa
