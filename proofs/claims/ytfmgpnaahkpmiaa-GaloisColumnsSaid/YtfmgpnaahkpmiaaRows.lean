/-
  No cell of these rows narrows 'for every input' (looked for: loops, veiled, ifaces, maps, wideKeys, modest, calm, conditions, laid).
  DERIVED. THE GIVEN ROWS OF THIS SEAT. 10 by the template 'for every input the law returns true; each argument reads behind the call as it read before'; 0 by the template 'total and deterministic' (their statements: YtfmgpnaahkpmiaaTotals.lean).
  GIVEN WITH THE SEED: the statements are not yours to turn. If you find one false, say at which input.
  Laid BY PROGRAM, IN A SANDBOX (cutbox-rows.mjs): the forced cells as the released guide's own fill.sh prints them over the translation ac6b2d29267e4dd8… (all of the seat's roots in one cut). By AI agents, Wed Nov 11 2026. No macro, syntax, notation, axiom, sorry.
-/
import Derived.Test.YtfmgpnaahkpmiaaChecked
import GoSem.Claim
import GoSem.ClaimJoined
import GoSem.ClaimMapViews
import Derived.JoinedTies
import Derived.KernelRfl
namespace Go.Proofs.Ytfmgpnaahkpmiaa
/- THE CELL 'sum', in the pinned program and in every row, IS THE sha256 OF THE DUMP (.gsa) THAT YtfmgpnaahkpmiaaProg.lean LOADS. Nothing in Lean hashes anything: it is a label: what it is worth is what the hold of that sum in a sandbox is worth. -/
noncomputable def Try.pinned : Pinned := { name := "ytfmgpnaahkpmiaa", sum := "ac6b2d29267e4dd8e62a2026076f40787a296972840a31170d3d5080039728bd", checked := Try.checked }
namespace Rows
def none {H : Type} : Left H := { results := [], args := [] }

/-- 'donjonlaw02.GaloisMul': WHATEVER THE INPUT: true; the input reads as it did. -/
def galoisMulSpec : ChangeSpec := { name := "galoisMul", fn := fun _ => fun
  | [d1, d2] => { results := [.lit (.bool true)], args := [d1, d2] }
  | _ => none }
def galoisMulRow : OpenClaim := { program := "ytfmgpnaahkpmiaa", sum := "ac6b2d29267e4dd8e62a2026076f40787a296972840a31170d3d5080039728bd", func := "donjon/donjonlaw02.GaloisMul", spec := "galoisMul", apart := false }
def GaloisMulSaid : Prop := galoisMulRow.holds Try.pinned (OpenSpec.ofChange galoisMulSpec)

/-- ITS FALSE NEIGHBOUR: 'it returns false'. Refute it at one input. -/
def galoisMulWrong : ChangeSpec := { name := "galoisMul", fn := fun _ => fun
  | [d1, d2] => { results := [.lit (.bool false)], args := [d1, d2] }
  | _ => none }
def GaloisMulWrongFalsely : Prop := galoisMulRow.holds Try.pinned (OpenSpec.ofChange galoisMulWrong)

/-- 'donjonlaw02.GaloisInv': WHATEVER THE INPUT: true; the input reads as it did. -/
def galoisInvSpec : ChangeSpec := { name := "galoisInv", fn := fun _ => fun
  | [d] => { results := [.lit (.bool true)], args := [d] }
  | _ => none }
def galoisInvRow : OpenClaim := { program := "ytfmgpnaahkpmiaa", sum := "ac6b2d29267e4dd8e62a2026076f40787a296972840a31170d3d5080039728bd", func := "donjon/donjonlaw02.GaloisInv", spec := "galoisInv", apart := false }
def GaloisInvSaid : Prop := galoisInvRow.holds Try.pinned (OpenSpec.ofChange galoisInvSpec)

/-- ITS FALSE NEIGHBOUR: 'it returns false'. Refute it at one input. -/
def galoisInvWrong : ChangeSpec := { name := "galoisInv", fn := fun _ => fun
  | [d] => { results := [.lit (.bool false)], args := [d] }
  | _ => none }
def GaloisInvWrongFalsely : Prop := galoisInvRow.holds Try.pinned (OpenSpec.ofChange galoisInvWrong)

/-- 'donjonlaw02.GaloisPower': WHATEVER THE INPUT: true; the input reads as it did. -/
def galoisPowerSpec : ChangeSpec := { name := "galoisPower", fn := fun _ => fun
  | [d1, d2] => { results := [.lit (.bool true)], args := [d1, d2] }
  | _ => none }
def galoisPowerRow : OpenClaim := { program := "ytfmgpnaahkpmiaa", sum := "ac6b2d29267e4dd8e62a2026076f40787a296972840a31170d3d5080039728bd", func := "donjon/donjonlaw02.GaloisPower", spec := "galoisPower", apart := false }
def GaloisPowerSaid : Prop := galoisPowerRow.holds Try.pinned (OpenSpec.ofChange galoisPowerSpec)

/-- ITS FALSE NEIGHBOUR: 'it returns false'. Refute it at one input. -/
def galoisPowerWrong : ChangeSpec := { name := "galoisPower", fn := fun _ => fun
  | [d1, d2] => { results := [.lit (.bool false)], args := [d1, d2] }
  | _ => none }
def GaloisPowerWrongFalsely : Prop := galoisPowerRow.holds Try.pinned (OpenSpec.ofChange galoisPowerWrong)

/-- 'donjonlaw02.GaloisSub': WHATEVER THE INPUT: true; the input reads as it did. -/
def galoisSubSpec : ChangeSpec := { name := "galoisSub", fn := fun _ => fun
  | [d] => { results := [.lit (.bool true)], args := [d] }
  | _ => none }
def galoisSubRow : OpenClaim := { program := "ytfmgpnaahkpmiaa", sum := "ac6b2d29267e4dd8e62a2026076f40787a296972840a31170d3d5080039728bd", func := "donjon/donjonlaw02.GaloisSub", spec := "galoisSub", apart := false }
def GaloisSubSaid : Prop := galoisSubRow.holds Try.pinned (OpenSpec.ofChange galoisSubSpec)

/-- ITS FALSE NEIGHBOUR: 'it returns false'. Refute it at one input. -/
def galoisSubWrong : ChangeSpec := { name := "galoisSub", fn := fun _ => fun
  | [d] => { results := [.lit (.bool false)], args := [d] }
  | _ => none }
def GaloisSubWrongFalsely : Prop := galoisSubRow.holds Try.pinned (OpenSpec.ofChange galoisSubWrong)

/-- 'donjonlaw02.GaloisField': WHATEVER THE INPUT: true; the input reads as it did. -/
def galoisFieldSpec : ChangeSpec := { name := "galoisField", fn := fun _ => fun
  | [d1, d2, d3] => { results := [.lit (.bool true)], args := [d1, d2, d3] }
  | _ => none }
def galoisFieldRow : OpenClaim := { program := "ytfmgpnaahkpmiaa", sum := "ac6b2d29267e4dd8e62a2026076f40787a296972840a31170d3d5080039728bd", func := "donjon/donjonlaw02.GaloisField", spec := "galoisField", apart := false }
def GaloisFieldSaid : Prop := galoisFieldRow.holds Try.pinned (OpenSpec.ofChange galoisFieldSpec)

/-- ITS FALSE NEIGHBOUR: 'it returns false'. Refute it at one input. -/
def galoisFieldWrong : ChangeSpec := { name := "galoisField", fn := fun _ => fun
  | [d1, d2, d3] => { results := [.lit (.bool false)], args := [d1, d2, d3] }
  | _ => none }
def GaloisFieldWrongFalsely : Prop := galoisFieldRow.holds Try.pinned (OpenSpec.ofChange galoisFieldWrong)

/-- 'donjonlaw02.GaloisPowers': WHATEVER THE INPUT: true; the input reads as it did. -/
def galoisPowersSpec : ChangeSpec := { name := "galoisPowers", fn := fun _ => fun
  | [d1, d2, d3] => { results := [.lit (.bool true)], args := [d1, d2, d3] }
  | _ => none }
def galoisPowersRow : OpenClaim := { program := "ytfmgpnaahkpmiaa", sum := "ac6b2d29267e4dd8e62a2026076f40787a296972840a31170d3d5080039728bd", func := "donjon/donjonlaw02.GaloisPowers", spec := "galoisPowers", apart := false }
def GaloisPowersSaid : Prop := galoisPowersRow.holds Try.pinned (OpenSpec.ofChange galoisPowersSpec)

/-- ITS FALSE NEIGHBOUR: 'it returns false'. Refute it at one input. -/
def galoisPowersWrong : ChangeSpec := { name := "galoisPowers", fn := fun _ => fun
  | [d1, d2, d3] => { results := [.lit (.bool false)], args := [d1, d2, d3] }
  | _ => none }
def GaloisPowersWrongFalsely : Prop := galoisPowersRow.holds Try.pinned (OpenSpec.ofChange galoisPowersWrong)

/-- 'donjonlaw02.GaloisBack': WHATEVER THE INPUT: true; the input reads as it did. -/
def galoisBackSpec : ChangeSpec := { name := "galoisBack", fn := fun _ => fun
  | [d] => { results := [.lit (.bool true)], args := [d] }
  | _ => none }
def galoisBackRow : OpenClaim := { program := "ytfmgpnaahkpmiaa", sum := "ac6b2d29267e4dd8e62a2026076f40787a296972840a31170d3d5080039728bd", func := "donjon/donjonlaw02.GaloisBack", spec := "galoisBack", apart := false }
def GaloisBackSaid : Prop := galoisBackRow.holds Try.pinned (OpenSpec.ofChange galoisBackSpec)

/-- ITS FALSE NEIGHBOUR: 'it returns false'. Refute it at one input. -/
def galoisBackWrong : ChangeSpec := { name := "galoisBack", fn := fun _ => fun
  | [d] => { results := [.lit (.bool false)], args := [d] }
  | _ => none }
def GaloisBackWrongFalsely : Prop := galoisBackRow.holds Try.pinned (OpenSpec.ofChange galoisBackWrong)

/-- 'donjonlaw02.GaloisThere': WHATEVER THE INPUT: true; the input reads as it did. -/
def galoisThereSpec : ChangeSpec := { name := "galoisThere", fn := fun _ => fun
  | [d1, d2] => { results := [.lit (.bool true)], args := [d1, d2] }
  | _ => none }
def galoisThereRow : OpenClaim := { program := "ytfmgpnaahkpmiaa", sum := "ac6b2d29267e4dd8e62a2026076f40787a296972840a31170d3d5080039728bd", func := "donjon/donjonlaw02.GaloisThere", spec := "galoisThere", apart := false }
def GaloisThereSaid : Prop := galoisThereRow.holds Try.pinned (OpenSpec.ofChange galoisThereSpec)

/-- ITS FALSE NEIGHBOUR: 'it returns false'. Refute it at one input. -/
def galoisThereWrong : ChangeSpec := { name := "galoisThere", fn := fun _ => fun
  | [d1, d2] => { results := [.lit (.bool false)], args := [d1, d2] }
  | _ => none }
def GaloisThereWrongFalsely : Prop := galoisThereRow.holds Try.pinned (OpenSpec.ofChange galoisThereWrong)

/-- 'donjonlaw02.GaloisMix': WHATEVER THE INPUT: true; the input reads as it did. -/
def galoisMixSpec : ChangeSpec := { name := "galoisMix", fn := fun _ => fun
  | [d] => { results := [.lit (.bool true)], args := [d] }
  | _ => none }
def galoisMixRow : OpenClaim := { program := "ytfmgpnaahkpmiaa", sum := "ac6b2d29267e4dd8e62a2026076f40787a296972840a31170d3d5080039728bd", func := "donjon/donjonlaw02.GaloisMix", spec := "galoisMix", apart := false }
def GaloisMixSaid : Prop := galoisMixRow.holds Try.pinned (OpenSpec.ofChange galoisMixSpec)

/-- ITS FALSE NEIGHBOUR: 'it returns false'. Refute it at one input. -/
def galoisMixWrong : ChangeSpec := { name := "galoisMix", fn := fun _ => fun
  | [d] => { results := [.lit (.bool false)], args := [d] }
  | _ => none }
def GaloisMixWrongFalsely : Prop := galoisMixRow.holds Try.pinned (OpenSpec.ofChange galoisMixWrong)

/-- 'donjonlaw02.GaloisColumns': WHATEVER THE INPUT: true; the input reads as it did. -/
def galoisColumnsSpec : ChangeSpec := { name := "galoisColumns", fn := fun _ => fun
  | [d1, d2] => { results := [.lit (.bool true)], args := [d1, d2] }
  | _ => none }
def galoisColumnsRow : OpenClaim := { program := "ytfmgpnaahkpmiaa", sum := "ac6b2d29267e4dd8e62a2026076f40787a296972840a31170d3d5080039728bd", func := "donjon/donjonlaw02.GaloisColumns", spec := "galoisColumns", apart := false }
def GaloisColumnsSaid : Prop := galoisColumnsRow.holds Try.pinned (OpenSpec.ofChange galoisColumnsSpec)

/-- ITS FALSE NEIGHBOUR: 'it returns false'. Refute it at one input. -/
def galoisColumnsWrong : ChangeSpec := { name := "galoisColumns", fn := fun _ => fun
  | [d1, d2] => { results := [.lit (.bool false)], args := [d1, d2] }
  | _ => none }
def GaloisColumnsWrongFalsely : Prop := galoisColumnsRow.holds Try.pinned (OpenSpec.ofChange galoisColumnsWrong)

/- THE SECOND FORM. 'bulk': how many values and letters a reading holds, each counted each time it is reached (what is shared counts as often as it is met; a slice's spare places count too). A statement '..UptoSaid' is the law's where the arguments, and the package variables that the reading takes, are together of bulk at most 1048576: NARROWER than '..Said'. Prove '..Said' where nothing that the law and all that it calls make is longer than what came in: it says more and counts as full. Else prove '..UptoSaid'. A law counts once. -/
mutual
def uptoBulk {H : Type} : DataW H → Nat
  | .lit (.string bytes) => bytes.length + 1
  | .lit _ => 1
  | .nil => 1
  | .ptr d => uptoBulk d + 1
  | .slice elems spare => uptoBulkAll elems + uptoBulkAll spare + 1
  | .agg parts => uptoBulkAll parts + 1
  | .iface _ d => uptoBulk d + 1
  | .map entries => uptoBulkEntries entries + 1
  | .held _ => 1
def uptoBulkAll {H : Type} : List (DataW H) → Nat
  | [] => 0
  | d :: r => uptoBulk d + uptoBulkAll r
def uptoBulkEntries {H : Type} : List (Lit × DataW H) → Nat
  | [] => 0
  | x :: r => uptoBulkEntry x + uptoBulkEntries r
def uptoBulkEntry {H : Type} : Lit × DataW H → Nat
  | (.string bytes, d) => bytes.length + uptoBulk d + 1
  | (_, d) => uptoBulk d + 1
 end
def uptoSmall : (H : Type) → List (DataW H) → Bool := fun _ ds => decide (uptoBulkAll ds ≤ 1048576)
def OpenSpec.upto (s : _root_.Go.ChangeSpec) : _root_.Go.OpenSpec := { _root_.Go.OpenSpec.ofChange s with cond := some uptoSmall }

/-- 'donjonlaw02.GaloisMul', WHERE WHAT IT READS IS OF BULK AT MOST 1048576: true; the input reads as it did. -/
def galoisMulUptoRow : OpenClaim := { program := "ytfmgpnaahkpmiaa", sum := "ac6b2d29267e4dd8e62a2026076f40787a296972840a31170d3d5080039728bd", func := "donjon/donjonlaw02.GaloisMul", spec := "galoisMul", apart := false, narrowed := true }
def GaloisMulUptoSaid : Prop := galoisMulUptoRow.holds Try.pinned (OpenSpec.upto galoisMulSpec)

/-- 'donjonlaw02.GaloisInv', WHERE WHAT IT READS IS OF BULK AT MOST 1048576: true; the input reads as it did. -/
def galoisInvUptoRow : OpenClaim := { program := "ytfmgpnaahkpmiaa", sum := "ac6b2d29267e4dd8e62a2026076f40787a296972840a31170d3d5080039728bd", func := "donjon/donjonlaw02.GaloisInv", spec := "galoisInv", apart := false, narrowed := true }
def GaloisInvUptoSaid : Prop := galoisInvUptoRow.holds Try.pinned (OpenSpec.upto galoisInvSpec)

/-- 'donjonlaw02.GaloisPower', WHERE WHAT IT READS IS OF BULK AT MOST 1048576: true; the input reads as it did. -/
def galoisPowerUptoRow : OpenClaim := { program := "ytfmgpnaahkpmiaa", sum := "ac6b2d29267e4dd8e62a2026076f40787a296972840a31170d3d5080039728bd", func := "donjon/donjonlaw02.GaloisPower", spec := "galoisPower", apart := false, narrowed := true }
def GaloisPowerUptoSaid : Prop := galoisPowerUptoRow.holds Try.pinned (OpenSpec.upto galoisPowerSpec)

/-- 'donjonlaw02.GaloisSub', WHERE WHAT IT READS IS OF BULK AT MOST 1048576: true; the input reads as it did. -/
def galoisSubUptoRow : OpenClaim := { program := "ytfmgpnaahkpmiaa", sum := "ac6b2d29267e4dd8e62a2026076f40787a296972840a31170d3d5080039728bd", func := "donjon/donjonlaw02.GaloisSub", spec := "galoisSub", apart := false, narrowed := true }
def GaloisSubUptoSaid : Prop := galoisSubUptoRow.holds Try.pinned (OpenSpec.upto galoisSubSpec)

/-- 'donjonlaw02.GaloisField', WHERE WHAT IT READS IS OF BULK AT MOST 1048576: true; the input reads as it did. -/
def galoisFieldUptoRow : OpenClaim := { program := "ytfmgpnaahkpmiaa", sum := "ac6b2d29267e4dd8e62a2026076f40787a296972840a31170d3d5080039728bd", func := "donjon/donjonlaw02.GaloisField", spec := "galoisField", apart := false, narrowed := true }
def GaloisFieldUptoSaid : Prop := galoisFieldUptoRow.holds Try.pinned (OpenSpec.upto galoisFieldSpec)

/-- 'donjonlaw02.GaloisPowers', WHERE WHAT IT READS IS OF BULK AT MOST 1048576: true; the input reads as it did. -/
def galoisPowersUptoRow : OpenClaim := { program := "ytfmgpnaahkpmiaa", sum := "ac6b2d29267e4dd8e62a2026076f40787a296972840a31170d3d5080039728bd", func := "donjon/donjonlaw02.GaloisPowers", spec := "galoisPowers", apart := false, narrowed := true }
def GaloisPowersUptoSaid : Prop := galoisPowersUptoRow.holds Try.pinned (OpenSpec.upto galoisPowersSpec)

/-- 'donjonlaw02.GaloisBack', WHERE WHAT IT READS IS OF BULK AT MOST 1048576: true; the input reads as it did. -/
def galoisBackUptoRow : OpenClaim := { program := "ytfmgpnaahkpmiaa", sum := "ac6b2d29267e4dd8e62a2026076f40787a296972840a31170d3d5080039728bd", func := "donjon/donjonlaw02.GaloisBack", spec := "galoisBack", apart := false, narrowed := true }
def GaloisBackUptoSaid : Prop := galoisBackUptoRow.holds Try.pinned (OpenSpec.upto galoisBackSpec)

/-- 'donjonlaw02.GaloisThere', WHERE WHAT IT READS IS OF BULK AT MOST 1048576: true; the input reads as it did. -/
def galoisThereUptoRow : OpenClaim := { program := "ytfmgpnaahkpmiaa", sum := "ac6b2d29267e4dd8e62a2026076f40787a296972840a31170d3d5080039728bd", func := "donjon/donjonlaw02.GaloisThere", spec := "galoisThere", apart := false, narrowed := true }
def GaloisThereUptoSaid : Prop := galoisThereUptoRow.holds Try.pinned (OpenSpec.upto galoisThereSpec)

/-- 'donjonlaw02.GaloisMix', WHERE WHAT IT READS IS OF BULK AT MOST 1048576: true; the input reads as it did. -/
def galoisMixUptoRow : OpenClaim := { program := "ytfmgpnaahkpmiaa", sum := "ac6b2d29267e4dd8e62a2026076f40787a296972840a31170d3d5080039728bd", func := "donjon/donjonlaw02.GaloisMix", spec := "galoisMix", apart := false, narrowed := true }
def GaloisMixUptoSaid : Prop := galoisMixUptoRow.holds Try.pinned (OpenSpec.upto galoisMixSpec)

/-- 'donjonlaw02.GaloisColumns', WHERE WHAT IT READS IS OF BULK AT MOST 1048576: true; the input reads as it did. -/
def galoisColumnsUptoRow : OpenClaim := { program := "ytfmgpnaahkpmiaa", sum := "ac6b2d29267e4dd8e62a2026076f40787a296972840a31170d3d5080039728bd", func := "donjon/donjonlaw02.GaloisColumns", spec := "galoisColumns", apart := false, narrowed := true }
def GaloisColumnsUptoSaid : Prop := galoisColumnsUptoRow.holds Try.pinned (OpenSpec.upto galoisColumnsSpec)

end Rows
end Go.Proofs.Ytfmgpnaahkpmiaa
