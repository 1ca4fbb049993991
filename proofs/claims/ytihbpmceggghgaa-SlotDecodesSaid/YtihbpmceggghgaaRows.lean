/-
  No cell of these rows narrows 'for every input' (looked for: loops, veiled, ifaces, maps, wideKeys, modest, calm, conditions, laid).
  DERIVED. THE GIVEN ROWS OF THIS SEAT. 6 by the template 'for every input the law returns true; each argument reads behind the call as it read before'; 0 by the template 'total and deterministic' (their statements: YtihbpmceggghgaaTotals.lean).
  GIVEN WITH THE SEED: the statements are not yours to turn. If you find one false, say at which input.
  Laid BY PROGRAM, IN A SANDBOX (cutbox-rows.mjs): the forced cells as the released guide's own fill.sh prints them over the translation cf744b508458f580… (all of the seat's roots in one cut). By AI agents, Wed Nov 11 2026. No macro, syntax, notation, axiom, sorry.
-/
import Derived.Test.YtihbpmceggghgaaChecked
import GoSem.Claim
import GoSem.ClaimJoined
import GoSem.ClaimMapViews
import Derived.JoinedTies
import Derived.KernelRfl
namespace Go.Proofs.Ytihbpmceggghgaa
/- THE CELL 'sum', in the pinned program and in every row, IS THE sha256 OF THE DUMP (.gsa) THAT YtihbpmceggghgaaProg.lean LOADS. Nothing in Lean hashes anything: it is a label: what it is worth is what the hold of that sum in a sandbox is worth. -/
noncomputable def Try.pinned : Pinned := { name := "ytihbpmceggghgaa", sum := "cf744b508458f580e903273039d1cb8174a3ed2f8f1bfabdee932b8c6af54039", checked := Try.checked }
namespace Rows
def none {H : Type} : Left H := { results := [], args := [] }

/-- 'donjonlaw12.SlotRight': WHATEVER THE INPUT: true; the input reads as it did. -/
def slotRightSpec : ChangeSpec := { name := "slotRight", fn := fun _ => fun
  | [d] => { results := [.lit (.bool true)], args := [d] }
  | _ => none }
def slotRightRow : OpenClaim := { program := "ytihbpmceggghgaa", sum := "cf744b508458f580e903273039d1cb8174a3ed2f8f1bfabdee932b8c6af54039", func := "donjon/donjonlaw12.SlotRight", spec := "slotRight", inPlace := ["internal/bytealg.Compare"], apart := false }
def SlotRightSaid : Prop := slotRightRow.holds Try.pinned (OpenSpec.ofChange slotRightSpec)

/-- ITS FALSE NEIGHBOUR: 'it returns false'. Refute it at one input. -/
def slotRightWrong : ChangeSpec := { name := "slotRight", fn := fun _ => fun
  | [d] => { results := [.lit (.bool false)], args := [d] }
  | _ => none }
def SlotRightWrongFalsely : Prop := slotRightRow.holds Try.pinned (OpenSpec.ofChange slotRightWrong)

/-- 'donjonlaw12.SlotEncodes': WHATEVER THE INPUT: true; the input reads as it did. -/
def slotEncodesSpec : ChangeSpec := { name := "slotEncodes", fn := fun _ => fun
  | [d] => { results := [.lit (.bool true)], args := [d] }
  | _ => none }
def slotEncodesRow : OpenClaim := { program := "ytihbpmceggghgaa", sum := "cf744b508458f580e903273039d1cb8174a3ed2f8f1bfabdee932b8c6af54039", func := "donjon/donjonlaw12.SlotEncodes", spec := "slotEncodes", inPlace := ["internal/bytealg.Compare"], apart := false }
def SlotEncodesSaid : Prop := slotEncodesRow.holds Try.pinned (OpenSpec.ofChange slotEncodesSpec)

/-- ITS FALSE NEIGHBOUR: 'it returns false'. Refute it at one input. -/
def slotEncodesWrong : ChangeSpec := { name := "slotEncodes", fn := fun _ => fun
  | [d] => { results := [.lit (.bool false)], args := [d] }
  | _ => none }
def SlotEncodesWrongFalsely : Prop := slotEncodesRow.holds Try.pinned (OpenSpec.ofChange slotEncodesWrong)

/-- 'donjonlaw12.SlotSame': WHATEVER THE INPUT: true; the input reads as it did. -/
def slotSameSpec : ChangeSpec := { name := "slotSame", fn := fun _ => fun
  | [d1, d2] => { results := [.lit (.bool true)], args := [d1, d2] }
  | _ => none }
def slotSameRow : OpenClaim := { program := "ytihbpmceggghgaa", sum := "cf744b508458f580e903273039d1cb8174a3ed2f8f1bfabdee932b8c6af54039", func := "donjon/donjonlaw12.SlotSame", spec := "slotSame", inPlace := ["internal/bytealg.Compare"], unfollowed := true, recurses := true, apart := false }
def SlotSameSaid : Prop := slotSameRow.holds Try.pinned (OpenSpec.ofChange slotSameSpec)

/-- ITS FALSE NEIGHBOUR: 'it returns false'. Refute it at one input. -/
def slotSameWrong : ChangeSpec := { name := "slotSame", fn := fun _ => fun
  | [d1, d2] => { results := [.lit (.bool false)], args := [d1, d2] }
  | _ => none }
def SlotSameWrongFalsely : Prop := slotSameRow.holds Try.pinned (OpenSpec.ofChange slotSameWrong)

/-- 'donjonlaw12.SlotDecodes': WHATEVER THE INPUT: true; the input reads as it did. -/
def slotDecodesSpec : ChangeSpec := { name := "slotDecodes", fn := fun _ => fun
  | [d] => { results := [.lit (.bool true)], args := [d] }
  | _ => none }
def slotDecodesRow : OpenClaim := { program := "ytihbpmceggghgaa", sum := "cf744b508458f580e903273039d1cb8174a3ed2f8f1bfabdee932b8c6af54039", func := "donjon/donjonlaw12.SlotDecodes", spec := "slotDecodes", inPlace := ["internal/bytealg.Compare"], unfollowed := true, recurses := true, apart := false }
def SlotDecodesSaid : Prop := slotDecodesRow.holds Try.pinned (OpenSpec.ofChange slotDecodesSpec)

/-- ITS FALSE NEIGHBOUR: 'it returns false'. Refute it at one input. -/
def slotDecodesWrong : ChangeSpec := { name := "slotDecodes", fn := fun _ => fun
  | [d] => { results := [.lit (.bool false)], args := [d] }
  | _ => none }
def SlotDecodesWrongFalsely : Prop := slotDecodesRow.holds Try.pinned (OpenSpec.ofChange slotDecodesWrong)

/-- 'donjonlaw12.SlotOnly': WHATEVER THE INPUT: true; the input reads as it did. -/
def slotOnlySpec : ChangeSpec := { name := "slotOnly", fn := fun _ => fun
  | [d] => { results := [.lit (.bool true)], args := [d] }
  | _ => none }
def slotOnlyRow : OpenClaim := { program := "ytihbpmceggghgaa", sum := "cf744b508458f580e903273039d1cb8174a3ed2f8f1bfabdee932b8c6af54039", func := "donjon/donjonlaw12.SlotOnly", spec := "slotOnly", inPlace := ["internal/bytealg.Compare"], unfollowed := true, recurses := true, apart := false }
def SlotOnlySaid : Prop := slotOnlyRow.holds Try.pinned (OpenSpec.ofChange slotOnlySpec)

/-- ITS FALSE NEIGHBOUR: 'it returns false'. Refute it at one input. -/
def slotOnlyWrong : ChangeSpec := { name := "slotOnly", fn := fun _ => fun
  | [d] => { results := [.lit (.bool false)], args := [d] }
  | _ => none }
def SlotOnlyWrongFalsely : Prop := slotOnlyRow.holds Try.pinned (OpenSpec.ofChange slotOnlyWrong)

/-- 'donjonlaw12.SlotBack': WHATEVER THE INPUT: true; the input reads as it did. -/
def slotBackSpec : ChangeSpec := { name := "slotBack", fn := fun _ => fun
  | [d] => { results := [.lit (.bool true)], args := [d] }
  | _ => none }
def slotBackRow : OpenClaim := { program := "ytihbpmceggghgaa", sum := "cf744b508458f580e903273039d1cb8174a3ed2f8f1bfabdee932b8c6af54039", func := "donjon/donjonlaw12.SlotBack", spec := "slotBack", inPlace := ["internal/bytealg.Compare"], unfollowed := true, recurses := true, apart := false }
def SlotBackSaid : Prop := slotBackRow.holds Try.pinned (OpenSpec.ofChange slotBackSpec)

/-- ITS FALSE NEIGHBOUR: 'it returns false'. Refute it at one input. -/
def slotBackWrong : ChangeSpec := { name := "slotBack", fn := fun _ => fun
  | [d] => { results := [.lit (.bool false)], args := [d] }
  | _ => none }
def SlotBackWrongFalsely : Prop := slotBackRow.holds Try.pinned (OpenSpec.ofChange slotBackWrong)

/- THE SECOND FORM. 'bulk': how many values and letters a reading holds, each counted each time it is reached (what is shared counts as often as it is met; a slice's spare places count too). A statement '..UptoSaid' is the law's where the arguments, and the package variables that the reading takes, are together of bulk at most 1048576: NARROWER than '..Said'. Prove '..Said' where nothing that the law and all that it calls make is longer than what came in: it says more and counts as full. Else prove '..UptoSaid'. A law counts once. -/
mutual
def uptoBulk {H : Type} : DataW H → Nat
  | .lit (.string bytes) => bytes.length + 1
  | .lit _ => 1
  | .nil => 1
  | .ptr d => uptoBulk d + 1
  | .slice elems spare => uptoBulkAll elems + uptoBulkAll spare + 1
  | .agg parts => uptoBulkAll parts + 1
  | .iface _ d => uptoBulk d + 1
  | .map entries => uptoBulkEntries entries + 1
  | .held _ => 1
def uptoBulkAll {H : Type} : List (DataW H) → Nat
  | [] => 0
  | d :: r => uptoBulk d + uptoBulkAll r
def uptoBulkEntries {H : Type} : List (Lit × DataW H) → Nat
  | [] => 0
  | x :: r => uptoBulkEntry x + uptoBulkEntries r
def uptoBulkEntry {H : Type} : Lit × DataW H → Nat
  | (.string bytes, d) => bytes.length + uptoBulk d + 1
  | (_, d) => uptoBulk d + 1
 end
def uptoSmall : (H : Type) → List (DataW H) → Bool := fun _ ds => decide (uptoBulkAll ds ≤ 1048576)
def OpenSpec.upto (s : _root_.Go.ChangeSpec) : _root_.Go.OpenSpec := { _root_.Go.OpenSpec.ofChange s with cond := some uptoSmall }

/-- 'donjonlaw12.SlotRight', WHERE WHAT IT READS IS OF BULK AT MOST 1048576: true; the input reads as it did. -/
def slotRightUptoRow : OpenClaim := { program := "ytihbpmceggghgaa", sum := "cf744b508458f580e903273039d1cb8174a3ed2f8f1bfabdee932b8c6af54039", func := "donjon/donjonlaw12.SlotRight", spec := "slotRight", inPlace := ["internal/bytealg.Compare"], apart := false, narrowed := true }
def SlotRightUptoSaid : Prop := slotRightUptoRow.holds Try.pinned (OpenSpec.upto slotRightSpec)

/-- 'donjonlaw12.SlotEncodes', WHERE WHAT IT READS IS OF BULK AT MOST 1048576: true; the input reads as it did. -/
def slotEncodesUptoRow : OpenClaim := { program := "ytihbpmceggghgaa", sum := "cf744b508458f580e903273039d1cb8174a3ed2f8f1bfabdee932b8c6af54039", func := "donjon/donjonlaw12.SlotEncodes", spec := "slotEncodes", inPlace := ["internal/bytealg.Compare"], apart := false, narrowed := true }
def SlotEncodesUptoSaid : Prop := slotEncodesUptoRow.holds Try.pinned (OpenSpec.upto slotEncodesSpec)

/-- 'donjonlaw12.SlotSame', WHERE WHAT IT READS IS OF BULK AT MOST 1048576: true; the input reads as it did. -/
def slotSameUptoRow : OpenClaim := { program := "ytihbpmceggghgaa", sum := "cf744b508458f580e903273039d1cb8174a3ed2f8f1bfabdee932b8c6af54039", func := "donjon/donjonlaw12.SlotSame", spec := "slotSame", inPlace := ["internal/bytealg.Compare"], unfollowed := true, recurses := true, apart := false, narrowed := true }
def SlotSameUptoSaid : Prop := slotSameUptoRow.holds Try.pinned (OpenSpec.upto slotSameSpec)

/-- 'donjonlaw12.SlotDecodes', WHERE WHAT IT READS IS OF BULK AT MOST 1048576: true; the input reads as it did. -/
def slotDecodesUptoRow : OpenClaim := { program := "ytihbpmceggghgaa", sum := "cf744b508458f580e903273039d1cb8174a3ed2f8f1bfabdee932b8c6af54039", func := "donjon/donjonlaw12.SlotDecodes", spec := "slotDecodes", inPlace := ["internal/bytealg.Compare"], unfollowed := true, recurses := true, apart := false, narrowed := true }
def SlotDecodesUptoSaid : Prop := slotDecodesUptoRow.holds Try.pinned (OpenSpec.upto slotDecodesSpec)

/-- 'donjonlaw12.SlotOnly', WHERE WHAT IT READS IS OF BULK AT MOST 1048576: true; the input reads as it did. -/
def slotOnlyUptoRow : OpenClaim := { program := "ytihbpmceggghgaa", sum := "cf744b508458f580e903273039d1cb8174a3ed2f8f1bfabdee932b8c6af54039", func := "donjon/donjonlaw12.SlotOnly", spec := "slotOnly", inPlace := ["internal/bytealg.Compare"], unfollowed := true, recurses := true, apart := false, narrowed := true }
def SlotOnlyUptoSaid : Prop := slotOnlyUptoRow.holds Try.pinned (OpenSpec.upto slotOnlySpec)

/-- 'donjonlaw12.SlotBack', WHERE WHAT IT READS IS OF BULK AT MOST 1048576: true; the input reads as it did. -/
def slotBackUptoRow : OpenClaim := { program := "ytihbpmceggghgaa", sum := "cf744b508458f580e903273039d1cb8174a3ed2f8f1bfabdee932b8c6af54039", func := "donjon/donjonlaw12.SlotBack", spec := "slotBack", inPlace := ["internal/bytealg.Compare"], unfollowed := true, recurses := true, apart := false, narrowed := true }
def SlotBackUptoSaid : Prop := slotBackUptoRow.holds Try.pinned (OpenSpec.upto slotBackSpec)

end Rows
end Go.Proofs.Ytihbpmceggghgaa
