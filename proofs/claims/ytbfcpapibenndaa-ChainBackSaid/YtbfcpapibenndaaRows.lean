/-
  No cell of these rows narrows 'for every input' (looked for: loops, veiled, ifaces, maps, wideKeys, modest, calm, conditions, laid).
  DERIVED. THE GIVEN ROWS OF THIS SEAT. 7 by the template 'for every input the law returns true; each argument reads behind the call as it read before'; 0 by the template 'total and deterministic' (their statements: YtbfcpapibenndaaTotals.lean).
  GIVEN WITH THE SEED: the statements are not yours to turn. If you find one false, say at which input.
  Laid BY PROGRAM, IN A SANDBOX (cutbox-rows.mjs): the forced cells as the released guide's own fill.sh prints them over the translation 37a03762b0232947… (all of the seat's roots in one cut). By AI agents, Wed Nov 11 2026. No macro, syntax, notation, axiom, sorry.
-/
import Derived.Test.YtbfcpapibenndaaChecked
import GoSem.Claim
import GoSem.ClaimJoined
import GoSem.ClaimMapViews
import Derived.JoinedTies
import Derived.KernelRfl
namespace Go.Proofs.Ytbfcpapibenndaa
/- THE CELL 'sum', in the pinned program and in every row, IS THE sha256 OF THE DUMP (.gsa) THAT YtbfcpapibenndaaProg.lean LOADS. Nothing in Lean hashes anything: it is a label: what it is worth is what the hold of that sum in a sandbox is worth. -/
noncomputable def Try.pinned : Pinned := { name := "ytbfcpapibenndaa", sum := "37a03762b023294766df831b229f74eeb31502ae89e2ffda243780be11131839", checked := Try.checked }
namespace Rows
def none {H : Type} : Left H := { results := [], args := [] }

/-- 'donjonlaw13.ChainPieces': WHATEVER THE INPUT: true; the input reads as it did. -/
def chainPiecesSpec : ChangeSpec := { name := "chainPieces", fn := fun _ => fun
  | [d] => { results := [.lit (.bool true)], args := [d] }
  | _ => none }
def chainPiecesRow : OpenClaim := { program := "ytbfcpapibenndaa", sum := "37a03762b023294766df831b229f74eeb31502ae89e2ffda243780be11131839", func := "donjon/donjonlaw13.ChainPieces", spec := "chainPieces", apart := false }
def ChainPiecesSaid : Prop := chainPiecesRow.holds Try.pinned (OpenSpec.ofChange chainPiecesSpec)

/-- ITS FALSE NEIGHBOUR: 'it returns false'. Refute it at one input. -/
def chainPiecesWrong : ChangeSpec := { name := "chainPieces", fn := fun _ => fun
  | [d] => { results := [.lit (.bool false)], args := [d] }
  | _ => none }
def ChainPiecesWrongFalsely : Prop := chainPiecesRow.holds Try.pinned (OpenSpec.ofChange chainPiecesWrong)

/-- 'donjonlaw13.ChainPages': WHATEVER THE INPUT: true; the input reads as it did. -/
def chainPagesSpec : ChangeSpec := { name := "chainPages", fn := fun _ => fun
  | [d1, d2] => { results := [.lit (.bool true)], args := [d1, d2] }
  | _ => none }
def chainPagesRow : OpenClaim := { program := "ytbfcpapibenndaa", sum := "37a03762b023294766df831b229f74eeb31502ae89e2ffda243780be11131839", func := "donjon/donjonlaw13.ChainPages", spec := "chainPages", apart := false }
def ChainPagesSaid : Prop := chainPagesRow.holds Try.pinned (OpenSpec.ofChange chainPagesSpec)

/-- ITS FALSE NEIGHBOUR: 'it returns false'. Refute it at one input. -/
def chainPagesWrong : ChangeSpec := { name := "chainPages", fn := fun _ => fun
  | [d1, d2] => { results := [.lit (.bool false)], args := [d1, d2] }
  | _ => none }
def ChainPagesWrongFalsely : Prop := chainPagesRow.holds Try.pinned (OpenSpec.ofChange chainPagesWrong)

/-- 'donjonlaw13.ChainCuts': WHATEVER THE INPUT: true; the input reads as it did. -/
def chainCutsSpec : ChangeSpec := { name := "chainCuts", fn := fun _ => fun
  | [d] => { results := [.lit (.bool true)], args := [d] }
  | _ => none }
def chainCutsRow : OpenClaim := { program := "ytbfcpapibenndaa", sum := "37a03762b023294766df831b229f74eeb31502ae89e2ffda243780be11131839", func := "donjon/donjonlaw13.ChainCuts", spec := "chainCuts", apart := false }
def ChainCutsSaid : Prop := chainCutsRow.holds Try.pinned (OpenSpec.ofChange chainCutsSpec)

/-- ITS FALSE NEIGHBOUR: 'it returns false'. Refute it at one input. -/
def chainCutsWrong : ChangeSpec := { name := "chainCuts", fn := fun _ => fun
  | [d] => { results := [.lit (.bool false)], args := [d] }
  | _ => none }
def ChainCutsWrongFalsely : Prop := chainCutsRow.holds Try.pinned (OpenSpec.ofChange chainCutsWrong)

/-- 'donjonlaw13.ChainJoins': WHATEVER THE INPUT: true; the input reads as it did. -/
def chainJoinsSpec : ChangeSpec := { name := "chainJoins", fn := fun _ => fun
  | [d1, d2] => { results := [.lit (.bool true)], args := [d1, d2] }
  | _ => none }
def chainJoinsRow : OpenClaim := { program := "ytbfcpapibenndaa", sum := "37a03762b023294766df831b229f74eeb31502ae89e2ffda243780be11131839", func := "donjon/donjonlaw13.ChainJoins", spec := "chainJoins", apart := false }
def ChainJoinsSaid : Prop := chainJoinsRow.holds Try.pinned (OpenSpec.ofChange chainJoinsSpec)

/-- ITS FALSE NEIGHBOUR: 'it returns false'. Refute it at one input. -/
def chainJoinsWrong : ChangeSpec := { name := "chainJoins", fn := fun _ => fun
  | [d1, d2] => { results := [.lit (.bool false)], args := [d1, d2] }
  | _ => none }
def ChainJoinsWrongFalsely : Prop := chainJoinsRow.holds Try.pinned (OpenSpec.ofChange chainJoinsWrong)

/-- 'donjonlaw13.ChainReads': WHATEVER THE INPUT: true; the input reads as it did. -/
def chainReadsSpec : ChangeSpec := { name := "chainReads", fn := fun _ => fun
  | [d] => { results := [.lit (.bool true)], args := [d] }
  | _ => none }
def chainReadsRow : OpenClaim := { program := "ytbfcpapibenndaa", sum := "37a03762b023294766df831b229f74eeb31502ae89e2ffda243780be11131839", func := "donjon/donjonlaw13.ChainReads", spec := "chainReads", apart := false }
def ChainReadsSaid : Prop := chainReadsRow.holds Try.pinned (OpenSpec.ofChange chainReadsSpec)

/-- ITS FALSE NEIGHBOUR: 'it returns false'. Refute it at one input. -/
def chainReadsWrong : ChangeSpec := { name := "chainReads", fn := fun _ => fun
  | [d] => { results := [.lit (.bool false)], args := [d] }
  | _ => none }
def ChainReadsWrongFalsely : Prop := chainReadsRow.holds Try.pinned (OpenSpec.ofChange chainReadsWrong)

/-- 'donjonlaw13.ChainOnly': WHATEVER THE INPUT: true; the input reads as it did. -/
def chainOnlySpec : ChangeSpec := { name := "chainOnly", fn := fun _ => fun
  | [d] => { results := [.lit (.bool true)], args := [d] }
  | _ => none }
def chainOnlyRow : OpenClaim := { program := "ytbfcpapibenndaa", sum := "37a03762b023294766df831b229f74eeb31502ae89e2ffda243780be11131839", func := "donjon/donjonlaw13.ChainOnly", spec := "chainOnly", apart := false }
def ChainOnlySaid : Prop := chainOnlyRow.holds Try.pinned (OpenSpec.ofChange chainOnlySpec)

/-- ITS FALSE NEIGHBOUR: 'it returns false'. Refute it at one input. -/
def chainOnlyWrong : ChangeSpec := { name := "chainOnly", fn := fun _ => fun
  | [d] => { results := [.lit (.bool false)], args := [d] }
  | _ => none }
def ChainOnlyWrongFalsely : Prop := chainOnlyRow.holds Try.pinned (OpenSpec.ofChange chainOnlyWrong)

/-- 'donjonlaw13.ChainBack': WHATEVER THE INPUT: true; the input reads as it did. -/
def chainBackSpec : ChangeSpec := { name := "chainBack", fn := fun _ => fun
  | [d1, d2] => { results := [.lit (.bool true)], args := [d1, d2] }
  | _ => none }
def chainBackRow : OpenClaim := { program := "ytbfcpapibenndaa", sum := "37a03762b023294766df831b229f74eeb31502ae89e2ffda243780be11131839", func := "donjon/donjonlaw13.ChainBack", spec := "chainBack", apart := false }
def ChainBackSaid : Prop := chainBackRow.holds Try.pinned (OpenSpec.ofChange chainBackSpec)

/-- ITS FALSE NEIGHBOUR: 'it returns false'. Refute it at one input. -/
def chainBackWrong : ChangeSpec := { name := "chainBack", fn := fun _ => fun
  | [d1, d2] => { results := [.lit (.bool false)], args := [d1, d2] }
  | _ => none }
def ChainBackWrongFalsely : Prop := chainBackRow.holds Try.pinned (OpenSpec.ofChange chainBackWrong)

/- THE SECOND FORM. 'bulk': how many values and letters a reading holds, each counted each time it is reached (what is shared counts as often as it is met; a slice's spare places count too). A statement '..UptoSaid' is the law's where the arguments, and the package variables that the reading takes, are together of bulk at most 1048576: NARROWER than '..Said'. Prove '..Said' where nothing that the law and all that it calls make is longer than what came in: it says more and counts as full. Else prove '..UptoSaid'. A law counts once. -/
mutual
def uptoBulk {H : Type} : DataW H → Nat
  | .lit (.string bytes) => bytes.length + 1
  | .lit _ => 1
  | .nil => 1
  | .ptr d => uptoBulk d + 1
  | .slice elems spare => uptoBulkAll elems + uptoBulkAll spare + 1
  | .agg parts => uptoBulkAll parts + 1
  | .iface _ d => uptoBulk d + 1
  | .map entries => uptoBulkEntries entries + 1
  | .held _ => 1
def uptoBulkAll {H : Type} : List (DataW H) → Nat
  | [] => 0
  | d :: r => uptoBulk d + uptoBulkAll r
def uptoBulkEntries {H : Type} : List (Lit × DataW H) → Nat
  | [] => 0
  | x :: r => uptoBulkEntry x + uptoBulkEntries r
def uptoBulkEntry {H : Type} : Lit × DataW H → Nat
  | (.string bytes, d) => bytes.length + uptoBulk d + 1
  | (_, d) => uptoBulk d + 1
 end
def uptoSmall : (H : Type) → List (DataW H) → Bool := fun _ ds => decide (uptoBulkAll ds ≤ 1048576)
def OpenSpec.upto (s : _root_.Go.ChangeSpec) : _root_.Go.OpenSpec := { _root_.Go.OpenSpec.ofChange s with cond := some uptoSmall }

/-- 'donjonlaw13.ChainPieces', WHERE WHAT IT READS IS OF BULK AT MOST 1048576: true; the input reads as it did. -/
def chainPiecesUptoRow : OpenClaim := { program := "ytbfcpapibenndaa", sum := "37a03762b023294766df831b229f74eeb31502ae89e2ffda243780be11131839", func := "donjon/donjonlaw13.ChainPieces", spec := "chainPieces", apart := false, narrowed := true }
def ChainPiecesUptoSaid : Prop := chainPiecesUptoRow.holds Try.pinned (OpenSpec.upto chainPiecesSpec)

/-- 'donjonlaw13.ChainPages', WHERE WHAT IT READS IS OF BULK AT MOST 1048576: true; the input reads as it did. -/
def chainPagesUptoRow : OpenClaim := { program := "ytbfcpapibenndaa", sum := "37a03762b023294766df831b229f74eeb31502ae89e2ffda243780be11131839", func := "donjon/donjonlaw13.ChainPages", spec := "chainPages", apart := false, narrowed := true }
def ChainPagesUptoSaid : Prop := chainPagesUptoRow.holds Try.pinned (OpenSpec.upto chainPagesSpec)

/-- 'donjonlaw13.ChainCuts', WHERE WHAT IT READS IS OF BULK AT MOST 1048576: true; the input reads as it did. -/
def chainCutsUptoRow : OpenClaim := { program := "ytbfcpapibenndaa", sum := "37a03762b023294766df831b229f74eeb31502ae89e2ffda243780be11131839", func := "donjon/donjonlaw13.ChainCuts", spec := "chainCuts", apart := false, narrowed := true }
def ChainCutsUptoSaid : Prop := chainCutsUptoRow.holds Try.pinned (OpenSpec.upto chainCutsSpec)

/-- 'donjonlaw13.ChainJoins', WHERE WHAT IT READS IS OF BULK AT MOST 1048576: true; the input reads as it did. -/
def chainJoinsUptoRow : OpenClaim := { program := "ytbfcpapibenndaa", sum := "37a03762b023294766df831b229f74eeb31502ae89e2ffda243780be11131839", func := "donjon/donjonlaw13.ChainJoins", spec := "chainJoins", apart := false, narrowed := true }
def ChainJoinsUptoSaid : Prop := chainJoinsUptoRow.holds Try.pinned (OpenSpec.upto chainJoinsSpec)

/-- 'donjonlaw13.ChainReads', WHERE WHAT IT READS IS OF BULK AT MOST 1048576: true; the input reads as it did. -/
def chainReadsUptoRow : OpenClaim := { program := "ytbfcpapibenndaa", sum := "37a03762b023294766df831b229f74eeb31502ae89e2ffda243780be11131839", func := "donjon/donjonlaw13.ChainReads", spec := "chainReads", apart := false, narrowed := true }
def ChainReadsUptoSaid : Prop := chainReadsUptoRow.holds Try.pinned (OpenSpec.upto chainReadsSpec)

/-- 'donjonlaw13.ChainOnly', WHERE WHAT IT READS IS OF BULK AT MOST 1048576: true; the input reads as it did. -/
def chainOnlyUptoRow : OpenClaim := { program := "ytbfcpapibenndaa", sum := "37a03762b023294766df831b229f74eeb31502ae89e2ffda243780be11131839", func := "donjon/donjonlaw13.ChainOnly", spec := "chainOnly", apart := false, narrowed := true }
def ChainOnlyUptoSaid : Prop := chainOnlyUptoRow.holds Try.pinned (OpenSpec.upto chainOnlySpec)

/-- 'donjonlaw13.ChainBack', WHERE WHAT IT READS IS OF BULK AT MOST 1048576: true; the input reads as it did. -/
def chainBackUptoRow : OpenClaim := { program := "ytbfcpapibenndaa", sum := "37a03762b023294766df831b229f74eeb31502ae89e2ffda243780be11131839", func := "donjon/donjonlaw13.ChainBack", spec := "chainBack", apart := false, narrowed := true }
def ChainBackUptoSaid : Prop := chainBackUptoRow.holds Try.pinned (OpenSpec.upto chainBackSpec)

end Rows
end Go.Proofs.Ytbfcpapibenndaa
