/-
  No cell of these rows narrows 'for every input' (looked for: loops, veiled, ifaces, maps, wideKeys, modest, calm, conditions, laid).
  DERIVED. THE GIVEN ROWS OF THIS SEAT. 9 by the template 'for every input the law returns true; each argument reads behind the call as it read before'; 0 by the template 'total and deterministic' (their statements: YtgihcjmcefdkiaaTotals.lean).
  GIVEN WITH THE SEED: the statements are not yours to turn. If you find one false, say at which input.
  Laid BY PROGRAM, IN A SANDBOX (cutbox-rows.mjs): the forced cells as the released guide's own fill.sh prints them over the translation bf8152e1d9e31918… (all of the seat's roots in one cut). By AI agents, Wed Nov 11 2026. No macro, syntax, notation, axiom, sorry.
-/
import Derived.Test.YtgihcjmcefdkiaaChecked
import GoSem.Claim
import GoSem.ClaimJoined
import GoSem.ClaimMapViews
import Derived.JoinedTies
import Derived.KernelRfl
namespace Go.Proofs.Ytgihcjmcefdkiaa
/- THE CELL 'sum', in the pinned program and in every row, IS THE sha256 OF THE DUMP (.gsa) THAT YtgihcjmcefdkiaaProg.lean LOADS. Nothing in Lean hashes anything: it is a label: what it is worth is what the hold of that sum in a sandbox is worth. -/
noncomputable def Try.pinned : Pinned := { name := "ytgihcjmcefdkiaa", sum := "bf8152e1d9e319186f7ba57fee7a9475f5b6c6780d7d5ec0dc0fdd52c011f6a1", checked := Try.checked }
namespace Rows
def none {H : Type} : Left H := { results := [], args := [] }

/-- 'donjonlaw14.GraftSplits': WHATEVER THE INPUT: true; the input reads as it did. -/
def graftSplitsSpec : ChangeSpec := { name := "graftSplits", fn := fun _ => fun
  | [d] => { results := [.lit (.bool true)], args := [d] }
  | _ => none }
def graftSplitsRow : OpenClaim := { program := "ytgihcjmcefdkiaa", sum := "bf8152e1d9e319186f7ba57fee7a9475f5b6c6780d7d5ec0dc0fdd52c011f6a1", func := "donjon/donjonlaw14.GraftSplits", spec := "graftSplits", inPlace := ["internal/bytealg.Compare"], apart := false }
def GraftSplitsSaid : Prop := graftSplitsRow.holds Try.pinned (OpenSpec.ofChange graftSplitsSpec)

/-- ITS FALSE NEIGHBOUR: 'it returns false'. Refute it at one input. -/
def graftSplitsWrong : ChangeSpec := { name := "graftSplits", fn := fun _ => fun
  | [d] => { results := [.lit (.bool false)], args := [d] }
  | _ => none }
def GraftSplitsWrongFalsely : Prop := graftSplitsRow.holds Try.pinned (OpenSpec.ofChange graftSplitsWrong)

/-- 'donjonlaw14.GraftLow': WHATEVER THE INPUT: true; the input reads as it did. -/
def graftLowSpec : ChangeSpec := { name := "graftLow", fn := fun _ => fun
  | [d] => { results := [.lit (.bool true)], args := [d] }
  | _ => none }
def graftLowRow : OpenClaim := { program := "ytgihcjmcefdkiaa", sum := "bf8152e1d9e319186f7ba57fee7a9475f5b6c6780d7d5ec0dc0fdd52c011f6a1", func := "donjon/donjonlaw14.GraftLow", spec := "graftLow", inPlace := ["internal/bytealg.Compare"], apart := false }
def GraftLowSaid : Prop := graftLowRow.holds Try.pinned (OpenSpec.ofChange graftLowSpec)

/-- ITS FALSE NEIGHBOUR: 'it returns false'. Refute it at one input. -/
def graftLowWrong : ChangeSpec := { name := "graftLow", fn := fun _ => fun
  | [d] => { results := [.lit (.bool false)], args := [d] }
  | _ => none }
def GraftLowWrongFalsely : Prop := graftLowRow.holds Try.pinned (OpenSpec.ofChange graftLowWrong)

/-- 'donjonlaw14.GraftFinds': WHATEVER THE INPUT: true; the input reads as it did. -/
def graftFindsSpec : ChangeSpec := { name := "graftFinds", fn := fun _ => fun
  | [d1, d2] => { results := [.lit (.bool true)], args := [d1, d2] }
  | _ => none }
def graftFindsRow : OpenClaim := { program := "ytgihcjmcefdkiaa", sum := "bf8152e1d9e319186f7ba57fee7a9475f5b6c6780d7d5ec0dc0fdd52c011f6a1", func := "donjon/donjonlaw14.GraftFinds", spec := "graftFinds", inPlace := ["internal/bytealg.Compare"], apart := false }
def GraftFindsSaid : Prop := graftFindsRow.holds Try.pinned (OpenSpec.ofChange graftFindsSpec)

/-- ITS FALSE NEIGHBOUR: 'it returns false'. Refute it at one input. -/
def graftFindsWrong : ChangeSpec := { name := "graftFinds", fn := fun _ => fun
  | [d1, d2] => { results := [.lit (.bool false)], args := [d1, d2] }
  | _ => none }
def GraftFindsWrongFalsely : Prop := graftFindsRow.holds Try.pinned (OpenSpec.ofChange graftFindsWrong)

/-- 'donjonlaw14.GraftPuts': WHATEVER THE INPUT: true; the input reads as it did. -/
def graftPutsSpec : ChangeSpec := { name := "graftPuts", fn := fun _ => fun
  | [d1, d2, d3] => { results := [.lit (.bool true)], args := [d1, d2, d3] }
  | _ => none }
def graftPutsRow : OpenClaim := { program := "ytgihcjmcefdkiaa", sum := "bf8152e1d9e319186f7ba57fee7a9475f5b6c6780d7d5ec0dc0fdd52c011f6a1", func := "donjon/donjonlaw14.GraftPuts", spec := "graftPuts", inPlace := ["internal/bytealg.Compare"], apart := false }
def GraftPutsSaid : Prop := graftPutsRow.holds Try.pinned (OpenSpec.ofChange graftPutsSpec)

/-- ITS FALSE NEIGHBOUR: 'it returns false'. Refute it at one input. -/
def graftPutsWrong : ChangeSpec := { name := "graftPuts", fn := fun _ => fun
  | [d1, d2, d3] => { results := [.lit (.bool false)], args := [d1, d2, d3] }
  | _ => none }
def GraftPutsWrongFalsely : Prop := graftPutsRow.holds Try.pinned (OpenSpec.ofChange graftPutsWrong)

/-- 'donjonlaw14.GraftDrops': WHATEVER THE INPUT: true; the input reads as it did. -/
def graftDropsSpec : ChangeSpec := { name := "graftDrops", fn := fun _ => fun
  | [d1, d2] => { results := [.lit (.bool true)], args := [d1, d2] }
  | _ => none }
def graftDropsRow : OpenClaim := { program := "ytgihcjmcefdkiaa", sum := "bf8152e1d9e319186f7ba57fee7a9475f5b6c6780d7d5ec0dc0fdd52c011f6a1", func := "donjon/donjonlaw14.GraftDrops", spec := "graftDrops", inPlace := ["internal/bytealg.Compare"], apart := false }
def GraftDropsSaid : Prop := graftDropsRow.holds Try.pinned (OpenSpec.ofChange graftDropsSpec)

/-- ITS FALSE NEIGHBOUR: 'it returns false'. Refute it at one input. -/
def graftDropsWrong : ChangeSpec := { name := "graftDrops", fn := fun _ => fun
  | [d1, d2] => { results := [.lit (.bool false)], args := [d1, d2] }
  | _ => none }
def GraftDropsWrongFalsely : Prop := graftDropsRow.holds Try.pinned (OpenSpec.ofChange graftDropsWrong)

/-- 'donjonlaw14.GraftJoins': WHATEVER THE INPUT: true; the input reads as it did. -/
def graftJoinsSpec : ChangeSpec := { name := "graftJoins", fn := fun _ => fun
  | [d1, d2, d3] => { results := [.lit (.bool true)], args := [d1, d2, d3] }
  | _ => none }
def graftJoinsRow : OpenClaim := { program := "ytgihcjmcefdkiaa", sum := "bf8152e1d9e319186f7ba57fee7a9475f5b6c6780d7d5ec0dc0fdd52c011f6a1", func := "donjon/donjonlaw14.GraftJoins", spec := "graftJoins", inPlace := ["internal/bytealg.Compare"], apart := false }
def GraftJoinsSaid : Prop := graftJoinsRow.holds Try.pinned (OpenSpec.ofChange graftJoinsSpec)

/-- ITS FALSE NEIGHBOUR: 'it returns false'. Refute it at one input. -/
def graftJoinsWrong : ChangeSpec := { name := "graftJoins", fn := fun _ => fun
  | [d1, d2, d3] => { results := [.lit (.bool false)], args := [d1, d2, d3] }
  | _ => none }
def GraftJoinsWrongFalsely : Prop := graftJoinsRow.holds Try.pinned (OpenSpec.ofChange graftJoinsWrong)

/-- 'donjonlaw14.GraftOne': WHATEVER THE INPUT: true; the input reads as it did. -/
def graftOneSpec : ChangeSpec := { name := "graftOne", fn := fun _ => fun
  | [d1, d2, d3] => { results := [.lit (.bool true)], args := [d1, d2, d3] }
  | _ => none }
def graftOneRow : OpenClaim := { program := "ytgihcjmcefdkiaa", sum := "bf8152e1d9e319186f7ba57fee7a9475f5b6c6780d7d5ec0dc0fdd52c011f6a1", func := "donjon/donjonlaw14.GraftOne", spec := "graftOne", inPlace := ["internal/bytealg.Compare"], apart := false }
def GraftOneSaid : Prop := graftOneRow.holds Try.pinned (OpenSpec.ofChange graftOneSpec)

/-- ITS FALSE NEIGHBOUR: 'it returns false'. Refute it at one input. -/
def graftOneWrong : ChangeSpec := { name := "graftOne", fn := fun _ => fun
  | [d1, d2, d3] => { results := [.lit (.bool false)], args := [d1, d2, d3] }
  | _ => none }
def GraftOneWrongFalsely : Prop := graftOneRow.holds Try.pinned (OpenSpec.ofChange graftOneWrong)

/-- 'donjonlaw14.GraftHalves': WHATEVER THE INPUT: true; the input reads as it did. -/
def graftHalvesSpec : ChangeSpec := { name := "graftHalves", fn := fun _ => fun
  | [d] => { results := [.lit (.bool true)], args := [d] }
  | _ => none }
def graftHalvesRow : OpenClaim := { program := "ytgihcjmcefdkiaa", sum := "bf8152e1d9e319186f7ba57fee7a9475f5b6c6780d7d5ec0dc0fdd52c011f6a1", func := "donjon/donjonlaw14.GraftHalves", spec := "graftHalves", inPlace := ["internal/bytealg.Compare"], unfollowed := true, recurses := true, apart := false }
def GraftHalvesSaid : Prop := graftHalvesRow.holds Try.pinned (OpenSpec.ofChange graftHalvesSpec)

/-- ITS FALSE NEIGHBOUR: 'it returns false'. Refute it at one input. -/
def graftHalvesWrong : ChangeSpec := { name := "graftHalves", fn := fun _ => fun
  | [d] => { results := [.lit (.bool false)], args := [d] }
  | _ => none }
def GraftHalvesWrongFalsely : Prop := graftHalvesRow.holds Try.pinned (OpenSpec.ofChange graftHalvesWrong)

/-- 'donjonlaw14.GraftBack': WHATEVER THE INPUT: true; the input reads as it did. -/
def graftBackSpec : ChangeSpec := { name := "graftBack", fn := fun _ => fun
  | [d1, d2] => { results := [.lit (.bool true)], args := [d1, d2] }
  | _ => none }
def graftBackRow : OpenClaim := { program := "ytgihcjmcefdkiaa", sum := "bf8152e1d9e319186f7ba57fee7a9475f5b6c6780d7d5ec0dc0fdd52c011f6a1", func := "donjon/donjonlaw14.GraftBack", spec := "graftBack", inPlace := ["internal/bytealg.Compare"], unfollowed := true, recurses := true, apart := false }
def GraftBackSaid : Prop := graftBackRow.holds Try.pinned (OpenSpec.ofChange graftBackSpec)

/-- ITS FALSE NEIGHBOUR: 'it returns false'. Refute it at one input. -/
def graftBackWrong : ChangeSpec := { name := "graftBack", fn := fun _ => fun
  | [d1, d2] => { results := [.lit (.bool false)], args := [d1, d2] }
  | _ => none }
def GraftBackWrongFalsely : Prop := graftBackRow.holds Try.pinned (OpenSpec.ofChange graftBackWrong)

/- THE SECOND FORM. 'bulk': how many values and letters a reading holds, each counted each time it is reached (what is shared counts as often as it is met; a slice's spare places count too). A statement '..UptoSaid' is the law's where the arguments, and the package variables that the reading takes, are together of bulk at most 1048576: NARROWER than '..Said'. Prove '..Said' where nothing that the law and all that it calls make is longer than what came in: it says more and counts as full. Else prove '..UptoSaid'. A law counts once. -/
mutual
def uptoBulk {H : Type} : DataW H → Nat
  | .lit (.string bytes) => bytes.length + 1
  | .lit _ => 1
  | .nil => 1
  | .ptr d => uptoBulk d + 1
  | .slice elems spare => uptoBulkAll elems + uptoBulkAll spare + 1
  | .agg parts => uptoBulkAll parts + 1
  | .iface _ d => uptoBulk d + 1
  | .map entries => uptoBulkEntries entries + 1
  | .held _ => 1
def uptoBulkAll {H : Type} : List (DataW H) → Nat
  | [] => 0
  | d :: r => uptoBulk d + uptoBulkAll r
def uptoBulkEntries {H : Type} : List (Lit × DataW H) → Nat
  | [] => 0
  | x :: r => uptoBulkEntry x + uptoBulkEntries r
def uptoBulkEntry {H : Type} : Lit × DataW H → Nat
  | (.string bytes, d) => bytes.length + uptoBulk d + 1
  | (_, d) => uptoBulk d + 1
 end
def uptoSmall : (H : Type) → List (DataW H) → Bool := fun _ ds => decide (uptoBulkAll ds ≤ 1048576)
def OpenSpec.upto (s : _root_.Go.ChangeSpec) : _root_.Go.OpenSpec := { _root_.Go.OpenSpec.ofChange s with cond := some uptoSmall }

/-- 'donjonlaw14.GraftSplits', WHERE WHAT IT READS IS OF BULK AT MOST 1048576: true; the input reads as it did. -/
def graftSplitsUptoRow : OpenClaim := { program := "ytgihcjmcefdkiaa", sum := "bf8152e1d9e319186f7ba57fee7a9475f5b6c6780d7d5ec0dc0fdd52c011f6a1", func := "donjon/donjonlaw14.GraftSplits", spec := "graftSplits", inPlace := ["internal/bytealg.Compare"], apart := false, narrowed := true }
def GraftSplitsUptoSaid : Prop := graftSplitsUptoRow.holds Try.pinned (OpenSpec.upto graftSplitsSpec)

/-- 'donjonlaw14.GraftLow', WHERE WHAT IT READS IS OF BULK AT MOST 1048576: true; the input reads as it did. -/
def graftLowUptoRow : OpenClaim := { program := "ytgihcjmcefdkiaa", sum := "bf8152e1d9e319186f7ba57fee7a9475f5b6c6780d7d5ec0dc0fdd52c011f6a1", func := "donjon/donjonlaw14.GraftLow", spec := "graftLow", inPlace := ["internal/bytealg.Compare"], apart := false, narrowed := true }
def GraftLowUptoSaid : Prop := graftLowUptoRow.holds Try.pinned (OpenSpec.upto graftLowSpec)

/-- 'donjonlaw14.GraftFinds', WHERE WHAT IT READS IS OF BULK AT MOST 1048576: true; the input reads as it did. -/
def graftFindsUptoRow : OpenClaim := { program := "ytgihcjmcefdkiaa", sum := "bf8152e1d9e319186f7ba57fee7a9475f5b6c6780d7d5ec0dc0fdd52c011f6a1", func := "donjon/donjonlaw14.GraftFinds", spec := "graftFinds", inPlace := ["internal/bytealg.Compare"], apart := false, narrowed := true }
def GraftFindsUptoSaid : Prop := graftFindsUptoRow.holds Try.pinned (OpenSpec.upto graftFindsSpec)

/-- 'donjonlaw14.GraftPuts', WHERE WHAT IT READS IS OF BULK AT MOST 1048576: true; the input reads as it did. -/
def graftPutsUptoRow : OpenClaim := { program := "ytgihcjmcefdkiaa", sum := "bf8152e1d9e319186f7ba57fee7a9475f5b6c6780d7d5ec0dc0fdd52c011f6a1", func := "donjon/donjonlaw14.GraftPuts", spec := "graftPuts", inPlace := ["internal/bytealg.Compare"], apart := false, narrowed := true }
def GraftPutsUptoSaid : Prop := graftPutsUptoRow.holds Try.pinned (OpenSpec.upto graftPutsSpec)

/-- 'donjonlaw14.GraftDrops', WHERE WHAT IT READS IS OF BULK AT MOST 1048576: true; the input reads as it did. -/
def graftDropsUptoRow : OpenClaim := { program := "ytgihcjmcefdkiaa", sum := "bf8152e1d9e319186f7ba57fee7a9475f5b6c6780d7d5ec0dc0fdd52c011f6a1", func := "donjon/donjonlaw14.GraftDrops", spec := "graftDrops", inPlace := ["internal/bytealg.Compare"], apart := false, narrowed := true }
def GraftDropsUptoSaid : Prop := graftDropsUptoRow.holds Try.pinned (OpenSpec.upto graftDropsSpec)

/-- 'donjonlaw14.GraftJoins', WHERE WHAT IT READS IS OF BULK AT MOST 1048576: true; the input reads as it did. -/
def graftJoinsUptoRow : OpenClaim := { program := "ytgihcjmcefdkiaa", sum := "bf8152e1d9e319186f7ba57fee7a9475f5b6c6780d7d5ec0dc0fdd52c011f6a1", func := "donjon/donjonlaw14.GraftJoins", spec := "graftJoins", inPlace := ["internal/bytealg.Compare"], apart := false, narrowed := true }
def GraftJoinsUptoSaid : Prop := graftJoinsUptoRow.holds Try.pinned (OpenSpec.upto graftJoinsSpec)

/-- 'donjonlaw14.GraftOne', WHERE WHAT IT READS IS OF BULK AT MOST 1048576: true; the input reads as it did. -/
def graftOneUptoRow : OpenClaim := { program := "ytgihcjmcefdkiaa", sum := "bf8152e1d9e319186f7ba57fee7a9475f5b6c6780d7d5ec0dc0fdd52c011f6a1", func := "donjon/donjonlaw14.GraftOne", spec := "graftOne", inPlace := ["internal/bytealg.Compare"], apart := false, narrowed := true }
def GraftOneUptoSaid : Prop := graftOneUptoRow.holds Try.pinned (OpenSpec.upto graftOneSpec)

/-- 'donjonlaw14.GraftHalves', WHERE WHAT IT READS IS OF BULK AT MOST 1048576: true; the input reads as it did. -/
def graftHalvesUptoRow : OpenClaim := { program := "ytgihcjmcefdkiaa", sum := "bf8152e1d9e319186f7ba57fee7a9475f5b6c6780d7d5ec0dc0fdd52c011f6a1", func := "donjon/donjonlaw14.GraftHalves", spec := "graftHalves", inPlace := ["internal/bytealg.Compare"], unfollowed := true, recurses := true, apart := false, narrowed := true }
def GraftHalvesUptoSaid : Prop := graftHalvesUptoRow.holds Try.pinned (OpenSpec.upto graftHalvesSpec)

/-- 'donjonlaw14.GraftBack', WHERE WHAT IT READS IS OF BULK AT MOST 1048576: true; the input reads as it did. -/
def graftBackUptoRow : OpenClaim := { program := "ytgihcjmcefdkiaa", sum := "bf8152e1d9e319186f7ba57fee7a9475f5b6c6780d7d5ec0dc0fdd52c011f6a1", func := "donjon/donjonlaw14.GraftBack", spec := "graftBack", inPlace := ["internal/bytealg.Compare"], unfollowed := true, recurses := true, apart := false, narrowed := true }
def GraftBackUptoSaid : Prop := graftBackUptoRow.holds Try.pinned (OpenSpec.upto graftBackSpec)

end Rows
end Go.Proofs.Ytgihcjmcefdkiaa
