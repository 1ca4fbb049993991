/- Regions that draw: a step where four operations may come up; an operation that makes a row of bytes. No program in sight. -/
import Derived.Test.YtikhnjoobhfgdaaRegS
set_option linter.unusedVariables false
namespace Go.Proofs.Ytikhnjoobhfgdaa
open Go

section
variable {P : Program} {ops : Array Oper} {Q : Exit → Act → World → Prop} {md : Region.Mode} {S : World → Prop}
theorem stepG4 (i j l m : Nat) {n : Nat} {fuel : Nat} {listed : Array Bool} {a : Act} {w : World} (hr : Region.ready md ops listed = [i, j, l, m])
    (h1 : StepOf P md ops Q n S fuel listed i a w) (h2 : StepOf P md ops Q n S fuel listed j a w) (h3 : StepOf P md ops Q n S fuel listed l a w) (h4 : StepOf P md ops Q n S fuel listed m a w) : wpAnyG P md ops Q n S (fuel + 1) listed a w := by
  refine ⟨fun e => absurd (hr.symm.trans e) (by simp), fun k hk => ?_⟩
  rw [hr] at hk
  simp only [List.mem_cons, List.not_mem_nil, or_false] at hk
  rcases hk with rfl | rfl | rfl | rfl
  · exact h1
  · exact h2
  · exact h3
  · exact h4
end
end Go.Proofs.Ytikhnjoobhfgdaa
