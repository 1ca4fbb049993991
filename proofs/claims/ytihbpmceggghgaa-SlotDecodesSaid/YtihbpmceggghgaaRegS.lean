/- Regions that draw: a step where two or three operations may come up. No program in sight. -/
import Derived.Test.YtihbpmceggghgaaRegG
set_option linter.unusedVariables false
set_option linter.unusedSimpArgs false
namespace Go.Proofs.Ytihbpmceggghgaa
open Go

section
variable {P : Program} {ops : Array Oper} {Q : Exit → Act → World → Prop} {md : Region.Mode} {S : World → Prop}
/-- One operation as a step. -/
def StepOf (P : Program) (md : Region.Mode) (ops : Array Oper) (Q : Exit → Act → World → Prop) (n : Nat) (S : World → Prop) (fuel : Nat) (listed : Array Bool) (i : Nat) (a : Act) (w : World) : Prop :=
  wpOp P ops Q i (fun a' w' => ((listed.setIfInBounds i true).getD n false = false → S w') ∧ wpAnyG P md ops Q n S fuel (listed.setIfInBounds i true) a' w') a w
theorem StepOf.mk (i : Nat) {n : Nat} {o : Oper} {fuel : Nat} {listed : Array Bool} {a : Act} {w : World} (ho : ops[i]? = some o)
    (h : ∀ K' : Act → World → Prop, Shut (∀ a w, S w → (S w → wpAnyG P md ops Q n S fuel (listed.setIfInBounds i true) a w) → K' a w) → if Region.wanted o (yielded ops a.tmps) = true then Oper.wp P o a w K' Q else K' (a.put o.dst undef) w) :
    StepOf P md ops Q n S fuel listed i a w :=
  wpOp_step ho fun K' hK => h K' fun a w hS hW => hK a w ⟨fun _ => hS, hW hS⟩
theorem stepG2 (i j : Nat) {n : Nat} {fuel : Nat} {listed : Array Bool} {a : Act} {w : World} (hr : Region.ready md ops listed = [i, j])
    (h1 : StepOf P md ops Q n S fuel listed i a w) (h2 : StepOf P md ops Q n S fuel listed j a w) : wpAnyG P md ops Q n S (fuel + 1) listed a w := by
  refine ⟨fun e => absurd (hr.symm.trans e) (by simp), fun k hk => ?_⟩
  rw [hr] at hk
  simp only [List.mem_cons, List.not_mem_nil, or_false] at hk
  rcases hk with rfl | rfl
  · exact h1
  · exact h2
theorem stepG3 (i j l : Nat) {n : Nat} {fuel : Nat} {listed : Array Bool} {a : Act} {w : World} (hr : Region.ready md ops listed = [i, j, l])
    (h1 : StepOf P md ops Q n S fuel listed i a w) (h2 : StepOf P md ops Q n S fuel listed j a w) (h3 : StepOf P md ops Q n S fuel listed l a w) : wpAnyG P md ops Q n S (fuel + 1) listed a w := by
  refine ⟨fun e => absurd (hr.symm.trans e) (by simp), fun k hk => ?_⟩
  rw [hr] at hk
  simp only [List.mem_cons, List.not_mem_nil, or_false] at hk
  rcases hk with rfl | rfl | rfl
  · exact h1
  · exact h2
  · exact h3
end
end Go.Proofs.Ytihbpmceggghgaa
