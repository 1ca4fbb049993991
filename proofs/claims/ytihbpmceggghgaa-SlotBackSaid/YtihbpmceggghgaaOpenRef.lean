/- How an argument that is a Ref is opened. -/
import Derived.Test.YtihbpmceggghgaaOpen
import Derived.Test.YtihbpmceggghgaaOwn
set_option linter.unusedVariables false
set_option linter.unusedSimpArgs false
namespace Go.Proofs.Ytihbpmceggghgaa
open Go.ChangeShapes Go.WideShapes Go.ChangeAt Go.RowKit

section
variable {H : Type} {enc : TypeId × Value → H} {W : World}
theorem nat_of_wf {k : IntKind} {b : Nat} {z : Int} (h : (Lit.int k z).wf = true) (hk : k.signed = false) (hb : 2 ^ k.bits = b) : ∃ n : Nat, z = (n : Int) ∧ n < b := by
  subst hb
  cases k <;> first | (exact absurd hk (by decide)) | skip
  all_goals
    simp only [Lit.wf, IntKind.min, IntKind.max, IntKind.signed, IntKind.bits, Bool.and_eq_true, decide_eq_true_eq] at h
    simp at h
    obtain ⟨n, rfl⟩ := Int.eq_ofNat_of_zero_le h.1
    refine ⟨n, rfl, ?_⟩
    simp only [IntKind.bits]
    omega
theorem trod_ref {B : Nat} {sp : Nat → Bool} {hd : Bool} {fuel : Nat} {cs : List Value} {x : DataW H × List MemPlace} (h : DataW.trod enc Try.prog W B sp hd fuel 47 cs = some x) :
    ∃ p q g : Nat, cs = [.int .u32 p, .int .u64 q, .int .u16 g] ∧ p < 4294967296 ∧ q < 18446744073709551616 ∧ g < 65536 := by
  obtain ⟨xs, n, rfl, rfl, hl, hxl, hf⟩ := DataW.trod_struct Try.underlying47 h
  have c0 : Try.prog.cellsOf 47 = 3 := by kernel_rfl
  have c1 : Try.prog.cellsOf 43 = 1 := by kernel_rfl
  have c2 : Try.prog.cellsOf 44 = 1 := by kernel_rfl
  have c3 : Try.prog.cellsOf 45 = 1 := by kernel_rfl
  rw [c0] at hl
  have hx3 : xs.length = 3 := hxl
  match cs, hl, xs, hx3, hf with
  | [a, b, c], _, [y0, y1, y2], _, hf =>
    have f0 : DataW.trod enc Try.prog W B sp hd n 43 (([a, b, c].drop 0).take (Try.prog.cellsOf 43)) = some y0 := hf 0 _ rfl
    have f1 : DataW.trod enc Try.prog W B sp hd n 44 (([a, b, c].drop 1).take (Try.prog.cellsOf 44)) = some y1 := hf 1 _ rfl
    have f2 : DataW.trod enc Try.prog W B sp hd n 45 (([a, b, c].drop 2).take (Try.prog.cellsOf 45)) = some y2 := hf 2 _ rfl
    rw [c1] at f0
    rw [c2] at f1
    rw [c3] at f2
    obtain ⟨z0, e0, _, w0⟩ := DataW.trod_int Try.underlying43 f0
    obtain ⟨z1, e1, _, w1⟩ := DataW.trod_int Try.underlying44 f1
    obtain ⟨z2, e2, _, w2⟩ := DataW.trod_int Try.underlying45 f2
    obtain ⟨p, rfl, hp⟩ := nat_of_wf w0 rfl (b := 4294967296) (by decide)
    obtain ⟨q, rfl, hq⟩ := nat_of_wf w1 rfl (b := 18446744073709551616) (by decide)
    obtain ⟨g, rfl, hg⟩ := nat_of_wf w2 rfl (b := 65536) (by decide)
    simp at e0 e1 e2
    subst e0; subst e1; subst e2
    exact ⟨p, q, g, rfl, hp, hq, hg⟩
theorem open_ref {r : Reach} {b0 : Nat} {v : Value} {d : DataW H} {ps : List MemPlace} (hval : Value.okWide Try.prog W r b0 47 v) (h : DataW.Trod enc Try.prog W 0 (fun _ => true) true 47 v d ps) :
    ∃ p q g : Nat, v = RefV p q g ∧ p < 4294967296 ∧ q < 18446744073709551616 ∧ g < 65536 := by
  obtain ⟨cs, rfl, _⟩ := okWide_struct Try.underlying47 hval
  obtain ⟨fuel, hf⟩ := h
  obtain ⟨p, q, g, e, hp, hq, hg⟩ := trod_ref hf
  refine ⟨p, q, g, ?_, hp, hq, hg⟩
  have : cs.toList = _ := e
  show Value.agg cs = Value.agg _
  congr 1
  apply Array.ext'
  simpa using this
end
end Go.Proofs.Ytihbpmceggghgaa
