/- How an argument that is an array of bytes is opened. -/
import Derived.Test.YtfmgpnaahkpmiaaOpen
set_option linter.unusedVariables false
namespace Go.Proofs.Ytfmgpnaahkpmiaa
open Go.ChangeShapes Go.WideShapes Go.ChangeAt Go.RowKit

section
variable {H : Type} {enc : TypeId × Value → H} {P : Program} {W : World}
theorem u8_of_wf {z : Int} (h : (Lit.int .u8 z).wf = true) : Value.int .u8 z = B8 (UInt8.ofNat z.toNat) := by
  have hb : 0 ≤ z ∧ z ≤ 255 := by
    simp only [Lit.wf, IntKind.min, IntKind.max, IntKind.signed, IntKind.bits, Bool.and_eq_true, decide_eq_true_eq] at h
    simpa using h
  show Value.int .u8 z = Value.int .u8 ((UInt8.ofNat z.toNat).toNat : Int)
  have e3 : (UInt8.ofNat z.toNat).toNat = z.toNat := by rw [UInt8.toNat_ofNat']; omega
  rw [e3]
  congr 1
  omega
theorem bytes_of_cells (cs : List Value) (h : ∀ i, i < cs.length → ∃ z, cs[i]? = some (.int .u8 z) ∧ (Lit.int .u8 z).wf = true) : ∃ l : List UInt8, cs = l.map B8 ∧ l.length = cs.length := by
  induction cs with
  | nil => exact ⟨[], rfl, rfl⟩
  | cons c cs ih =>
    obtain ⟨l, hl, hn⟩ := ih fun i hi => by simpa using h (i + 1) (by simpa using hi)
    obtain ⟨z, hz, hw⟩ := h 0 (by simp)
    simp only [List.getElem?_cons_zero, Option.some.injEq] at hz
    subst hz
    exact ⟨UInt8.ofNat z.toNat :: l, by rw [List.map_cons, ← hl, u8_of_wf hw], by simp [hn]⟩
/-- An array of n bytes. -/
theorem open_arr {T E : TypeId} {n : Nat} {r : Reach} {b0 : Nat} {v : Value} {d : DataW H} {ps : List MemPlace} (hT : P.underlying T = some (.array n E)) (hE : P.underlying E = some (.int .u8)) (hc : P.cellsOf E = 1) (hn : P.cellsOf T = n)
    (hval : Value.okWide P W r b0 T v) (h : DataW.Trod enc P W 0 (fun _ => true) true T v d ps) :
    ∃ l : List UInt8, l.length = n ∧ v = .agg (l.map B8).toArray := by
  obtain ⟨fuel, hf⟩ := h
  have hv : ∃ cs, v = .agg cs := by
    simp only [Value.okWide, hT] at hval
    obtain ⟨cs, h1, _⟩ := hval
    exact ⟨cs, h1⟩
  obtain ⟨cs, rfl⟩ := hv
  obtain ⟨xs, m, _, _, hl, hxl, hx⟩ := DataW.trod_array hT hf
  have hlen : cs.toList.length = n := by
    rw [hn] at hl
    simpa [Value.cells] using hl
  obtain ⟨l, e, hll⟩ := bytes_of_cells cs.toList fun i hi => by
    have hi' : i < n := by omega
    have := hx i hi'
    rw [hc, Nat.mul_one, List.getElem?_eq_getElem (show i < xs.length by omega)] at this
    obtain ⟨z, h1, _, h3⟩ := DataW.trod_int hE this
    refine ⟨z, ?_, h3⟩
    have hh := congrArg (fun q : List Value => q[0]?) h1
    simpa [Value.cells, List.getElem?_take, List.getElem?_drop] using hh
  exact ⟨l, by omega, by rw [← e]⟩
end
end Go.Proofs.Ytfmgpnaahkpmiaa
