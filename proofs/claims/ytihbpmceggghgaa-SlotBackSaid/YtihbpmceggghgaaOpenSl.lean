/- How an argument that is a slice of slices of bytes is opened. -/
import Derived.Test.YtihbpmceggghgaaOpen
import Derived.Test.YtihbpmceggghgaaSlc
import Derived.Deep.Matrix
set_option linter.unusedVariables false
set_option linter.unusedSimpArgs false
namespace Go.Proofs.Ytihbpmceggghgaa
open Go.ChangeShapes Go.WideShapes Go.ChangeAt Go.RowKit Go.Deep

section
variable {H : Type} {enc : TypeId × Value → H} {P : Program} {W : World}
theorem trod_bytes {T E : TypeId} {fuel : Nat} {cs : List Value} {x : DataW H × List MemPlace} (hT : P.underlying T = some (.slice E)) (hE : P.underlying E = some (.int .u8)) (hc : P.cellsOf E = 1)
    (hf : DataW.trod enc P W 0 (fun _ => true) true fuel T cs = some x) :
    ∃ a len cap l, cs = [.slice a len cap] ∧ Rd W a len cap l := by
  rcases open_ints hT hE hc hf with ⟨hcs, hx⟩ | ⟨x, len0, cap0, zs, hcs, _, hl, hm, hz, hx, hcell, hwz⟩
  · exact ⟨none, 0, 0, [], hcs, Rd.none_ W⟩
  · have hz' : zs.length = cap0 := by simpa using hz
    refine ⟨some x, len0, cap0, (zs.take len0).map fun z => UInt8.ofNat z.toNat, hcs, ⟨by simp; omega, hl, hm, fun h0 => ?_⟩⟩
    obtain ⟨b, off, spot⟩ := x
    have hspot : spot = none := by
      have := hcell 0 (by omega)
      simpa [Addr.add] using World.cell?_spot this
    subst hspot
    refine ⟨b, off, rfl, fun j hj => ?_⟩
    have hj' : j < zs.length := by omega
    have hcj := hcell j hj'
    rw [Addr.add_lit] at hcj
    rw [hcj]
    have e1 : zs.getD j 0 = zs[j] := by simp [List.getD, List.getElem?_eq_getElem hj']
    have hw := hwz _ (List.getElem_mem hj')
    have hb : 0 ≤ zs[j] ∧ zs[j] ≤ 255 := by
      simp only [Lit.wf, IntKind.min, IntKind.max, IntKind.signed, IntKind.bits, Bool.and_eq_true, decide_eq_true_eq] at hw
      simpa using hw
    have e2 : (((zs.take len0).map fun z => UInt8.ofNat z.toNat).getD j 0) = UInt8.ofNat zs[j].toNat := by
      simp [List.getD, List.getElem?_take, hj, List.getElem?_eq_getElem hj']
    rw [e1, e2]
    show some (Value.int .u8 zs[j]) = some (Value.int .u8 ((UInt8.ofNat zs[j].toNat).toNat : Int))
    have e3 : (UInt8.ofNat zs[j].toNat).toNat = zs[j].toNat := by
      rw [UInt8.toNat_ofNat']; omega
    rw [e3]
    congr 2
    omega
theorem open_slices {T E Q : TypeId} {r : Reach} {b0 : Nat} {v : Value} {d : DataW H} {ps : List MemPlace} (hT : P.underlying T = some (.slice E)) (hE : P.underlying E = some (.slice Q)) (hQ : P.underlying Q = some (.int .u8)) (hc1 : P.cellsOf E = 1) (hc2 : P.cellsOf Q = 1)
    (hval : Value.okWide P W r b0 T v) (h : DataW.Trod enc P W 0 (fun _ => true) true T v d ps) :
    ∃ a len cap ls, v = .slice a len cap ∧ RdS W a len cap ls := by
  obtain ⟨a0, len0, cap0, rfl⟩ := okWide_slice hT hval
  obtain ⟨fuel, hf⟩ := h
  rcases open_slice1 hT hc1 hf with ⟨hcs, _⟩ | ⟨a, len, cap, m, n, V, D, Pl, hcs, hb, hl, hm, hmm, hx, he⟩
  · simp [Value.cells] at hcs
    obtain ⟨rfl, rfl, rfl⟩ := hcs
    exact ⟨none, 0, 0, [], rfl, RdS.none_ W⟩
  · simp [Value.cells] at hcs
    obtain ⟨rfl, rfl, rfl⟩ := hcs
    simp only [if_true] at hmm
    have each : ∀ j, j < len0 → ∃ y : Option Addr × Nat × Nat × List UInt8, V j = .slice y.1 y.2.1 y.2.2.1 ∧ Rd W y.1 y.2.1 y.2.2.1 y.2.2.2 := by
      intro j hj
      obtain ⟨A, n', c', l, e1, e2⟩ := trod_bytes hE hQ hc2 (he j (by omega)).2
      exact ⟨(A, n', c', l), by simpa using e1, e2⟩
    obtain ⟨y, hy⟩ := choose_lt each
    refine ⟨some a, len0, cap0, (List.range len0).map fun j => (y j).2.2.2, rfl, ⟨by simp, hl, hm, fun h0 => ?_⟩⟩
    obtain ⟨b, off, spot⟩ := a
    have hspot : spot = none := by
      have := (he 0 (by omega)).1
      simpa [Addr.add] using World.cell?_spot this
    subst hspot
    refine ⟨b, off, rfl, fun j hj => ⟨(y j).1, (y j).2.1, (y j).2.2.1, ?_, ?_⟩⟩
    · have := (he j (by omega)).1
      rw [Addr.add_lit] at this
      rw [this, (hy j hj).1]
    · have := (hy j hj).2
      simpa [List.getD, hj] using this
end
end Go.Proofs.Ytihbpmceggghgaa
