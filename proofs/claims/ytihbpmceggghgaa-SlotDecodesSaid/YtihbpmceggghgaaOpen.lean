/- How an argument of bytes is opened: out of its reading as data the slice that reads as a list, and its reach. -/
import Derived.Test.YtihbpmceggghgaaRows
import Derived.Test.YtihbpmceggghgaaWords
import Derived.SizedLaws
import Derived.OpenShut
set_option linter.unusedVariables false
set_option linter.unusedSimpArgs false
namespace Go.Proofs.Ytihbpmceggghgaa
open Go.ChangeShapes Go.WideShapes Go.ChangeAt Go.RowKit

theorem own : ownKnob Try.prog.godebug = none := by kernel_rfl
theorem laidOut : laidOutB Try.prog = true := by kernel_rfl

section
variable {H : Type} {enc : TypeId × Value → H} {P : Program} {W : World}
theorem open_bytes {T E : TypeId} {r : Reach} {b0 : Nat} {v : Value} {d : DataW H} {ps : List MemPlace} (hT : P.underlying T = some (.slice E)) (hE : P.underlying E = some (.int .u8)) (hc : P.cellsOf E = 1)
    (hval : Value.okWide P W r b0 T v) (h : DataW.Trod enc P W 0 (fun _ => true) true T v d ps) :
    ∃ a len cap l, v = .slice a len cap ∧ Rd W a len cap l ∧ (d = .nil ∧ cap = 0 ∨ ∃ elems spare, d = .slice elems spare ∧ elems.length + spare.length = cap) := by
  obtain ⟨a0, len0, cap0, rfl⟩ := okWide_slice hT hval
  obtain ⟨fuel, hf⟩ := h
  rcases open_ints hT hE hc hf with ⟨hcs, hx⟩ | ⟨x, l, c, zs, hcs, _, hl, hm, hz, hx, hcell, hwz⟩
  · simp [Value.cells] at hcs
    obtain ⟨rfl, rfl, rfl⟩ := hcs
    simp only [Prod.mk.injEq] at hx
    exact ⟨none, 0, 0, [], rfl, Rd.none_ W, .inl ⟨hx.1, rfl⟩⟩
  · simp [Value.cells] at hcs
    obtain ⟨rfl, rfl, rfl⟩ := hcs
    simp only [Prod.mk.injEq] at hx
    have hz' : zs.length = cap0 := by simpa using hz
    refine ⟨some x, len0, cap0, (zs.take len0).map fun z => UInt8.ofNat z.toNat, rfl, ⟨by simp; omega, hl, hm, fun h0 => ?_⟩, .inr ⟨_, _, hx.1, by simp [lits]; omega⟩⟩
    obtain ⟨b, off, spot⟩ := x
    have hspot : spot = none := by
      have := hcell 0 (by omega)
      simpa [Addr.add] using World.cell?_spot this
    subst hspot
    refine ⟨b, off, rfl, fun j hj => ?_⟩
    have hj' : j < zs.length := by omega
    have hcj := hcell j hj'
    rw [Addr.add_lit] at hcj
    rw [hcj]
    have e1 : zs.getD j 0 = zs[j] := by simp [List.getD, List.getElem?_eq_getElem hj']
    have hw := hwz _ (List.getElem_mem hj')
    have hb : 0 ≤ zs[j] ∧ zs[j] ≤ 255 := by
      simp only [Lit.wf, IntKind.min, IntKind.max, IntKind.signed, IntKind.bits, Bool.and_eq_true, decide_eq_true_eq] at hw
      simpa using hw
    have e2 : (((zs.take len0).map fun z => UInt8.ofNat z.toNat).getD j 0) = UInt8.ofNat zs[j].toNat := by
      simp [List.getD, List.getElem?_take, hj, List.getElem?_eq_getElem hj']
    rw [e1, e2]
    show some (Value.int .u8 zs[j]) = some (Value.int .u8 ((UInt8.ofNat zs[j].toNat).toNat : Int))
    have e3 : (UInt8.ofNat zs[j].toNat).toNat = zs[j].toNat := by
      rw [UInt8.toNat_ofNat']; omega
    rw [e3]
    congr 2
    omega
/-- The reach of an argument of bytes. -/
theorem reach_bytes {ts : List TypeId} {ds : List (DataW H)} (hs : (DataW.weightsEach P ts ds).all (· ≤ reachBytes) = true) {j : Nat} {T E : TypeId} {d : DataW H} {cap : Nat} (ht : ts[j]? = some T) (hd : ds[j]? = some d)
    (hT : P.underlying T = some (.slice E)) (hb : P.bytesOf E = 1) (h : d = .nil ∧ cap = 0 ∨ ∃ elems spare, d = .slice elems spare ∧ elems.length + spare.length = cap) : cap ≤ 140737488351232 := by
  rcases h with ⟨_, rfl⟩ | ⟨elems, spare, rfl, rfl⟩
  · omega
  · have := sized_slice hs ht hd hT
    rw [hb] at this
    simpa [reachBytes] using this
theorem reach_string {ts : List TypeId} {ds : List (DataW H)} (hs : (DataW.weightsEach P ts ds).all (· ≤ reachBytes) = true) {j : Nat} {T : TypeId} {l : List UInt8} (ht : ts[j]? = some T) (hd : ds[j]? = some (.lit (.string l))) : l.length ≤ 140737488351232 := by
  have := sized_string hs ht hd
  simpa [reachBytes] using this
end
end Go.Proofs.Ytihbpmceggghgaa
