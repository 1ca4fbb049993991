/- How an argument that is a Node, or an Entry, is opened. -/
import Derived.Test.YtihbpmceggghgaaOpenSl
import Derived.Test.YtihbpmceggghgaaOpenRef
import Derived.Test.YtihbpmceggghgaaEnt
import Derived.Deep.Slices
set_option linter.unusedVariables false
set_option linter.unusedSimpArgs false
namespace Go.Proofs.Ytihbpmceggghgaa
open Go.ChangeShapes Go.WideShapes Go.ChangeAt Go.RowKit Go.Deep

instance : Inhabited Ent := ⟨ent0⟩
section
variable {H : Type} {enc : TypeId × Value → H} {W : World}
set_option maxHeartbeats 800000 in
theorem trod_entry {fuel : Nat} {cs : List Value} {x : DataW H × List MemPlace} (h : DataW.trod enc Try.prog W 0 (fun _ => true) true fuel 49 cs = some x) :
    ∃ (A1 : Option Addr) (n1 c1 : Nat) (k : List UInt8) (A2 : Option Addr) (n2 c2 : Nat) (v : List UInt8) (L : Int) (r s : Rf), cs = enC A1 n1 c1 A2 n2 c2 L r s ∧ Rd W A1 n1 c1 k ∧ Rd W A2 n2 c2 v ∧ i64In L ∧ rfIn r ∧ rfIn s := by
  obtain ⟨xs, n, rfl, rfl, hl, hxl, hf⟩ := DataW.trod_struct Try.underlying49 h
  have c0 : Try.prog.cellsOf 49 = 9 := by kernel_rfl
  have c1 : Try.prog.cellsOf 34 = 1 := by kernel_rfl
  have c2 : Try.prog.cellsOf 3 = 1 := by kernel_rfl
  have c3 : Try.prog.cellsOf 47 = 3 := by kernel_rfl
  have c4 : Try.prog.cellsOf 5 = 1 := by kernel_rfl
  rw [c0] at hl
  have hx5 : xs.length = 5 := hxl
  match cs, hl, xs, hx5, hf with
  | [a0, a1, a2, a3, a4, a5, a6, a7, a8], _, [y0, y1, y2, y3, y4], _, hf =>
    have f0 : DataW.trod enc Try.prog W 0 (fun _ => true) true n 34 (([a0, a1, a2, a3, a4, a5, a6, a7, a8].drop 0).take (Try.prog.cellsOf 34)) = some y0 := hf 0 _ rfl
    have f1 : DataW.trod enc Try.prog W 0 (fun _ => true) true n 34 (([a0, a1, a2, a3, a4, a5, a6, a7, a8].drop 1).take (Try.prog.cellsOf 34)) = some y1 := hf 1 _ rfl
    have f2 : DataW.trod enc Try.prog W 0 (fun _ => true) true n 3 (([a0, a1, a2, a3, a4, a5, a6, a7, a8].drop 2).take (Try.prog.cellsOf 3)) = some y2 := hf 2 _ rfl
    have f3 : DataW.trod enc Try.prog W 0 (fun _ => true) true n 47 (([a0, a1, a2, a3, a4, a5, a6, a7, a8].drop 3).take (Try.prog.cellsOf 47)) = some y3 := hf 3 _ rfl
    have f4 : DataW.trod enc Try.prog W 0 (fun _ => true) true n 47 (([a0, a1, a2, a3, a4, a5, a6, a7, a8].drop 6).take (Try.prog.cellsOf 47)) = some y4 := hf 4 _ rfl
    rw [c1] at f0 f1
    rw [c2] at f2
    rw [c3] at f3 f4
    obtain ⟨A1, n1, p1, k, e0, h0⟩ := trod_bytes Try.underlying34 Try.underlying5 c4 f0
    obtain ⟨A2, n2, p2, v, e1, h1⟩ := trod_bytes Try.underlying34 Try.underlying5 c4 f1
    obtain ⟨L, e2, _, w2⟩ := DataW.trod_int Try.underlying3 f2
    obtain ⟨p, q, g, e3, hp, hq, hg⟩ := trod_ref f3
    obtain ⟨p', q', g', e4, hp', hq', hg'⟩ := trod_ref f4
    have hL : i64In L := by simpa [i64In, Lit.wf, IntKind.min, IntKind.max, IntKind.signed, IntKind.bits] using w2
    simp at e0 e1 e2 e3 e4
    obtain ⟨e3, e5, e6⟩ := e3
    obtain ⟨e4, e7, e8⟩ := e4
    subst e0; subst e1; subst e2; subst e3; subst e4; subst e5; subst e6; subst e7; subst e8
    exact ⟨A1, n1, p1, k, A2, n2, p2, v, L, (p, q, g), (p', q', g'), rfl, h0, h1, hL, ⟨hp, hq, hg⟩, ⟨hp', hq', hg'⟩⟩
set_option maxHeartbeats 800000 in
theorem trod_entries {fuel : Nat} {cs : List Value} {x : DataW H × List MemPlace} (h : DataW.trod enc Try.prog W 0 (fun _ => true) true fuel 22 cs = some x) :
    ∃ A n c es, cs = [.slice A n c] ∧ RdL W A n c es ∧ esIn es := by
  have c0 : Try.prog.cellsOf 49 = 9 := by kernel_rfl
  rcases open_slice Try.underlying22 h with ⟨hcs, _⟩ | ⟨a, len, cap, m, n, D, Pl, hcs, hb, hl, hm, hmm, hx, he⟩
  · exact ⟨none, 0, 0, [], hcs, RdL.nil W, fun j hj => absurd hj (by simp)⟩
  · simp only [if_true] at hmm
    rw [c0] at he
    have each : ∀ j, j < len → ∃ y : (Option Addr × Nat × Nat) × (Option Addr × Nat × Nat) × Ent, W.cells? 0 (a.add (j * 9)) 9 = some (enC y.1.1 y.1.2.1 y.1.2.2 y.2.1.1 y.2.1.2.1 y.2.1.2.2 y.2.2.len y.2.2.chain y.2.2.child) ∧
        Rd W y.1.1 y.1.2.1 y.1.2.2 y.2.2.key ∧ Rd W y.2.1.1 y.2.1.2.1 y.2.1.2.2 y.2.2.val ∧ entIn y.2.2 := by
      intro j hj
      obtain ⟨cs', h1, h2⟩ := he j (by omega)
      obtain ⟨A1, n1, p1, k, A2, n2, p2, v, L, r, s, rfl, g1, g2, g3, g4, g5⟩ := trod_entry h2
      exact ⟨((A1, n1, p1), (A2, n2, p2), ⟨k, v, L, r, s⟩), h1, g1, g2, g3, g4, g5⟩
    obtain ⟨y, hy⟩ := choose_lt each
    have hget : ∀ j, j < len → ((List.range len).map fun j => (y j).2.2).getD j ent0 = (y j).2.2 := fun j hj => by simp [List.getD, hj]
    refine ⟨some a, len, cap, (List.range len).map fun j => (y j).2.2, hcs, ⟨by simp, hl, hm, fun h0 => ?_⟩, fun j hj => ?_⟩
    · obtain ⟨b, off, spot⟩ := a
      have hcell : ∀ j, j < len → ∀ i, i < 9 → W.cell? ((⟨b, off, spot⟩ : Addr).add (j * 9) |>.add i) = (enC (y j).1.1 (y j).1.2.1 (y j).1.2.2 (y j).2.1.1 (y j).2.1.2.1 (y j).2.1.2.2 (y j).2.2.len (y j).2.2.chain (y j).2.2.child)[i]? := by
        intro j hj i hi
        exact (World.cells?_some (hy j hj).1).2.2 i hi
      have hspot : spot = none := by
        have := hcell 0 (by omega) 0 (by omega)
        simpa [Addr.add] using World.cell?_spot this
      subst hspot
      refine ⟨b, off, rfl, fun j hj => ⟨(y j).1.1, (y j).1.2.1, (y j).1.2.2, (y j).2.1.1, (y j).2.1.2.1, (y j).2.1.2.2, ?_, ?_, ?_⟩⟩
      · rw [hget j hj]
        have hc := hcell j hj
        simp only [Addr.add_lit] at hc
        exact ⟨hc 0 (by omega), hc 1 (by omega), hc 2 (by omega), hc 3 (by omega), hc 4 (by omega), hc 5 (by omega), hc 6 (by omega), hc 7 (by omega), hc 8 (by omega)⟩
      · rw [hget j hj]; exact (hy j hj).2.1
      · rw [hget j hj]; exact (hy j hj).2.2.1
    · simp at hj
      rw [hget j hj]
      exact (hy j hj).2.2.2
theorem trod_node {fuel : Nat} {cs : List Value} {x : DataW H × List MemPlace} (h : DataW.trod enc Try.prog W 0 (fun _ => true) true fuel 24 cs = some x) :
    ∃ (k l : Nat) (A : Option Addr) (n c : Nat) (es : List Ent), cs = [.int .u8 (k : Int), .int .u8 (l : Int), .slice A n c] ∧ k < 256 ∧ l < 256 ∧ RdL W A n c es ∧ esIn es := by
  obtain ⟨xs, n, rfl, rfl, hl, hxl, hf⟩ := DataW.trod_struct Try.underlying24 h
  have c0 : Try.prog.cellsOf 24 = 3 := by kernel_rfl
  have c1 : Try.prog.cellsOf 5 = 1 := by kernel_rfl
  have c2 : Try.prog.cellsOf 22 = 1 := by kernel_rfl
  rw [c0] at hl
  have hx3 : xs.length = 3 := hxl
  match cs, hl, xs, hx3, hf with
  | [a, b, c], _, [y0, y1, y2], _, hf =>
    have f0 : DataW.trod enc Try.prog W 0 (fun _ => true) true n 5 (([a, b, c].drop 0).take (Try.prog.cellsOf 5)) = some y0 := hf 0 _ rfl
    have f1 : DataW.trod enc Try.prog W 0 (fun _ => true) true n 5 (([a, b, c].drop 1).take (Try.prog.cellsOf 5)) = some y1 := hf 1 _ rfl
    have f2 : DataW.trod enc Try.prog W 0 (fun _ => true) true n 22 (([a, b, c].drop 2).take (Try.prog.cellsOf 22)) = some y2 := hf 2 _ rfl
    rw [c1] at f0 f1
    rw [c2] at f2
    obtain ⟨z0, e0, _, w0⟩ := DataW.trod_int Try.underlying5 f0
    obtain ⟨z1, e1, _, w1⟩ := DataW.trod_int Try.underlying5 f1
    obtain ⟨A, m, c', es, e2, h2, h3⟩ := trod_entries f2
    obtain ⟨p, rfl, hp⟩ := nat_of_wf w0 rfl (b := 256) (by decide)
    obtain ⟨q, rfl, hq⟩ := nat_of_wf w1 rfl (b := 256) (by decide)
    simp at e0 e1 e2
    subst e0; subst e1; subst e2
    exact ⟨p, q, A, m, c', es, rfl, hp, hq, h2, h3⟩
theorem open_node {r : Reach} {b0 : Nat} {v : Value} {d : DataW H} {ps : List MemPlace} (hval : Value.okWide Try.prog W r b0 24 v) (h : DataW.Trod enc Try.prog W 0 (fun _ => true) true 24 v d ps) :
    ∃ (k l : Nat) (A : Option Addr) (n c : Nat) (es : List Ent), v = NdV k l A n c ∧ k < 256 ∧ l < 256 ∧ RdL W A n c es ∧ esIn es := by
  obtain ⟨cs, rfl, _⟩ := okWide_struct Try.underlying24 hval
  obtain ⟨fuel, hf⟩ := h
  obtain ⟨k, l, A, n, c, es, e, h1, h2, h3, h4⟩ := trod_node hf
  refine ⟨k, l, A, n, c, es, ?_, h1, h2, h3, h4⟩
  have : cs.toList = _ := e
  show Value.agg cs = Value.agg _
  congr 1
  apply Array.ext'
  simpa using this
theorem open_entry {r : Reach} {b0 : Nat} {v : Value} {d : DataW H} {ps : List MemPlace} (hval : Value.okWide Try.prog W r b0 49 v) (h : DataW.Trod enc Try.prog W 0 (fun _ => true) true 49 v d ps) :
    ∃ (A1 : Option Addr) (n1 c1 : Nat) (A2 : Option Addr) (n2 c2 : Nat) (x : Ent), v = EnV A1 n1 c1 A2 n2 c2 x.len x.chain x.child ∧ Rd W A1 n1 c1 x.key ∧ Rd W A2 n2 c2 x.val ∧ entIn x := by
  obtain ⟨cs, rfl, _⟩ := okWide_struct Try.underlying49 hval
  obtain ⟨fuel, hf⟩ := h
  obtain ⟨A1, n1, c1, k, A2, n2, c2, v, L, r, s, e, h1, h2, h3, h4, h5⟩ := trod_entry hf
  refine ⟨A1, n1, c1, A2, n2, c2, ⟨k, v, L, r, s⟩, ?_, h1, h2, h3, h4, h5⟩
  have : cs.toList = _ := e
  show Value.agg cs = Value.agg _
  congr 1
  apply Array.ext'
  simpa using this
end
end Go.Proofs.Ytihbpmceggghgaa
