/- OpenRef, OpenSl, OpenNode, in one text. -/
import Derived.Test.YtgihcjmcefdkiaaOpen
import Derived.Test.YtgihcjmcefdkiaaOwn
import Derived.Test.YtgihcjmcefdkiaaSlc
import Derived.Deep.Matrix
import Derived.Test.YtgihcjmcefdkiaaEnt
import Derived.Deep.Slices
set_option linter.unusedVariables false
set_option linter.unusedSimpArgs false
namespace Go.Proofs.Ytgihcjmcefdkiaa
open Go.ChangeShapes Go.WideShapes Go.ChangeAt Go.RowKit

section
variable {H : Type} {enc : TypeId × Value → H} {W : World}
theorem nat_of_wf {k : IntKind} {b : Nat} {z : Int} (h : (Lit.int k z).wf = true) (hk : k.signed = false) (hb : 2 ^ k.bits = b) : ∃ n : Nat, z = (n : Int) ∧ n < b := by
  subst hb
  cases k <;> first | (exact absurd hk (by decide)) | skip
  all_goals
    simp only [Lit.wf, IntKind.min, IntKind.max, IntKind.signed, IntKind.bits, Bool.and_eq_true, decide_eq_true_eq] at h
    simp at h
    obtain ⟨n, rfl⟩ := Int.eq_ofNat_of_zero_le h.1
    refine ⟨n, rfl, ?_⟩
    simp only [IntKind.bits]
    omega
theorem trod_ref {B : Nat} {sp : Nat → Bool} {hd : Bool} {fuel : Nat} {cs : List Value} {x : DataW H × List MemPlace} (h : DataW.trod enc Try.prog W B sp hd fuel 44 cs = some x) :
    ∃ p q g : Nat, cs = [.int .u32 p, .int .u64 q, .int .u16 g] ∧ p < 4294967296 ∧ q < 18446744073709551616 ∧ g < 65536 := by
  obtain ⟨xs, n, rfl, rfl, hl, hxl, hf⟩ := DataW.trod_struct Try.underlying44 h
  have c0 : Try.prog.cellsOf 44 = 3 := by kernel_rfl
  have c1 : Try.prog.cellsOf 40 = 1 := by kernel_rfl
  have c2 : Try.prog.cellsOf 41 = 1 := by kernel_rfl
  have c3 : Try.prog.cellsOf 42 = 1 := by kernel_rfl
  rw [c0] at hl
  have hx3 : xs.length = 3 := hxl
  match cs, hl, xs, hx3, hf with
  | [a, b, c], _, [y0, y1, y2], _, hf =>
    have f0 : DataW.trod enc Try.prog W B sp hd n 40 (([a, b, c].drop 0).take (Try.prog.cellsOf 40)) = some y0 := hf 0 _ rfl
    have f1 : DataW.trod enc Try.prog W B sp hd n 41 (([a, b, c].drop 1).take (Try.prog.cellsOf 41)) = some y1 := hf 1 _ rfl
    have f2 : DataW.trod enc Try.prog W B sp hd n 42 (([a, b, c].drop 2).take (Try.prog.cellsOf 42)) = some y2 := hf 2 _ rfl
    rw [c1] at f0
    rw [c2] at f1
    rw [c3] at f2
    obtain ⟨z0, e0, _, w0⟩ := DataW.trod_int Try.underlying40 f0
    obtain ⟨z1, e1, _, w1⟩ := DataW.trod_int Try.underlying41 f1
    obtain ⟨z2, e2, _, w2⟩ := DataW.trod_int Try.underlying42 f2
    obtain ⟨p, rfl, hp⟩ := nat_of_wf w0 rfl (b := 4294967296) (by decide)
    obtain ⟨q, rfl, hq⟩ := nat_of_wf w1 rfl (b := 18446744073709551616) (by decide)
    obtain ⟨g, rfl, hg⟩ := nat_of_wf w2 rfl (b := 65536) (by decide)
    simp at e0 e1 e2
    subst e0; subst e1; subst e2
    exact ⟨p, q, g, rfl, hp, hq, hg⟩
theorem open_ref {r : Reach} {b0 : Nat} {v : Value} {d : DataW H} {ps : List MemPlace} (hval : Value.okWide Try.prog W r b0 44 v) (h : DataW.Trod enc Try.prog W 0 (fun _ => true) true 44 v d ps) :
    ∃ p q g : Nat, v = RefV p q g ∧ p < 4294967296 ∧ q < 18446744073709551616 ∧ g < 65536 := by
  obtain ⟨cs, rfl, _⟩ := okWide_struct Try.underlying44 hval
  obtain ⟨fuel, hf⟩ := h
  obtain ⟨p, q, g, e, hp, hq, hg⟩ := trod_ref hf
  refine ⟨p, q, g, ?_, hp, hq, hg⟩
  have : cs.toList = _ := e
  show Value.agg cs = Value.agg _
  congr 1
  apply Array.ext'
  simpa using this
end
end Go.Proofs.Ytgihcjmcefdkiaa
set_option linter.unusedVariables false
set_option linter.unusedSimpArgs false
namespace Go.Proofs.Ytgihcjmcefdkiaa
open Go.ChangeShapes Go.WideShapes Go.ChangeAt Go.RowKit Go.Deep

section
variable {H : Type} {enc : TypeId × Value → H} {P : Program} {W : World}
theorem trod_bytes {T E : TypeId} {fuel : Nat} {cs : List Value} {x : DataW H × List MemPlace} (hT : P.underlying T = some (.slice E)) (hE : P.underlying E = some (.int .u8)) (hc : P.cellsOf E = 1)
    (hf : DataW.trod enc P W 0 (fun _ => true) true fuel T cs = some x) :
    ∃ a len cap l, cs = [.slice a len cap] ∧ Rd W a len cap l := by
  rcases open_ints hT hE hc hf with ⟨hcs, hx⟩ | ⟨x, len0, cap0, zs, hcs, _, hl, hm, hz, hx, hcell, hwz⟩
  · exact ⟨none, 0, 0, [], hcs, Rd.none_ W⟩
  · have hz' : zs.length = cap0 := by simpa using hz
    refine ⟨some x, len0, cap0, (zs.take len0).map fun z => UInt8.ofNat z.toNat, hcs, ⟨by simp; omega, hl, hm, fun h0 => ?_⟩⟩
    obtain ⟨b, off, spot⟩ := x
    have hspot : spot = none := by
      have := hcell 0 (by omega)
      simpa [Addr.add] using World.cell?_spot this
    subst hspot
    refine ⟨b, off, rfl, fun j hj => ?_⟩
    have hj' : j < zs.length := by omega
    have hcj := hcell j hj'
    rw [Addr.add_lit] at hcj
    rw [hcj]
    have e1 : zs.getD j 0 = zs[j] := by simp [List.getD, List.getElem?_eq_getElem hj']
    have hw := hwz _ (List.getElem_mem hj')
    have hb : 0 ≤ zs[j] ∧ zs[j] ≤ 255 := by
      simp only [Lit.wf, IntKind.min, IntKind.max, IntKind.signed, IntKind.bits, Bool.and_eq_true, decide_eq_true_eq] at hw
      simpa using hw
    have e2 : (((zs.take len0).map fun z => UInt8.ofNat z.toNat).getD j 0) = UInt8.ofNat zs[j].toNat := by
      simp [List.getD, List.getElem?_take, hj, List.getElem?_eq_getElem hj']
    rw [e1, e2]
    show some (Value.int .u8 zs[j]) = some (Value.int .u8 ((UInt8.ofNat zs[j].toNat).toNat : Int))
    have e3 : (UInt8.ofNat zs[j].toNat).toNat = zs[j].toNat := by
      rw [UInt8.toNat_ofNat']; omega
    rw [e3]
    congr 2
    omega
theorem open_slices {T E Q : TypeId} {r : Reach} {b0 : Nat} {v : Value} {d : DataW H} {ps : List MemPlace} (hT : P.underlying T = some (.slice E)) (hE : P.underlying E = some (.slice Q)) (hQ : P.underlying Q = some (.int .u8)) (hc1 : P.cellsOf E = 1) (hc2 : P.cellsOf Q = 1)
    (hval : Value.okWide P W r b0 T v) (h : DataW.Trod enc P W 0 (fun _ => true) true T v d ps) :
    ∃ a len cap ls, v = .slice a len cap ∧ RdS W a len cap ls := by
  obtain ⟨a0, len0, cap0, rfl⟩ := okWide_slice hT hval
  obtain ⟨fuel, hf⟩ := h
  rcases open_slice1 hT hc1 hf with ⟨hcs, _⟩ | ⟨a, len, cap, m, n, V, D, Pl, hcs, hb, hl, hm, hmm, hx, he⟩
  · simp [Value.cells] at hcs
    obtain ⟨rfl, rfl, rfl⟩ := hcs
    exact ⟨none, 0, 0, [], rfl, RdS.none_ W⟩
  · simp [Value.cells] at hcs
    obtain ⟨rfl, rfl, rfl⟩ := hcs
    simp only [if_true] at hmm
    have each : ∀ j, j < len0 → ∃ y : Option Addr × Nat × Nat × List UInt8, V j = .slice y.1 y.2.1 y.2.2.1 ∧ Rd W y.1 y.2.1 y.2.2.1 y.2.2.2 := by
      intro j hj
      obtain ⟨A, n', c', l, e1, e2⟩ := trod_bytes hE hQ hc2 (he j (by omega)).2
      exact ⟨(A, n', c', l), by simpa using e1, e2⟩
    obtain ⟨y, hy⟩ := choose_lt each
    refine ⟨some a, len0, cap0, (List.range len0).map fun j => (y j).2.2.2, rfl, ⟨by simp, hl, hm, fun h0 => ?_⟩⟩
    obtain ⟨b, off, spot⟩ := a
    have hspot : spot = none := by
      have := (he 0 (by omega)).1
      simpa [Addr.add] using World.cell?_spot this
    subst hspot
    refine ⟨b, off, rfl, fun j hj => ⟨(y j).1, (y j).2.1, (y j).2.2.1, ?_, ?_⟩⟩
    · have := (he j (by omega)).1
      rw [Addr.add_lit] at this
      rw [this, (hy j hj).1]
    · have := (hy j hj).2
      simpa [List.getD, hj] using this
end
end Go.Proofs.Ytgihcjmcefdkiaa
set_option linter.unusedVariables false
set_option linter.unusedSimpArgs false
namespace Go.Proofs.Ytgihcjmcefdkiaa
open Go.ChangeShapes Go.WideShapes Go.ChangeAt Go.RowKit Go.Deep

instance : Inhabited Ent := ⟨ent0⟩
section
variable {H : Type} {enc : TypeId × Value → H} {W : World}
set_option maxHeartbeats 800000 in
theorem trod_entry {fuel : Nat} {cs : List Value} {x : DataW H × List MemPlace} (h : DataW.trod enc Try.prog W 0 (fun _ => true) true fuel 46 cs = some x) :
    ∃ (A1 : Option Addr) (n1 c1 : Nat) (k : List UInt8) (A2 : Option Addr) (n2 c2 : Nat) (v : List UInt8) (L : Int) (r s : Rf), cs = enC A1 n1 c1 A2 n2 c2 L r s ∧ Rd W A1 n1 c1 k ∧ Rd W A2 n2 c2 v ∧ i64In L ∧ rfIn r ∧ rfIn s := by
  obtain ⟨xs, n, rfl, rfl, hl, hxl, hf⟩ := DataW.trod_struct Try.underlying46 h
  have c0 : Try.prog.cellsOf 46 = 9 := by kernel_rfl
  have c1 : Try.prog.cellsOf 28 = 1 := by kernel_rfl
  have c2 : Try.prog.cellsOf 3 = 1 := by kernel_rfl
  have c3 : Try.prog.cellsOf 44 = 3 := by kernel_rfl
  have c4 : Try.prog.cellsOf 5 = 1 := by kernel_rfl
  rw [c0] at hl
  have hx5 : xs.length = 5 := hxl
  match cs, hl, xs, hx5, hf with
  | [a0, a1, a2, a3, a4, a5, a6, a7, a8], _, [y0, y1, y2, y3, y4], _, hf =>
    have f0 : DataW.trod enc Try.prog W 0 (fun _ => true) true n 28 (([a0, a1, a2, a3, a4, a5, a6, a7, a8].drop 0).take (Try.prog.cellsOf 28)) = some y0 := hf 0 _ rfl
    have f1 : DataW.trod enc Try.prog W 0 (fun _ => true) true n 28 (([a0, a1, a2, a3, a4, a5, a6, a7, a8].drop 1).take (Try.prog.cellsOf 28)) = some y1 := hf 1 _ rfl
    have f2 : DataW.trod enc Try.prog W 0 (fun _ => true) true n 3 (([a0, a1, a2, a3, a4, a5, a6, a7, a8].drop 2).take (Try.prog.cellsOf 3)) = some y2 := hf 2 _ rfl
    have f3 : DataW.trod enc Try.prog W 0 (fun _ => true) true n 44 (([a0, a1, a2, a3, a4, a5, a6, a7, a8].drop 3).take (Try.prog.cellsOf 44)) = some y3 := hf 3 _ rfl
    have f4 : DataW.trod enc Try.prog W 0 (fun _ => true) true n 44 (([a0, a1, a2, a3, a4, a5, a6, a7, a8].drop 6).take (Try.prog.cellsOf 44)) = some y4 := hf 4 _ rfl
    rw [c1] at f0 f1
    rw [c2] at f2
    rw [c3] at f3 f4
    obtain ⟨A1, n1, p1, k, e0, h0⟩ := trod_bytes Try.underlying28 Try.underlying5 c4 f0
    obtain ⟨A2, n2, p2, v, e1, h1⟩ := trod_bytes Try.underlying28 Try.underlying5 c4 f1
    obtain ⟨L, e2, _, w2⟩ := DataW.trod_int Try.underlying3 f2
    obtain ⟨p, q, g, e3, hp, hq, hg⟩ := trod_ref f3
    obtain ⟨p', q', g', e4, hp', hq', hg'⟩ := trod_ref f4
    have hL : i64In L := by simpa [i64In, Lit.wf, IntKind.min, IntKind.max, IntKind.signed, IntKind.bits] using w2
    simp at e0 e1 e2 e3 e4
    obtain ⟨e3, e5, e6⟩ := e3
    obtain ⟨e4, e7, e8⟩ := e4
    subst e0; subst e1; subst e2; subst e3; subst e4; subst e5; subst e6; subst e7; subst e8
    exact ⟨A1, n1, p1, k, A2, n2, p2, v, L, (p, q, g), (p', q', g'), rfl, h0, h1, hL, ⟨hp, hq, hg⟩, ⟨hp', hq', hg'⟩⟩
set_option maxHeartbeats 800000 in
theorem trod_entries {fuel : Nat} {cs : List Value} {x : DataW H × List MemPlace} (h : DataW.trod enc Try.prog W 0 (fun _ => true) true fuel 22 cs = some x) :
    ∃ A n c es, cs = [.slice A n c] ∧ RdL W A n c es ∧ esIn es := by
  have c0 : Try.prog.cellsOf 46 = 9 := by kernel_rfl
  rcases open_slice Try.underlying22 h with ⟨hcs, _⟩ | ⟨a, len, cap, m, n, D, Pl, hcs, hb, hl, hm, hmm, hx, he⟩
  · exact ⟨none, 0, 0, [], hcs, RdL.nil W, fun j hj => absurd hj (by simp)⟩
  · simp only [if_true] at hmm
    rw [c0] at he
    have each : ∀ j, j < len → ∃ y : (Option Addr × Nat × Nat) × (Option Addr × Nat × Nat) × Ent, W.cells? 0 (a.add (j * 9)) 9 = some (enC y.1.1 y.1.2.1 y.1.2.2 y.2.1.1 y.2.1.2.1 y.2.1.2.2 y.2.2.len y.2.2.chain y.2.2.child) ∧
        Rd W y.1.1 y.1.2.1 y.1.2.2 y.2.2.key ∧ Rd W y.2.1.1 y.2.1.2.1 y.2.1.2.2 y.2.2.val ∧ entIn y.2.2 := by
      intro j hj
      obtain ⟨cs', h1, h2⟩ := he j (by omega)
      obtain ⟨A1, n1, p1, k, A2, n2, p2, v, L, r, s, rfl, g1, g2, g3, g4, g5⟩ := trod_entry h2
      exact ⟨((A1, n1, p1), (A2, n2, p2), ⟨k, v, L, r, s⟩), h1, g1, g2, g3, g4, g5⟩
    obtain ⟨y, hy⟩ := choose_lt each
    have hget : ∀ j, j < len → ((List.range len).map fun j => (y j).2.2).getD j ent0 = (y j).2.2 := fun j hj => by simp [List.getD, hj]
    refine ⟨some a, len, cap, (List.range len).map fun j => (y j).2.2, hcs, ⟨by simp, hl, hm, fun h0 => ?_⟩, fun j hj => ?_⟩
    · obtain ⟨b, off, spot⟩ := a
      have hcell : ∀ j, j < len → ∀ i, i < 9 → W.cell? ((⟨b, off, spot⟩ : Addr).add (j * 9) |>.add i) = (enC (y j).1.1 (y j).1.2.1 (y j).1.2.2 (y j).2.1.1 (y j).2.1.2.1 (y j).2.1.2.2 (y j).2.2.len (y j).2.2.chain (y j).2.2.child)[i]? := by
        intro j hj i hi
        exact (World.cells?_some (hy j hj).1).2.2 i hi
      have hspot : spot = none := by
        have := hcell 0 (by omega) 0 (by omega)
        simpa [Addr.add] using World.cell?_spot this
      subst hspot
      refine ⟨b, off, rfl, fun j hj => ⟨(y j).1.1, (y j).1.2.1, (y j).1.2.2, (y j).2.1.1, (y j).2.1.2.1, (y j).2.1.2.2, ?_, ?_, ?_⟩⟩
      · rw [hget j hj]
        have hc := hcell j hj
        simp only [Addr.add_lit] at hc
        exact ⟨hc 0 (by omega), hc 1 (by omega), hc 2 (by omega), hc 3 (by omega), hc 4 (by omega), hc 5 (by omega), hc 6 (by omega), hc 7 (by omega), hc 8 (by omega)⟩
      · rw [hget j hj]; exact (hy j hj).2.1
      · rw [hget j hj]; exact (hy j hj).2.2.1
    · simp at hj
      rw [hget j hj]
      exact (hy j hj).2.2.2
theorem trod_node {fuel : Nat} {cs : List Value} {x : DataW H × List MemPlace} (h : DataW.trod enc Try.prog W 0 (fun _ => true) true fuel 24 cs = some x) :
    ∃ (k l : Nat) (A : Option Addr) (n c : Nat) (es : List Ent), cs = [.int .u8 (k : Int), .int .u8 (l : Int), .slice A n c] ∧ k < 256 ∧ l < 256 ∧ RdL W A n c es ∧ esIn es := by
  obtain ⟨xs, n, rfl, rfl, hl, hxl, hf⟩ := DataW.trod_struct Try.underlying24 h
  have c0 : Try.prog.cellsOf 24 = 3 := by kernel_rfl
  have c1 : Try.prog.cellsOf 5 = 1 := by kernel_rfl
  have c2 : Try.prog.cellsOf 22 = 1 := by kernel_rfl
  rw [c0] at hl
  have hx3 : xs.length = 3 := hxl
  match cs, hl, xs, hx3, hf with
  | [a, b, c], _, [y0, y1, y2], _, hf =>
    have f0 : DataW.trod enc Try.prog W 0 (fun _ => true) true n 5 (([a, b, c].drop 0).take (Try.prog.cellsOf 5)) = some y0 := hf 0 _ rfl
    have f1 : DataW.trod enc Try.prog W 0 (fun _ => true) true n 5 (([a, b, c].drop 1).take (Try.prog.cellsOf 5)) = some y1 := hf 1 _ rfl
    have f2 : DataW.trod enc Try.prog W 0 (fun _ => true) true n 22 (([a, b, c].drop 2).take (Try.prog.cellsOf 22)) = some y2 := hf 2 _ rfl
    rw [c1] at f0 f1
    rw [c2] at f2
    obtain ⟨z0, e0, _, w0⟩ := DataW.trod_int Try.underlying5 f0
    obtain ⟨z1, e1, _, w1⟩ := DataW.trod_int Try.underlying5 f1
    obtain ⟨A, m, c', es, e2, h2, h3⟩ := trod_entries f2
    obtain ⟨p, rfl, hp⟩ := nat_of_wf w0 rfl (b := 256) (by decide)
    obtain ⟨q, rfl, hq⟩ := nat_of_wf w1 rfl (b := 256) (by decide)
    simp at e0 e1 e2
    subst e0; subst e1; subst e2
    exact ⟨p, q, A, m, c', es, rfl, hp, hq, h2, h3⟩
theorem open_node {r : Reach} {b0 : Nat} {v : Value} {d : DataW H} {ps : List MemPlace} (hval : Value.okWide Try.prog W r b0 24 v) (h : DataW.Trod enc Try.prog W 0 (fun _ => true) true 24 v d ps) :
    ∃ (k l : Nat) (A : Option Addr) (n c : Nat) (es : List Ent), v = NdV k l A n c ∧ k < 256 ∧ l < 256 ∧ RdL W A n c es ∧ esIn es := by
  obtain ⟨cs, rfl, _⟩ := okWide_struct Try.underlying24 hval
  obtain ⟨fuel, hf⟩ := h
  obtain ⟨k, l, A, n, c, es, e, h1, h2, h3, h4⟩ := trod_node hf
  refine ⟨k, l, A, n, c, es, ?_, h1, h2, h3, h4⟩
  have : cs.toList = _ := e
  show Value.agg cs = Value.agg _
  congr 1
  apply Array.ext'
  simpa using this
theorem open_entry {r : Reach} {b0 : Nat} {v : Value} {d : DataW H} {ps : List MemPlace} (hval : Value.okWide Try.prog W r b0 46 v) (h : DataW.Trod enc Try.prog W 0 (fun _ => true) true 46 v d ps) :
    ∃ (A1 : Option Addr) (n1 c1 : Nat) (A2 : Option Addr) (n2 c2 : Nat) (x : Ent), v = EnV A1 n1 c1 A2 n2 c2 x.len x.chain x.child ∧ Rd W A1 n1 c1 x.key ∧ Rd W A2 n2 c2 x.val ∧ entIn x := by
  obtain ⟨cs, rfl, _⟩ := okWide_struct Try.underlying46 hval
  obtain ⟨fuel, hf⟩ := h
  obtain ⟨A1, n1, c1, k, A2, n2, c2, v, L, r, s, e, h1, h2, h3, h4, h5⟩ := trod_entry hf
  refine ⟨A1, n1, c1, A2, n2, c2, ⟨k, v, L, r, s⟩, ?_, h1, h2, h3, h4, h5⟩
  have : cs.toList = _ := e
  show Value.agg cs = Value.agg _
  congr 1
  apply Array.ext'
  simpa using this
end
end Go.Proofs.Ytgihcjmcefdkiaa
