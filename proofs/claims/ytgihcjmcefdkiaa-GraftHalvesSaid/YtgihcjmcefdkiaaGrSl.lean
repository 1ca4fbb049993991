/- A slice of entries that is cut: its operations, whatever its address. -/
import Derived.Test.YtgihcjmcefdkiaaGrKnown
set_option linter.unusedVariables false
set_option linter.unusedSimpArgs false
namespace Go.Proofs.Ytgihcjmcefdkiaa
open Go.RowKit

theorem z3len : [Value.int .u8 0, .int .u8 0, .slice none 0 0].length = [Value.int .u8 0, .int .u8 0, .slice none 0 0].length := rfl
/-- Where a slice of entries begins that is cut at i. -/
def cutA (A : Option Addr) (c i : Nat) : Option Addr := if c = i then A else A.map (·.add (i * 9))
theorem RdL.cutA {w : World} {A : Option Addr} {n c : Nat} {es : List Ent} (h : RdL w A n c es) (i : Nat) (hi : i ≤ n) : RdL w (cutA A c i) (n - i) (c - i) (es.drop i) := by
  by_cases hn : i < n
  · obtain ⟨b, o, rfl, _⟩ := h.at_ (by omega)
    have hc := h.cap
    have := h.drop i hi
    rw [Go.Proofs.Ytgihcjmcefdkiaa.cutA, if_neg (by omega), Option.map_some, Addr.add_lit]
    exact this
  · obtain rfl : i = n := by omega
    refine ⟨by rw [List.length_drop, ← h.len], by have := h.cap; omega, by have := h.max; omega, fun h0 => by omega⟩
theorem elemEn : Try.prog.underlying 22 = some (.slice (Try.prog.elem 22)) := by kernel_rfl
theorem size_elemEn (w : World) : (sizeOf (Try.prog.elem 22)).run Try.prog w = .ok 9 w := by kernel_rfl
theorem exec_slice_to {o : Oper} {a : Act} (x y : Operand) (ho : o.op = .slice 22 x none (some y) none) {A : Option Addr} {n c i : Nat} (hx : a.eval x = .slice A n c) (hy : a.eval y = .int .i64 (i : Int)) (hi : i ≤ c) (w : World) :
    (execOp a.eval o).run Try.prog w = .ok (.value (.slice A i c)) w := by
  unfold execOp
  simp only [ho, hx, hy, Option.map_none, Option.map_some, Sem.run_bind]
  rw [run_sliceAt_slice w _ _ _ _ _ elemEn, run_slice_h w _ _ _ _ elemEn .i64 (i : Int) (by omega) (by omega), size_elemEn]
  simp [sliced, Result.andThen]
  intro h
  cases A with
  | none => rfl
  | some a => simp [Addr.add]
theorem exec_slice_from {o : Oper} {a : Act} (x y : Operand) (ho : o.op = .slice 22 x (some y) none none) {A : Option Addr} {n c i : Nat} (hx : a.eval x = .slice A n c) (hy : a.eval y = .int .i64 (i : Int)) (hi : i ≤ n) (w : World) :
    (execOp a.eval o).run Try.prog w = .ok (.value (.slice (cutA A c i) (n - i) (c - i))) w := by
  unfold execOp
  simp only [ho, hx, hy, Option.map_none, Option.map_some, Sem.run_bind]
  rw [run_sliceAt_slice w _ _ _ _ _ elemEn, run_slice_l w _ _ _ _ elemEn .i64 (i : Int) (by omega) (by omega), size_elemEn]
  simp [sliced, Result.andThen, cutA]
theorem RdLL.two {w : World} {g n c n' c' : Nat} {A A' : Option Addr} {es es' : List Ent} (hb : Blk w g 22 [Value.slice A n c, .slice A' n' c'].toArray) (h : RdL w A n c es) (h' : RdL w A' n' c' es') : RdLL w (some ⟨g, 0, none⟩) 2 2 [es, es'] :=
  ⟨rfl, Nat.le_refl _, by unfold maxLen; omega, fun _ => ⟨g, 0, rfl, fun j hj => by
    have hj3 : j = 0 ∨ j = 1 := by omega
    rcases hj3 with rfl | rfl
    · exact ⟨A, n, c, hb.cell 0, h⟩
    · exact ⟨A', n', c', hb.cell 1, h'⟩⟩⟩
theorem OwnN.congr {w : World} {H n c : Nat} {A : Option Addr} {es es' : List Ent} (h : OwnN w H A n c es) (he : ∀ j, j < n → es.getD j ent0 = es'.getD j ent0) : OwnN w H A n c es' := by
  obtain ⟨css, h1, h2⟩ := h
  exact ⟨css, h1, fun j hj => by rw [← he j hj]; exact h2 j hj⟩
end Go.Proofs.Ytgihcjmcefdkiaa
