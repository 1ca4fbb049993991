/- How many entries a node that came in may have. -/
import Derived.Test.YtihbpmceggghgaaOpenNode
set_option linter.unusedVariables false
set_option linter.unusedSimpArgs false
namespace Go.Proofs.Ytihbpmceggghgaa
open Go.ChangeShapes Go.WideShapes Go.ChangeAt Go.RowKit Go.Deep

section
variable {H : Type} {enc : TypeId × Value → H} {W : World}
theorem reach_node {ts : List TypeId} {ds : List (DataW H)} (hs : (DataW.weightsEach Try.prog ts ds).all (· ≤ reachBytes) = true) {j : Nat} {d : DataW H} (ht : ts[j]? = some 24) (hd : ds[j]? = some d)
    {k l : Nat} {A : Option Addr} {n c : Nat} {ps : List MemPlace} (h : DataW.Trod enc Try.prog W 0 (fun _ => true) true 24 (NdV k l A n c) d ps) : n * 104 ≤ 140737488351232 := by
  obtain ⟨fuel, hf⟩ := h
  have hf1 : DataW.trod enc Try.prog W 0 (fun _ => true) true fuel 24 [.int .u8 (k : Int), .int .u8 (l : Int), .slice A n c] = some (d, ps) := hf
  obtain ⟨xs, m, rfl, hx, hl, hxl, hff⟩ := DataW.trod_struct Try.underlying24 hf1
  have c1 : Try.prog.cellsOf 5 = 1 := by kernel_rfl
  have c2 : Try.prog.cellsOf 22 = 1 := by kernel_rfl
  have hb : Try.prog.bytesOf 49 = 104 := by kernel_rfl
  injection hx with hx1 hx2
  have hx3 : xs.length = 3 := hxl
  match xs, hx3, hff with
  | [y0, y1, y2], _, hff =>
    have f2 : DataW.trod enc Try.prog W 0 (fun _ => true) true m 22 ((([.int .u8 (k : Int), .int .u8 (l : Int), .slice A n c] : List Value).drop 2).take (Try.prog.cellsOf 22)) = some y2 := hff 2 _ rfl
    rw [c2] at f2
    have f3 : DataW.trod enc Try.prog W 0 (fun _ => true) true m 22 [.slice A n c] = some y2 := f2
    rcases open_slice Try.underlying22 f3 with ⟨hcs, _⟩ | ⟨a, len, cap, m', n', D, Pl, hcs, _, hlc, _, hmm, hy, _⟩
    · injection hcs with hcs _
      injection hcs with _ hn _
      omega
    · injection hcs with hcs _
      injection hcs with _ hn _
      simp only [if_true] at hmm
      have hin : ((((List.range len).map D).length + ((List.range (m' - len)).map fun j => D (len + j)).length) * 104) ∈ d.weights Try.prog 24 := by
        rw [hx1]
        have hu := Try.underlying24
        simp only [DataW.weights, hu]
        refine DataW.weights_mem_each (j := 2) rfl (d := y2.1) rfl _ ?_
        rw [hy]
        have hu2 := Try.underlying22
        simp only [DataW.weights, hu2, hb]
        exact List.mem_cons_self
      have h1 := List.all_eq_true.1 hs _ (DataW.weights_mem_each ht hd _ hin)
      have h2 : reachBytes = 140737488351232 := rfl
      simp only [List.length_map, List.length_range, decide_eq_true_eq, h2] at h1
      have h3 : len + (m' - len) = m' := by omega
      rw [h3] at h1
      have h4 : n ≤ m' := by omega
      exact Nat.le_trans (Nat.mul_le_mul_right 104 h4) h1
end
end Go.Proofs.Ytihbpmceggghgaa
