/- append(s, make([]byte, m)...): noughts behind a row of bytes of the call's own. -/
import Derived.Test.YtihbpmceggghgaaOwn
set_option linter.unusedVariables false
set_option linter.unusedSimpArgs false
namespace Go.Proofs.Ytihbpmceggghgaa
open Go Go.RowKit

theorem zeros_b8 (m : Nat) : (Builtin.zeroCells #[Value.int .u8 0] m).toList = (List.replicate m (0 : UInt8)).map B8 := by
  rw [List.map_replicate, List.eq_replicate_iff]
  refine ⟨by simp [size_zeroCells], fun v hv => ?_⟩
  simp only [Builtin.zeroCells, Array.toList_map, List.mem_map] at hv
  obtain ⟨i, _, rfl⟩ := hv
  simp [Nat.mod_one]
theorem run_app0 (T ty tn : TypeId) (hT : Try.prog.underlying T = some (.slice 5)) (htn : Try.prog.underlying tn = some (.int .i64)) {w : World} {H : Nat} {A : Option Addr} {n c : Nat} {l : List UInt8} (m : Nat)
    (h : Own w H A n c l) (hb : H ≤ w.heap.size) (hl : n + m ≤ 140737488355328) :
    ∃ A2 c2 w2, (Builtin.append_ #[T, tn] ty #[.slice A n c, .int .i64 m]).run Try.prog w = .ok (.slice A2 (n + m) c2) w2 ∧ Own w2 H A2 (n + m) c2 (l ++ List.replicate m 0) ∧ w.grownBy w2 (A.map (·.block)) ∧ Below H w w2 := by
  obtain ⟨i0, hi, hz0, hz1, hz2⟩ := info_parts infoU8
  have hw : IntKind.i64.wrap (m : Int) = m := by rw [IntKind.wrap_i64]; omega
  have hneg : ¬ ((m : Int) < 0) := by omega
  have h48i : ¬ (281474976710656 < (m : Int) * (i0.bytes : Int)) := by rw [hz2]; omega
  have hlen := h.len
  have hrow : Value.ownBlock (.slice A n c) = A.map (·.block) := by cases A <;> rfl
  have hzl := zeros_b8 m
  have fin : ∀ A2 c2 w2, (Builtin.append_ #[T, tn] ty #[.slice A n c, .int .i64 m]).run Try.prog w = .ok (.slice A2 (n + m) c2) w2 → Own w2 H A2 (n + m) c2 (l ++ List.replicate m 0) → w.grownBy w2 (A.map (·.block)) →
      ∃ A2 c2 w2, (Builtin.append_ #[T, tn] ty #[.slice A n c, .int .i64 m]).run Try.prog w = .ok (.slice A2 (n + m) c2) w2 ∧ Own w2 H A2 (n + m) c2 (l ++ List.replicate m 0) ∧ w.grownBy w2 (A.map (·.block)) ∧ Below H w w2 :=
    fun A2 c2 w2 h1 h2 h3 => ⟨A2, c2, w2, h1, h2, h3, (Below.refl _ _).grown h3 hb fun k hk => (World.ownsRow.lt h k (by rw [hrow]; exact hk)).1⟩
  rcases h.2 with ⟨hv, h0⟩ | ⟨g, cap, cur, hv, hbg, hg, hnc, hcm, hcs, htake⟩
  · injection hv with e1 e2 e3
    subst e1; subst e3; subst h0
    have hl0 : l = [] := List.eq_nil_of_length_eq_zero hlen.symm
    subst hl0
    rcases Nat.eq_zero_or_pos m with hm | hm
    · subst hm
      refine fin none 0 w ?_ (Own.nil _ _) ⟨rfl, rfl, rfl, Nat.le_refl _, fun _ _ _ => rfl⟩
      have hw0 : IntKind.i64.wrap 0 = 0 := by rw [IntKind.wrap_i64]; rfl
      have hf := run_firstCells_none (P := Try.prog) w i0.size 0 0 0
      simp [Builtin.append_, run_underlying hT, run_underlying htn, sizeOf, typeInfo, hi, asInt, asIntOf, hw0]
    · have hr := Lib.run_append_nil_zeros (P := Try.prog) w T tn ty 5 i0 (.int .u8 0) .i64 .i64 hT htn hi hz0 m hm (by rw [hz1]; decide) (by omega) (by rw [hz2]; omega)
      have hge := grownCap_ge w m 0 5
      have hmx := grownCap_le_maxLen w m 0 5 (by unfold maxLen; omega)
      refine fin (some ⟨w.heap.size, 0, none⟩) (grownCap w m 0 5) (w.drew.alloc (.cells (Builtin.zeroCells (Value.int IntKind.u8 0).cells m ++ Builtin.zeroCells (Value.int IntKind.u8 0).cells (grownCap w m 0 5 - m)) 5)) (by rw [Nat.zero_add]; exact hr) ?_ ⟨rfl, rfl, rfl, by simp, fun k hk _ => Below.heap_alloc w.drew _ k hk⟩
      rw [Nat.zero_add, List.nil_append]
      refine ⟨by simp, .inr ⟨w.heap.size, _, _, rfl, hb, heap_alloc_new w.drew _, hge, hmx, ?_, ?_⟩⟩
      · rw [Array.size_append, size_zeroCells, size_zeroCells]
        show m * 1 + (grownCap w m 0 5 - m) * 1 = _
        omega
      · rw [Array.toList_append]
        have : (Builtin.zeroCells (Value.int IntKind.u8 0).cells m).toList = (List.replicate m (0 : UInt8)).map B8 := hzl
        rw [this, Nat.mul_one]
        exact List.take_left' (by simp)
  · injection hv with e1 e2 e3
    subst e1; subst e3
    by_cases hroom : n + m ≤ c
    · have hfit : n * 1 + (List.replicate m (B8 0)).length ≤ cur.size := by rw [hcs]; simp; omega
      have h1c : ∀ u ∈ List.replicate m (B8 0), u.oneCell' = true := fun u hu => by rw [(List.mem_replicate.1 hu).2]; rfl
      have hst := run_storeCells_at Try.prog g (n * 1) 5 (List.replicate m (B8 0)) 0 cur w hg (by simpa using hfit) h1c
      have hzz : (Builtin.zeroCells (Value.int IntKind.u8 0).cells m).toList = List.replicate m (B8 0) := by rw [← List.map_replicate]; exact hzl
      have hrun : ∃ w2, (Builtin.append_ #[T, tn] ty #[.slice (some ⟨g, 0, none⟩) n c, .int .i64 m]).run Try.prog w = .ok (.slice (some ⟨g, 0, none⟩) (n + m) c) w2 ∧ w2.heap[g]? = some (.cells (cur.toList.take n ++ (List.replicate m (B8 0) ++ cur.toList.drop (n + m))).toArray 5 (0, 0)) ∧ w.grownBy w2 (some g) := by
        by_cases hm0 : m = 0
        · subst hm0
          have hw0 : IntKind.i64.wrap 0 = 0 := by rw [IntKind.wrap_i64]; rfl
          refine ⟨w, ?_, by simpa using hg, ⟨rfl, rfl, rfl, Nat.le_refl _, fun _ _ _ => rfl⟩⟩
          have hnc' : n ≤ c := hnc
          simp [Builtin.append_, run_underlying hT, run_underlying htn, sizeOf, typeInfo, hi, asInt, asIntOf, hw0, hnc', storeCells]
        · have hns : ¬ (m * 1 = 0) := by omega
          refine ⟨_, ?_, setRow_heap w g _ _ _ _ hg, ⟨rfl, rfl, rfl, by simp [World.setRow], fun k _ hk => setRow_other w g k _ (fun e => hk (by rw [e]))⟩⟩
          simp only [Nat.mul_one, Nat.add_zero, Nat.zero_add, List.length_replicate] at hst
          simp [Builtin.append_, run_underlying hT, run_underlying htn, sizeOf, typeInfo, zeroValue, hi, hz0, hz1, asInt, asIntOf, hw, hneg, h48i, hroom, hm0, Addr.add_lit, hzz, hst]
      obtain ⟨w2, hr, hh, hgr⟩ := hrun
      refine fin (some ⟨g, 0, none⟩) c w2 hr ?_ hgr
      refine ⟨by simp [← hlen], .inr ⟨g, c, _, rfl, hbg, hh, hroom, hcm, ?_, ?_⟩⟩
      · simp only [List.size_toArray, List.length_append, List.length_take, List.length_drop, Array.length_toList, List.length_replicate, hcs]
        omega
      · have ht : cur.toList.take n = l.map B8 := by simpa using htake
        rw [ht, Nat.mul_one, ← List.append_assoc, List.map_append, List.map_replicate]
        exact List.take_left' (by simp [← hlen])
    · have hst := h.rd
      have holds : ∀ j u, (l.map B8)[j]? = some u → w.cell? ((⟨g, 0, none⟩ : Addr).add j) = some u := World.ownsRow.cells h (g := g) rfl
      have hfo := run_firstCells_some (P := Try.prog) w.drew i0.size n ⟨g, 0, none⟩ n c (l.map B8) (by rw [hz1]; simp [← hlen]) (by simpa using holds)
      have hge := grownCap_ge w (n + m) c 5
      have hmx := grownCap_le_maxLen w (n + m) c 5 (by unfold maxLen; omega)
      have h63' : ¬ (9223372036854775807 < ((n : Int) + (m : Int))) := by omega
      have h48' : ¬ (281474976710656 < Builtin.nextslicecap (n + m) c * i0.bytes) := by
        have := growslice_fits (need := n + m) (old := c) (bytes := i0.bytes) (by omega) (by rw [hz2]; omega)
        omega
      have hns : ¬ (m * 1 = 0) := by omega
      have hm0 : ¬ m = 0 := by omega
      have hroom' : ¬ (n + m ≤ c) := hroom
      have hzz : (Builtin.zeroCells (Value.int IntKind.u8 0).cells m).toList = List.replicate m (B8 0) := by rw [← List.map_replicate]; exact hzl
      refine fin (some ⟨w.heap.size, 0, none⟩) (grownCap w (n + m) c 5) (w.drew.alloc (.cells ((l.map B8).toArray ++ Builtin.zeroCells (Value.int IntKind.u8 0).cells m ++ Builtin.zeroCells (Value.int IntKind.u8 0).cells (grownCap w (n + m) c 5 - (n + m))) 5)) ?_ ?_ ⟨rfl, rfl, rfl, by simp, fun k hk _ => Below.heap_alloc w.drew _ k hk⟩
      · simp [Builtin.append_, run_underlying hT, run_underlying htn, sizeOf, typeInfo, zeroValue, hi, hz0, hz1, asInt, asIntOf, hw, hneg, h48i, hroom', hm0, h63', h48', Question.forced, newRow, grownCap]
        rw [hz1] at hfo
        rw [hfo]
        simp
      · refine ⟨by simp [← hlen], .inr ⟨w.heap.size, _, _, rfl, hb, heap_alloc_new w.drew _, hge, hmx, ?_, ?_⟩⟩
        · rw [Array.size_append, Array.size_append, size_zeroCells, size_zeroCells]
          show (l.map B8).toArray.size + m * 1 + (grownCap w (n + m) c 5 - (n + m)) * 1 = _
          simp [← hlen]
          omega
        · rw [Array.toList_append, Array.toList_append, hzz, Nat.mul_one, List.map_append, List.map_replicate]
          exact List.take_left' (by simp [← hlen])
theorem wpList_app0 (T tn : TypeId) (hT : Try.prog.underlying T = some (.slice 5)) (htn : Try.prog.underlying tn = some (.int .i64)) {w : World} {ops : Array Oper} {rest : List Oper} {o : Oper} {a : Act} {Q : Exit → Act → World → Prop} (hgd : o.guard = none) (s x : Operand)
    (ho : o.op = .call { callee := .builtin .append, args := #[s, x], argTypes := #[T, tn] }) {H : Nat} {A : Option Addr} {n c : Nat} {l : List UInt8} (m : Nat) (hs : a.eval s = .slice A n c) (hx : a.eval x = .int .i64 m)
    (h : Own w H A n c l) (hb : H ≤ w.heap.size) (hl : n + m ≤ 140737488355328)
    (K : ∀ A2 c2 w2, Own w2 H A2 (n + m) c2 (l ++ List.replicate m 0) → w.grownBy w2 (A.map (·.block)) → Below H w w2 → wpList Try.prog ops Q rest (a.put o.dst (.slice A2 (n + m) c2)) w2) : wpList Try.prog ops Q (o :: rest) a w := by
  obtain ⟨A2, c2, w2, hr, h2, h3, h4⟩ := run_app0 T o.type tn hT htn m h hb hl
  exact Lib.wpList_append_run w hgd s x T tn ho _ _ hs hx _ _ hr (K A2 c2 w2 h2 h3 h4)
end Go.Proofs.Ytihbpmceggghgaa
