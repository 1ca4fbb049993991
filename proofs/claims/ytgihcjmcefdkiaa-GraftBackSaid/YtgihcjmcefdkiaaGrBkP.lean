/- Plain: an entry put in where its key would stand. -/
import Derived.Test.YtgihcjmcefdkiaaGrWo
set_option linter.unusedVariables false
set_option linter.unusedSimpArgs false
namespace Go.Proofs.Ytgihcjmcefdkiaa
open Go.RowKit

theorem less_irrefl : ∀ a : List UInt8, less a a = false
  | [] => rfl
  | a :: x => by rw [less, if_pos rfl]; exact less_irrefl x
theorem less_total : ∀ a b : List UInt8, less a b = false → a ≠ b → less b a = true
  | [], [], _, h => absurd rfl h
  | a :: x, [], _, _ => rfl
  | [], b :: y, h, _ => by simp [less] at h
  | a :: x, b :: y, h, hne => by
    rw [less] at h ⊢
    by_cases e : a = b
    · subst e
      rw [if_pos rfl] at h ⊢
      exact less_total x y h (fun e => hne (by rw [e]))
    · rw [if_neg e] at h
      rw [if_neg (Ne.symm e)]
      simp only [decide_eq_false_iff_not, decide_eq_true_eq] at h ⊢
      have : a.toNat ≠ b.toNat := fun h2 => e (UInt8.toNat_inj.1 h2)
      omega
theorem firstAt_spec (p : Nat → Bool) (m : Nat) : firstAt p 0 m ≤ m ∧ (∀ j, j < firstAt p 0 m → p j = false) ∧ (firstAt p 0 m < m → p (firstAt p 0 m) = true) := by
  by_cases h : ∃ i, i < m ∧ p i = true
  · have : ∃ i, (i < m ∧ p i = true) ∧ ∀ j, j < i → p j = false := by
      obtain ⟨i, hi, hp⟩ := h
      induction i using Nat.strongRecOn with
      | ind i ih =>
        by_cases h2 : ∃ j, j < i ∧ p j = true
        · obtain ⟨j, hj, hpj⟩ := h2
          exact ih j hj (by omega) hpj
        · refine ⟨i, ⟨hi, hp⟩, fun j hj => ?_⟩
          cases hb : p j with
          | false => rfl
          | true => exact absurd ⟨j, hj, hb⟩ h2
    obtain ⟨i, ⟨hi, hp⟩, hlow⟩ := this
    have e := firstAt_here hlow hi hp
    rw [e]
    exact ⟨by omega, hlow, fun _ => hp⟩
  · have hn : ∀ j, j < m → p j = false := fun j hj => by
      cases hb : p j with
      | false => rfl
      | true => exact absurd ⟨j, hj, hb⟩ h
    have e := firstAt_none hn
    rw [e]
    exact ⟨Nat.le_refl _, hn, fun h => absurd h (Nat.lt_irrefl _)⟩
theorem fnd_spec (es : List Ent) (key : List UInt8) : fndA es key ≤ es.length ∧ (∀ j, j < fndA es key → less (es.getD j ent0).key key = true) ∧ (fndA es key < es.length → less (es.getD (fndA es key) ent0).key key = false) := by
  obtain ⟨h1, h2, h3⟩ := firstAt_spec (fun j => !less (es.getD j ent0).key key) es.length
  refine ⟨h1, fun j hj => ?_, fun h => ?_⟩
  · have := h2 j hj; simpa using this
  · have h4 := h3 h
    rw [Bool.not_eq_true'] at h4
    exact h4
/-- Where an entry's key would stand, it keeps the order; unless the key is there. -/
theorem ins_order {k l : Nat} {es : List Ent} {x : Ent} (hr : rE k l es = 0) (hf : fndB es x.key = false) {i : Nat} (hi : fndA es x.key = i) :
    ∀ j, 0 < j → j < es.length + 1 → less ((insE es i x).getD (j - 1) ent0).key ((insE es i x).getD j ent0).key = true := by
  obtain ⟨_, _, _, h3⟩ := right_may hr
  obtain ⟨f1, f2, f3⟩ := fnd_spec es x.key
  rw [hi] at f1 f2 f3
  intro j h0 hj
  rw [insE_at f1, insE_at f1]
  by_cases h1 : j < i
  · rw [if_pos (by omega), if_pos h1]
    exact (h3 j (by omega)).2 h0
  · rw [if_neg h1]
    by_cases h2 : j = i
    · rw [if_pos (by omega), if_pos h2]
      exact f2 (j - 1) (by omega)
    · rw [if_neg h2, if_neg (by omega)]
      by_cases h4 : j - 1 = i
      · rw [if_pos h4]
        have hlt : i < es.length := by omega
        have hne : (es.getD i ent0).key ≠ x.key := fun e => by
          unfold fndB at hf
          rw [hi, e] at hf
          simp [hlt] at hf
        rw [h4]
        exact less_total _ _ (f3 hlt) hne
      · rw [if_neg h4]
        exact (h3 (j - 1) (by omega)).2 (by omega)
theorem rAt_ord {k : Nat} {es : List Ent} {i : Nat} (h : ∀ j, 0 < j → j < es.length → less (es.getD (j - 1) ent0).key (es.getD j ent0).key = true) (hi : i < es.length) : rAt k es i = 0 ∨ rAt k es i = 2 := by
  unfold rAt
  split
  · rw [if_neg (fun ⟨h0, h1⟩ => by rw [h i h0 hi] at h1; cases h1)]; exact .inl rfl
  · exact .inr rfl
theorem rTo_ord {k : Nat} {es : List Ent} (h : ∀ j, 0 < j → j < es.length → less (es.getD (j - 1) ent0).key (es.getD j ent0).key = true) : ∀ i, i ≤ es.length → rTo k es i = 0 ∨ rTo k es i = 2
  | 0, _ => .inl rfl
  | i + 1, hi => by
    rw [rTo]
    split
    · exact rAt_ord h (by omega)
    · exact rTo_ord h i (by omega)
/-- An entry that is not there: nothing is wrong but the entry. -/
theorem ins_new {k l : Nat} {es : List Ent} {x : Ent} (hr : rE k l es = 0) (hf : fndB es x.key = false) {i : Nat} (hi : fndA es x.key = i) : rE k l (insE es i x) = 0 ∨ rE k l (insE es i x) = 2 := by
  have f1 : i ≤ es.length := by rw [← hi]; exact (fnd_spec es x.key).1
  have ho := ins_order hr hf hi
  unfold rE
  split
  · exact rTo_ord (fun j h0 hj => ho j h0 (by rw [insE_length f1] at hj; exact hj)) _ (Nat.le_refl _)
  · exact .inr rfl
/-- One whose key is there: something is wrong. -/
theorem ins_old {k l : Nat} {es : List Ent} {x : Ent} (hf : fndB es x.key = true) {i : Nat} (hi : fndA es x.key = i) : rE k l (insE es i x) = 2 ∨ rE k l (insE es i x) = 120 := by
  unfold fndB at hf
  rw [hi, Bool.and_eq_true, decide_eq_true_iff, beq_iff_eq] at hf
  obtain ⟨hlt, hk⟩ := hf
  rcases rE_cases k l (insE es i x) with h | h | h
  · exfalso
    have h3 := (right_may h).2.2.2 (i + 1) (by rw [insE_length (by omega)]; omega)
    have := h3.2 (by omega)
    rw [insE_at (by omega), insE_at (by omega), if_neg (by omega), if_pos (by omega), if_neg (by omega), if_neg (by omega), Nat.add_sub_cancel, hk, less_irrefl] at this
    cases this
  · exact .inl h
  · exact .inr h
/-- It is found where it was put in. -/
theorem ins_found {es : List Ent} {x : Ent} {i : Nat} (hi : fndA es x.key = i) : fndA (insE es i x) x.key = i ∧ fndB (insE es i x) x.key = true := by
  obtain ⟨f1, f2, f3⟩ := fnd_spec es x.key
  rw [hi] at f1 f2 f3
  have e : fndA (insE es i x) x.key = i := by
    unfold fndA
    refine firstAt_here (fun j hj => ?_) (by rw [insE_length f1]; omega) ?_
    · rw [insE_at f1, if_pos hj, f2 j hj]; rfl
    · rw [insE_at f1, if_neg (by omega), if_pos rfl, less_irrefl]; rfl
  refine ⟨e, ?_⟩
  unfold fndB
  rw [e, insE_length f1, insE_at f1, if_neg (by omega), if_pos rfl]
  simp; omega
theorem ins_drop {es : List Ent} {i : Nat} (h : i ≤ es.length) (x : Ent) : dropE (insE es i x) i = es := by
  rw [dropE_eq, insE_eq]
  have h1 : (es.take i).length = i := by rw [List.length_take]; omega
  rw [List.take_append_of_le_length (by omega), List.take_of_length_le (by omega), List.drop_append, h1, List.drop_eq_nil_of_le (by omega), show i + 1 - i = 1 by omega]
  simp
theorem ins_one {es : List Ent} {i : Nat} (h : i ≤ es.length) (x : Ent) : ((insE es i x).take (i + 1)).drop i = [x] := by
  rw [insE_eq]
  have h1 : (es.take i).length = i := by rw [List.length_take]; omega
  rw [List.take_append, h1, List.take_of_length_le (by omega), show i + 1 - i = 1 by omega, List.drop_append, h1, List.drop_eq_nil_of_le (by omega)]
  simp
/-- A slice of entries that is cut at both ends. -/
theorem exec_slice_lh {o : Oper} {a : Act} (x y z : Operand) (ho : o.op = .slice 22 x (some y) (some z) none) {A : Option Addr} {n c i j : Nat} (hx : a.eval x = .slice A n c) (hy : a.eval y = .int .i64 (i : Int)) (hz : a.eval z = .int .i64 (j : Int)) (hij : i ≤ j) (hj : j ≤ c) (w : World) :
    (execOp a.eval o).run Try.prog w = .ok (.value (.slice (cutA A c i) (j - i) (c - i))) w := by
  unfold execOp
  simp only [ho, hx, hy, hz, Option.map_none, Option.map_some, Sem.run_bind]
  rw [run_sliceAt_slice w _ _ _ _ _ elemEn, run_slice_lh w _ _ _ _ elemEn .i64 .i64 (i : Int) (j : Int) (by omega) (by omega) (by omega), size_elemEn]
  simp [sliced, Result.andThen, cutA]
theorem exec_slice_1 {o : Oper} {a : Act} (x y z : Operand) (ho : o.op = .slice 22 x (some y) (some z) none) {A : Option Addr} {n c i : Nat} (hx : a.eval x = .slice A n c) (hy : a.eval y = .int .i64 (i : Int)) (hz : a.eval z = .int .i64 ((i + 1 : Nat) : Int)) (hj : i + 1 ≤ c) (w : World) :
    (execOp a.eval o).run Try.prog w = .ok (.value (.slice (cutA A c i) 1 (c - i))) w := by
  have := exec_slice_lh x y z ho hx hy hz (by omega) hj w
  rw [Nat.add_sub_cancel_left] at this
  exact this
end Go.Proofs.Ytgihcjmcefdkiaa
