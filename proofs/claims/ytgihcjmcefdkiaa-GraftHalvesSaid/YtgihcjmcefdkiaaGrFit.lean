/- Plain and contracts: what a split fits, what Join and Even answer, case by case. -/
import Derived.Test.YtgihcjmcefdkiaaGrEven
set_option linter.unusedVariables false
set_option linter.unusedSimpArgs false
namespace Go.Proofs.Ytgihcjmcefdkiaa
open Go.RowKit

theorem bst_fit (kd : Nat) (es : List Ent) : ∀ n, (bst kd es n).1 ≠ 0 → xS kd es (bst kd es n).1 ≤ 224 ∧ yS kd es (bst kd es n).1 ≤ 224
  | 0, h => absurd rfl h
  | n + 1, h => by
    have ih := bst_fit kd es n
    rw [bst, bsA] at h ⊢
    by_cases h1 : xS kd es (n + 1) ≤ 224 ∧ yS kd es (n + 1) ≤ 224
    · rw [if_pos h1] at h ⊢
      split at h
      · rename_i h2; rw [if_pos h2]; exact h1
      · rename_i h2; rw [if_neg h2]; exact ih h
    · rw [if_neg h1] at h ⊢; exact ih h
theorem best_fit {kd : Nat} {es : List Ent} (h : best kd es ≠ 0) : xS kd es (best kd es) ≤ 224 ∧ yS kd es (best kd es) ≤ 224 := bst_fit kd es _ h
theorem splE_cases {k l : Nat} {es : List Ent} (h : rE k l es = 0) : (3 + (entsB k es).length ≤ 224 ∧ splE k l es = 7) ∨ (¬ 3 + (entsB k es).length ≤ 224 ∧ (splE k l es = 9 ∨ splE k l es = 0)) := by
  by_cases h1 : 3 + (entsB k es).length ≤ 224
  · exact .inl ⟨h1, by rw [splE, if_pos h, if_pos h1]⟩
  · refine .inr ⟨h1, ?_⟩
    rw [splE, if_pos h, if_neg h1]
    split
    · exact .inl rfl
    · exact .inr rfl
theorem SplP.no {f : Nat} {args : Array Value} {w : World} {k l : Nat} {L : List Ent} {E : Int} (h : Calls Try.prog f args w (SplP k l L w)) (hE : splE k l L = E) (h0 : E ≠ 0) :
    Calls Try.prog f args w fun e w' => ∃ A1 c1 A2 c2 B d, e = .returned (.tuple #[NdV 0 0 A1 0 c1, NdV 0 0 A2 0 c2, .slice B 0 d, .int .i64 E]) ∧ Below w.heap.size w w' := by
  have hne : splE k l L ≠ 0 := by rw [hE]; exact h0
  have e1 : ∀ x, splN k l L x = 0 := fun x => by unfold splN; rw [if_neg hne]
  have e2 : splA k l L = [] := by unfold splA; rw [if_neg hne]
  have e3 : splB k l L = [] := by unfold splB; rw [if_neg hne]
  have e4 : splK k l L = [] := by unfold splK; rw [if_neg hne]
  refine h.mono fun e w' ⟨A1, c1, A2, c2, B, m, d, he, _, _, h3, hb, _⟩ => ?_
  rw [e4] at h3
  have hm : m = 0 := h3.len
  subst hm
  rw [e1, e1, e2, e3, hE] at he
  exact ⟨A1, c1, A2, c2, B, d, he, hb⟩
theorem SplP.yes {f : Nat} {args : Array Value} {w : World} {k l : Nat} {L : List Ent} (h : Calls Try.prog f args w (SplP k l L w)) (h0 : splE k l L = 0) :
    Calls Try.prog f args w fun e w' => ∃ A1 c1 A2 c2 B m d, e = .returned (.tuple #[NdV k l A1 (best k L) c1, NdV k l A2 (L.length - best k L) c2, .slice B m d, .int .i64 0]) ∧
      OwnN w' w.heap.size A1 (best k L) c1 (L.take (best k L)) ∧ OwnN w' w.heap.size A2 (L.length - best k L) c2 (cutB k L (best k L)) ∧ Own w' w.heap.size B m d (L.getD (best k L) ent0).key ∧ Below w.heap.size w w' ∧ (∀ a a', A1 = some a → A2 = some a' → a.block ≠ a'.block) := by
  have hlt := best_lt (splE_zero h0).2.2
  have e1 : ∀ x, splN k l L x = x := fun x => by unfold splN; rw [if_pos h0]
  have e2 : splA k l L = L.take (best k L) := by unfold splA; rw [if_pos h0]
  have e3 : splB k l L = cutB k L (best k L) := by unfold splB; rw [if_pos h0]
  have e4 : splK k l L = (L.getD (best k L) ent0).key := by unfold splK; rw [if_pos h0]
  have l2 : (L.take (best k L)).length = best k L := by rw [List.length_take]; omega
  have l3 : (cutB k L (best k L)).length = L.length - best k L := cutB_length k L _
  refine h.mono fun e w' ⟨A1, c1, A2, c2, B, m, d, he, h1, h2, h3, hb, hd⟩ => ?_
  rw [e1, e1, e2, e3, h0, l2, l3] at he
  rw [e2, l2] at h1
  rw [e3, l3] at h2
  rw [e4] at h3
  exact ⟨A1, c1, A2, c2, B, m, d, he, h1, h2, h3, hb, hd⟩
theorem EvP.no {f : Nat} {args : Array Value} {w : World} {b : Bool} {k l : Nat} {L : List Ent} {E : Int} (h : Calls Try.prog f args w (EvP b k l L w)) (hE : (if b then splE k l L else 2) = E) (h0 : E ≠ 0) :
    Calls Try.prog f args w fun e w' => ∃ A1 c1 A2 c2 B m d, e = .returned (.tuple #[NdV 0 0 A1 0 c1, NdV 0 0 A2 0 c2, .slice B m d, .int .i64 E]) ∧ Below w.heap.size w w' := by
  refine h.mono fun e w' ⟨A1, c1, A2, c2, B, m, d, he, _, _, _, hb, _⟩ => ⟨A1, c1, A2, c2, B, m, d, ?_, hb⟩
  cases b with
  | false => subst hE; exact he
  | true =>
    have hE' : splE k l L = E := hE
    have hne : splE k l L ≠ 0 := by rw [hE']; exact h0
    have e1 : ∀ x, splN k l L x = 0 := fun x => by unfold splN; rw [if_neg hne]
    have e2 : splA k l L = [] := by unfold splA; rw [if_neg hne]
    have e3 : splB k l L = [] := by unfold splB; rw [if_neg hne]
    simp only [bN, bE, if_true, e1, e2, e3, hE'] at he
    exact he
theorem EvP.yes {f : Nat} {args : Array Value} {w : World} {b : Bool} {k l : Nat} {L : List Ent} (h : Calls Try.prog f args w (EvP b k l L w)) (hb : b = true) (h0 : splE k l L = 0) :
    Calls Try.prog f args w fun e w' => ∃ A1 c1 A2 c2 B m d, e = .returned (.tuple #[NdV k l A1 (best k L) c1, NdV k l A2 (L.length - best k L) c2, .slice B m d, .int .i64 0]) ∧
      OwnN w' w.heap.size A1 (best k L) c1 (L.take (best k L)) ∧ OwnN w' w.heap.size A2 (L.length - best k L) c2 (cutB k L (best k L)) ∧ Below w.heap.size w w' := by
  subst hb
  have hlt := best_lt (splE_zero h0).2.2
  have e1 : ∀ x, splN k l L x = x := fun x => by unfold splN; rw [if_pos h0]
  have e2 : splA k l L = L.take (best k L) := by unfold splA; rw [if_pos h0]
  have e3 : splB k l L = cutB k L (best k L) := by unfold splB; rw [if_pos h0]
  have l2 : (L.take (best k L)).length = best k L := by rw [List.length_take]; omega
  have l3 : (cutB k L (best k L)).length = L.length - best k L := cutB_length k L _
  refine h.mono fun e w' ⟨A1, c1, A2, c2, B, m, d, he, h1, h2, h3, hb, hd⟩ => ?_
  simp only [bN, bE, if_true, e1, e2, e3, h0, l2, l3] at he h1 h2
  exact ⟨A1, c1, A2, c2, B, m, d, he, h1, h2, hb⟩
theorem NodB.zero {f : Nat} {args : Array Value} {w : World} {b q : Bool} {k l : Nat} {L : List Ent} (h : Calls Try.prog f args w (NodB b q k l L w)) (hb : b = false) (hq : q = false) :
    Calls Try.prog f args w fun e w' => ∃ A9 c9, e = .returned (.tuple #[NdV 0 0 A9 0 c9, .bool false]) ∧ Below w.heap.size w w' := by
  subst hb; subst hq
  exact h.mono fun e w' ⟨A, c, he, ho, hb⟩ => ⟨A, c, he, hb⟩
/-- The sizes of the halves. -/
theorem half_sizes {k l : Nat} {L : List Ent} (h0 : splE k l L = 0) : rE k l (L.take (best k L)) = 0 ∧ rE k l (cutB k L (best k L)) = 0 ∧ sizeV k l (L.take (best k L)) ≤ 224 ∧ sizeV k l (cutB k L (best k L)) ≤ 224 := by
  obtain ⟨hr, hs, hb⟩ := splE_zero h0
  have hlt := best_lt hb
  have h1 := right_take hr (best k L) (by omega) (by omega)
  have h2 := right_cutB hr (best k L) (by omega) hlt
  obtain ⟨f1, f2⟩ := best_fit hb
  exact ⟨h1, h2, by rw [sizeV, if_pos h1]; exact f1, by rw [sizeV, if_pos h2]; exact f2⟩
end Go.Proofs.Ytgihcjmcefdkiaa
