/- Plain: parts of a node, their sizes, and where it is split best. -/
import Derived.Test.YtgihcjmcefdkiaaGrCut
set_option linter.unusedVariables false
set_option linter.unusedSimpArgs false
namespace Go.Proofs.Ytgihcjmcefdkiaa

theorem right_of {kd l : Nat} {es : List Ent} (h1 : shp kd l = true) (h2 : kd = 2 → 0 < es.length) (h3 : ∀ j, j < es.length → emay kd j (es.getD j ent0) = true ∧ (0 < j → less (es.getD (j - 1) ent0).key (es.getD j ent0).key = true)) : rE kd l es = 0 := by
  have hto : ∀ i, i ≤ es.length → rTo kd es i = 0 := fun i => by
    induction i with
    | zero => exact fun _ => rfl
    | succ i ih =>
      intro hi
      rw [rTo, if_pos (ih (by omega)), rAt, if_pos (h3 i (by omega)).1, if_neg]
      rintro ⟨h0, h⟩
      rw [(h3 i (by omega)).2 h0] at h
      cases h
  have h4 : (kd == 2 && es.length == 0) = false := by
    cases hb : (kd == 2 && es.length == 0) with
    | false => rfl
    | true =>
      rw [Bool.and_eq_true, beq_iff_eq, beq_iff_eq] at hb
      have := h2 hb.1
      omega
  rw [rE, h1, h4]
  exact hto _ (Nat.le_refl _)
theorem emay_idx {kd i j : Nat} {x : Ent} (h : kd ≠ 2 ∨ (0 < i ∧ 0 < j)) : emay kd i x = emay kd j x := by
  have hk : kmay kd i x.key.length = kmay kd j x.key.length := by
    unfold kmay
    rcases h with h | ⟨h1, h2⟩
    · rw [if_neg (fun e => h e.1), if_neg (fun e => h e.1)]
    · rw [if_neg (fun e => by omega), if_neg (fun e => by omega)]
  unfold emay emayL
  rw [hk]
theorem take_getD (es : List Ent) (k j : Nat) (h : j < k) : (es.take k).getD j ent0 = es.getD j ent0 := by simp [List.getD, List.getElem?_take, h]
theorem drop_getD (es : List Ent) (k j : Nat) : (es.drop k).getD j ent0 = es.getD (k + j) ent0 := by simp [List.getD, List.getElem?_drop]
theorem right_take {kd l : Nat} {es : List Ent} (h : rE kd l es = 0) (k : Nat) (h1 : 1 ≤ k) (hk : k ≤ es.length) : rE kd l (es.take k) = 0 := by
  obtain ⟨_, hs, _, h3⟩ := right_may h
  refine right_of hs (fun _ => by rw [List.length_take]; omega) (fun j hj => ?_)
  rw [List.length_take] at hj
  rw [take_getD es k j (by omega), take_getD es k (j - 1) (by omega)]
  exact h3 j (by omega)
/-- A key of none is below each other one. -/
theorem less_nil {y : List UInt8} (h : 0 < y.length) : less [] y = true := by
  cases y with
  | nil => exact absurd h (by simp)
  | cons a r => rfl
theorem emay_key {i : Nat} {x : Ent} (hi : 0 < i) (h : emay 2 i x = true) : 0 < x.key.length := by
  unfold emay emayL kmay at h
  rw [Bool.and_eq_true, if_neg (fun e => by omega)] at h
  have := h.1
  simp at this
  omega
theorem emay_struck {i : Nat} {x : Ent} (h : emay 2 i x = true) : emay 2 0 { x with key := [] } = true := by
  unfold emay emayL at h ⊢
  rw [Bool.and_eq_true] at h ⊢
  exact ⟨by unfold kmay; rfl, h.2⟩
theorem right_cutB {kd l : Nat} {es : List Ent} (h : rE kd l es = 0) (k : Nat) (h1 : 1 ≤ k) (hk : k < es.length) : rE kd l (cutB kd es k) = 0 := by
  obtain ⟨_, hs, _, h3⟩ := right_may h
  refine right_of hs (fun _ => by rw [cutB_length]; omega) (fun j hj => ?_)
  rw [cutB_length] at hj
  by_cases h2 : kd = 2
  · subst h2
    have e0 : 0 < (es.drop k).length := by rw [List.length_drop]; omega
    cases j with
    | zero =>
      refine ⟨?_, fun h => absurd h (by omega)⟩
      rw [cutB, if_pos rfl, nk_zero e0, drop_getD]
      exact emay_struck (h3 k hk).1
    | succ j =>
      rw [cutB, if_pos rfl, nk_succ, drop_getD]
      have hb := h3 (k + (j + 1)) (by omega)
      refine ⟨by rw [emay_idx (i := j + 1) (j := k + (j + 1)) (.inr ⟨by omega, by omega⟩)]; exact hb.1, fun _ => ?_⟩
      cases j with
      | zero =>
        rw [show 0 + 1 - 1 = 0 from rfl, nk_zero e0]
        exact less_nil (emay_key (by omega) hb.1)
      | succ j =>
        rw [show j + 1 + 1 - 1 = j + 1 from rfl, nk_succ, drop_getD]
        exact hb.2 (by omega)
  · rw [cutB, if_neg h2, drop_getD, drop_getD]
    have hb := h3 (k + j) (by omega)
    refine ⟨by rw [emay_idx (i := j) (j := k + j) (.inl h2)]; exact hb.1, fun h0 => ?_⟩
    rw [show k + (j - 1) = k + j - 1 by omega]
    exact hb.2 (by omega)
/-- The sizes of the halves. -/
def xS (kd : Nat) (es : List Ent) (k : Nat) : Nat := 3 + (entsB kd (es.take k)).length
def yS (kd : Nat) (es : List Ent) (k : Nat) : Nat := 3 + (entsB kd (cutB kd es k)).length
def dist (x y : Nat) : Nat := (x - y) + (y - x)
theorem xS_succ (kd : Nat) (es : List Ent) (k : Nat) : xS kd es k ≤ xS kd es (k + 1) := by
  unfold xS
  by_cases h : k < es.length
  · rw [entsB_step kd es k h, List.length_append]; omega
  · rw [List.take_of_length_le (show es.length ≤ k by omega), List.take_of_length_le (show es.length ≤ k + 1 by omega)]
    omega
theorem xS_mono (kd : Nat) (es : List Ent) (k : Nat) : ∀ m, k ≤ m → xS kd es k ≤ xS kd es m
  | 0, h => by have : k = 0 := by omega
               rw [this]; exact Nat.le_refl _
  | m + 1, h => by
    by_cases e : k = m + 1
    · rw [e]; exact Nat.le_refl _
    · exact Nat.le_trans (xS_mono kd es k m (by omega)) (xS_succ kd es m)
/-- One cut is looked at. -/
def bsA (kd : Nat) (es : List Ent) (s : Nat × Nat) (k : Nat) : Nat × Nat :=
  if xS kd es k ≤ 224 ∧ yS kd es k ≤ 224 then (if s.1 = 0 ∨ dist (xS kd es k) (yS kd es k) < s.2 then (k, dist (xS kd es k) (yS kd es k)) else s) else s
/-- The best of the first n cuts, and how far apart its halves are; (0, 0): none. -/
def bst (kd : Nat) (es : List Ent) : Nat → Nat × Nat
  | 0 => (0, 0)
  | n + 1 => bsA kd es (bst kd es n) (n + 1)
theorem bst_le (kd : Nat) (es : List Ent) : ∀ n, (bst kd es n).1 ≤ n
  | 0 => Nat.le_refl _
  | n + 1 => by
    have := bst_le kd es n
    rw [bst, bsA]
    split
    · split
      · exact Nat.le_refl _
      · omega
    · omega
theorem bst_off (kd : Nat) (es : List Ent) : ∀ n, (bst kd es n).2 ≤ 224
  | 0 => by simp [bst]
  | n + 1 => by
    have := bst_off kd es n
    rw [bst, bsA]
    split
    · split
      · rename_i h _; unfold dist; dsimp only; omega
      · exact this
    · exact this
theorem bst_stop {kd : Nat} {es : List Ent} {n : Nat} (h : 224 < xS kd es (n + 1)) : ∀ m, n ≤ m → bst kd es m = bst kd es n
  | 0, hm => by have : n = 0 := by omega
                rw [this]
  | m + 1, hm => by
    by_cases e : n = m + 1
    · rw [e]
    · rw [bst, bsA, if_neg, bst_stop h m (by omega)]
      have := xS_mono kd es (n + 1) (m + 1) (by omega)
      omega
/-- Where a node is split; 0: nowhere. -/
def best (kd : Nat) (es : List Ent) : Nat := (bst kd es (es.length - 1)).1
theorem best_lt {kd : Nat} {es : List Ent} (h : best kd es ≠ 0) : best kd es < es.length := by
  have := bst_le kd es (es.length - 1)
  unfold best at h ⊢
  omega
/-- What Split answers. -/
def splE (k l : Nat) (es : List Ent) : Int := if rE k l es = 0 then (if 3 + (entsB k es).length ≤ 224 then 7 else if best k es = 0 then 9 else 0) else rE k l es
def splA (k l : Nat) (es : List Ent) : List Ent := if splE k l es = 0 then es.take (best k es) else []
def splB (k l : Nat) (es : List Ent) : List Ent := if splE k l es = 0 then cutB k es (best k es) else []
def splK (k l : Nat) (es : List Ent) : List UInt8 := if splE k l es = 0 then (es.getD (best k es) ent0).key else []
theorem splE_zero {k l : Nat} {es : List Ent} (h : splE k l es = 0) : rE k l es = 0 ∧ 224 < 3 + (entsB k es).length ∧ best k es ≠ 0 := by
  unfold splE at h
  split at h
  · rename_i hr
    split at h
    · exact absurd h (by decide)
    · split at h
      · exact absurd h (by decide)
      · exact ⟨hr, by omega, by assumption⟩
  · rename_i hr; exact absurd h hr
end Go.Proofs.Ytgihcjmcefdkiaa
