/- Rows of entries put behind each other; the halves of a node as one. -/
import Derived.Test.YtgihcjmcefdkiaaGrFit
import Derived.Test.YtgihcjmcefdkiaaSame12
set_option linter.unusedVariables false
set_option linter.unusedSimpArgs false
namespace Go.Proofs.Ytgihcjmcefdkiaa
open Go.RowKit

theorem OwnE.fresh0 (w : World) (H : Nat) (hH : H ≤ w.heap.size) : OwnE (w.alloc (.cells #[] 46)) H (some ⟨w.heap.size, 0, none⟩) 0 0 [] := by
  refine ⟨⟨rfl, .inr ⟨w.heap.size, 0, #[], rfl, hH, ?_, Nat.le_refl _, Nat.zero_le _, rfl, rfl⟩⟩, rfl, fun c hc => by cases hc⟩
  exact heap_alloc_new w _
theorem OwnN.one {w : World} {H n c : Nat} {A : Option Addr} {es : List Ent} (h : OwnN w H A n c es) : ∃ css, OwnE w H A n c css ∧ (∀ j, j < n → EC w H (css.getD j []) (es.getD j ent0)) ∧ ∀ u ∈ css.flatten, u.oneCell' = true := by
  obtain ⟨css, h1, h2⟩ := h
  refine ⟨css, h1, h2, fun u hu => ?_⟩
  obtain ⟨cs, hcs, hu⟩ := List.mem_flatten.1 hu
  obtain ⟨j, hj, rfl⟩ := List.mem_iff_getElem.1 hcs
  obtain ⟨B1, n1, d1, B2, n2, d2, e, _, _⟩ := h2 j (by rw [← h1.2.1]; exact hj)
  have : css.getD j [] = css[j] := by simp [List.getD, hj]
  rw [this] at e
  rw [e] at hu
  exact enC_one _ _ _ _ _ _ _ _ _ u hu
theorem run_appM (T ty : TypeId) (hT : Try.prog.underlying T = some (.slice 46)) {w : World} {H H' : Nat} {A : Option Addr} {n c : Nat} {css : List (List Value)} {g m c' : Nat} {css' : List (List Value)}
    (h : OwnE w H A n c css) (hv : OwnE w H' (some ⟨g, 0, none⟩) m c' css') (h1 : ∀ u ∈ css'.flatten, u.oneCell' = true) (hb : H ≤ w.heap.size) (hl : n + m ≤ 1000000) :
    ∃ A2 c2 w2, (Builtin.append_ #[T, T] ty #[.slice A n c, .slice (some ⟨g, 0, none⟩) m c']).run Try.prog w = .ok (.slice A2 (n + m) c2) w2 ∧ OwnE w2 H A2 (n + m) c2 (css ++ css') ∧ w.grownBy w2 (A.map (·.block)) ∧ Below H w w2 := by
  obtain ⟨i0, hi, hz0, hz1, hz2⟩ := info_parts infoEn
  have hrow : Value.ownBlock (.slice A n c) = A.map (·.block) := by cases A <;> rfl
  have hlen : css'.flatten.length = m * 9 := by rw [flat9_length css' hv.2.2, hv.2.1]
  obtain ⟨v', w2, hr, h2, h3, _⟩ := run_append_own (P := Try.prog) w H T ty 46 i0 _ 9 104 hT hi hz0 hz1 hz2 rfl (by decide) (.slice A n c) n css.flatten h.1 ⟨g, 0, none⟩ m c' css'.flatten (by rw [hlen]) (fun j u hj => by
    rw [Addr.add_lit, Nat.zero_add]
    have hj9 : j < m * 9 := by rw [← hlen]; exact (List.getElem?_eq_some_iff.1 hj).1
    obtain ⟨q, r, hr9, rfl⟩ : ∃ q r, r < 9 ∧ j = q * 9 + r := ⟨j / 9, j % 9, by omega, by omega⟩
    rw [flat9 css' q r hv.2.2 (by rw [hv.2.1]; omega) hr9] at hj
    rw [hv.at_ q (by omega) r hr9]
    exact hj) h1 (by unfold maxLen; omega) (by omega) hb
  obtain ⟨A2, c2, rfl⟩ := own_form h2
  refine ⟨A2, c2, w2, hr, ⟨by rw [List.flatten_append]; exact h2, by rw [List.length_append, h.2.1, hv.2.1], fun x hx => ?_⟩, by rw [← hrow]; exact h3, (Below.refl _ _).grown h3 hb fun k hk => (World.ownsRow.lt h.1 k hk).1⟩
  rcases List.mem_append.1 hx with hx | hx
  · exact h.2.2 x hx
  · exact hv.2.2 x hx
theorem step_appM (T : TypeId) (hT : Try.prog.underlying T = some (.slice 46)) {w : World} {ops : Array Oper} {o : Oper} {a : Act} {KK : Act → World → Prop} {Q : Exit → Act → World → Prop} {E : Prop} (hgd : o.guard = none) (s x : Operand)
    (ho : o.op = .call { callee := .builtin .append, args := #[s, x], argTypes := #[T, T] }) {H H' : Nat} {A : Option Addr} {n c : Nat} {css : List (List Value)} {g m c' : Nat} {css' : List (List Value)} (hs : a.eval s = .slice A n c) (hx : a.eval x = .slice (some ⟨g, 0, none⟩) m c')
    (h : OwnE w H A n c css) (hv : OwnE w H' (some ⟨g, 0, none⟩) m c' css') (h1 : ∀ u ∈ css'.flatten, u.oneCell' = true) (hb : H ≤ w.heap.size) (hl : n + m ≤ 1000000)
    (K : ∀ A2 c2 w2, OwnE w2 H A2 (n + m) c2 (css ++ css') → w.grownBy w2 (A.map (·.block)) → Below H w w2 → KK (a.put o.dst (.slice A2 (n + m) c2)) w2) : if Region.wanted o (yielded ops a.tmps) = true then Oper.wp Try.prog o a w KK Q else E := by
  have hw : Region.wanted o (yielded ops a.tmps) = true := by simp [Region.wanted, hgd]
  rw [if_pos hw]
  obtain ⟨A2, c2, w2, hr, h2, h3, h4⟩ := run_appM T o.type hT h hv h1 hb hl
  exact Lib.wp_append_run w s x T T ho _ _ hs hx _ _ hr (K A2 c2 w2 h2 h3 h4)
/-- Two rows side by side. -/
theorem OwnN.two {w : World} {H n m c : Nat} {A : Option Addr} {es es' : List Ent} {css css' : List (List Value)} (h : OwnE w H A (n + m) c (css ++ css')) (hl : css.length = n) (he : es.length = n) (h1 : ∀ j, j < n → EC w H (css.getD j []) (es.getD j ent0)) (h2 : ∀ j, j < m → EC w H (css'.getD j []) (es'.getD j ent0)) : OwnN w H A (n + m) c [es, es'].flatten := by
  refine ⟨_, h, fun j hj => ?_⟩
  rw [flat2_at, he]
  by_cases hjn : j < n
  · have : (css ++ css').getD j [] = css.getD j [] := by
      simp only [List.getD_eq_getElem?_getD]
      rw [List.getElem?_append_left (by omega)]
    rw [if_pos hjn, this]
    exact h1 j hjn
  · have : (css ++ css').getD j [] = css'.getD (j - n) [] := by
      simp only [List.getD_eq_getElem?_getD]
      rw [List.getElem?_append_right (by omega), hl]
    rw [if_neg hjn, this]
    exact h2 (j - n) (by omega)
theorem ent_ext {l l' : List Ent} (hl : l.length = l'.length) (h : ∀ j, j < l.length → l.getD j ent0 = l'.getD j ent0) : l = l' := by
  apply List.ext_getElem hl
  intro j h1 h2
  have := h j h1
  simpa [List.getD, h1, h2] using this
/-- The halves of a node, as one, are the node. -/
theorem halves_one (k : Nat) (es : List Ent) {b : Nat} (hb : b < es.length) : oneL k (es.take b) (cutB k es b) (es.getD b ent0).key = es := by
  have hl : (es.take b).length = b := by rw [List.length_take]; omega
  unfold oneL
  split
  · rename_i hk
    have e : cutB k es b = nk (es.drop b) := by rw [cutB, if_pos hk]
    rw [e, hl]
    refine ent_ext (by rw [setK_length]; simp [nk_length]; omega) fun j hj => ?_
    have hlen : [es.take b, nk (es.drop b)].flatten.length = es.length := by simp [nk_length]; omega
    rw [setK_length, hlen] at hj
    by_cases h1 : j = b
    · subst h1
      rw [setK_same _ (by rw [hlen]; exact hb), flat2_at, hl, if_neg (by omega), Nat.sub_self, nk_zero (by rw [List.length_drop]; omega), drop_getD, Nat.add_zero]
    · rw [setK_other _ h1, flat2_at, hl]
      split
      · rename_i h2; rw [take_getD _ _ _ h2]
      · obtain ⟨q, hq⟩ : ∃ q, j - b = q + 1 := ⟨j - b - 1, by omega⟩
        rw [hq, nk_succ, drop_getD, show b + (q + 1) = j by omega]
  · rename_i hk
    have e : cutB k es b = es.drop b := by rw [cutB, if_neg hk]
    rw [e]
    simp
theorem less_trans : ∀ a b c : List UInt8, less a b = true → less b c = true → less a c = true
  | [], [], _, h, _ => by simp [less] at h
  | [], b :: y, [], _, h => by simp [less] at h
  | [], b :: y, c :: z, _, _ => rfl
  | a :: x, [], _, h, _ => by simp [less] at h
  | a :: x, b :: y, [], _, h => by simp [less] at h
  | a :: x, b :: y, c :: z, h1, h2 => by
    rw [less] at h1 h2 ⊢
    by_cases e1 : a = b
    · subst e1
      rw [if_pos rfl] at h1
      by_cases e2 : a = c
      · subst e2
        rw [if_pos rfl] at h2 ⊢
        exact less_trans x y z h1 h2
      · rw [if_neg e2] at h2 ⊢; exact h2
    · rw [if_neg e1, decide_eq_true_eq] at h1
      by_cases e2 : b = c
      · subst e2
        rw [if_neg e1, decide_eq_true_eq]; exact h1
      · rw [if_neg e2, decide_eq_true_eq] at h2
        have : a ≠ c := fun e => by rw [e] at h1; omega
        rw [if_neg this, decide_eq_true_eq]; omega
theorem right_less {k l : Nat} {es : List Ent} (h : rE k l es = 0) : ∀ b i, i < b → b < es.length → less (es.getD i ent0).key (es.getD b ent0).key = true
  | 0, i, hi, _ => by omega
  | b + 1, i, hi, hb => by
    obtain ⟨_, _, _, h3⟩ := right_may h
    have hl := (h3 (b + 1) hb).2 (by omega)
    rw [Nat.add_sub_cancel] at hl
    by_cases e : i = b
    · subst e; exact hl
    · exact less_trans _ _ _ (right_less h b i (by omega) (by omega)) hl
end Go.Proofs.Ytgihcjmcefdkiaa
