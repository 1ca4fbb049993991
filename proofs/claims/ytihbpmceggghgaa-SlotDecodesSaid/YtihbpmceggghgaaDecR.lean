/- Plain: all entries of a node are read. No program in sight. -/
import Derived.Test.YtihbpmceggghgaaDecQ
set_option linter.unusedVariables false
set_option linter.unusedSimpArgs false
namespace Go.Proofs.Ytihbpmceggghgaa

/-- A node's entries that may be so. -/
def esOk (kind : Nat) (es : List Ent) : Prop := ∀ j, j < es.length → emay kind j (es.getD j ent0) = true ∧ (0 < j → less (es.getD (j - 1) ent0).key (es.getD j ent0).key = true) ∧ rfIn (es.getD j ent0).chain ∧ rfIn (es.getD j ent0).child
theorem getD_snoc_lt {l : List Ent} {x : Ent} {j : Nat} (h : j < l.length) : (l ++ [x]).getD j ent0 = l.getD j ent0 := by
  simp [List.getD, List.getElem?_append_left h]
theorem getD_snoc_eq {l : List Ent} {x : Ent} : (l ++ [x]).getD l.length ent0 = x := by
  simp [List.getD]
theorem esOk_snoc {kind : Nat} {es : List Ent} {x : Ent} (h : esOk kind es) (h1 : emay kind es.length x = true) (h2 : 0 < es.length → less (es.getD (es.length - 1) ent0).key x.key = true) (h3 : rfIn x.chain) (h4 : rfIn x.child) : esOk kind (es ++ [x]) := by
  intro j hj
  rw [List.length_append, List.length_singleton] at hj
  by_cases e : j = es.length
  · subst e
    rw [getD_snoc_eq]
    refine ⟨h1, fun h0 => ?_, h3, h4⟩
    rw [getD_snoc_lt (by omega)]
    exact h2 h0
  · have hl : j < es.length := by omega
    obtain ⟨a1, a2, a3, a4⟩ := h j hl
    rw [getD_snoc_lt hl]
    refine ⟨a1, fun h0 => ?_, a3, a4⟩
    rw [getD_snoc_lt (by omega)]
    exact a2 h0
theorem rTo_zero {kind : Nat} {es : List Ent} (h : esOk kind es) : ∀ k, k ≤ es.length → rTo kind es k = 0
  | 0, _ => rfl
  | k + 1, hk => by
    rw [rTo, if_pos (rTo_zero h k (by omega)), rAt]
    obtain ⟨a1, a2, _⟩ := h k (by omega)
    rw [if_pos a1, if_neg]
    rintro ⟨h0, h1⟩
    rw [a2 h0] at h1
    cases h1
theorem ens_ok {b : List UInt8} (hb : b.length = 224) {kind : Nat} : ∀ (m : Nat) (acc : List Ent) (p : Nat) (es : List Ent) (q : Nat), p ≤ 224 → esOk kind acc → ens b kind m acc p = .ok (es, q) →
    ∃ xs, es = acc ++ xs ∧ xs.length = m ∧ esOk kind es ∧ q = p + (entsB kind xs).length ∧ q ≤ 224 ∧ ats b p (entsB kind xs)
  | 0, acc, p, es, q, hp, ha, h => by
    simp only [ens, Except.ok.injEq, Prod.mk.injEq] at h
    obtain ⟨h1, h2⟩ := h
    subst h1; subst h2
    exact ⟨[], by simp, rfl, ha, by simp [entsB], hp, by simp [ats, entsB]⟩
  | m + 1, acc, p, es, q, hp, ha, h => by
    rw [ens] at h
    split at h
    · cases h
    · rename_i x q1 he
      obtain ⟨e1, e2, e3, e4, e5, e6, e7⟩ := en_ok hb he
      obtain ⟨xs, f1, f2, f3, f4, f5, f6⟩ := ens_ok hb m (acc ++ [x]) q1 es q e4 (esOk_snoc ha e1 e2 e6 e7) h
      refine ⟨x :: xs, by rw [f1]; simp, by simp [f2], f3, ?_, f5, ?_⟩
      · rw [f4, e3]; simp [entsB]; omega
      · show ats b p (entB kind x ++ entsB kind xs)
        rw [ats_app]
        exact ⟨e5, by rw [← e3]; exact f6⟩
theorem ens_mk {b : List UInt8} (hb : b.length = 224) {kind : Nat} : ∀ (xs acc : List Ent) (p : Nat), esOk kind (acc ++ xs) → p + (entsB kind xs).length ≤ 224 → ats b p (entsB kind xs) →
    ens b kind xs.length acc p = .ok (acc ++ xs, p + (entsB kind xs).length)
  | [], acc, p, _, _, _ => by simp [ens, entsB]
  | x :: xs, acc, p, ho, hq, hat => by
    have hs : entsB kind (x :: xs) = entB kind x ++ entsB kind xs := rfl
    rw [hs] at hat hq ⊢
    rw [List.length_append] at hq ⊢
    obtain ⟨h1, h2⟩ := ats_app.1 hat
    obtain ⟨a1, a2, a3, a4⟩ := ho acc.length (by simp)
    have hx : (acc ++ x :: xs).getD acc.length ent0 = x := by simp [List.getD]
    rw [hx] at a1 a2 a3 a4
    have he : en b kind acc.length (acc.getD (acc.length - 1) ent0).key p = .ok (x, p + (entB kind x).length) := by
      refine en_mk hb ⟨a1, fun h0 => ?_, rfl, by omega, h1, a3, a4⟩
      have := a2 h0
      rw [show (acc ++ x :: xs).getD (acc.length - 1) ent0 = acc.getD (acc.length - 1) ent0 by simp only [List.getD]; rw [List.getElem?_append_left (by omega)]] at this
      exact this
    rw [List.length_cons, ens, he]
    dsimp only
    rw [ens_mk hb xs (acc ++ [x]) _ (by rw [List.append_assoc]; exact ho) (by omega) h2]
    simp [Nat.add_assoc]
/-- Noughts to the end. -/
theorem tail0_ok {b : List UInt8} : ∀ (m p : Nat), p + m = b.length → tail0 b m p = .ok () → b.drop p = List.replicate m 0
  | 0, p, hp, _ => by rw [List.drop_eq_nil_iff.2 (by omega)]; rfl
  | m + 1, p, hp, h => by
    rw [tail0] at h
    split at h
    · rename_i h0
      have := tail0_ok m (p + 1) (by omega) h
      rw [List.drop_eq_getElem_cons (by omega), this, List.replicate_succ]
      have : b.getD p 0 = b[p] := by simp [List.getD, List.getElem?_eq_getElem (show p < b.length by omega)]
      rw [← this, h0]
    · cases h
theorem tail0_mk {b : List UInt8} : ∀ (m p : Nat), b.drop p = List.replicate m 0 → tail0 b m p = .ok ()
  | 0, p, _ => rfl
  | m + 1, p, h => by
    have h0 : b.getD p 0 = 0 := by
      have := congrArg (fun l => l.getD 0 0) h
      simp only [List.getD] at this
      rw [List.getElem?_drop] at this
      simpa [List.getD, List.replicate_succ] using this
    rw [tail0, if_pos h0]
    refine tail0_mk m (p + 1) ?_
    rw [← List.drop_drop, h, List.replicate_succ]; rfl
end Go.Proofs.Ytihbpmceggghgaa
