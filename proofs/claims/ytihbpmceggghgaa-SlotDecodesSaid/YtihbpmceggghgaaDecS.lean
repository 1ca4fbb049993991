/- Plain: a node's bytes are read as it, and what is read has these bytes. No program in sight. -/
import Derived.Test.YtihbpmceggghgaaDecR
import Derived.Test.YtihbpmceggghgaaEnc
set_option linter.unusedVariables false
set_option linter.unusedSimpArgs false
namespace Go.Proofs.Ytihbpmceggghgaa

theorem dec_ok {b : List UInt8} (hb : b.length = 224) {k l : Nat} {es : List Ent} (h : dec b = .ok (k, l, es)) :
    rE k l es = 0 ∧ esOk k es ∧ k < 256 ∧ l < 256 ∧ es.length < 256 ∧ 3 + (entsB k es).length ≤ 224 ∧ nodeB k l es ++ List.replicate (224 - (3 + (entsB k es).length)) 0 = b := by
  unfold dec at h
  dsimp only at h
  split at h
  · cases h
  · rename_i hk
    split at h
    · cases h
    · rename_i hs
      split at h
      · cases h
      · rename_i hc
        split at h
        · cases h
        · rename_i es' p he
          split at h
          · cases h
          · rename_i u ht
            simp only [Except.ok.injEq, Prod.mk.injEq] at h
            obtain ⟨h1, h2, h3⟩ := h
            subst h3
            rw [h1] at hk hs hc he
            rw [h2] at hs
            obtain ⟨xs, f1, f2, f3, f4, f5, f6⟩ := ens_ok hb _ [] 3 es' p (by omega) (fun j hj => by simp at hj) he
            rw [List.nil_append] at f1
            subst f1
            have hz := tail0_ok (224 - p) p (by omega) ht
            have c1 : k < 256 := by rw [← h1]; exact UInt8.toNat_lt _
            have c2 : l < 256 := by rw [← h2]; exact UInt8.toNat_lt _
            have c3 : es'.length < 256 := by rw [f2]; exact UInt8.toNat_lt _
            refine ⟨?_, f3, c1, c2, c3, by omega, ?_⟩
            · unfold rE
              rw [if_pos]
              · exact rTo_zero f3 _ (Nat.le_refl _)
              · rw [Bool.and_eq_true, Bool.not_eq_true', Bool.and_eq_false_iff]
                refine ⟨by cases hh : shp k l with | true => rfl | false => exact absurd hh hs, ?_⟩
                by_cases hk1 : k = 1
                · left; rw [hk1]; rfl
                · right
                  have : 0 < es'.length := by rw [f2]; exact Classical.byContradiction fun hn => hc (by omega)
                  rw [beq_eq_false_iff_ne]; omega
            · have e3 : b.take 3 = [b.getD 0 0, b.getD 1 0, b.getD 2 0] := by
                rw [show b.take 3 = (b.drop 0).take (1 + (1 + 1)) from rfl, take_split, take_split, drop_take1 (by omega), drop_take1 (by omega), drop_take1 (by omega)]; rfl
              have eb : b = b.take 3 ++ ((b.drop 3).take (entsB k es').length ++ b.drop p) := by
                rw [f4, ← List.drop_drop, List.take_append_drop, List.take_append_drop]
              unfold ats at f6
              rw [f6, hz, e3] at eb
              unfold nodeB
              rw [List.append_assoc, f2, ← h1, ← h2]
              have e4 : UInt8.ofNat (b.getD 0 0).toNat = b.getD 0 0 := by simp
              have e5 : UInt8.ofNat (b.getD 1 0).toNat = b.getD 1 0 := by simp
              have e6 : UInt8.ofNat (b.getD 2 0).toNat = b.getD 2 0 := by simp
              rw [e4, e5, e6, h1]
              conv => rhs; rw [eb]
              rw [f4]
theorem dec_mk {k l : Nat} {es : List Ent} (hr : rE k l es = 0) (ho : esOk k es) (hn : es.length < 256) (hl : 3 + (entsB k es).length ≤ 224) :
    dec (nodeB k l es ++ List.replicate (224 - (3 + (entsB k es).length)) 0) = .ok (k, l, es) := by
  obtain ⟨r1, r2, r3, r4⟩ := right_may hr
  have hlv : l ≤ 30 := by
    simp only [shp, Bool.or_eq_true, Bool.and_eq_true, beq_iff_eq, decide_eq_true_iff] at r2
    rcases r2 with r2 | r2 <;> omega
  generalize hb : nodeB k l es ++ List.replicate (224 - (3 + (entsB k es).length)) 0 = b
  have hb2 : b = UInt8.ofNat k :: UInt8.ofNat l :: UInt8.ofNat es.length :: (entsB k es ++ List.replicate (224 - (3 + (entsB k es).length)) 0) := by rw [← hb]; unfold nodeB; simp
  have hlen : b.length = 224 := by rw [hb2]; simp; omega
  have g0 : (b.getD 0 0).toNat = k := by rw [hb2]; simp; omega
  have g1 : (b.getD 1 0).toNat = l := by rw [hb2]; simp; omega
  have g2 : (b.getD 2 0).toNat = es.length := by rw [hb2]; simp; omega
  have hd : b.drop 3 = entsB k es ++ List.replicate (224 - (3 + (entsB k es).length)) 0 := by rw [hb2]; rfl
  have hat : ats b 3 (entsB k es) := by unfold ats; rw [hd]; simp
  have he := ens_mk hlen es [] 3 ho hl hat
  rw [List.nil_append] at he
  have ht : tail0 b (224 - (3 + (entsB k es).length)) (3 + (entsB k es).length) = .ok () := by
    refine tail0_mk _ _ ?_
    rw [← List.drop_drop, hd]; simp
  unfold dec
  dsimp only
  rw [g0, g1, g2, if_neg (fun h => h r1), if_neg (by rw [r2]; decide), if_neg, he]
  · dsimp only
    rw [ht]
  · intro h
    apply h
    rcases r1 with r1 | r1
    · exact .inr r1
    · exact .inl (r3 r1)
end Go.Proofs.Ytihbpmceggghgaa
