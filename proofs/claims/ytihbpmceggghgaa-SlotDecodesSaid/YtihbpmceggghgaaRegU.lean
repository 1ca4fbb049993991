/- The takes of regions that draw, for operations whose guard is not met. No program in sight. -/
import Derived.Test.YtihbpmceggghgaaRegG
set_option linter.unusedVariables false
set_option linter.unusedSimpArgs false
namespace Go.Proofs.Ytihbpmceggghgaa
open Go

section
variable {P : Program} {ops : Array Oper} {Q : Exit → Act → World → Prop} {md : Region.Mode} {S : World → Prop}
def YieldsU (ops : Array Oper) (o : Oper) (a : Act) : Prop := Region.wanted o (yielded ops a.tmps) = false
theorem YieldsU.same {o : Oper} {a a' : Act} (h : YieldsU ops o a) (hw : Region.wanted o (yielded ops a'.tmps) = Region.wanted o (yielded ops a.tmps)) : YieldsU ops o a' := by
  unfold YieldsU; rw [hw]; exact h
theorem YieldsU.op {i : Nat} {o : Oper} {a : Act} {w : World} {K : Act → World → Prop} (hi : ops[i]? = some o) (h : YieldsU ops o a) (hK : K (a.put o.dst undef) w) : wpOp P ops Q i K a w := by
  unfold YieldsU at h
  unfold wpOp
  simp only [hi, h, Bool.false_eq_true, if_false]
  exact hK
/-- An operation j that is apart from oi: oi may as well have come ahead of it. -/
theorem YieldsU.past {j : Nat} {oi oj : Oper} {K : Act → World → Prop} {a : Act} {w : World} (hj : ops[j]? = some oj) (hap : oi.apart ops oj = true)
    (hsi : ∀ cs b, oi.op ≠ .select cs b) (hsj : ∀ cs b, oj.op ≠ .select cs b) (hQ : ∀ c a w, Q (.panic c) (a.put oi.dst undef) w → Q (.panic c) a w)
    (hy : YieldsU ops oi a) (h : wpOp P ops Q j K (a.put oi.dst undef) w) : wpOp P ops Q j (fun a' w' => YieldsU ops oi a' ∧ K (a'.put oi.dst undef) w') a w := by
  obtain ⟨p1, p2, p3⟩ := Oper.apart_spec hap
  have ke : ∀ u, YieldsU ops oi (a.put oj.dst u) := fun u => YieldsU.same hy (wanted_put oi a oj.dst u p3)
  have co : ∀ (b : Act) u, (b.put oj.dst u).put oi.dst undef = (b.put oi.dst undef).put oj.dst u := fun b u => (Act.put_comm b undef u p2).symm
  have eo : execOp (a.put oi.dst undef).eval oj = execOp a.eval oj := execOp_put oj hsj a oi.dst undef p1
  unfold wpOp at h ⊢
  rw [hj] at h ⊢
  simp only at h ⊢
  rw [wanted_put oj a oi.dst undef p1] at h
  by_cases hw : Region.wanted oj (yielded ops a.tmps) = true
  · rw [if_pos hw] at h ⊢
    rcases h with h | ⟨ha, hl⟩
    · left
      unfold Oper.wp at h ⊢
      rw [eo] at h
      revert h
      generalize (execOp a.eval oj).run P w = r
      intro h
      match r with
      | .ok (.value u) w' => exact ⟨ke u, by rw [co]; exact h⟩
      | .ok .skip w' => exact ⟨ke _, by rw [co]; exact h⟩
      | .ok (.defer d) w' =>
        have h0 : K ((({ a.put oi.dst undef with defers := d :: (a.put oi.dst undef).defers } : Act)).put oj.dst undef) w' := h
        rw [Act.put_defers, ← co] at h0
        exact ⟨YieldsU.same (a := a) hy (wanted_put oi { a with defers := d :: a.defers } oj.dst undef p3), h0⟩
      | .ok (.enter f args) w' =>
        refine Calls.mono h fun e w2 he => ?_
        match e with
        | .returned u => exact ⟨ke u, by rw [co]; exact he⟩
        | .panicked c => exact hQ _ _ _ he
        | .outgrown => exact he
      | .ok (.row row args) w' => exact Rows.mono h fun u w2 he => ⟨ke u, by rw [co]; exact he⟩
      | .halt (.panic u) w' => exact hQ _ _ _ h
      | .halt x w' =>
        cases x <;> first | exact hQ _ _ _ h | exact h
    · right
      refine ⟨?_, hl⟩
      unfold Oper.asks at ha ⊢
      rwa [eo] at ha
  · rw [if_neg hw] at h ⊢
    exact ⟨ke _, by rw [co]; exact h⟩
/-- An operation that yields in whatever world. -/
theorem wpAnyG_unw {n i : Nat} {oi : Oper} (hi : ops[i]? = some oi) (hsel : ∀ (j : Nat) (o : Oper) cs b, ops[j]? = some o → o.op ≠ .select cs b)
    (hQ : ∀ c a w, Q (.panic c) (a.put oi.dst undef) w → Q (.panic c) a w) (hni : n ≠ i) (fuel : Nat) :
    ∀ (listed : Array Bool) (a : Act) (w : World),
      (∀ j oj, ops[j]? = some oj → j ≠ i → listed.getD j true = false → (∀ e ∈ oj.after, Region.binds md e = true → e.on ≠ i) → oi.apart ops oj = true) →
      i ∈ Region.ready md ops listed → YieldsU ops oi a → (listed.getD n false = false → S w) →
      wpAnyG P md ops Q n S fuel (listed.setIfInBounds i true) (a.put oi.dst undef) w → wpAnyG P md ops Q n S (fuel + 1) listed a w := by
  induction fuel with
  | zero =>
    intro listed a w _ hr hy hS H
    refine ⟨fun h => absurd hr (by simp [h]), fun j hj => ?_⟩
    rcases Nat.decEq j i with hne | rfl
    · have hm := ready_mono hj hne
      rw [H.1] at hm
      exact absurd hm (by simp)
    · exact YieldsU.op hi hy ⟨fun e => hS (by rwa [getD_set_ne false (Ne.symm hni)] at e), H⟩
  | succ fuel ih =>
    intro listed a w hfree hr hy hS H
    refine ⟨fun h => absurd hr (by simp [h]), fun j hj => ?_⟩
    rcases Nat.decEq j i with hne | rfl
    · obtain ⟨hun, oj, hoj, hall⟩ := mem_ready.1 hj
      have hno : ∀ e ∈ oj.after, Region.binds md e = true → e.on ≠ i := by
        intro e he hb heq
        have l1 := hall e he hb
        have l2 := (mem_ready.1 hr).1
        rw [heq] at l1
        by_cases hlt : i < listed.size
        · simp [hlt] at l1 l2; simp [l2] at l1
        · simp [hlt] at l1
      refine wpOp_mono ?_ (hy.past hoj (hfree j oj hoj hne hun hno) (fun cs b => hsel i oi cs b hi) (fun cs b => hsel j oj cs b hoj) hQ (H.2 j (ready_mono hj hne)))
      rintro a' w' ⟨hy', hS', H'⟩
      have hSw : (listed.setIfInBounds j true).getD n false = false → S w' := fun e => hS' (by rwa [Array.setIfInBounds_comm _ _ (Ne.symm hne), getD_set_ne false (Ne.symm hni)])
      refine ⟨hSw, ih _ a' w' ?_ (ready_mono hr (Ne.symm hne)) hy' hSw (by rw [Array.setIfInBounds_comm _ _ hne]; exact H')⟩
      intro k ok hk hki hku hkno
      refine hfree k ok hk hki ?_ hkno
      by_cases hjk : j = k
      · rw [← hjk]; exact hun
      · rwa [getD_set_ne true hjk] at hku
    · exact YieldsU.op hi hy ⟨fun e => hS (by rwa [getD_set_ne false (Ne.symm hni)] at e), H⟩
/-- Take number i first: its guard is not met. -/
theorem takeU (i : Nat) {n : Nat} {oi : Oper} {fuel : Nat} {listed : Array Bool} {ts : Array Value} {ds : List Deferred} {w : World} {d : Tmp} (hi : ops[i]? = some oi) (hd : oi.dst = some d)
    (hs : Region.noSelect ops = true) (hf : Region.free md ops listed i = true) (hr : (Region.ready md ops listed).contains i = true) (hni : n ≠ i)
    (hQ : ∀ c (a : Act) d v w, Q (.panic c) (a.put d v) w → Q (.panic c) a w) (hg : Region.wanted oi (yielded ops ts) = false) (hS : listed.getD n false = false → S w)
    (h : wpAnyG P md ops Q n S fuel (listed.setIfInBounds i true) ⟨ts.setIfInBounds d undef, ds⟩ w) : wpAnyG P md ops Q n S (fuel + 1) listed ⟨ts, ds⟩ w :=
  wpAnyG_unw hi (Region.noSelect_spec hs) (fun c a w => hQ c a _ _ w) hni fuel listed _ w (Region.free_spec hi hf) (by simpa using hr) hg hS (by rw [hd]; exact h)
end
end Go.Proofs.Ytihbpmceggghgaa
