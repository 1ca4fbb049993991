/- The takes of regions that draw, for operations under a guard that is met. No program in sight. -/
import Derived.Test.YtihbpmceggghgaaReg
set_option linter.unusedVariables false
set_option linter.unusedSimpArgs false
namespace Go.Proofs.Ytihbpmceggghgaa
open Go

section
variable {P : Program} {ops : Array Oper} {Q : Exit → Act → World → Prop} {md : Region.Mode} {S : World → Prop}
def YieldsD (P : Program) (ops : Array Oper) (S : World → Prop) (o : Oper) (v : Value) (a : Act) : Prop :=
  Region.wanted o (yielded ops a.tmps) = true ∧ ∀ w, S w → OnlyV P ((execOp a.eval o).run P w) v w
theorem YieldsD.same {o : Oper} {v : Value} {a a' : Act} (h : YieldsD P ops S o v a) (he : execOp a'.eval o = execOp a.eval o) (hw : Region.wanted o (yielded ops a'.tmps) = Region.wanted o (yielded ops a.tmps)) : YieldsD P ops S o v a' :=
  ⟨by rw [hw]; exact h.1, by rw [he]; exact h.2⟩
theorem YieldsD.op {i : Nat} {o : Oper} {v : Value} {a : Act} {w : World} {K : Act → World → Prop} (hi : ops[i]? = some o) (h : YieldsD P ops S o v a) (hS : S w) (hK : K (a.put o.dst v) w) : wpOp P ops Q i K a w := by
  have hw := h.1
  unfold wpOp
  simp only [hi, hw, if_true]
  refine .inl ?_
  rcases h.2 w hS with e | ⟨f, args, e, hc⟩
  · simp only [Oper.wp, e, Oper.upon]; exact hK
  · simp only [Oper.wp, e, Oper.upon]
    refine Calls.mono hc ?_
    rintro _ _ ⟨rfl, rfl⟩
    exact hK
/-- An operation j that is apart from oi: oi may as well have come ahead of it. -/
theorem YieldsD.past {j : Nat} {oi oj : Oper} {v : Value} {K : Act → World → Prop} {a : Act} {w : World} (hj : ops[j]? = some oj) (hap : oi.apart ops oj = true)
    (hsi : ∀ cs b, oi.op ≠ .select cs b) (hsj : ∀ cs b, oj.op ≠ .select cs b) (hQ : ∀ c a w, Q (.panic c) (a.put oi.dst v) w → Q (.panic c) a w)
    (hy : YieldsD P ops S oi v a) (h : wpOp P ops Q j K (a.put oi.dst v) w) : wpOp P ops Q j (fun a' w' => YieldsD P ops S oi v a' ∧ K (a'.put oi.dst v) w') a w := by
  obtain ⟨p1, p2, p3⟩ := Oper.apart_spec hap
  have ke : ∀ u, YieldsD P ops S oi v (a.put oj.dst u) := fun u => hy.same (execOp_put oi hsi a oj.dst u p3) (wanted_put oi a oj.dst u p3)
  have co : ∀ (b : Act) u, (b.put oj.dst u).put oi.dst v = (b.put oi.dst v).put oj.dst u := fun b u => (Act.put_comm b v u p2).symm
  have eo : execOp (a.put oi.dst v).eval oj = execOp a.eval oj := execOp_put oj hsj a oi.dst v p1
  unfold wpOp at h ⊢
  rw [hj] at h ⊢
  simp only at h ⊢
  rw [wanted_put oj a oi.dst v p1] at h
  by_cases hw : Region.wanted oj (yielded ops a.tmps) = true
  · rw [if_pos hw] at h ⊢
    rcases h with h | ⟨ha, hl⟩
    · left
      unfold Oper.wp at h ⊢
      rw [eo] at h
      revert h
      generalize (execOp a.eval oj).run P w = r
      intro h
      match r with
      | .ok (.value u) w' => exact ⟨ke u, by rw [co]; exact h⟩
      | .ok .skip w' => exact ⟨ke _, by rw [co]; exact h⟩
      | .ok (.defer d) w' =>
        have h0 : K ((({ a.put oi.dst v with defers := d :: (a.put oi.dst v).defers } : Act)).put oj.dst undef) w' := h
        rw [Act.put_defers, ← co] at h0
        exact ⟨YieldsD.same (a := a) hy (execOp_put oi hsi { a with defers := d :: a.defers } oj.dst undef p3) (wanted_put oi { a with defers := d :: a.defers } oj.dst undef p3), h0⟩
      | .ok (.enter f args) w' =>
        refine Calls.mono h fun e w2 he => ?_
        match e with
        | .returned u => exact ⟨ke u, by rw [co]; exact he⟩
        | .panicked c => exact hQ _ _ _ he
        | .outgrown => exact he
      | .ok (.row row args) w' => exact Rows.mono h fun u w2 he => ⟨ke u, by rw [co]; exact he⟩
      | .halt (.panic u) w' => exact hQ _ _ _ h
      | .halt x w' =>
        cases x <;> first | exact hQ _ _ _ h | exact h
    · right
      refine ⟨?_, hl⟩
      unfold Oper.asks at ha ⊢
      rwa [eo] at ha
  · rw [if_neg hw] at h ⊢
    exact ⟨ke _, by rw [co]; exact h⟩
theorem wpAnyG_firstD {n i : Nat} {oi : Oper} {v : Value} (hi : ops[i]? = some oi) (hsel : ∀ (j : Nat) (o : Oper) cs b, ops[j]? = some o → o.op ≠ .select cs b)
    (hQ : ∀ c a w, Q (.panic c) (a.put oi.dst v) w → Q (.panic c) a w) (hgate : ∀ o, ops[n]? = some o → ∃ e ∈ o.after, Region.binds md e = true ∧ e.on = i) (hni : n ≠ i) (fuel : Nat) :
    ∀ (listed : Array Bool) (a : Act) (w : World),
      (∀ j oj, ops[j]? = some oj → j ≠ i → listed.getD j true = false → (∀ e ∈ oj.after, Region.binds md e = true → e.on ≠ i) → oi.apart ops oj = true) →
      i ∈ Region.ready md ops listed → listed.getD n false = false → YieldsD P ops S oi v a → S w →
      wpAnyG P md ops Q n S fuel (listed.setIfInBounds i true) (a.put oi.dst v) w → wpAnyG P md ops Q n S (fuel + 1) listed a w := by
  induction fuel with
  | zero =>
    intro listed a w _ hr _ hy hS H
    refine ⟨fun h => absurd hr (by simp [h]), fun j hj => ?_⟩
    rcases Nat.decEq j i with hne | rfl
    · have hm := ready_mono hj hne
      rw [H.1] at hm
      exact absurd hm (by simp)
    · exact hy.op hi hS ⟨fun _ => hS, H⟩
  | succ fuel ih =>
    intro listed a w hfree hr hln hy hS H
    refine ⟨fun h => absurd hr (by simp [h]), fun j hj => ?_⟩
    rcases Nat.decEq j i with hne | rfl
    · obtain ⟨hun, oj, hoj, hall⟩ := mem_ready.1 hj
      have hno : ∀ e ∈ oj.after, Region.binds md e = true → e.on ≠ i := by
        intro e he hb heq
        have l1 := hall e he hb
        have l2 := (mem_ready.1 hr).1
        rw [heq] at l1
        by_cases hlt : i < listed.size
        · simp [hlt] at l1 l2; simp [l2] at l1
        · simp [hlt] at l1
      have hjn : j ≠ n := by
        intro e
        subst e
        obtain ⟨e, he, hb, hon⟩ := hgate oj hoj
        exact hno e he hb hon
      have hln' : (listed.setIfInBounds j true).getD n false = false := by rw [getD_set_ne false hjn]; exact hln
      refine wpOp_mono ?_ (hy.past hoj (hfree j oj hoj hne hun hno) (fun cs b => hsel i oi cs b hi) (fun cs b => hsel j oj cs b hoj) hQ (H.2 j (ready_mono hj hne)))
      rintro a' w' ⟨hy', hS', H'⟩
      have hSw : S w' := hS' (by rw [getD_set_ne false hjn, getD_set_ne false (Ne.symm hni)]; exact hln)
      refine ⟨fun _ => hSw, ih _ a' w' ?_ (ready_mono hr (Ne.symm hne)) hln' hy' hSw (by rw [Array.setIfInBounds_comm _ _ hne]; exact H')⟩
      intro k ok hk hki hku hkno
      refine hfree k ok hk hki ?_ hkno
      by_cases hjk : j = k
      · rw [← hjk]; exact hun
      · rwa [getD_set_ne true hjk] at hku
    · exact hy.op hi hS ⟨fun _ => hS, H⟩
/-- Take number i first: a call that only reads. -/
theorem takeCg (i : Nat) {n : Nat} {oi : Oper} {v : Value} {fuel : Nat} {listed : Array Bool} {ts : Array Value} {ds : List Deferred} {w : World} {d : Tmp} (hi : ops[i]? = some oi) (hd : oi.dst = some d)
    (hs : Region.noSelect ops = true) (hf : Region.free md ops listed i = true) (hr : (Region.ready md ops listed).contains i = true) (hgt : gateOk md ops n i listed = true) (hni : n ≠ i)
    (hQ : ∀ c (a : Act) d v w, Q (.panic c) (a.put d v) w → Q (.panic c) a w) (hg : Region.wanted oi (yielded ops ts) = true) (hy : ∀ w, S w → OnlyV P ((execOp (Act.eval ⟨ts, ds⟩) oi).run P w) v w) (hS : S w)
    (h : wpAnyG P md ops Q n S fuel (listed.setIfInBounds i true) ⟨ts.setIfInBounds d v, ds⟩ w) : wpAnyG P md ops Q n S (fuel + 1) listed ⟨ts, ds⟩ w :=
  wpAnyG_firstD hi (Region.noSelect_spec hs) (fun c a w => hQ c a _ _ w) (gateOk_spec hgt).2 hni fuel listed _ w (Region.free_spec hi hf) (by simpa using hr) (gateOk_spec hgt).1 ⟨hg, hy⟩ hS (by rw [hd]; exact h)
/-- Take number i first: it yields a value by itself. -/
theorem takeVg (i : Nat) {n : Nat} {oi : Oper} {v : Value} {fuel : Nat} {listed : Array Bool} {ts : Array Value} {ds : List Deferred} {w : World} {d : Tmp} (hi : ops[i]? = some oi) (hd : oi.dst = some d)
    (hs : Region.noSelect ops = true) (hf : Region.free md ops listed i = true) (hr : (Region.ready md ops listed).contains i = true) (hgt : gateOk md ops n i listed = true) (hni : n ≠ i)
    (hQ : ∀ c (a : Act) d v w, Q (.panic c) (a.put d v) w → Q (.panic c) a w) (hg : Region.wanted oi (yielded ops ts) = true) (hy : ∀ w, S w → (execOp (Act.eval ⟨ts, ds⟩) oi).run P w = .ok (.value v) w) (hS : S w)
    (h : wpAnyG P md ops Q n S fuel (listed.setIfInBounds i true) ⟨ts.setIfInBounds d v, ds⟩ w) : wpAnyG P md ops Q n S (fuel + 1) listed ⟨ts, ds⟩ w :=
  takeCg i hi hd hs hf hr hgt hni hQ hg (fun w hw => .inl (hy w hw)) hS h
end
end Go.Proofs.Ytihbpmceggghgaa
