/-
  Regions that draw their order and hold calls that only read: such a call, too, may be taken first. ('YieldsC': the operation yields v, by itself or by a call's contract, and leaves the world as it was, in every world that meets S.) No program in sight.
-/
import Derived.Deep.RegionHeld
set_option linter.unusedVariables false
namespace Go.Proofs.Ytbfcpapibenndaa
open Go

section
variable {P : Program} {ops : Array Oper} {Q : Exit → Act → World → Prop} {md : Region.Mode} {S : World → Prop}

/-- What the operation does in world w is: to yield v. -/
def OnlyV (P : Program) (r : Result Next) (v : Value) (w : World) : Prop :=
  r = .ok (.value v) w ∨ ∃ f args, r = .ok (.enter f args) w ∧ Calls P f args w fun e w' => e = .returned v ∧ w = w'
def YieldsC (P : Program) (S : World → Prop) (o : Oper) (v : Value) (a : Act) : Prop :=
  o.guard = none ∧ ∀ w, S w → OnlyV P ((execOp a.eval o).run P w) v w
theorem YieldsC.same {o : Oper} {v : Value} {a a' : Act} (h : YieldsC P S o v a) (he : execOp a'.eval o = execOp a.eval o) : YieldsC P S o v a' :=
  ⟨h.1, by rw [he]; exact h.2⟩
theorem YieldsC.op {i : Nat} {o : Oper} {v : Value} {a : Act} {w : World} {K : Act → World → Prop} (hi : ops[i]? = some o) (h : YieldsC P S o v a) (hS : S w) (hK : K (a.put o.dst v) w) : wpOp P ops Q i K a w := by
  have hw : Region.wanted o (yielded ops a.tmps) = true := by simp [Region.wanted, h.1]
  unfold wpOp
  simp only [hi, hw, if_true]
  refine .inl ?_
  rcases h.2 w hS with e | ⟨f, args, e, hc⟩
  · simp only [Oper.wp, e, Oper.upon]; exact hK
  · simp only [Oper.wp, e, Oper.upon]
    refine Calls.mono hc ?_
    rintro _ _ ⟨rfl, rfl⟩
    exact hK
/-- An operation j that is apart from oi: oi may as well have come ahead of it. -/
theorem YieldsC.past {j : Nat} {oi oj : Oper} {v : Value} {K : Act → World → Prop} {a : Act} {w : World} (hj : ops[j]? = some oj) (hap : oi.apart ops oj = true)
    (hsi : ∀ cs b, oi.op ≠ .select cs b) (hsj : ∀ cs b, oj.op ≠ .select cs b) (hQ : ∀ c a w, Q (.panic c) (a.put oi.dst v) w → Q (.panic c) a w)
    (hy : YieldsC P S oi v a) (h : wpOp P ops Q j K (a.put oi.dst v) w) : wpOp P ops Q j (fun a' w' => YieldsC P S oi v a' ∧ K (a'.put oi.dst v) w') a w := by
  obtain ⟨p1, p2, p3⟩ := Oper.apart_spec hap
  have ke : ∀ u, YieldsC P S oi v (a.put oj.dst u) := fun u => hy.same (execOp_put oi hsi a oj.dst u p3)
  have co : ∀ (b : Act) u, (b.put oj.dst u).put oi.dst v = (b.put oi.dst v).put oj.dst u := fun b u => (Act.put_comm b v u p2).symm
  have eo : execOp (a.put oi.dst v).eval oj = execOp a.eval oj := execOp_put oj hsj a oi.dst v p1
  unfold wpOp at h ⊢
  rw [hj] at h ⊢
  simp only at h ⊢
  rw [wanted_put oj a oi.dst v p1] at h
  by_cases hw : Region.wanted oj (yielded ops a.tmps) = true
  · rw [if_pos hw] at h ⊢
    rcases h with h | ⟨ha, hl⟩
    · left
      unfold Oper.wp at h ⊢
      rw [eo] at h
      revert h
      generalize (execOp a.eval oj).run P w = r
      intro h
      match r with
      | .ok (.value u) w' => exact ⟨ke u, by rw [co]; exact h⟩
      | .ok .skip w' => exact ⟨ke _, by rw [co]; exact h⟩
      | .ok (.defer d) w' =>
        have h0 : K ((({ a.put oi.dst v with defers := d :: (a.put oi.dst v).defers } : Act)).put oj.dst undef) w' := h
        rw [Act.put_defers, ← co] at h0
        exact ⟨YieldsC.same (a := a) hy (execOp_put oi hsi { a with defers := d :: a.defers } oj.dst undef p3), h0⟩
      | .ok (.enter f args) w' =>
        refine Calls.mono h fun e w2 he => ?_
        match e with
        | .returned u => exact ⟨ke u, by rw [co]; exact he⟩
        | .panicked c => exact hQ _ _ _ he
        | .outgrown => exact he
      | .ok (.row row args) w' => exact Rows.mono h fun u w2 he => ⟨ke u, by rw [co]; exact he⟩
      | .halt (.panic u) w' => exact hQ _ _ _ h
      | .halt x w' =>
        cases x <;> first | exact hQ _ _ _ h | exact h
    · right
      refine ⟨?_, hl⟩
      unfold Oper.asks at ha ⊢
      rwa [eo] at ha
  · rw [if_neg hw] at h ⊢
    exact ⟨ke _, by rw [co]; exact h⟩
theorem wpAnyH_callFirst {i : Nat} {oi : Oper} {v : Value} (hi : ops[i]? = some oi) (hsel : ∀ (j : Nat) (o : Oper) cs b, ops[j]? = some o → o.op ≠ .select cs b)
    (hQ : ∀ c a w, Q (.panic c) (a.put oi.dst v) w → Q (.panic c) a w) (fuel : Nat) :
    ∀ (listed : Array Bool) (a : Act) (w : World),
      (∀ j oj, ops[j]? = some oj → j ≠ i → listed.getD j true = false → (∀ e ∈ oj.after, Region.binds md e = true → e.on ≠ i) → oi.apart ops oj = true) →
      i ∈ Region.ready md ops listed → YieldsC P S oi v a → S w →
      wpAnyH P md ops Q S fuel (listed.setIfInBounds i true) (a.put oi.dst v) w → wpAnyH P md ops Q S (fuel + 1) listed a w := by
  induction fuel with
  | zero =>
    intro listed a w _ hr hy hS H
    refine ⟨fun h => absurd hr (by simp [h]), fun j hj => ?_⟩
    rcases Nat.decEq j i with hne | rfl
    · have hm := ready_mono hj hne
      rw [H.1] at hm
      exact absurd hm (by simp)
    · exact hy.op hi hS ⟨hS, H⟩
  | succ fuel ih =>
    intro listed a w hfree hr hy hS H
    refine ⟨fun h => absurd hr (by simp [h]), fun j hj => ?_⟩
    rcases Nat.decEq j i with hne | rfl
    · obtain ⟨hun, oj, hoj, hall⟩ := mem_ready.1 hj
      have hno : ∀ e ∈ oj.after, Region.binds md e = true → e.on ≠ i := by
        intro e he hb heq
        have l1 := hall e he hb
        have l2 := (mem_ready.1 hr).1
        rw [heq] at l1
        by_cases hlt : i < listed.size
        · simp [hlt] at l1 l2; simp [l2] at l1
        · simp [hlt] at l1
      refine wpOp_mono ?_ (hy.past hoj (hfree j oj hoj hne hun hno) (fun cs b => hsel i oi cs b hi) (fun cs b => hsel j oj cs b hoj) hQ (H.2 j (ready_mono hj hne)))
      rintro a' w' ⟨hy', hS', H'⟩
      refine ⟨hS', ih _ a' w' ?_ (ready_mono hr (Ne.symm hne)) hy' hS' (by rw [Array.setIfInBounds_comm _ _ hne]; exact H')⟩
      intro k ok hk hki hku hkno
      refine hfree k ok hk hki ?_ hkno
      by_cases hjk : j = k
      · rw [← hjk]; exact hun
      · rwa [getD_set_ne true hjk] at hku
    · exact hy.op hi hS ⟨hS, H⟩
theorem run_callFn {o : Oper} {a : Act} {f : FuncId} {xs : Array Operand} {ts : Array TypeId} (ho : o.op = .call { callee := .value (.func f), args := xs, argTypes := ts }) {fn : Func} (hf : P.funcs[f]? = some fn)
    (hname : (fn.name == "runtime.NumGoroutine") = false) (hb : fn.body.isNone = false) (w : World) : (execOp a.eval o).run P w = .ok (.enter f (xs.map a.eval)) w := by
  have h1 : fn.name ≠ "runtime.NumGoroutine" := by simpa using hname
  have h2 : ¬ fn.body = none := by intro h; simp [h] at hb
  simp [execOp, ho, resolve, Act.eval, Deferred.ofValue, invoke, callFunc, hf, h1, h2]
theorem OnlyV.call {o : Oper} {a : Act} {f : FuncId} {xs : Array Operand} {ts : Array TypeId} (ho : o.op = .call { callee := .value (.func f), args := xs, argTypes := ts }) {fn : Func} (hf : P.funcs[f]? = some fn)
    (hname : (fn.name == "runtime.NumGoroutine") = false) (hb : fn.body.isNone = false) {vs : Array Value} {v : Value} {w : World}
    (h : Calls P f vs w fun e w' => e = .returned v ∧ w = w') (hv : xs.map a.eval = vs) : OnlyV P ((execOp a.eval o).run P w) v w := by
  subst hv
  exact .inr ⟨f, _, run_callFn ho hf hname hb w, h⟩
/-- Take number i first: a call that only reads. -/
theorem takeC (i : Nat) {oi : Oper} {v : Value} {fuel : Nat} {listed : Array Bool} {ts : Array Value} {ds : List Deferred} {w : World} {d : Tmp} (hi : ops[i]? = some oi) (hd : oi.dst = some d)
    (hs : Region.noSelect ops = true) (hf : Region.free md ops listed i = true) (hr : (Region.ready md ops listed).contains i = true)
    (hQ : ∀ c (a : Act) d v w, Q (.panic c) (a.put d v) w → Q (.panic c) a w) (hg : oi.guard = none) (hy : ∀ w, S w → OnlyV P ((execOp (Act.eval ⟨ts, ds⟩) oi).run P w) v w) (hS : S w)
    (h : wpAnyH P md ops Q S fuel (listed.setIfInBounds i true) ⟨ts.setIfInBounds d v, ds⟩ w) : wpAnyH P md ops Q S (fuel + 1) listed ⟨ts, ds⟩ w :=
  wpAnyH_callFirst hi (Region.noSelect_spec hs) (fun c a w => hQ c a _ _ w) fuel listed _ w (Region.free_spec hi hf) (by simpa using hr) ⟨hg, hy⟩ hS (by rw [hd]; exact h)
/-- Take number i first: it yields a value by itself. -/
theorem takeV (i : Nat) {oi : Oper} {v : Value} {fuel : Nat} {listed : Array Bool} {ts : Array Value} {ds : List Deferred} {w : World} {d : Tmp} (hi : ops[i]? = some oi) (hd : oi.dst = some d)
    (hs : Region.noSelect ops = true) (hf : Region.free md ops listed i = true) (hr : (Region.ready md ops listed).contains i = true)
    (hQ : ∀ c (a : Act) d v w, Q (.panic c) (a.put d v) w → Q (.panic c) a w) (hg : oi.guard = none) (hy : ∀ w, S w → (execOp (Act.eval ⟨ts, ds⟩) oi).run P w = .ok (.value v) w) (hS : S w)
    (h : wpAnyH P md ops Q S fuel (listed.setIfInBounds i true) ⟨ts.setIfInBounds d v, ds⟩ w) : wpAnyH P md ops Q S (fuel + 1) listed ⟨ts, ds⟩ w :=
  takeC i hi hd hs hf hr hQ hg (fun w hw => .inl (hy w hw)) hS h
end
end Go.Proofs.Ytbfcpapibenndaa
