/-
  Regions that draw their order: an operation that only yields a value, by itself or by a call's contract ('YieldsC', in every world that meets S), may be taken first. S is leant on only until a gate, an operation that waits for it, has come up: so loads may be taken ahead of stores to their own cells. No program in sight.
-/
import Derived.Deep.RegionHeld3
set_option linter.unusedVariables false
set_option linter.unusedSimpArgs false
namespace Go.Proofs.Ytihbpmceggghgaa
open Go

section
variable {P : Program} {ops : Array Oper} {Q : Exit → Act → World → Prop} {md : Region.Mode} {S : World → Prop}

/-- What the operation does in world w is: to yield v. -/
def OnlyV (P : Program) (r : Result Next) (v : Value) (w : World) : Prop :=
  r = .ok (.value v) w ∨ ∃ f args, r = .ok (.enter f args) w ∧ Calls P f args w fun e w' => e = .returned v ∧ w = w'
def YieldsC (P : Program) (S : World → Prop) (o : Oper) (v : Value) (a : Act) : Prop :=
  o.guard = none ∧ ∀ w, S w → OnlyV P ((execOp a.eval o).run P w) v w
theorem YieldsC.same {o : Oper} {v : Value} {a a' : Act} (h : YieldsC P S o v a) (he : execOp a'.eval o = execOp a.eval o) : YieldsC P S o v a' :=
  ⟨h.1, by rw [he]; exact h.2⟩
theorem YieldsC.op {i : Nat} {o : Oper} {v : Value} {a : Act} {w : World} {K : Act → World → Prop} (hi : ops[i]? = some o) (h : YieldsC P S o v a) (hS : S w) (hK : K (a.put o.dst v) w) : wpOp P ops Q i K a w := by
  have hw : Region.wanted o (yielded ops a.tmps) = true := by simp [Region.wanted, h.1]
  unfold wpOp
  simp only [hi, hw, if_true]
  refine .inl ?_
  rcases h.2 w hS with e | ⟨f, args, e, hc⟩
  · simp only [Oper.wp, e, Oper.upon]; exact hK
  · simp only [Oper.wp, e, Oper.upon]
    refine Calls.mono hc ?_
    rintro _ _ ⟨rfl, rfl⟩
    exact hK
/-- An operation j that is apart from oi: oi may as well have come ahead of it. -/
theorem YieldsC.past {j : Nat} {oi oj : Oper} {v : Value} {K : Act → World → Prop} {a : Act} {w : World} (hj : ops[j]? = some oj) (hap : oi.apart ops oj = true)
    (hsi : ∀ cs b, oi.op ≠ .select cs b) (hsj : ∀ cs b, oj.op ≠ .select cs b) (hQ : ∀ c a w, Q (.panic c) (a.put oi.dst v) w → Q (.panic c) a w)
    (hy : YieldsC P S oi v a) (h : wpOp P ops Q j K (a.put oi.dst v) w) : wpOp P ops Q j (fun a' w' => YieldsC P S oi v a' ∧ K (a'.put oi.dst v) w') a w := by
  obtain ⟨p1, p2, p3⟩ := Oper.apart_spec hap
  have ke : ∀ u, YieldsC P S oi v (a.put oj.dst u) := fun u => hy.same (execOp_put oi hsi a oj.dst u p3)
  have co : ∀ (b : Act) u, (b.put oj.dst u).put oi.dst v = (b.put oi.dst v).put oj.dst u := fun b u => (Act.put_comm b v u p2).symm
  have eo : execOp (a.put oi.dst v).eval oj = execOp a.eval oj := execOp_put oj hsj a oi.dst v p1
  unfold wpOp at h ⊢
  rw [hj] at h ⊢
  simp only at h ⊢
  rw [wanted_put oj a oi.dst v p1] at h
  by_cases hw : Region.wanted oj (yielded ops a.tmps) = true
  · rw [if_pos hw] at h ⊢
    rcases h with h | ⟨ha, hl⟩
    · left
      unfold Oper.wp at h ⊢
      rw [eo] at h
      revert h
      generalize (execOp a.eval oj).run P w = r
      intro h
      match r with
      | .ok (.value u) w' => exact ⟨ke u, by rw [co]; exact h⟩
      | .ok .skip w' => exact ⟨ke _, by rw [co]; exact h⟩
      | .ok (.defer d) w' =>
        have h0 : K ((({ a.put oi.dst v with defers := d :: (a.put oi.dst v).defers } : Act)).put oj.dst undef) w' := h
        rw [Act.put_defers, ← co] at h0
        exact ⟨YieldsC.same (a := a) hy (execOp_put oi hsi { a with defers := d :: a.defers } oj.dst undef p3), h0⟩
      | .ok (.enter f args) w' =>
        refine Calls.mono h fun e w2 he => ?_
        match e with
        | .returned u => exact ⟨ke u, by rw [co]; exact he⟩
        | .panicked c => exact hQ _ _ _ he
        | .outgrown => exact he
      | .ok (.row row args) w' => exact Rows.mono h fun u w2 he => ⟨ke u, by rw [co]; exact he⟩
      | .halt (.panic u) w' => exact hQ _ _ _ h
      | .halt x w' =>
        cases x <;> first | exact hQ _ _ _ h | exact h
    · right
      refine ⟨?_, hl⟩
      unfold Oper.asks at ha ⊢
      rwa [eo] at ha
  · rw [if_neg hw] at h ⊢
    exact ⟨ke _, by rw [co]; exact h⟩
/-- Whatever order is picked from here on; S holds behind every operation, as long as number n (the gate) has not come up. -/
def wpAnyG (P : Program) (md : Region.Mode) (ops : Array Oper) (Q : Exit → Act → World → Prop) (n : Nat) (S : World → Prop) : Nat → Array Bool → Act → World → Prop
  | 0, listed, a, w => Region.ready md ops listed = [] ∧ Q .normal a w
  | fuel + 1, listed, a, w => (Region.ready md ops listed = [] → Q .normal a w) ∧
    ∀ i ∈ Region.ready md ops listed, wpOp P ops Q i (fun a' w' => ((listed.setIfInBounds i true).getD n false = false → S w') ∧ wpAnyG P md ops Q n S fuel (listed.setIfInBounds i true) a' w') a w
theorem wpAnyG.any {n : Nat} (fuel : Nat) : ∀ (listed : Array Bool) (a : Act) (w : World), wpAnyG P md ops Q n S fuel listed a w → wpAny P md ops Q fuel listed a w := by
  induction fuel with
  | zero => exact fun _ _ _ h => h
  | succ f ih => exact fun _ _ _ h => ⟨h.1, fun i hi => wpOp_mono (fun a' w' k => ih _ a' w' k.2) (h.2 i hi)⟩
/-- The beginning, at a region that draws. -/
theorem region_gate (n : Nat) (S : World → Prop) {id : Nat} {a : Act} {w : World} (hm : P.follows .mixedOrders = true) (hS : S w.drew)
    (h : S w.drew → wpAnyG P .any ops (NoPanic Q) n S ops.size (Array.replicate ops.size false) a w.drew) : (Code.region id ops true).wp P Q a w :=
  wp_region_noPanic (wp_region_any hm ((h hS).any))
/-- May S be leant on while number i has not come up? -/
def gateOk (md : Region.Mode) (ops : Array Oper) (n i : Nat) (listed : Array Bool) : Bool :=
  !listed.getD n false && (decide (ops.size ≤ n) || match ops[n]? with | some o => o.after.any (fun e => Region.binds md e && e.on == i) | none => true)
theorem gateOk_spec {n i : Nat} {listed : Array Bool} (h : gateOk md ops n i listed = true) :
    listed.getD n false = false ∧ (∀ o, ops[n]? = some o → ∃ e ∈ o.after, Region.binds md e = true ∧ e.on = i) := by
  unfold gateOk at h
  rw [Bool.and_eq_true] at h
  refine ⟨by simpa using h.1, fun o ho => ?_⟩
  have hlt : n < ops.size := (Array.getElem?_eq_some_iff.1 ho).1
  have h2 := h.2
  rw [ho] at h2
  simp only [Bool.or_eq_true, decide_eq_true_eq] at h2
  rcases h2 with h2 | h2
  · omega
  · obtain ⟨e, he, hb⟩ := Array.any_eq_true'.1 h2
    simp only [Bool.and_eq_true, beq_iff_eq] at hb
    exact ⟨e, he, hb.1, hb.2⟩
theorem wpAnyG_first {n i : Nat} {oi : Oper} {v : Value} (hi : ops[i]? = some oi) (hsel : ∀ (j : Nat) (o : Oper) cs b, ops[j]? = some o → o.op ≠ .select cs b)
    (hQ : ∀ c a w, Q (.panic c) (a.put oi.dst v) w → Q (.panic c) a w) (hgate : ∀ o, ops[n]? = some o → ∃ e ∈ o.after, Region.binds md e = true ∧ e.on = i) (hni : n ≠ i) (fuel : Nat) :
    ∀ (listed : Array Bool) (a : Act) (w : World),
      (∀ j oj, ops[j]? = some oj → j ≠ i → listed.getD j true = false → (∀ e ∈ oj.after, Region.binds md e = true → e.on ≠ i) → oi.apart ops oj = true) →
      i ∈ Region.ready md ops listed → listed.getD n false = false → YieldsC P S oi v a → S w →
      wpAnyG P md ops Q n S fuel (listed.setIfInBounds i true) (a.put oi.dst v) w → wpAnyG P md ops Q n S (fuel + 1) listed a w := by
  induction fuel with
  | zero =>
    intro listed a w _ hr _ hy hS H
    refine ⟨fun h => absurd hr (by simp [h]), fun j hj => ?_⟩
    rcases Nat.decEq j i with hne | rfl
    · have hm := ready_mono hj hne
      rw [H.1] at hm
      exact absurd hm (by simp)
    · exact hy.op hi hS ⟨fun _ => hS, H⟩
  | succ fuel ih =>
    intro listed a w hfree hr hln hy hS H
    refine ⟨fun h => absurd hr (by simp [h]), fun j hj => ?_⟩
    rcases Nat.decEq j i with hne | rfl
    · obtain ⟨hun, oj, hoj, hall⟩ := mem_ready.1 hj
      have hno : ∀ e ∈ oj.after, Region.binds md e = true → e.on ≠ i := by
        intro e he hb heq
        have l1 := hall e he hb
        have l2 := (mem_ready.1 hr).1
        rw [heq] at l1
        by_cases hlt : i < listed.size
        · simp [hlt] at l1 l2; simp [l2] at l1
        · simp [hlt] at l1
      have hjn : j ≠ n := by
        intro e
        subst e
        obtain ⟨e, he, hb, hon⟩ := hgate oj hoj
        exact hno e he hb hon
      have hln' : (listed.setIfInBounds j true).getD n false = false := by rw [getD_set_ne false hjn]; exact hln
      refine wpOp_mono ?_ (hy.past hoj (hfree j oj hoj hne hun hno) (fun cs b => hsel i oi cs b hi) (fun cs b => hsel j oj cs b hoj) hQ (H.2 j (ready_mono hj hne)))
      rintro a' w' ⟨hy', hS', H'⟩
      have hSw : S w' := hS' (by rw [getD_set_ne false hjn, getD_set_ne false (Ne.symm hni)]; exact hln)
      refine ⟨fun _ => hSw, ih _ a' w' ?_ (ready_mono hr (Ne.symm hne)) hln' hy' hSw (by rw [Array.setIfInBounds_comm _ _ hne]; exact H')⟩
      intro k ok hk hki hku hkno
      refine hfree k ok hk hki ?_ hkno
      by_cases hjk : j = k
      · rw [← hjk]; exact hun
      · rwa [getD_set_ne true hjk] at hku
    · exact hy.op hi hS ⟨fun _ => hS, H⟩
/-- An operation that yields in whatever world. -/
theorem wpAnyG_free {n i : Nat} {oi : Oper} {v : Value} (hi : ops[i]? = some oi) (hsel : ∀ (j : Nat) (o : Oper) cs b, ops[j]? = some o → o.op ≠ .select cs b)
    (hQ : ∀ c a w, Q (.panic c) (a.put oi.dst v) w → Q (.panic c) a w) (hni : n ≠ i) (fuel : Nat) :
    ∀ (listed : Array Bool) (a : Act) (w : World),
      (∀ j oj, ops[j]? = some oj → j ≠ i → listed.getD j true = false → (∀ e ∈ oj.after, Region.binds md e = true → e.on ≠ i) → oi.apart ops oj = true) →
      i ∈ Region.ready md ops listed → YieldsC P (fun _ => True) oi v a → (listed.getD n false = false → S w) →
      wpAnyG P md ops Q n S fuel (listed.setIfInBounds i true) (a.put oi.dst v) w → wpAnyG P md ops Q n S (fuel + 1) listed a w := by
  induction fuel with
  | zero =>
    intro listed a w _ hr hy hS H
    refine ⟨fun h => absurd hr (by simp [h]), fun j hj => ?_⟩
    rcases Nat.decEq j i with hne | rfl
    · have hm := ready_mono hj hne
      rw [H.1] at hm
      exact absurd hm (by simp)
    · exact hy.op hi trivial ⟨fun e => hS (by rwa [getD_set_ne false (Ne.symm hni)] at e), H⟩
  | succ fuel ih =>
    intro listed a w hfree hr hy hS H
    refine ⟨fun h => absurd hr (by simp [h]), fun j hj => ?_⟩
    rcases Nat.decEq j i with hne | rfl
    · obtain ⟨hun, oj, hoj, hall⟩ := mem_ready.1 hj
      have hno : ∀ e ∈ oj.after, Region.binds md e = true → e.on ≠ i := by
        intro e he hb heq
        have l1 := hall e he hb
        have l2 := (mem_ready.1 hr).1
        rw [heq] at l1
        by_cases hlt : i < listed.size
        · simp [hlt] at l1 l2; simp [l2] at l1
        · simp [hlt] at l1
      refine wpOp_mono ?_ (hy.past hoj (hfree j oj hoj hne hun hno) (fun cs b => hsel i oi cs b hi) (fun cs b => hsel j oj cs b hoj) hQ (H.2 j (ready_mono hj hne)))
      rintro a' w' ⟨hy', hS', H'⟩
      have hSw : (listed.setIfInBounds j true).getD n false = false → S w' := fun e => hS' (by rwa [Array.setIfInBounds_comm _ _ (Ne.symm hne), getD_set_ne false (Ne.symm hni)])
      refine ⟨hSw, ih _ a' w' ?_ (ready_mono hr (Ne.symm hne)) hy' hSw (by rw [Array.setIfInBounds_comm _ _ hne]; exact H')⟩
      intro k ok hk hki hku hkno
      refine hfree k ok hk hki ?_ hkno
      by_cases hjk : j = k
      · rw [← hjk]; exact hun
      · rwa [getD_set_ne true hjk] at hku
    · exact hy.op hi trivial ⟨fun e => hS (by rwa [getD_set_ne false (Ne.symm hni)] at e), H⟩
theorem run_callFn {o : Oper} {a : Act} {f : FuncId} {xs : Array Operand} {ts : Array TypeId} (ho : o.op = .call { callee := .value (.func f), args := xs, argTypes := ts }) {fn : Func} (hf : P.funcs[f]? = some fn)
    (hname : (fn.name == "runtime.NumGoroutine") = false) (hb : fn.body.isNone = false) (w : World) : (execOp a.eval o).run P w = .ok (.enter f (xs.map a.eval)) w := by
  have h1 : fn.name ≠ "runtime.NumGoroutine" := by simpa using hname
  have h2 : ¬ fn.body = none := by intro h; simp [h] at hb
  simp [execOp, ho, resolve, Act.eval, Deferred.ofValue, invoke, callFunc, hf, h1, h2]
theorem OnlyV.call {o : Oper} {a : Act} {f : FuncId} {xs : Array Operand} {ts : Array TypeId} (ho : o.op = .call { callee := .value (.func f), args := xs, argTypes := ts }) {fn : Func} (hf : P.funcs[f]? = some fn)
    (hname : (fn.name == "runtime.NumGoroutine") = false) (hb : fn.body.isNone = false) {vs : Array Value} {v : Value} {w : World}
    (h : Calls P f vs w fun e w' => e = .returned v ∧ w = w') (hv : xs.map a.eval = vs) : OnlyV P ((execOp a.eval o).run P w) v w := by
  subst hv
  exact .inr ⟨f, _, run_callFn ho hf hname hb w, h⟩
/-- Take number i first: a call that only reads. -/
theorem takeC (i : Nat) {n : Nat} {oi : Oper} {v : Value} {fuel : Nat} {listed : Array Bool} {ts : Array Value} {ds : List Deferred} {w : World} {d : Tmp} (hi : ops[i]? = some oi) (hd : oi.dst = some d)
    (hs : Region.noSelect ops = true) (hf : Region.free md ops listed i = true) (hr : (Region.ready md ops listed).contains i = true) (hgt : gateOk md ops n i listed = true) (hni : n ≠ i)
    (hQ : ∀ c (a : Act) d v w, Q (.panic c) (a.put d v) w → Q (.panic c) a w) (hg : oi.guard = none) (hy : ∀ w, S w → OnlyV P ((execOp (Act.eval ⟨ts, ds⟩) oi).run P w) v w) (hS : S w)
    (h : wpAnyG P md ops Q n S fuel (listed.setIfInBounds i true) ⟨ts.setIfInBounds d v, ds⟩ w) : wpAnyG P md ops Q n S (fuel + 1) listed ⟨ts, ds⟩ w :=
  wpAnyG_first hi (Region.noSelect_spec hs) (fun c a w => hQ c a _ _ w) (gateOk_spec hgt).2 hni fuel listed _ w (Region.free_spec hi hf) (by simpa using hr) (gateOk_spec hgt).1 ⟨hg, hy⟩ hS (by rw [hd]; exact h)
/-- Take number i first: it yields a value by itself. -/
theorem takeV (i : Nat) {n : Nat} {oi : Oper} {v : Value} {fuel : Nat} {listed : Array Bool} {ts : Array Value} {ds : List Deferred} {w : World} {d : Tmp} (hi : ops[i]? = some oi) (hd : oi.dst = some d)
    (hs : Region.noSelect ops = true) (hf : Region.free md ops listed i = true) (hr : (Region.ready md ops listed).contains i = true) (hgt : gateOk md ops n i listed = true) (hni : n ≠ i)
    (hQ : ∀ c (a : Act) d v w, Q (.panic c) (a.put d v) w → Q (.panic c) a w) (hg : oi.guard = none) (hy : ∀ w, S w → (execOp (Act.eval ⟨ts, ds⟩) oi).run P w = .ok (.value v) w) (hS : S w)
    (h : wpAnyG P md ops Q n S fuel (listed.setIfInBounds i true) ⟨ts.setIfInBounds d v, ds⟩ w) : wpAnyG P md ops Q n S (fuel + 1) listed ⟨ts, ds⟩ w :=
  takeC i hi hd hs hf hr hgt hni hQ hg (fun w hw => .inl (hy w hw)) hS h
/-- Take number i first: it yields a value in whatever world, before the gate and behind it. -/
theorem takeW (i : Nat) {n : Nat} {oi : Oper} {v : Value} {fuel : Nat} {listed : Array Bool} {ts : Array Value} {ds : List Deferred} {w : World} {d : Tmp} (hi : ops[i]? = some oi) (hd : oi.dst = some d)
    (hs : Region.noSelect ops = true) (hf : Region.free md ops listed i = true) (hr : (Region.ready md ops listed).contains i = true) (hni : n ≠ i)
    (hQ : ∀ c (a : Act) d v w, Q (.panic c) (a.put d v) w → Q (.panic c) a w) (hg : oi.guard = none) (hy : ∀ w, (execOp (Act.eval ⟨ts, ds⟩) oi).run P w = .ok (.value v) w) (hS : listed.getD n false = false → S w)
    (h : wpAnyG P md ops Q n S fuel (listed.setIfInBounds i true) ⟨ts.setIfInBounds d v, ds⟩ w) : wpAnyG P md ops Q n S (fuel + 1) listed ⟨ts, ds⟩ w :=
  wpAnyG_free hi (Region.noSelect_spec hs) (fun c a w => hQ c a _ _ w) hni fuel listed _ w (Region.free_spec hi hf) (by simpa using hr) ⟨hg, fun w _ => .inl (hy w)⟩ hS (by rw [hd]; exact h)
/-- Number i alone may come up now. S is shown behind it, unless the gate is passed. -/
theorem stepG (i : Nat) {n : Nat} {o : Oper} {fuel : Nat} {listed : Array Bool} {a : Act} {w : World} (hr : Region.ready md ops listed = [i]) (ho : ops[i]? = some o)
    (h : ∀ K' : Act → World → Prop, Shut (∀ a w, S w → (S w → wpAnyG P md ops Q n S fuel (listed.setIfInBounds i true) a w) → K' a w) → if Region.wanted o (yielded ops a.tmps) = true then Oper.wp P o a w K' Q else K' (a.put o.dst undef) w) :
    wpAnyG P md ops Q n S (fuel + 1) listed a w := by
  refine ⟨fun e => absurd (hr.symm.trans e) (by simp), fun j hj => ?_⟩
  rw [hr, List.mem_singleton] at hj
  subst hj
  exact wpOp_step ho fun K' hK => h K' fun a w hS hW => hK a w ⟨fun _ => hS, hW hS⟩
theorem stepGate (i : Nat) {n : Nat} {o : Oper} {fuel : Nat} {listed : Array Bool} {a : Act} {w : World} (hr : Region.ready md ops listed = [i]) (hgp : (listed.setIfInBounds i true).getD n false = true) (ho : ops[i]? = some o)
    (h : ∀ K' : Act → World → Prop, Shut (∀ a w, wpAnyG P md ops Q n S fuel (listed.setIfInBounds i true) a w → K' a w) → if Region.wanted o (yielded ops a.tmps) = true then Oper.wp P o a w K' Q else K' (a.put o.dst undef) w) :
    wpAnyG P md ops Q n S (fuel + 1) listed a w := by
  refine ⟨fun e => absurd (hr.symm.trans e) (by simp), fun j hj => ?_⟩
  rw [hr, List.mem_singleton] at hj
  subst hj
  exact wpOp_step ho fun K' hK => h K' fun a w hW => hK a w ⟨(fun e => by rw [hgp] at e; cases e), hW⟩
/-- All have come up. -/
theorem doneG {n : Nat} {listed : Array Bool} {a : Act} {w : World} (hr : Region.ready md ops listed = []) (h : Q .normal a w) : ∀ fuel, wpAnyG P md ops (NoPanic Q) n S fuel listed a w
  | 0 => ⟨hr, NoPanic.normal h⟩
  | _ + 1 => ⟨fun _ => NoPanic.normal h, by rw [hr]; simp⟩
end
end Go.Proofs.Ytihbpmceggghgaa
