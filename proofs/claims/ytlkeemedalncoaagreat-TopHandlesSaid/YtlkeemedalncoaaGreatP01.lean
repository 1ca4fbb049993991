/- TopHandles, part 1: no condition. -/
import Derived.Deep.RegionHeld3
import Derived.WalkKit
import Derived.ProofKit
import Derived.OpenShut
import Derived.ShutString
import Derived.ChangeOld
import Derived.Below
import Derived.Lib.Hide
import Derived.Laws.CopyOwn
import Derived.Laws.BytesArg
import Derived.Deep.Draws
import Derived.Laws.OwnMore
import Derived.Laws.Rows
set_option linter.all false
set_option maxHeartbeats 16000000
set_option maxRecDepth 100000
namespace Go.Proofs.YtlkeemedalncoaaGreat
open Go
section
variable {P:Program} {ops:Array Oper} {Q:Exit→Act→World→Prop} {md:Region.Mode} {S:World→Prop}
def AE (P:Program) (r:Result Next) (v:Value) (w:World):Prop:=
 r = .ok (.value v) w∨∃ f args,r = .ok (.enter f args) w∧Calls P f args w fun e w'=>e = .returned v∧w=w'
def YieldsC (P:Program) (S:World→Prop) (o:Oper) (v:Value) (a:Act):Prop:=
 o.guard=none∧∀ w,S w→AE P ((execOp a.eval o).run P w) v w
theorem YieldsC.same {o:Oper} {v:Value} {a b:Act} (h:YieldsC P S o v a) (c:execOp b.eval o=execOp a.eval o):YieldsC P S o v b:=
 ⟨h.1,by rw [c];exact h.2⟩
theorem YieldsC.op {i:Nat} {o:Oper} {v:Value} {a:Act} {w:World} {K:Act→World→Prop} (hi:ops[i]?=some o) (h:YieldsC P S o v a) (c:S w) (b:K (a.put o.dst v) w):wpOp P ops Q i K a w:=by
 have d:Region.wanted o (yielded ops a.tmps)=true:=by simp [Region.wanted,h.1]
 unfold wpOp
 simp only [hi,d,if_true]
 refine .inl ?_
 rcases h.2 w c with e | ⟨f,args,e,hc⟩
 · simp only [Oper.wp,e,Oper.upon];exact b
 · simp only [Oper.wp,e,Oper.upon]
   refine Calls.mono hc ?_
   rintro _ _ ⟨rfl,rfl⟩
   exact b
theorem YieldsC.past {j:Nat} {g i:Oper} {v:Value} {K:Act→World→Prop} {a:Act} {w:World} (t:ops[j]?=some i) (n:g.apart ops i=true)
 (l:∀ cs b,g.op≠.select cs b) (o:∀ cs b,i.op≠.select cs b) (p:∀ c a w,Q (.panic c) (a.put g.dst v) w→Q (.panic c) a w)
 (q:YieldsC P S g v a) (h:wpOp P ops Q j K (a.put g.dst v) w):wpOp P ops Q j (fun a' w'=>YieldsC P S g v a'∧K (a'.put g.dst v) w') a w:=by
 obtain ⟨p1,p2,p3⟩:=Oper.apart_spec n
 have m:∀ u,YieldsC P S g v (a.put i.dst u):=fun u=>q.same (execOp_put g l a i.dst u p3)
 have k:∀ (b:Act) u,(b.put i.dst u).put g.dst v=(b.put g.dst v).put i.dst u:=fun b u=>(Act.put_comm b v u p2).symm
 have s:execOp (a.put g.dst v).eval i=execOp a.eval i:=execOp_put i o a g.dst v p1
 unfold wpOp at h ⊢
 rw [t] at h ⊢
 simp only at h ⊢
 rw [wanted_put i a g.dst v p1] at h
 by_cases hw:Region.wanted i (yielded ops a.tmps)=true
 · rw [if_pos hw] at h ⊢
   rcases h with h | ⟨ha,hl⟩
   · left
     unfold Oper.wp at h ⊢
     rw [s] at h
     revert h
     generalize (execOp a.eval i).run P w=r
     intro h
     match r with
     | .ok (.value u) w'=>exact ⟨m u,by rw [k];exact h⟩
     | .ok .skip w'=>exact ⟨m _,by rw [k];exact h⟩
     | .ok (.defer d) w'=>
      have h0:K ((({a.put g.dst v with defers:=d::(a.put g.dst v).defers}:Act)).put i.dst undef) w':=h
      rw [Act.put_defers,← k] at h0
      exact ⟨YieldsC.same (a:=a) q (execOp_put g l {a with defers:=d::a.defers} i.dst undef p3),h0⟩
     | .ok (.enter f args) w'=>
      refine Calls.mono h fun e w2 he=>?_
      match e with
      | .returned u=>exact ⟨m u,by rw [k];exact he⟩
      | .panicked c=>exact p _ _ _ he
      | .outgrown=>exact he
     | .ok (.row row args) w'=>exact Rows.mono h fun u w2 he=>⟨m u,by rw [k];exact he⟩
     | .halt (.panic u) w'=>exact p _ _ _ h
     | .halt x w'=>
      cases x <;> first | exact p _ _ _ h | exact h
   · right
     refine ⟨?_,hl⟩
     unfold Oper.asks at ha ⊢
     rwa [s] at ha
 · rw [if_neg hw] at h ⊢
   exact ⟨m _,by rw [k];exact h⟩
def wpAnyG (P:Program) (md:Region.Mode) (ops:Array Oper) (Q:Exit→Act→World→Prop) (n:Nat) (S:World→Prop):Nat→Array Bool→Act→World→Prop
 | 0,listed,a,w=>Region.ready md ops listed=[]∧Q .normal a w
 | fuel+1,listed,a,w=>(Region.ready md ops listed=[]→Q .normal a w) ∧
  ∀ i∈Region.ready md ops listed,wpOp P ops Q i (fun a' w'=>((listed.setIfInBounds i true).getD n false=false→S w')∧wpAnyG P md ops Q n S fuel (listed.setIfInBounds i true) a' w') a w
theorem wpAnyG.any {n:Nat} (b:Nat):∀ (listed:Array Bool) (a:Act) (w:World),wpAnyG P md ops Q n S b listed a w→wpAny P md ops Q b listed a w:=by
 induction b with
 | zero=>exact fun _ _ _ h=>h
 | succ f ih=>exact fun _ _ _ h=>⟨h.1,fun i hi=>wpOp_mono (fun a' w' k=>ih _ a' w' k.2) (h.2 i hi)⟩
def ns (md:Region.Mode) (ops:Array Oper) (n i:Nat) (listed:Array Bool):Bool:=
 !listed.getD n false&&(decide (ops.size≤n)||match ops[n]? with | some o=>o.after.any (fun e=>Region.binds md e&&e.on==i) | none=>true)
theorem lB {n i:Nat} {a:Array Bool} (h:ns md ops n i a=true) :
 a.getD n false=false∧(∀ o,ops[n]?=some o→∃ e∈o.after,Region.binds md e=true∧e.on=i):=by
 unfold ns at h
 rw [Bool.and_eq_true] at h
 refine ⟨by simpa using h.1,fun o ho=>?_⟩
 have b:n<ops.size:=(Array.getElem?_eq_some_iff.1 ho).1
 have h2:=h.2
 rw [ho] at h2
 simp only [Bool.or_eq_true,decide_eq_true_eq] at h2
 rcases h2 with h2 | h2
 · omega
 · obtain ⟨e,he,hb⟩:=Array.any_eq_true'.1 h2
   simp only [Bool.and_eq_true,beq_iff_eq] at hb
   exact ⟨e,he,hb.1,hb.2⟩
theorem tG {n i:Nat} {l:Oper} {v:Value} (hi:ops[i]?=some l) (f:∀ (j:Nat) (o:Oper) cs b,ops[j]?=some o→o.op≠.select cs b)
 (t:∀ c a w,Q (.panic c) (a.put l.dst v) w→Q (.panic c) a w) (g:n≠i) (d:Nat) :
 ∀ (listed:Array Bool) (a:Act) (w:World),
  (∀ j oj,ops[j]?=some oj→j≠i→listed.getD j true=false→(∀ e∈oj.after,Region.binds md e=true→e.on≠i)→l.apart ops oj=true) →
  i∈Region.ready md ops listed→YieldsC P (fun _=>True) l v a→(listed.getD n false=false→S w) →
  wpAnyG P md ops Q n S d (listed.setIfInBounds i true) (a.put l.dst v) w→wpAnyG P md ops Q n S (d+1) listed a w:=by
 induction d with
 | zero=>
  intro listed a w _ hr hy hS H
  refine ⟨fun h=>absurd hr (by simp [h]),fun j hj=>?_⟩
  rcases Nat.decEq j i with hne | rfl
  · have r:=ready_mono hj hne
    rw [H.1] at r
    exact absurd r (by simp)
  · exact hy.op hi trivial ⟨fun e=>hS (by rwa [getD_set_ne false (Ne.symm g)] at e),H⟩
 | succ d ih=>
  intro listed a w hfree hr hy hS H
  refine ⟨fun h=>absurd hr (by simp [h]),fun j hj=>?_⟩
  rcases Nat.decEq j i with hne | rfl
  · obtain ⟨hun,oj,hoj,hall⟩:=mem_ready.1 hj
    have q:∀ e∈oj.after,Region.binds md e=true→e.on≠i:=by
     intro e he hb heq
     have p:=hall e he hb
     have s:=(mem_ready.1 hr).1
     rw [heq] at p
     by_cases hlt:i<listed.size
     · simp [hlt] at p s;simp [s] at p
     · simp [hlt] at p
    refine wpOp_mono ?_ (hy.past hoj (hfree j oj hoj hne hun q) (fun cs b=>f i l cs b hi) (fun cs b=>f j oj cs b hoj) t (H.2 j (ready_mono hj hne)))
    rintro a' w' ⟨hy',hS',H'⟩
    have m:(listed.setIfInBounds j true).getD n false=false→S w':=fun e=>hS' (by rwa [Array.setIfInBounds_comm _ _ (Ne.symm hne),getD_set_ne false (Ne.symm g)])
    refine ⟨m,ih _ a' w' ?_ (ready_mono hr (Ne.symm hne)) hy' m (by rw [Array.setIfInBounds_comm _ _ hne];exact H')⟩
    intro k ok hk hki hku hkno
    refine hfree k ok hk hki ?_ hkno
    by_cases hjk:j=k
    · rw [← hjk];exact hun
    · rwa [getD_set_ne true hjk] at hku
  · exact hy.op hi trivial ⟨fun e=>hS (by rwa [getD_set_ne false (Ne.symm g)] at e),H⟩
end
section
variable {P:Program} {ops:Array Oper} {Q:Exit→Act→World→Prop} {md:Region.Mode} {S:World→Prop}
def YieldsD (P:Program) (ops:Array Oper) (S:World→Prop) (o:Oper) (v:Value) (a:Act):Prop:=
 Region.wanted o (yielded ops a.tmps)=true∧∀ w,S w→AE P ((execOp a.eval o).run P w) v w
theorem YieldsD.same {o:Oper} {v:Value} {a b:Act} (h:YieldsD P ops S o v a) (c:execOp b.eval o=execOp a.eval o) (d:Region.wanted o (yielded ops b.tmps)=Region.wanted o (yielded ops a.tmps)):YieldsD P ops S o v b:=
 ⟨by rw [d];exact h.1,by rw [c];exact h.2⟩
theorem YieldsD.op {i:Nat} {o:Oper} {v:Value} {a:Act} {w:World} {K:Act→World→Prop} (hi:ops[i]?=some o) (h:YieldsD P ops S o v a) (c:S w) (b:K (a.put o.dst v) w):wpOp P ops Q i K a w:=by
 have d:=h.1
 unfold wpOp
 simp only [hi,d,if_true]
 refine .inl ?_
 rcases h.2 w c with e | ⟨f,args,e,hc⟩
 · simp only [Oper.wp,e,Oper.upon];exact b
 · simp only [Oper.wp,e,Oper.upon]
   refine Calls.mono hc ?_
   rintro _ _ ⟨rfl,rfl⟩
   exact b
theorem YieldsD.past {j:Nat} {g i:Oper} {v:Value} {K:Act→World→Prop} {a:Act} {w:World} (t:ops[j]?=some i) (n:g.apart ops i=true)
 (l:∀ cs b,g.op≠.select cs b) (o:∀ cs b,i.op≠.select cs b) (p:∀ c a w,Q (.panic c) (a.put g.dst v) w→Q (.panic c) a w)
 (q:YieldsD P ops S g v a) (h:wpOp P ops Q j K (a.put g.dst v) w):wpOp P ops Q j (fun a' w'=>YieldsD P ops S g v a'∧K (a'.put g.dst v) w') a w:=by
 obtain ⟨p1,p2,p3⟩:=Oper.apart_spec n
 have m:∀ u,YieldsD P ops S g v (a.put i.dst u):=fun u=>q.same (execOp_put g l a i.dst u p3) (wanted_put g a i.dst u p3)
 have k:∀ (b:Act) u,(b.put i.dst u).put g.dst v=(b.put g.dst v).put i.dst u:=fun b u=>(Act.put_comm b v u p2).symm
 have s:execOp (a.put g.dst v).eval i=execOp a.eval i:=execOp_put i o a g.dst v p1
 unfold wpOp at h ⊢
 rw [t] at h ⊢
 simp only at h ⊢
 rw [wanted_put i a g.dst v p1] at h
 by_cases hw:Region.wanted i (yielded ops a.tmps)=true
 · rw [if_pos hw] at h ⊢
   rcases h with h | ⟨ha,hl⟩
   · left
     unfold Oper.wp at h ⊢
     rw [s] at h
     revert h
     generalize (execOp a.eval i).run P w=r
     intro h
     match r with
     | .ok (.value u) w'=>exact ⟨m u,by rw [k];exact h⟩
     | .ok .skip w'=>exact ⟨m _,by rw [k];exact h⟩
     | .ok (.defer d) w'=>
      have h0:K ((({a.put g.dst v with defers:=d::(a.put g.dst v).defers}:Act)).put i.dst undef) w':=h
      rw [Act.put_defers,← k] at h0
      exact ⟨YieldsD.same (a:=a) q (execOp_put g l {a with defers:=d::a.defers} i.dst undef p3) (wanted_put g {a with defers:=d::a.defers} i.dst undef p3),h0⟩
     | .ok (.enter f args) w'=>
      refine Calls.mono h fun e w2 he=>?_
      match e with
      | .returned u=>exact ⟨m u,by rw [k];exact he⟩
      | .panicked c=>exact p _ _ _ he
      | .outgrown=>exact he
     | .ok (.row row args) w'=>exact Rows.mono h fun u w2 he=>⟨m u,by rw [k];exact he⟩
     | .halt (.panic u) w'=>exact p _ _ _ h
     | .halt x w'=>
      cases x <;> first | exact p _ _ _ h | exact h
   · right
     refine ⟨?_,hl⟩
     unfold Oper.asks at ha ⊢
     rwa [s] at ha
 · rw [if_neg hw] at h ⊢
   exact ⟨m _,by rw [k];exact h⟩
theorem qK {n i:Nat} {l:Oper} {v:Value} (hi:ops[i]?=some l) (f:∀ (j:Nat) (o:Oper) cs b,ops[j]?=some o→o.op≠.select cs b)
 (y:∀ c a w,Q (.panic c) (a.put l.dst v) w→Q (.panic c) a w) (g:∀ o,ops[n]?=some o→∃ e∈o.after,Region.binds md e=true∧e.on=i) (t:n≠i) (d:Nat) :
 ∀ (listed:Array Bool) (a:Act) (w:World),
  (∀ j oj,ops[j]?=some oj→j≠i→listed.getD j true=false→(∀ e∈oj.after,Region.binds md e=true→e.on≠i)→l.apart ops oj=true) →
  i∈Region.ready md ops listed→listed.getD n false=false→YieldsD P ops S l v a→S w →
  wpAnyG P md ops Q n S d (listed.setIfInBounds i true) (a.put l.dst v) w→wpAnyG P md ops Q n S (d+1) listed a w:=by
 induction d with
 | zero=>
  intro listed a w _ hr _ hy hS H
  refine ⟨fun h=>absurd hr (by simp [h]),fun j hj=>?_⟩
  rcases Nat.decEq j i with hne | rfl
  · have u:=ready_mono hj hne
    rw [H.1] at u
    exact absurd u (by simp)
  · exact hy.op hi hS ⟨fun _=>hS,H⟩
 | succ d ih=>
  intro listed a w hfree hr hln hy hS H
  refine ⟨fun h=>absurd hr (by simp [h]),fun j hj=>?_⟩
  rcases Nat.decEq j i with hne | rfl
  · obtain ⟨hun,oj,hoj,hall⟩:=mem_ready.1 hj
    have m:∀ e∈oj.after,Region.binds md e=true→e.on≠i:=by
     intro e he hb heq
     have s:=hall e he hb
     have x:=(mem_ready.1 hr).1
     rw [heq] at s
     by_cases hlt:i<listed.size
     · simp [hlt] at s x;simp [x] at s
     · simp [hlt] at s
    have p:j≠n:=by
     intro e
     subst e
     obtain ⟨e,he,hb,hon⟩:=g oj hoj
     exact m e he hb hon
    have q:(listed.setIfInBounds j true).getD n false=false:=by rw [getD_set_ne false p];exact hln
    refine wpOp_mono ?_ (hy.past hoj (hfree j oj hoj hne hun m) (fun cs b=>f i l cs b hi) (fun cs b=>f j oj cs b hoj) y (H.2 j (ready_mono hj hne)))
    rintro a' w' ⟨hy',hS',H'⟩
    have r:S w':=hS' (by rw [getD_set_ne false p,getD_set_ne false (Ne.symm t)];exact hln)
    refine ⟨fun _=>r,ih _ a' w' ?_ (ready_mono hr (Ne.symm hne)) q hy' r (by rw [Array.setIfInBounds_comm _ _ hne];exact H')⟩
    intro k ok hk hki hku hkno
    refine hfree k ok hk hki ?_ hkno
    by_cases hjk:j=k
    · rw [← hjk];exact hun
    · rwa [getD_set_ne true hjk] at hku
  · exact hy.op hi hS ⟨fun _=>hS,H⟩
end
section
variable {P:Program} {ops:Array Oper} {Q:Exit→Act→World→Prop} {md:Region.Mode} {S:World→Prop}
def YieldsU (ops:Array Oper) (o:Oper) (a:Act):Prop:=Region.wanted o (yielded ops a.tmps)=false
theorem YieldsU.same {o:Oper} {a b:Act} (h:YieldsU ops o a) (c:Region.wanted o (yielded ops b.tmps)=Region.wanted o (yielded ops a.tmps)):YieldsU ops o b:=by
 unfold YieldsU;rw [c];exact h
theorem YieldsU.op {i:Nat} {o:Oper} {a:Act} {w:World} {K:Act→World→Prop} (hi:ops[i]?=some o) (h:YieldsU ops o a) (b:K (a.put o.dst undef) w):wpOp P ops Q i K a w:=by
 unfold YieldsU at h
 unfold wpOp
 simp only [hi,h,Bool.false_eq_true,if_false]
 exact b
theorem YieldsU.past {j:Nat} {g i:Oper} {K:Act→World→Prop} {a:Act} {w:World} (s:ops[j]?=some i) (m:g.apart ops i=true)
 (t:∀ cs b,g.op≠.select cs b) (n:∀ cs b,i.op≠.select cs b) (o:∀ c a w,Q (.panic c) (a.put g.dst undef) w→Q (.panic c) a w)
 (p:YieldsU ops g a) (h:wpOp P ops Q j K (a.put g.dst undef) w):wpOp P ops Q j (fun a' w'=>YieldsU ops g a'∧K (a'.put g.dst undef) w') a w:=by
 obtain ⟨p1,p2,p3⟩:=Oper.apart_spec m
 have l:∀ u,YieldsU ops g (a.put i.dst u):=fun u=>YieldsU.same p (wanted_put g a i.dst u p3)
 have k:∀ (b:Act) u,(b.put i.dst u).put g.dst undef=(b.put g.dst undef).put i.dst u:=fun b u=>(Act.put_comm b undef u p2).symm
 have q:execOp (a.put g.dst undef).eval i=execOp a.eval i:=execOp_put i n a g.dst undef p1
 unfold wpOp at h ⊢
 rw [s] at h ⊢
 simp only at h ⊢
 rw [wanted_put i a g.dst undef p1] at h
 by_cases hw:Region.wanted i (yielded ops a.tmps)=true
 · rw [if_pos hw] at h ⊢
   rcases h with h | ⟨ha,hl⟩
   · left
     unfold Oper.wp at h ⊢
     rw [q] at h
     revert h
     generalize (execOp a.eval i).run P w=r
     intro h
     match r with
     | .ok (.value u) w'=>exact ⟨l u,by rw [k];exact h⟩
     | .ok .skip w'=>exact ⟨l _,by rw [k];exact h⟩
     | .ok (.defer d) w'=>
      have h0:K ((({a.put g.dst undef with defers:=d::(a.put g.dst undef).defers}:Act)).put i.dst undef) w':=h
      rw [Act.put_defers,← k] at h0
      exact ⟨YieldsU.same (a:=a) p (wanted_put g {a with defers:=d::a.defers} i.dst undef p3),h0⟩
     | .ok (.enter f args) w'=>
      refine Calls.mono h fun e w2 he=>?_
      match e with
      | .returned u=>exact ⟨l u,by rw [k];exact he⟩
      | .panicked c=>exact o _ _ _ he
      | .outgrown=>exact he
     | .ok (.row row args) w'=>exact Rows.mono h fun u w2 he=>⟨l u,by rw [k];exact he⟩
     | .halt (.panic u) w'=>exact o _ _ _ h
     | .halt x w'=>
      cases x <;> first | exact o _ _ _ h | exact h
   · right
     refine ⟨?_,hl⟩
     unfold Oper.asks at ha ⊢
     rwa [q] at ha
 · rw [if_neg hw] at h ⊢
   exact ⟨l _,by rw [k];exact h⟩
theorem wa {n i:Nat} {l:Oper} (hi:ops[i]?=some l) (f:∀ (j:Nat) (o:Oper) cs b,ops[j]?=some o→o.op≠.select cs b)
 (t:∀ c a w,Q (.panic c) (a.put l.dst undef) w→Q (.panic c) a w) (g:n≠i) (d:Nat) :
 ∀ (listed:Array Bool) (a:Act) (w:World),
  (∀ j oj,ops[j]?=some oj→j≠i→listed.getD j true=false→(∀ e∈oj.after,Region.binds md e=true→e.on≠i)→l.apart ops oj=true) →
  i∈Region.ready md ops listed→YieldsU ops l a→(listed.getD n false=false→S w) →
  wpAnyG P md ops Q n S d (listed.setIfInBounds i true) (a.put l.dst undef) w→wpAnyG P md ops Q n S (d+1) listed a w:=by
 induction d with
 | zero=>
  intro listed a w _ hr hy hS H
  refine ⟨fun h=>absurd hr (by simp [h]),fun j hj=>?_⟩
  rcases Nat.decEq j i with hne | rfl
  · have r:=ready_mono hj hne
    rw [H.1] at r
    exact absurd r (by simp)
  · exact YieldsU.op hi hy ⟨fun e=>hS (by rwa [getD_set_ne false (Ne.symm g)] at e),H⟩
 | succ d ih=>
  intro listed a w hfree hr hy hS H
  refine ⟨fun h=>absurd hr (by simp [h]),fun j hj=>?_⟩
  rcases Nat.decEq j i with hne | rfl
  · obtain ⟨hun,oj,hoj,hall⟩:=mem_ready.1 hj
    have q:∀ e∈oj.after,Region.binds md e=true→e.on≠i:=by
     intro e he hb heq
     have p:=hall e he hb
     have s:=(mem_ready.1 hr).1
     rw [heq] at p
     by_cases hlt:i<listed.size
     · simp [hlt] at p s;simp [s] at p
     · simp [hlt] at p
    refine wpOp_mono ?_ (hy.past hoj (hfree j oj hoj hne hun q) (fun cs b=>f i l cs b hi) (fun cs b=>f j oj cs b hoj) t (H.2 j (ready_mono hj hne)))
    rintro a' w' ⟨hy',hS',H'⟩
    have m:(listed.setIfInBounds j true).getD n false=false→S w':=fun e=>hS' (by rwa [Array.setIfInBounds_comm _ _ (Ne.symm hne),getD_set_ne false (Ne.symm g)])
    refine ⟨m,ih _ a' w' ?_ (ready_mono hr (Ne.symm hne)) hy' m (by rw [Array.setIfInBounds_comm _ _ hne];exact H')⟩
    intro k ok hk hki hku hkno
    refine hfree k ok hk hki ?_ hkno
    by_cases hjk:j=k
    · rw [← hjk];exact hun
    · rwa [getD_set_ne true hjk] at hku
  · exact YieldsU.op hi hy ⟨fun e=>hS (by rwa [getD_set_ne false (Ne.symm g)] at e),H⟩
end
end Go.Proofs.YtlkeemedalncoaaGreat
namespace Go.Proofs.YtlkeemedalncoaaGreat
open Go.RowKit
abbrev B8 (x:UInt8):Value:=.int .u8 (x.toNat:Int)
structure Rd (w:World) (A:Option Addr) (n c:Nat) (l:List UInt8):Prop where
 len:n=l.length
 cap:n≤c
 max:c≤maxLen
 at_:0<n→∃ b o,A=some ⟨b,o,none⟩∧∀ j,j<n→w.cell? ⟨b,o+j,none⟩=some (B8 (l.getD j 0))
theorem Rd.keep {w w':World} {A:Option Addr} {n c:Nat} {l:List UInt8} (h:Rd w A n c l) (a:∀ (p:Addr) u,w.cell? p=some u→w'.cell? p=some u):Rd w' A n c l:=
 ⟨h.len,h.cap,h.max,fun hn=>by
  obtain ⟨b,o,e,hc⟩:=h.at_ hn
  exact ⟨b,o,e,fun j hj=>a _ _ (hc j hj)⟩⟩
theorem Rd.below {w w':World} {A:Option Addr} {n c:Nat} {l:List UInt8} (h:Rd w A n c l) (hb:Below w.heap.size w w'):Rd w' A n c l:=
 h.keep fun p u hu=>(hb.cell (World.block_lt_of_cell? w p hu)).trans hu
theorem Rd.none_ (w:World):Rd w none 0 0 []:=⟨rfl,Nat.le_refl _,by unfold maxLen;omega,fun h=>absurd h (by omega)⟩
theorem Rd.of_own {w:World} {base:Nat} {e:TypeId} {A:Option Addr} {n c:Nat} {l:List UInt8} (h:w.ownsRow base e 1 (.slice A n c) n (l.map B8)):Rd w A n c l:=by
 have a:n=l.length:=by have:=h.1;simpa using this.symm
 rcases h.2 with ⟨hv,hn⟩ | ⟨g,cap,cur,hv,_,hg,hnc,hmax,hs,ht⟩
 · injection hv with h1 h2 h3
   subst h1;subst h3
   exact ⟨a,by omega,by unfold maxLen;omega,fun h=>absurd h (by omega)⟩
 · injection hv with h1 h2 h3
   subst h1;subst h3
   refine ⟨a,hnc,hmax,fun hn=>⟨g,0,rfl,fun j hj=>?_⟩⟩
   have:=h.cells (g:=g) rfl j (B8 (l.getD j 0)) (by
    simp [List.getElem?_map,List.getD,List.getElem?_eq_getElem (show j<l.length by omega)])
   rw [Addr.add_lit] at this
   exact this
section
variable {w w':World} {g:Nat} {t:TypeId} {cs:Array Value}
end
end Go.Proofs.YtlkeemedalncoaaGreat
