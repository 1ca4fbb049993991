/- TopHandles, part 3: no condition. -/
import Derived.Maps.RangeRun
import Derived.MapKept
import Derived.Laws.AppendOwn
import Derived.Deep.MidRow
import Derived.Great.FillDense
import Derived.Laws.CopyRow
import Derived.Laws.MakeOwn
import Derived.Test.YtlkeemedalncoaaGreatProg
import Derived.Test.YtlkeemedalncoaaGreatRows
import Derived.Deep.QuietTactic
import Derived.BigQuiet
import Derived.Test.YtlkeemedalncoaaGreatP02
set_option linter.all false
set_option maxHeartbeats 16000000
set_option maxRecDepth 100000
namespace Go.Proofs.YtlkeemedalncoaaGreat.En
open Go Go.Proofs.YtlkeemedalncoaaGreat
def vS (s:Sem Vl):Sem Next:=s.bind fun a=>.pure (.value a)
def uS (s:Sem Unit):Sem Next:=s.bind fun _=>.pure .skip
theorem ce {P:Program} {s:Sem Vl} {w w':World} {v:Vl} (h:s.run P w = .ok v w'):(vS s).run P w = .ok (.value v) w':=by
 unfold vS
 rw [show (s.bind fun a=>Sem.pure (Next.value a))=(s >>= fun a=>Sem.pure (Next.value a)) from rfl,Sem.run_bind,h]
 rfl
theorem r7 {P:Program} {s:Sem Unit} {w w':World} (h:s.run P w = .ok () w'):(uS s).run P w = .ok .skip w':=by
 unfold uS
 rw [show (s.bind fun _=>Sem.pure Next.skip)=(s >>= fun _=>Sem.pure Next.skip) from rfl,Sem.run_bind,h]
 rfl
section
variable {K:Type} [DecidableEq K]
def bB (enc:K→Vl) (l:List (K×Vl)) (o:Obj):Prop:=
 ∃ es clock,o = .map es clock∧es.toList.map (fun e=>(e.key,e.val))=l.map (fun p=>(enc p.1,p.2))∧(es.toList.map (·.born)).Nodup∧∀ x∈es.toList,x.born<clock
def eV:List (K×Vl)→K→Nat→Option (Nat×Vl)
 | [],_,_=>none
 | (m,v)::l,k,i=>if k=m then some (i,v) else eV l k (i+1)
def lk (l:List (K×Vl)) (k:K):Option Vl:=(eV l k 0).map (·.2)
def up:List (K×Vl)→K→Vl→List (K×Vl)
 | [],k,v=>[(k,v)]
 | (m,u)::l,k,v=>if k=m then (k,v)::l else (m,u)::up l k v
def del:List (K×Vl)→K→List (K×Vl)
 | [],_=>[]
 | (m,u)::l,k=>if k=m then l else (m,u)::del l k
structure KeyLaw (P:Program) (kt:TypeId) (enc:K→Vl):Prop where
 chk:∀ (e:Bool) (k:K) (w:World),(Instr.checkKey e 10000 kt (enc k)).run P w = .ok () w
 find:∀ (k:K) (es:List MapEntry) (l:List (K×Vl)) (w:World),es.map (fun e=>(e.key,e.val))=l.map (fun p=>(enc p.1,p.2))→(Instr.findKey kt (enc k) es).run P w = .ok (eV l k 0) w
 stays:∀ (k:K) (w:World),(Instr.keyThatStays (enc k) (enc k)).run P w = .ok (enc k) w
variable {P:Program} {enc:K→Vl} {kt et t:TypeId}
theorem ow {l:List (K×Vl)} {k:K} {i j:Nat} {v:Vl} (h:eV l k i=some (j,v)):i≤j∧l[j-i]?=some (k,v):=by
 induction l generalizing i with
 | nil=>cases h
 | cons x l ih=>
  obtain ⟨m,u⟩:=x
  unfold eV at h
  split at h
  · rename_i e
    injection h with h;injection h with h1 h2
    subst h1;subst h2;subst e
    exact ⟨Nat.le_refl _,by simp⟩
  · obtain ⟨h1,h2⟩:=ih h
    refine ⟨by omega,?_⟩
    rw [show j-i=(j-(i+1))+1 by omega]
    simpa using h2
theorem Bg {l:List (K×Vl)} {k:K} {i j:Nat} {v u:Vl} (h:eV l k i=some (j,u)):up l k v=l.modify (j-i) (fun _=>(k,v)):=by
 induction l generalizing i with
 | nil=>cases h
 | cons x l ih=>
  obtain ⟨m,u'⟩:=x
  unfold eV at h
  unfold up
  split at h
  · rename_i e
    injection h with h;injection h with h1 h2
    subst h1
    rw [if_pos e]
    simp
  · rename_i e
    have h1:=(ow h).1
    rw [if_neg e,ih h,show j-i=(j-(i+1))+1 by omega,List.modify_succ_cons]
theorem Bd {l:List (K×Vl)} {k:K} {i:Nat} {v:Vl} (h:eV l k i=none):up l k v=l++[(k,v)]:=by
 induction l generalizing i with
 | nil=>rfl
 | cons x l ih=>
  obtain ⟨m,u'⟩:=x
  unfold eV at h
  unfold up
  split at h
  · cases h
  · rename_i e;rw [if_neg e,ih h];rfl
theorem zp {l:List (K×Vl)} {k:K} {i j:Nat} {u:Vl} (h:eV l k i=some (j,u)):del l k=l.eraseIdx (j-i):=by
 induction l generalizing i with
 | nil=>cases h
 | cons x l ih=>
  obtain ⟨m,u'⟩:=x
  unfold eV at h
  unfold del
  split at h
  · rename_i e
    injection h with h;injection h with h1 h2
    subst h1
    rw [if_pos e]
    simp
  · rename_i e
    have h1:=(ow h).1
    rw [if_neg e,ih h,show j-i=(j-(i+1))+1 by omega,List.eraseIdx_cons_succ]
theorem oC {l:List (K×Vl)} {k:K} {i:Nat} (h:eV l k i=none):del l k=l:=by
 induction l generalizing i with
 | nil=>rfl
 | cons x l ih=>
  obtain ⟨m,u'⟩:=x
  unfold eV at h
  unfold del
  split at h
  · cases h
  · rename_i e;rw [if_neg e,ih h]
theorem mG {α β:Type} (f:α→β) (l:List α) (i:Nat):(l.eraseIdx i).map f=(l.map f).eraseIdx i:=by
 induction l generalizing i with
 | nil=>rfl
 | cons x l ih=>
  cases i with
  | zero=>rfl
  | succ i=>simp [ih]
theorem wj (a:KeyLaw P kt enc) (c:P.underlying t=some (.map kt et)) {z:Vl} (d:∀ w,(zeroValue et).run P w = .ok z w) (r:Nat) (l:List (K×Vl)) (k:K) (ok:Bool) :
 RunTri P (vS (Instr.lookup t (.map (some r)) (enc k) ok)) [(r,.pr (bB enc l))] [] uT (fun _=>if ok then .tuple #[(lk l k).getD z,.bool (lk l k).isSome] else (lk l k).getD z) (fun _=>[]) (fun _=>[]):=by
 intro w ho
 obtain ⟨o,h1,es,clock,rfl,h2,h3,h4⟩:=ho.at_ 0 r _ rfl rfl
 refine ⟨_,w,⟨(),trivial,.inl rfl,ho,Fr.refl _ _,fun b hb=>by cases hb⟩,?_⟩
 apply ce
 have e:=a.find k es.toList l w h2
 have f:=run_underlying c w
 have hc:=a.chk es.isEmpty k w
 unfold Instr.lookup
 simp only [Sem.run_bind,f,Result.andThen,getObj,Sem.run,h1,hc,e,pure]
 unfold lk
 cases hh:eV l k 0 with
 | none=>simp [Sem.run_bind,d,Result.andThen,Sem.run]
 | some x=>obtain ⟨i,v⟩:=x;simp [Sem.run_bind,Result.andThen,Sem.run]
theorem kf {w:World} {r:Nat} {b:Array MapEntry} {a:Nat} (h:w.heap[r]?=some (.map b a)) (o:Obj):(setObj r o).run P w = .ok () {w with heap:=w.heap.setIfInBounds r o}:=by
 simp [setObj,Sem.run,h]
theorem ke {w:World} {r:Nat} {s s':SB} {o:Obj} (d:Own ([]++[(r,s)]) w) (hs:s.live=true) (b:s'.ok o):Own ([]++[(r,s')]++[]) {w with heap:=w.heap.setIfInBounds r o}∧Fr (lv [(r,s)]) w {w with heap:=w.heap.setIfInBounds r o}:=by
 obtain ⟨o0,h1,h2⟩:=d.at_ 0 r s rfl hs
 have c:=dR h1
 have a:∀ i,i≠r→(w.heap.setIfInBounds r o)[i]?=w.heap[i]?:=fun i hi=>by rw [Array.getElem?_setIfInBounds_ne (Ne.symm hi)]
 refine ⟨d.put (j:=0) rfl hs ⟨o,by simp [c],b⟩ a,⟨rfl,rfl,rfl,by simp,fun i hi hM=>a i fun e=>hM ?_⟩⟩
 subst e
 exact da (j:=0) rfl hs
theorem l5 (c:KeyLaw P kt enc) (p:P.underlying t=some (.map kt et)) (r:Nat) (l:List (K×Vl)) (k:K) (v:Vl) :
 RunTri P (uS (Instr.mapUpdate t (.map (some r)) (enc k) v)) [] [(r,.pr (bB enc l))] uT (fun _=>undef) (fun _=>[(r,.pr (bB enc (up l k v)))]) (fun _=>[]):=by
 intro w ho
 obtain ⟨o,h1,es,clock,rfl,h2,h3,h4⟩:=ho.at_ 0 r _ rfl rfl
 have h:=c.find k es.toList l w h2
 have m:=run_underlying p w
 have hc:=c.chk false k w
 have n:es.toList.length=l.length:=by have:=congrArg List.length h2;simpa using this
 cases hh:eV l k 0 with
 | none=>
  have d:(SB.pr (bB enc (up l k v))).ok (.map (es.push {key:=enc k,val:=v,born:=clock}) (clock+1)):=by
   refine ⟨_,_,rfl,?_,?_,?_⟩
   · rw [Bd hh];simp;simpa using h2
   · simp only [Array.toList_push,List.map_append,List.map_cons,List.map_nil,List.nodup_append]
     refine ⟨h3,by simp,?_⟩
     intro a ha b hb
     obtain ⟨x,hx,rfl⟩:=List.mem_map.1 ha
     simp at hb
     have:=h4 x hx
     omega
   · intro x hx
     simp at hx
     rcases hx with hx | rfl
     · have:=h4 x (by simpa using hx);omega
     · simp
  obtain ⟨g1,g2⟩:=ke ho rfl d
  refine ⟨_,_,⟨(),trivial,.inr ⟨rfl,rfl⟩,g1,g2,fun b hb=>by cases hb⟩,?_⟩
  apply r7
  unfold Instr.mapUpdate
  simp only [Sem.run_bind,m,Result.andThen,getObj,Sem.run,h1,hc,h,hh,kf h1]
 | some x=>
  obtain ⟨i,u⟩:=x
  obtain ⟨_,hi⟩:=ow hh
  simp only [Nat.sub_zero] at hi
  have q:=cj hi
  have g:i<es.size:=by rw [← Array.length_toList];omega
  have f:((es[i]?).map (·.key)).getD (enc k)=enc k:=by
   have:=congrArg (fun l=>l[i]?) h2
   simp only [List.getElem?_map,hi,Array.getElem?_toList,Option.map_some] at this
   rw [Array.getElem?_eq_getElem g] at this ⊢
   simp only [Option.map_some,Option.some.injEq,Prod.mk.injEq] at this
   simp [this.1]
  have d:(SB.pr (bB enc (up l k v))).ok (.map (es.modify i fun e=>{e with key:=enc k,val:=v}) clock):=by
   refine ⟨_,_,rfl,?_,?_,?_⟩
   · rw [Bg hh,Nat.sub_zero]
     apply List.ext_getElem?
     intro j
     rw [List.getElem?_map,List.getElem?_map,Array.toList_modify,List.getElem?_modify,List.getElem?_modify]
     have:=congrArg (fun l=>l[j]?) h2
     simp only [List.getElem?_map] at this
     split
     · rename_i e
       subst e
       cases hx:es.toList[i]? with
       | none=>rw [hx] at this;rw [hi] at this;simp at this
       | some x=>rw [hi];simp
     · simpa using this
   · have:(es.modify i fun e=>{e with key:=enc k,val:=v}).toList.map (·.born)=es.toList.map (·.born):=by
      apply List.ext_getElem?
      intro j
      rw [List.getElem?_map,List.getElem?_map,Array.toList_modify,List.getElem?_modify]
      split
      · cases es.toList[j]? <;> simp
      · simp
     rw [this];exact h3
   · intro x hx
     rw [Array.toList_modify] at hx
     obtain ⟨j,hj,e⟩:=List.mem_iff_getElem.1 hx
     have e2:(es.toList.modify i fun e=>{e with key:=enc k,val:=v})[j]?=some x:=by rw [List.getElem?_eq_getElem hj,e]
     rw [List.getElem?_modify] at e2
     obtain ⟨y,hy,rfl⟩:=Option.map_eq_some_iff.1 e2
     have:=h4 y (List.mem_of_getElem? hy)
     split <;> exact this
  obtain ⟨g1,g2⟩:=ke ho rfl d
  refine ⟨_,_,⟨(),trivial,.inr ⟨rfl,rfl⟩,g1,g2,fun b hb=>by cases hb⟩,?_⟩
  apply r7
  unfold Instr.mapUpdate
  simp only [Sem.run_bind,m,Result.andThen,getObj,Sem.run,h1,hc,h,hh,f,c.stays,kf h1]
theorem pq (c:KeyLaw P kt enc) (g:P.underlying t=some (.map kt et)) (r:Nat) (l:List (K×Vl)) (k:K) (h ty:TypeId) (d:List TypeId) :
 RunTri P (vS (Builtin.delete_ (t::d).toArray ty #[.map (some r),enc k])) [] [(r,.pr (bB enc l))] uT (fun _=>.tuple #[]) (fun _=>[(r,.pr (bB enc (del l k)))]) (fun _=>[]):=by
 intro w ho
 obtain ⟨o,h1,es,clock,rfl,h2,h3,h4⟩:=ho.at_ 0 r _ rfl rfl
 have e:=c.find k es.toList l w h2
 have f:=run_underlying g w
 have hc:=c.chk es.isEmpty k w
 cases hh:eV l k 0 with
 | none=>
  have a:(SB.pr (bB enc (del l k))).ok (.map es clock):=⟨_,_,rfl,by rw [oC hh];exact h2,h3,h4⟩
  obtain ⟨g1,g2⟩:=ke ho rfl a
  refine ⟨_,_,⟨(),trivial,.inl rfl,g1,g2,fun b hb=>by cases hb⟩,?_⟩
  apply ce
  unfold Builtin.delete_
  simp [Sem.run_bind,f,Result.andThen,getObj,Sem.run,h1,hc,e,hh,kf h1]
 | some x=>
  obtain ⟨i,u⟩:=x
  have a:(SB.pr (bB enc (del l k))).ok (.map (es.eraseIdxIfInBounds i) clock):=by
   have et:(es.eraseIdxIfInBounds i).toList=es.toList.eraseIdx i:=by simp
   refine ⟨_,_,rfl,?_,?_,?_⟩
   · rw [zp hh,Nat.sub_zero,et,mG,h2,mG]
   · rw [et,mG];exact h3.sublist (List.eraseIdx_sublist _ _)
   · intro x hx
     rw [et] at hx
     exact h4 x (List.mem_of_mem_eraseIdx hx)
  obtain ⟨g1,g2⟩:=ke ho rfl a
  refine ⟨_,_,⟨(),trivial,.inl rfl,g1,g2,fun b hb=>by cases hb⟩,?_⟩
  apply ce
  unfold Builtin.delete_
  simp [Sem.run_bind,f,Result.andThen,getObj,Sem.run,h1,hc,e,hh,kf h1]
end
theorem vp {P:Program} {kt:TypeId} {κ:IntKind} (a:P.underlying kt=some (.int κ)):KeyLaw P kt (fun n:Int=>Value.int κ n):=by
 refine ⟨fun e k w=>?_,fun k es l w h=>?_,fun k w=>?_⟩
 · unfold Instr.checkKey
   simp only [Sem.run_bind,run_underlying a w,Result.andThen]
   rfl
 · have key:∀ (es:List MapEntry) (l:List (Int×Vl)) (i:Nat),es.map (fun e=>(e.key,e.val))=l.map (fun p=>(Value.int κ p.1,p.2))→Instr.findNow (.int κ) (.int κ k) es i=some (eV l k i):=by
    intro es
    induction es with
    | nil=>
     intro l i h
     cases l with
     | nil=>rfl
     | cons x l=>simp at h
    | cons e es ih=>
     intro l i h
     cases l with
     | nil=>simp at h
     | cons x l=>
      simp only [List.map_cons,List.cons.injEq,Prod.mk.injEq] at h
      obtain ⟨⟨h1,h2⟩,h3⟩:=h
      unfold Instr.findNow eV
      rw [h1]
      simp only [Instr.sameNow,if_true]
      by_cases hkx:k=x.1
      · simp [hkx,h2]
      · have hb:(k==x.1)=false:=by simpa using hkx
        simp [hkx,hb,ih l (i+1) h3]
   unfold Instr.findKey
   simp only [Sem.run_bind,run_underlying a w,Result.andThen,key es l 0 h]
   rfl
 · unfold Instr.keyThatStays
   rw [if_pos (by unfold Instr.sameBits;simp)]
   rfl
def bn (e:TypeId) (size n cap:Nat) (xs:List Vl) (o:Obj):Prop:=
 ∃ cur:Array Value,o = .cells cur e (0,0)∧cur.size=cap*size∧cur.toList.take (n*size)=xs∧n≤cap∧cap≤maxLen
def SlE (e:TypeId) (size n:Nat) (xs:List Vl) (v:Vl) (x:Nat×SB):Prop:=
 (v = .slice none 0 0∧n=0∧xs=[]∧x.2 = .dead)∨∃ cap,v = .slice (some ⟨x.1,0,none⟩) n cap∧x.2 = .pr (bn e size n cap xs)
def bG (off:Nat) (vs:List Vl) (o:Obj):Prop:=∃ (cur:Array Vl) (e:TypeId) (fr:Nat×Nat),o = .cells cur e fr∧∀ j u,vs[j]?=some u→cur[off+j]?=some u
theorem fZ {a:List Vl} {t:TypeId} (off:Nat) (vs:List Vl) (h:∀ j u,vs[j]?=some u→a[off+j]?=some u):∀ o,(SB.cl a t).ok o→(SB.pr (bG off vs)).ok o:=
 fun o ho=>⟨a.toArray,t,(0,0),ho,fun j u hu=>by simpa using h j u hu⟩
theorem bA {a:List Vl} {t:TypeId}:∀ o,(SB.cl a t).ok o→(SB.pr (bG 0 a)).ok o:=fZ 0 a fun j u h=>by simpa using h
theorem lC {e:TypeId} {size n cap:Nat} {xs:List Vl} (off:Nat) (vs:List Vl) (h:∀ j u,vs[j]?=some u→xs[off+j]?=some u):∀ o,(SB.pr (bn e size n cap xs)).ok o→(SB.pr (bG off vs)).ok o:=by
 rintro o ⟨cur,rfl,h1,h2,h3,h4⟩
 refine ⟨cur,e,(0,0),rfl,fun j u hu=>?_⟩
 have h5:=h j u hu
 rw [← h2,List.getElem?_take] at h5
 split at h5
 · simpa using h5
 · cases h5
theorem dU {w:World} {b off:Nat} {vs:List Vl} {o:Obj} (hb:w.heap[b]?=some o) (h:bG off vs o) (j:Nat) (u:Vl) (a:vs[j]?=some u):w.cell? ((⟨b,off,none⟩:Addr).add j)=some u:=by
 obtain ⟨cur,e,fr,rfl,h1⟩:=h
 rw [Addr.add_lit,cell_of_row w b _ cur e fr hb]
 exact h1 j u a
section
variable {P:Program} {t e ty:TypeId} {i:TypeInfo} {z:Vl}
theorem iG {HR HW:HP} {w w1:World} (c:Own (HR++HW) w) (a:w1.heap=w.heap) {o:Obj} {s:SB} (hs:s.ok o) (HW':HP) (e:de HW HW') (f:∀ (k b:Nat) (s:SB),HW'[k]?=some (b,s)→s.live=true→HW[k]?=some (b,s)):Own (HR++HW'++[(w.heap.size,s)]) {w1 with heap:=w1.heap.push o}:=by
 have h1:Own (HR++HW') w1:=by
  have d:=e.1
  have g:∀ (i b:Nat) (s:SB),(HR++HW')[i]?=some (b,s)→s.live=true→(HR++HW)[i]?=some (b,s):=by
   intro i b s hi hs
   rcases Nat.lt_or_ge i HR.length with h | h
   · rw [List.getElem?_append_left h] at hi ⊢;exact hi
   · rw [List.getElem?_append_right h] at hi ⊢;exact f _ _ _ hi hs
  exact ⟨fun i j b s t hij hi hj hs ht=>c.nd i j b s t hij (g i b s hi hs) (g j b t hj ht) hs ht,fun j b s hj hs=>by rw [a];exact c.at_ j b s (g j b s hj hs) hs⟩
 have:=h1.app o hs
 rw [a] at this
 rw [a]
 exact this
theorem jw {M:List Nat} {w w1:World} (h:w1.heap=w.heap) (h2:w1.os=w.os∧w1.tape=w.tape∧w1.output=w.output) (o:Obj):Fr M w {w1 with heap:=w1.heap.push o}:=
 ⟨h2.1,h2.2.1,h2.2.2,by simp [h],fun b hb _=>by
  show (w1.heap.push o)[b]?=_
  rw [h,Array.getElem?_push,if_neg (by omega)]⟩
theorem vh (l:P.underlying t=some (.slice e)) (hi:P.info? e=some i) (J:i.zero=some z) (H:z.cells.size=i.size) (M:0<i.size)
 (v:Vl) (x:Nat×SB) (n:Nat) (xs:List Vl) (K:SlE e i.size n xs v x) (b off m c:Nat) (a:List Vl) (q:a.length=m*i.size) (h1:∀ u∈a,u.oneCell'=true)
 (g:(n+m)*i.bytes≤140737488355328) (C:n+m≤maxLen) :
 RunTri P (vS (Builtin.append_ #[t,t] ty #[v,sO b off m c])) [(b,.pr (bG off a))] [x] (fun y:Vl×(Nat×SB)=>SlE e i.size (n+m) (xs++a) y.1 y.2) (fun y=>y.1) (fun _=>[(x.1,.dead)]) (fun y=>[y.2]):=by
 intro w ho
 have L:n+m≤9223372036854775807:=by simp only [maxLen] at C;omega
 have D:de [x] [(x.1,SB.dead)]:=bD bH (by intro h;cases h)
 obtain ⟨o,hb,hcs⟩:=ho.at_ 0 b _ rfl rfl
 have d:∀ j u,a[j]?=some u→w.cell? ((⟨b,off,none⟩:Addr).add j)=some u:=fun j u hu=>dU hb hcs j u hu
 have f:xs.length=n*i.size:=by
  rcases K with ⟨_,h2,h3,_⟩ | ⟨cap,_,hx⟩
  · subst h2;subst h3;simp
  · obtain ⟨o,_,hok⟩:=ho.at_ 1 x.1 x.2 rfl (by rw [hx];rfl)
    rw [hx] at hok
    obtain ⟨cur,_,h2,h3,h4,_⟩:=hok
    rw [← h3,List.length_take,Array.length_toList,h2]
    exact Nat.min_eq_left (Nat.mul_le_mul_right _ h4)
 have p:(xs++a).length=(n+m)*i.size:=by rw [List.length_append,f,q,Nat.add_mul]
 have r:∀ old,old<n+m→bn e i.size (n+m) (grownCap w (n+m) old e) (xs++a) (.cells (xs.toArray++a.toArray++Builtin.zeroCells z.cells (grownCap w (n+m) old e-(n+m))) e (0,0)):=by
  intro old hold
  have I:=grownCap_ge w (n+m) old e
  refine ⟨_,rfl,?_,?_,I,grownCap_le_maxLen w (n+m) old e C⟩
  · simp only [Array.size_append,List.size_toArray,size_zeroCells,H,f,q,← Nat.add_mul]
    congr 1
    omega
  · simp only [Array.toList_append,List.append_assoc]
    rw [← List.append_assoc,← p]
    exact List.take_left
 have E:∀ (old:Nat),old<n+m→(Builtin.append_ #[t,t] ty #[v,sO b off m c]).run P w = .ok (sA w.heap.size (n+m) (grownCap w (n+m) old e)) (w.drew.alloc (.cells (xs.toArray++a.toArray++Builtin.zeroCells z.cells (grownCap w (n+m) old e-(n+m))) e)) →
  ∃ nx w',(∃ y:Value×(Nat×SB),SlE e i.size (n+m) (xs++a) y.1 y.2∧(nx = .value y.1∨nx = .skip∧y.1=undef)∧Own ([(b,.pr (bG off a))]++[(x.1,.dead)]++[y.2]) w'∧Fr (lv [x]) w w'∧∀ b∈lv [y.2],w.heap.size≤b∨b∈lv [x])∧(vS (Builtin.append_ #[t,t] ty #[v,.slice (some ⟨b,off,none⟩) m c])).run P w = .ok nx w':=by
  intro old hold hr
  refine ⟨_,_,⟨(sA w.heap.size (n+m) (grownCap w (n+m) old e),(w.heap.size,.pr (bn e i.size (n+m) (grownCap w (n+m) old e) (xs++a)))),.inr ⟨_,rfl,rfl⟩,.inl rfl,?_,?_,?_⟩,ce hr⟩
  · exact iG (w1:=w.drew) (s:=.pr (bn e i.size (n+m) (grownCap w (n+m) old e) (xs++a))) ho rfl (r old hold) _ D (fun k b s hk hs=>by
     cases k with
     | zero=>simp at hk;obtain ⟨_,rfl⟩:=hk;cases hs
     | succ k=>simp at hk)
  · exact jw (w1:=w.drew) (w:=w) rfl ⟨rfl,rfl,rfl⟩ (.cells (xs.toArray++a.toArray++Builtin.zeroCells z.cells (grownCap w (n+m) old e-(n+m))) e)
  · intro b' hb'
    simp [lv,SB.live] at hb'
    exact .inl (by omega)
 rcases K with ⟨rfl,rfl,rfl,hx⟩ | ⟨cap,rfl,hx⟩
 · by_cases hm:m=0
   · subst hm
     have N:a=[]:=List.eq_nil_of_length_eq_zero (by simpa using q)
     subst N
     refine ⟨_,w,⟨(.slice none 0 0,(0,.dead)),.inl ⟨rfl,rfl,rfl,rfl⟩,.inl rfl,?_,Fr.refl _ _,by intro b hb;simp [lv,SB.live] at hb⟩,ce ?_⟩
     · constructor
       · intro i j b s t hij hi hj hs l
         match i,j with
         | 0,0=>exact hij rfl
         | 0,1=>simp at hj;rw [← hj.2] at l;cases l
         | 0,2=>simp at hj;rw [← hj.2] at l;cases l
         | 1,_=>simp at hi;rw [← hi.2] at hs;cases hs
         | 2,_=>simp at hi;rw [← hi.2] at hs;cases hs
         | 0,j+3=>simp at hj
         | i+3,_=>simp at hi
       · intro j b s hj hs
         match j with
         | 0=>exact ho.at_ 0 b s (by simpa using hj) hs
         | 1=>simp at hj;rw [← hj.2] at hs;cases hs
         | 2=>simp at hj;rw [← hj.2] at hs;cases hs
         | j+3=>simp at hj
     · simp [Builtin.append_,run_underlying l,sizeOf,typeInfo,hi,Builtin.lenOf,Builtin.firstCells,loadCells,loadCellsFrom]
   · have hr:=run_append_nil (P:=P) w t ty e i z l hi J ⟨b,off,none⟩ m c a q d (by omega) (by omega) (by have hb:=g;simp only [Nat.zero_add] at hb;omega)
     refine E 0 (by omega) ?_
     simp only [Nat.zero_add]
     rw [hr]
     simp
 · obtain ⟨o2,hg,hok⟩:=ho.at_ 1 x.1 x.2 rfl (by rw [hx];rfl)
   rw [hx] at hok
   obtain ⟨cur,rfl,hcs2,htake,hnc,hcm⟩:=hok
   have A:b≠x.1:=by
    intro e
    subst e
    exact ho.nd 0 1 x.1 _ x.2 (by omega) rfl rfl rfl (by rw [hx];rfl)
   by_cases hroom:n+m≤cap
   · have F:n*i.size+a.length≤cur.size:=by rw [q,hcs2,← Nat.add_mul];exact Nat.mul_le_mul_right _ hroom
     have hr:=run_append_room (P:=P) w t ty e i l hi x.1 n cap cur hg ⟨b,off,none⟩ m c a q d h1 hroom F
     have G:bn e i.size (n+m) cap (xs++a) (.cells (cur.toList.take (n*i.size)++a++cur.toList.drop (n*i.size+a.length)).toArray e (0,0)):=by
      refine ⟨_,rfl,?_,?_,hroom,hcm⟩
      · simp only [List.size_toArray,List.length_append,List.length_take,List.length_drop,Array.length_toList]
        omega
      · rw [htake,← p]
        exact List.take_left
     refine ⟨_,_,⟨(sA x.1 (n+m) cap,(x.1,.pr (bn e i.size (n+m) cap (xs++a)))),.inr ⟨_,rfl,rfl⟩,.inl rfl,?_,?_,?_⟩,ce hr⟩
     · constructor
       · intro i j b' s t hij hi hj hs l
         match i,j with
         | 0,0=>exact hij rfl
         | 1,_=>simp at hi;rw [← hi.2] at hs;cases hs
         | _,1=>simp at hj;rw [← hj.2] at l;cases l
         | 0,2=>simp at hi hj;exact A (hi.1.trans hj.1.symm)
         | 2,0=>simp at hi hj;exact A (hj.1.trans hi.1.symm)
         | 2,2=>exact hij rfl
         | 0,j+3=>simp at hj
         | 2,j+3=>simp at hj
         | i+3,_=>simp at hi
       · intro j b' s hj hs
         match j with
         | 0=>
          simp at hj
          obtain ⟨rfl,rfl⟩:=hj
          exact ⟨o,(setRow_other w x.1 b _ A).trans hb,hcs⟩
         | 1=>simp at hj;rw [← hj.2] at hs;cases hs
         | 2=>
          simp at hj
          obtain ⟨rfl,rfl⟩:=hj
          exact ⟨_,setRow_heap w x.1 cur _ e _ hg,G⟩
         | j+3=>simp at hj
     · refine ⟨rfl,rfl,rfl,by simp [World.setRow],fun k _ hk=>setRow_other w x.1 k _ fun e=>hk ?_⟩
       rw [e]
       exact da (j:=0) (s:=x.2) rfl (by rw [hx];rfl)
     · intro b' hb'
       simp [lv,SB.live] at hb'
       subst hb'
       exact .inr (da (j:=0) (s:=x.2) rfl (by rw [hx];rfl))
   · have B:∀ j u,xs[j]?=some u→w.cell? ((⟨x.1,0,none⟩:Addr).add j)=some u:=by
      intro j u hu
      rw [Addr.add_lit,cell_of_row w x.1 _ cur e (0,0) hg]
      rw [← htake,List.getElem?_take] at hu
      split at hu
      · simpa using hu
      · cases hu
     have hr:=run_append_grow (P:=P) w t ty e i z l hi J ⟨x.1,0,none⟩ n cap xs f B ⟨b,off,none⟩ m c a q d (by omega) (by omega) (growslice_fits (by omega) g)
     exact E cap (by omega) hr
end
end Go.Proofs.YtlkeemedalncoaaGreat.En
namespace Go.Proofs.YtlkeemedalncoaaGreat
open Go Go.RowKit
section
variable {P:Program}
end
end Go.Proofs.YtlkeemedalncoaaGreat
namespace Go.Proofs.YtlkeemedalncoaaGreat.En
open Go Go.Proofs.YtlkeemedalncoaaGreat
section
variable {P:Program}
theorem k7 {s:Sem Vl} {v:Vl} (h:∀ w,s.run P w = .ok v w):RunTri P (vS s) [] [] uT (fun _=>v) (fun _=>[]) (fun _=>[]):=
 fun w ho=>⟨_,w,⟨(),trivial,.inl rfl,ho,Fr.refl _ _,fun b hb=>by cases hb⟩,ce (h w)⟩
theorem gI {T:TypeId} {d:TypeDesc} {w:World} {b off:Nat} {vs:List Vl} {o:Obj} (hb:w.heap[b]?=some o) (h:bG off vs o) (a:P.underlying T=some d) (hd:d.isRow=true) (hi:(P.info? T).map (·.size)=some vs.length) :
 (Instr.loadAt T (.pointer (pO b off))).run P w = .ok (.agg vs.toArray) w:=
 run_loadAt_mid w b off T vs d (fun j v hv=>by have:=dU hb h j v hv;rwa [Addr.add_lit] at this) a hd hi
theorem se {T:TypeId} {d:TypeDesc} (b off:Nat) (vs:List Vl) (a:P.underlying T=some d) (hd:d.isRow=true) (hi:(P.info? T).map (·.size)=some vs.length) :
 RunTri P (vS (Instr.loadAt T (.pointer (pO b off)))) [(b,.pr (bG off vs))] [] uT (fun _=>.agg vs.toArray) (fun _=>[]) (fun _=>[]):=by
 intro w ho
 obtain ⟨o,hb,hc⟩:=ho.at_ 0 b _ rfl rfl
 exact ⟨_,w,⟨(),trivial,.inl rfl,ho,Fr.refl _ _,fun b hb=>by cases hb⟩,ce (gI hb hc a hd hi)⟩
theorem fD {T:TypeId} {w:World} {b off:Nat} {u:Vl} {o:Obj} (hb:w.heap[b]?=some o) (h:bG off [u] o) (ha:∀ w,(isAgg T).run P w = .ok false w):(Instr.loadAt T (.pointer (pO b off))).run P w = .ok u w:=by
 have hc:=dU hb h 0 u rfl
 rw [Addr.add_lit,Nat.add_zero] at hc
 unfold Instr.loadAt loadVar
 simp [Sem.run_bind,Instr.sureAddr,ha,Result.andThen,Go.load,Sem.run,hc]
theorem gC {T:TypeId} (b off:Nat) (u:Vl) (ha:∀ w,(isAgg T).run P w = .ok false w) :
 RunTri P (vS (Instr.loadAt T (.pointer (pO b off)))) [(b,.pr (bG off [u]))] [] uT (fun _=>u) (fun _=>[]) (fun _=>[]):=by
 intro w ho
 obtain ⟨o,hb,hc⟩:=ho.at_ 0 b _ rfl rfl
 exact ⟨_,w,⟨(),trivial,.inl rfl,ho,Fr.refl _ _,fun b hb=>by cases hb⟩,ce (fD hb hc ha)⟩
def cW (cs:List Vl) (off:Nat) (vs:List Vl):List Vl:=cs.take off++vs++cs.drop (off+vs.length)
theorem gy {T:TypeId} (b off:Nat) (x:Vl) (vs a:List Vl) (t:TypeId) (f:x.cells.toList=vs) (hi:(P.info? T).map (·.size)=some vs.length) (h1:∀ v∈vs,v.oneCell'=true) (g:off+vs.length≤a.length) :
 RunTri P (uS (Instr.storeAt T (.pointer (pO b off)) x)) [] [(b,.cl a t)] uT (fun _=>undef) (fun _=>[(b,.cl (cW a off vs) t)]) (fun _=>[]):=by
 intro w ho
 obtain ⟨o,hb,hc⟩:=ho.at_ 0 b _ rfl rfl
 have hc:o = .cells a.toArray t (0,0):=hc
 subst hc
 have hr:=run_storeCells_at P b off t vs 0 a.toArray w hb (by simpa using g) h1
 simp only [Nat.add_zero] at hr
 have c:(w.setRow b (cW a off vs).toArray).heap[b]?=some (.cells (cW a off vs).toArray t (0,0)):=setRow_heap w b _ _ t _ hb
 refine ⟨_,w.setRow b (cW a off vs).toArray,⟨(),trivial,.inr ⟨rfl,rfl⟩,ho.put (j:=0) rfl rfl ⟨_,c,rfl⟩ (fun i hi=>setRow_other w b i _ hi),⟨rfl,rfl,rfl,by simp [World.setRow],fun i _ hi=>setRow_other w b i _ fun e=>hi ?_⟩,fun b hb=>by cases hb⟩,r7 ?_⟩
 · rw [e];exact da (j:=0) rfl rfl
 · obtain ⟨i,hi1,hi2⟩:=Option.map_eq_some_iff.1 hi
   have d:x.cells.size=i.size:=by rw [hi2,← f,Array.length_toList]
   unfold Instr.storeAt storeVar
   simp [Sem.run_bind,Instr.sureAddr,sizeOf,typeInfo,hi1,Result.andThen,Sem.run,d,f]
   rw [hr]
   simp [cW]
theorem kr {a vs:List Vl} (h:vs.length=a.length):cW a 0 vs=vs:=by simp [cW,h]
theorem kU {T:TypeId} (b:Nat) (vs a:List Vl) (t:TypeId) (hi:(P.info? T).map (·.size)=some vs.length) (h1:∀ v∈vs,v.oneCell'=true) (c:vs.length=a.length) :
 RunTri P (uS (Instr.storeAt T (.pointer (pA b)) (.agg vs.toArray))) [] [(b,.cl a t)] uT (fun _=>undef) (fun _=>[(b,.cl vs t)]) (fun _=>[]):=by
 have:=gy (P:=P) (T:=T) b 0 (.agg vs.toArray) vs a t (by simp [Value.cells]) hi h1 (by omega)
 rw [kr c] at this
 exact this
theorem ie {t e:TypeId} {w:World} (a:P.underlying t=some (.slice e)) {k:Nat} (b off n c i:Nat) (κ:IntKind) (d:(P.info? e).map (·.size)=some k:=by kernel_rfl) (hi:i<n:=by omega):(Instr.indexAt t (sO b off n c) (.int κ (i:Int))).run P w = .ok (.pointer (pO b (off+i*k))) w:=by
 obtain ⟨f,hf1,hf2⟩:=Option.map_eq_some_iff.1 d
 unfold Instr.indexAt
 have h0:(0:Int)≤(i:Int):=by omega
 have h1:(i:Int)<(n:Int):=by omega
 simp [Sem.run_bind,asIntOf,run_underlying a,sizeOf,typeInfo,hf1,hf2,Result.andThen,Sem.run,h1,Addr.add_lit]
 intro h2;omega
theorem jv {t e:TypeId} {w:World} {n:Nat} (a:P.underlying t=some (.array n e)) {k:Nat} (b off i:Nat) (hi:i<n) (κ:IntKind) (c:(P.info? e).map (·.size)=some k:=by kernel_rfl):(Instr.indexAt t (.pointer (pO b off)) (.int κ (i:Int))).run P w = .ok (.pointer (pO b (off+i*k))) w:=by
 obtain ⟨f,hf1,hf2⟩:=Option.map_eq_some_iff.1 c
 unfold Instr.indexAt
 have h1:(i:Int)<(n:Int):=by omega
 simp [Sem.run_bind,asIntOf,run_underlying a,Instr.sureAddr,sizeOf,typeInfo,hf1,hf2,Result.andThen,Sem.run,h1,Addr.add_lit]
 intro h2;omega
end
theorem tD (off:Nat) (vs:List Vl) (a:Array Vl) (h:off+vs.length≤a.size):(vs.zipIdx 0).foldl (fun cs (x:Vl×Nat)=>cs.setIfInBounds (off+x.2) x.1) a=(cW a.toList off vs).toArray:=by
 obtain ⟨h1,h2⟩:=Go.Great.foldl_set off vs 0 a
 apply Array.ext_getElem?
 intro k
 rw [h2 k]
 simp only [Nat.add_zero,cW,List.getElem?_toArray]
 have b:(a.toList.take off).length=off:=by rw [List.length_take,Array.length_toList];omega
 by_cases hk:k<off
 · rw [if_neg (by omega),List.append_assoc,List.getElem?_append_left (by omega),List.getElem?_take_of_lt hk,Array.getElem?_toList]
 · by_cases hk2:k<off+vs.length
   · rw [if_pos (by omega),List.getElem?_append_left (by rw [List.length_append,b];omega),List.getElem?_append_right (by omega),b]
   · rw [if_neg (by omega),List.getElem?_append_right (by rw [List.length_append,b];omega),List.length_append,b,List.getElem?_drop,Array.getElem?_toList]
     congr 1
     omega
theorem m8 {a:Nat→Option (Nat×Nat)} {cells:List Vl} {i off size:Nat} {v:Vl} {vs:List Vl} {b:List (Nat×Vl)} (d:a i=some (off,size)) (c:v.cells.toList=vs) (e:vs.length=size) (f:off+size≤cells.length):Instr.fill a cells.toArray ((i,v)::b)=Instr.fill a (cW cells off vs).toArray b:=by
 have hs:v.cells.size=size:=by rw [← e,← c,Array.length_toList]
 rw [Instr.fill]
 simp only [d]
 rw [if_neg (by simp only [hs,List.size_toArray];simp;omega)]
 congr 1
 rw [← Array.foldl_toList,Array.toList_zipIdx,c,tD _ _ _ (by simp;omega)]
section
variable {P:Program}
theorem w9 {t:TypeId} {fs:Array Field} {z:Vl} {places:Array (Nat×Nat)} {a:Array (Nat×Vl)} {cells:List Vl} {w:World} (b:∀ w,(zeroValue t).run P w = .ok z w) (c:P.underlying t=some (.struct fs))
 (d:∀ w,(fs.mapM fun f=>do pure (f.offset,← sizeOf f.type):Sem (Array (Nat×Nat))).run P w = .ok places w) (e:Instr.fill (places[·]?) z.cells a.toList=some cells.toArray):(Instr.build t a).run P w = .ok (.agg cells.toArray) w:=by
 unfold Instr.build
 simp only [Sem.run_bind,b,Result.andThen,run_underlying c,d,e]
 rfl
theorem ld {t e:TypeId} {k:Nat} {z:Vl} (g:P.underlying t=some (.slice e)) (v:Vl) (vs:List Vl) (h:v.cells.toList=vs) (d:vs.length=k) (c:(P.info? e).map (·.size)=some k:=by kernel_rfl) (j:∀ w,(zeroValue e).run P w = .ok z w:=by intro w;kernel_rfl) (l:z.cells.size=k:=by kernel_rfl) (h0:0<k:=by omega) (m:k≤16777216:=by omega) :
 RunTri P (vS (Instr.buildSlice t 1 #[(0,v)])) [] [] (fun _:Nat=>True) (fun b=>.slice (some ⟨b,0,none⟩) 1 1) (fun _=>[]) (fun b=>[(b,.cl vs e)]):=by
 intro w ho
 obtain ⟨f,hf1,hf2⟩:=Option.map_eq_some_iff.1 c
 have a:Instr.fill (fun i=>some (i*k,k)) ((Array.range (1*k)).map (z.cells[·%z.cells.size]!)) [(0,v)]=some vs.toArray:=by
  have h1:((Array.range (1*k)).map (z.cells[·%z.cells.size]!))=((Array.range (1*k)).map (z.cells[·%z.cells.size]!)).toList.toArray:=by rw [Array.toArray_toList]
  rw [h1,m8 (off:=0) (size:=k) (by simp) h d (by simp)]
  rw [kr (by simp [d])]
  rfl
 refine ⟨_,w.alloc (.cells vs.toArray e),⟨w.heap.size,trivial,.inl rfl,?_,?_,?_⟩,ce (v:=sA w.heap.size 1 1) ?_⟩
 · have:=iG (w1:=w) (s:=.cl vs e) ho rfl (o:=.cells vs.toArray e (0,0)) rfl [] bH (fun k b s c _=>c)
   exact this
 · exact jw (w1:=w) (w:=w) rfl ⟨rfl,rfl,rfl⟩ _
 · intro b hb
   simp [lv,SB.live] at hb
   exact .inl (by omega)
 · unfold Instr.buildSlice
   simp only [Sem.run_bind,run_underlying g,Result.andThen,sizeOf,typeInfo,hf1]
   simp [hf1,Result.andThen,Sem.run_bind,Sem.run,hf2,j,show k≠0 by omega,show ¬ (16777216<k) by omega,Nat.one_mul] at a ⊢
   rw [a]
   rfl
theorem RunTri.map {s:Sem Next} {HR HW:HP} {X Y:Type} {φ:X→Prop} {v:X→Vl} {HW' HN:X→HP} (h:RunTri P s HR HW φ v HW' HN) {ψ:Y→Prop} {v':Y→Vl} {HW2 HN2:Y→HP} (g:∀ x,φ x→∃ y,ψ y∧v' y=v x∧HW2 y=HW' x∧HN2 y=HN x):RunTri P s HR HW ψ v' HW2 HN2:=by
 intro w ho
 obtain ⟨nx,w',⟨x,h1,h2,h3,h4,h5⟩,h6⟩:=h w ho
 obtain ⟨y,g1,g2,g3,g4⟩:=g x h1
 exact ⟨nx,w',⟨y,g1,by rw [g2];exact h2,by rw [g3,g4];exact h3,h4,by rw [g4];exact h5⟩,h6⟩
theorem SlE.form {e:TypeId} {size n:Nat} {xs:List Vl} {v:Vl} {x:Nat×SB} (h:SlE e size n xs v x):∃ a c,v = .slice a n c:=by
 rcases h with ⟨rfl,rfl,_⟩ | ⟨cap,rfl,_⟩
 · exact ⟨none,0,rfl⟩
 · exact ⟨_,_,rfl⟩
theorem jP {t e ty:TypeId} {k by_:Nat} {z:Vl} (p:P.underlying t=some (.slice e)) (hi:(P.info? e).map (fun i=>(i.size,i.bytes))=some (k,by_)) (o:(P.info? e).bind (·.zero)=some z) (g:z.cells.size=k) (j:0<k)
 (v:Vl) (x:Nat×SB) (n:Nat) (xs:List Vl) (q:SlE e k n xs v x) (b off m c:Nat) (d:List Vl) (r:d.length=m*k) (h1:∀ u∈d,u.oneCell'=true)
 (f:(n+m)*by_≤140737488355328) (l:n+m≤maxLen) :
 RunTri P (vS (Builtin.append_ #[t,t] ty #[v,sO b off m c])) [(b,.pr (bG off d))] [x] (fun y:Option Addr×Nat×(Nat×SB)=>SlE e k (n+m) (xs++d) (.slice y.1 (n+m) y.2.1) y.2.2) (fun y=>.slice y.1 (n+m) y.2.1) (fun _=>[(x.1,.dead)]) (fun y=>[y.2.2]):=by
 obtain ⟨i,hi1,hi2⟩:=Option.map_eq_some_iff.1 hi
 simp only [Prod.mk.injEq] at hi2
 obtain ⟨rfl,rfl⟩:=hi2
 rw [hi1] at o
 refine (vh p hi1 o g j v x n xs q b off m c d r h1 f l).map fun ⟨v',x'⟩ h=>?_
 obtain ⟨a,c,rfl⟩:=SlE.form h
 exact ⟨(a,c,x'),h,rfl,rfl,rfl⟩
theorem gF {dT sT ty e:TypeId} {k:Nat} (h:P.underlying dT=some (.slice e)) (a off l n sb m sl p:Nat) (c vs:List Vl) (t:TypeId) (q:vs.length=Nat.min sl l*k) (d:off+vs.length≤c.length) (h1:∀ v∈vs,v.oneCell'=true) (hs:(P.info? e).map (·.size)=some k:=by kernel_rfl) :
 RunTri P (vS (Builtin.copy_ #[dT,sT] ty #[.slice (some ⟨a,off,none⟩) l n,.slice (some ⟨sb,m,none⟩) sl p])) [(sb,.pr (bG m vs))] [(a,.cl c t)] (fun _:Unit=>True) (fun _=>goInt (Nat.min sl l)) (fun _=>[(a,.cl (cW c off vs) t)]) (fun _=>[]):=by
 intro w ho
 obtain ⟨o,hb,hcs⟩:=ho.at_ 0 sb _ rfl rfl
 obtain ⟨o2,hd,hc⟩:=ho.at_ 1 a _ rfl rfl
 have hc:o2 = .cells c.toArray t (0,0):=hc
 subst hc
 obtain ⟨f,hf1,hf2⟩:=Option.map_eq_some_iff.1 hs
 have r:sb≠a:=fun e=>ho.nd 0 1 sb _ _ (by omega) rfl (by rw [e];rfl) rfl rfl
 have g:=run_loadCells_list (P:=P) w ⟨sb,m,none⟩ vs (fun j u h=>dU hb hcs j u h)
 have hr:=run_storeCells_at P a off t vs 0 c.toArray w hd (by simpa using d) h1
 simp only [Nat.add_zero] at hr
 refine ⟨_,w.setRow a (cW c off vs).toArray,⟨(),trivial,.inl rfl,ho.put (j:=1) rfl rfl ⟨_,setRow_heap w a _ _ t _ hd,rfl⟩ (fun i hi=>setRow_other w a i _ hi),⟨rfl,rfl,rfl,by simp [World.setRow],fun i _ hi=>setRow_other w a i _ fun e=>hi ?_⟩,fun b hb=>by cases hb⟩,ce ?_⟩
 · rw [e];exact da (j:=0) (H:=[(a,SB.cl c t)]) rfl rfl
 · unfold Builtin.copy_
   rw [q] at g
   simp [Sem.run_bind,run_underlying h,Result.andThen,Builtin.lenOf,Builtin.firstCells,sizeOf,typeInfo,hf1,hf2,g]
   rw [hr]
   simp [cW]
theorem xr {z:Array Vl} {c:Vl} (h:∀ v∈z,v=c) (h0:0<z.size) (n:Nat):(madeCells z n).toList=List.replicate n c:=by
 apply List.ext_getElem
 · simp [madeCells]
 · intro i h1 h2
   have a:i%z.size<z.size:=Nat.mod_lt _ h0
   simp [madeCells]
   rw [getElem!_pos z _ a]
   exact h _ (Array.getElem_mem a)
theorem og {t e:TypeId} {k by_:Nat} {z:Vl} {c0:Vl} (l:P.underlying t=some (.slice e)) (hc:∀ v∈z.cells,v=c0) (κ g:IntKind) (n:Nat) (d:n≤maxLen) (hi:(P.info? e).map (fun i=>(i.size,i.bytes))=some (k,by_):=by kernel_rfl) (j:(P.info? e).bind (·.zero)=some z:=by kernel_rfl) (m:z.cells.size=k:=by kernel_rfl) (p:0<k:=by omega) (a:n*k≤16777216:=by omega) (c:by_*n≤281474976710656:=by omega) :
 RunTri P (vS (Instr.makeSlice t (.int κ (n:Int)) (.int g (n:Int)))) [] [] (fun _:Nat=>True) (fun b=>.slice (some ⟨b,0,none⟩) n n) (fun _=>[]) (fun b=>[(b,.cl (List.replicate (n*k) c0) e)]):=by
 intro w ho
 obtain ⟨i,hi1,hi2⟩:=Option.map_eq_some_iff.1 hi
 simp only [Prod.mk.injEq] at hi2
 obtain ⟨rfl,rfl⟩:=hi2
 rw [hi1] at j
 have f:(i.bytes:Int)*(n:Int)≤281474976710656:=by
  have h:((i.bytes*n:Nat):Int)≤281474976710656:=by omega
  rw [Int.natCast_mul] at h
  exact h
 have hr:=run_makeSlice (P:=P) w t e i z l hi1 j κ g (n:Int) (n:Int) (by omega) (by omega) (by rw [Int.toNat_natCast];exact a) f (by simp only [maxLen] at d;omega)
 simp only [Int.toNat_natCast] at hr
 have q:=xr (n:=n*i.size) hc (by omega)
 refine ⟨_,_,⟨w.heap.size,trivial,.inl rfl,?_,?_,?_⟩,ce hr⟩
 · have:=iG (w1:=w) (s:=.cl (List.replicate (n*i.size) c0) e) ho rfl (o:=.cells (madeCells z.cells (n*i.size)) e (0,0)) (by show _=_;rw [← q,Array.toArray_toList]) [] bH (fun k b s hk _=>hk)
   exact this
 · exact jw (w1:=w) (w:=w) rfl ⟨rfl,rfl,rfl⟩ _
 · intro b hb
   simp [lv,SB.live] at hb
   exact .inl (by omega)
theorem vX {A B:HP} {w:World}:Own (A++[(0,.dead)]++B) w→Own (A++B) w:=by
 intro h
 have g:∀ (i b:Nat) (s:SB),(A++B)[i]?=some (b,s)→(A++[(0,.dead)]++B)[if i<A.length then i else i+1]?=some (b,s):=by
  intro i b s hi
  by_cases hlt:i<A.length
  · rw [if_pos hlt,List.append_assoc,List.getElem?_append_left hlt]
    rw [List.getElem?_append_left hlt] at hi
    exact hi
  · rw [if_neg hlt,List.getElem?_append_right (by rw [List.length_append];simp;omega)]
    rw [List.getElem?_append_right (by omega)] at hi
    rw [← hi]
    congr 1
    rw [List.length_append]
    simp
 exact ⟨fun i j b s t hij hi hj=>h.nd _ _ b s t (by by_cases h1:i<A.length <;> by_cases h2:j<A.length <;> simp [h1,h2] <;> omega) (g i b s hi) (g j b t hj),fun j b s hj=>h.at_ _ b s (g j b s hj)⟩
theorem RunTri.undead {s:Sem Next} {HR:HP} {X:Type} {φ:X→Prop} {v:X→Vl} {HN:X→HP} (h:RunTri P s HR [(0,.dead)] φ v (fun _=>[(0,.dead)]) HN):RunTri P s HR [] φ v (fun _=>[]) HN:=by
 intro w ho
 have a:Own (HR++[(0,.dead)]) w:=by
  have g:∀ (i b:Nat) (s:SB),(HR++[(0,SB.dead)])[i]?=some (b,s)→s.live=true→(HR++[])[i]?=some (b,s):=by
   intro i b s hi hl
   rw [List.append_nil]
   by_cases hlt:i<HR.length
   · rw [List.getElem?_append_left hlt] at hi;exact hi
   · rw [List.getElem?_append_right (by omega)] at hi
     have c:i-HR.length=0:=by
      have:=cj hi
      simp at this
      omega
     rw [c] at hi
     simp at hi
     rw [← hi.2] at hl
     cases hl
  exact ⟨fun i j b s t hij hi hj hs ht=>ho.nd i j b s t hij (g i b s hi hs) (g j b t hj ht) hs ht,fun j b s hj hs=>ho.at_ j b s (g j b s hj hs) hs⟩
 obtain ⟨nx,w',⟨x,h1,h2,h3,h4,h5⟩,h6⟩:=h w a
 exact ⟨nx,w',⟨x,h1,h2,by rw [List.append_nil];exact vX h3,h4.mono (by intro x hx;simp [lv,SB.live] at hx),fun b hb=>(h5 b hb).imp id (by intro hx;simp [lv,SB.live] at hx)⟩,h6⟩
theorem SlE.pos {e:TypeId} {size n:Nat} {xs:List Vl} {v:Vl} {x:Nat×SB} (h:SlE e size n xs v x) (a:0<n):∃ cap,v=sA x.1 n cap∧x.2 = .pr (bn e size n cap xs):=by
 rcases h with ⟨_,h,_⟩ | h
 · omega
 · exact h
theorem SlE.row (e:TypeId) (size n:Nat) (xs:List Vl) (b cap:Nat):SlE e size n xs (sA b n cap) (b,.pr (bn e size n cap xs)):=.inr ⟨cap,rfl,rfl⟩
theorem SlE.noFa {e:TypeId} {size n:Nat} {xs:List Vl} {v:Vl} {x:Nat×SB} (h:SlE e size n xs v x):x.2.isFa=false:=by
 rcases h with ⟨_,_,_,h⟩ | ⟨cap,_,h⟩
 · rw [h];rfl
 · rw [h];rfl
theorem oi {e:TypeId} {size n b:Nat} {xs:List Vl} {v:Vl} {x:Nat×SB} (h:SlE e size n xs v x):noFa ([(b,.dead)]++[x])=true:=by
 have:=h.noFa
 simp [En.noFa,this]
 rfl
theorem SlE.nil (e:TypeId) (size:Nat):SlE e size 0 [] (.slice none 0 0) (0,.dead):=.inl ⟨rfl,rfl,rfl,rfl⟩
theorem gw {t e ty:TypeId} {k by_:Nat} {z:Vl} (p:P.underlying t=some (.slice e)) (v:Vl) (x:Nat×SB) (n:Nat) (xs:List Vl) (q:SlE e k n xs v x) (b off m c:Nat) (d:List Vl) (r:d.length=m*k) (h1:∀ u∈d,u.oneCell'=true) (j:n+m≤maxLen) (hi:(P.info? e).map (fun i=>(i.size,i.bytes))=some (k,by_):=by kernel_rfl) (s:(P.info? e).bind (·.zero)=some z:=by kernel_rfl) (l:z.cells.size=k:=by kernel_rfl) (o:0<k:=by omega) (f:(n+m)*by_≤140737488355328:=by omega) (g:0<n+m:=by omega) :
 RunTri P (vS (Builtin.append_ #[t,t] ty #[v,.slice (some ⟨b,off,none⟩) m c])) [(b,.pr (bG off d))] [x] (fun _:Nat×Nat=>True) (fun y=>.slice (some ⟨y.1,0,none⟩) (n+m) y.2) (fun _=>[(x.1,.dead)]) (fun y=>[(y.1,.pr (bn e k (n+m) y.2 (xs++d)))]):=
 (jP p hi s l o v x n xs q b off m c d r h1 f j).map (by
  rintro ⟨a,c,x'⟩ h
  obtain ⟨cap,h1,h2⟩:=SlE.pos h g
  refine ⟨(x'.1,cap),trivial,h1.symm,rfl,?_⟩
  show [(x'.1,_)]=[x']
  rw [← h2])
theorem kS {t e ty:TypeId} {k by_:Nat} {z:Vl} (l:P.underlying t=some (.slice e)) (b off m c:Nat) (a:List Vl) (n:a.length=m*k) (h1:∀ u∈a,u.oneCell'=true) (f:m≤maxLen) (j:0<m) (hi:(P.info? e).map (fun i=>(i.size,i.bytes))=some (k,by_):=by kernel_rfl) (o:(P.info? e).bind (·.zero)=some z:=by kernel_rfl) (g:z.cells.size=k:=by kernel_rfl) (h:0<k:=by omega) (d:m*by_≤140737488355328:=by omega) :
 RunTri P (vS (Builtin.append_ #[t,t] ty #[.slice none 0 0,.slice (some ⟨b,off,none⟩) m c])) [(b,.pr (bG off a))] [] (fun _:Nat×Nat=>True) (fun y=>.slice (some ⟨y.1,0,none⟩) m y.2) (fun _=>[]) (fun y=>[(y.1,.pr (bn e k m y.2 a))]):=by
 have:=gw (ty:=ty) l (.slice none 0 0) (0,.dead) 0 [] (SlE.nil e k) b off m c a n h1 (by rw [Nat.zero_add];exact f) hi o g h (by rw [Nat.zero_add];exact d)
 simp only [Nat.zero_add,List.nil_append] at this
 exact this.undead
theorem HU (e:TypeId) (size:Nat):∀ o,(SB.cl [] e).ok o→(SB.pr (bn e size 0 0 [])).ok o:=by
 intro o h
 have h:o = .cells #[] e (0,0):=h
 subst h
 exact ⟨#[],rfl,by simp,by simp,Nat.le_refl _,by simp [maxLen]⟩
theorem py (e:TypeId) (size n:Nat) (xs:List Vl) (a:xs.length=n*size) (b:n≤maxLen):∀ o,(SB.cl xs e).ok o→(SB.pr (bn e size n n xs)).ok o:=by
 intro o h
 have h:o = .cells xs.toArray e (0,0):=h
 subst h
 exact ⟨_,rfl,by simpa using a,by simp [← a],Nat.le_refl _,b⟩
abbrev oI (x:Option Nat):Option Vl:=x.map fun n=>Value.int .i64 (n:Int)
theorem sX {t e:TypeId} {k:Nat} (d:P.underlying t=some (.slice e)) (g:(P.info? e).map (·.size)=some k) (b off n c:Nat) (lo hi a:Option Nat) (h:a.isSome=true→hi.isSome=true) (h1:lo.getD 0≤hi.getD n) (h2:hi.getD n≤a.getD c) (h3:a.getD c≤c) (w:World) :
 (Instr.sliceAt t (sO b off n c) (oI lo) (oI hi) (oI a)).run P w = .ok (sO b (if a.getD c=lo.getD 0 then off else off+lo.getD 0*k) (hi.getD n-lo.getD 0) (a.getD c-lo.getD 0)) w:=by
 obtain ⟨f,hf1,hf2⟩:=Option.map_eq_some_iff.1 g
 unfold Instr.sliceAt Instr.slice Instr.sliceBounds
 cases lo <;> cases hi <;> cases a <;> simp only [oI,Option.map_some,Option.map_none,Option.getD_some,Option.getD_none,Option.isSome_some,Option.isSome_none] at * <;>
  simp_all [Sem.run_bind,run_underlying d,Result.andThen,sizeOf,typeInfo,run_sliceBound,Addr.add_lit,Sem.run] <;> (try split) <;> simp_all <;> omega
theorem RunTri.pre {s:Sem Next} {HR HW HW2:HP} {X:Type} {φ:X→Prop} {v:X→Vl} {HW' HN:X→HP} (h:RunTri P s HR HW φ v HW' HN) (g:∀ w,Own (HR++HW2) w→Own (HR++HW) w) (a:lv HW=lv HW2):RunTri P s HR HW2 φ v HW' HN:=by
 intro w ho
 obtain ⟨nx,w',⟨x,h1,h2,h3,h4,h5⟩,h6⟩:=h w (g w ho)
 exact ⟨nx,w',⟨x,h1,h2,h3,by rw [← a];exact h4,by rw [← a];exact h5⟩,h6⟩
theorem yS {A B:HP} {b:Nat} {s s':SB} (hs:∀ o,s.ok o→s'.ok o) (a:s'.live=true→s.live=true) (w:World) (h:Own (A++(b,s)::B) w):Own (A++(b,s')::B) w:=by
 have g:∀ (i c:Nat) (t:SB),(A++(b,s')::B)[i]?=some (c,t)→t.live=true→∃ t',(A++(b,s)::B)[i]?=some (c,t')∧t'.live=true∧∀ o,t'.ok o→t.ok o:=by
  intro i c t hi ht
  rcases Nat.lt_trichotomy i A.length with h1 | h1 | h1
  · rw [List.getElem?_append_left h1] at hi ⊢
    exact ⟨t,hi,ht,fun _ h=>h⟩
  · rw [h1,List.getElem?_append_right (Nat.le_refl _),Nat.sub_self] at hi ⊢
    simp only [List.getElem?_cons_zero,Option.some.injEq,Prod.mk.injEq] at hi
    obtain ⟨rfl,rfl⟩:=hi
    exact ⟨s,rfl,a ht,hs⟩
  · obtain ⟨k,hk⟩:∃ k,i-A.length=k+1:=⟨i-A.length-1,by omega⟩
    rw [List.getElem?_append_right (by omega),hk] at hi ⊢
    exact ⟨t,hi,ht,fun _ h=>h⟩
 refine ⟨fun i j c t u hij hi hj ht hu=>?_,fun j c t hj ht=>?_⟩
 · obtain ⟨t',h1,h2,_⟩:=g i c t hi ht
   obtain ⟨u',h3,h4,_⟩:=g j c u hj hu
   exact h.nd i j c t' u' hij h1 h3 h2 h4
 · obtain ⟨t',h1,h2,h3⟩:=g j c t hj ht
   obtain ⟨o,h4,h5⟩:=h.at_ j c t' h1 h2
   exact ⟨o,h4,h3 o h5⟩
theorem qf {t e ty:TypeId} {k by_:Nat} {z:Vl} (n:P.underlying t=some (.slice e)) (f b off m c:Nat) (a:List Vl) (o:a.length=m*k) (h1:∀ u∈a,u.oneCell'=true) (g:m≤maxLen) (l:0<m) (hi:(P.info? e).map (fun i=>(i.size,i.bytes))=some (k,by_):=by kernel_rfl) (p:(P.info? e).bind (·.zero)=some z:=by kernel_rfl) (h:z.cells.size=k:=by kernel_rfl) (j:0<k:=by omega) (d:m*by_≤140737488355328:=by omega) :
 RunTri P (vS (Builtin.append_ #[t,t] ty #[.slice (some ⟨f,0,none⟩) 0 0,.slice (some ⟨b,off,none⟩) m c])) [(b,.pr (bG off a))] [(f,.cl [] e)] (fun _:Nat×Nat=>True) (fun y=>.slice (some ⟨y.1,0,none⟩) m y.2) (fun _=>[(f,.dead)]) (fun y=>[(y.1,.pr (bn e k m y.2 a))]):=by
 have:=gw (ty:=ty) n (.slice (some ⟨f,0,none⟩) 0 0) (f,.pr (bn e k 0 0 [])) 0 [] (SlE.row e k 0 [] f 0) b off m c a o h1 (by rw [Nat.zero_add];exact g) hi p h j (by rw [Nat.zero_add];exact d)
 simp only [Nat.zero_add,List.nil_append] at this
 exact this.pre (yS (HU e k) id) rfl
theorem c7 (off i:Nat) {vs us:List Vl} (h:∀ j u,us[j]?=some u→vs[i+j]?=some u):∀ o,(SB.pr (bG off vs)).ok o→(SB.pr (bG (off+i) us)).ok o:=by
 rintro o ⟨cur,e,fr,h1,h2⟩
 exact ⟨cur,e,fr,h1,fun j u hu=>by rw [Nat.add_assoc];exact h2 _ u (h j u hu)⟩
theorem ci {e:TypeId} {size n cap:Nat} {xs:List Vl}:∀ o,(SB.pr (bn e size n cap xs)).ok o→(SB.pr (bG 0 xs)).ok o:=lC 0 xs fun j u h=>by simpa using h
theorem fG {vs:List Vl} {i:Nat} {x:Vl} (h:vs[i]?=some x):∀ j u,([x]:List Vl)[j]?=some u→vs[i+j]?=some u:=by
 intro j u hj
 cases j with
 | zero=>simp at hj;subst hj;exact h
 | succ j=>simp at hj
theorem iR {T:TypeId} {d:TypeDesc} {w:World} {b off:Nat} {vs:List Vl} {o:Obj} (hb:w.heap[b]?=some o) (h:bG off vs o) (a:P.underlying T=some d) (hd:d.isRow=true) (hi:(P.info? T).map (·.size)=some vs.length) :
 (loadVar T ⟨b,off,none⟩).run P w = .ok (.agg vs.toArray) w:=by
 have:=gI hb h a hd hi
 unfold Instr.loadAt Instr.sureAddr at this
 simpa [Sem.run_bind,Result.andThen,Sem.run] using this
theorem Dd {e:Func} {ts:List Vl} {H:HP} {a:Nat} {T:TypeId} {d:TypeDesc} (j b:Nat) {vs:List Vl} (f:P.underlying T=some d) (hd:d.isRow=true) (hi:(P.info? T).map (·.size)=some vs.length) (g:e.results = #[.cell a T]:=by kernel_rfl) (c:(ts[a]?,H[j]?)=(some (.pointer (pA b)),some (b,.pr (bG 0 vs))):=by kernel_rfl) :
 ∀ w,Own H w→(results e ts.toArray).run P w = .ok (.agg vs.toArray) w:=by
 intro w ho
 simp only [Prod.mk.injEq] at c
 obtain ⟨o,h1,h2⟩:=ho.at_ j b _ c.2 rfl
 have h:=iR h1 h2 f hd hi
 have ha:ts.toArray.getD a undef = .pointer (pA b):=by simp [Array.getD_eq_getD_getElem?,c.1]
 unfold results
 rw [g]
 simp [Sem.run_bind,c.1,asAddr,Result.andThen,h,Sem.run]
end
end Go.Proofs.YtlkeemedalncoaaGreat.En
namespace Go.Proofs.YtlkeemedalncoaaGreat.En
open Go Go.RowKit Go.Proofs.YtlkeemedalncoaaGreat
theorem gz (x y:UInt8):bits .xor .u8 x.toNat (y.toNat:Int)=((x^^^y).toNat:Int):=by
 rw [u8_xor_nat _ _ x.toNat_lt y.toNat_lt]
 simp
theorem eE (n:Int):IntKind.u8.wrap n=n%256:=rfl
theorem dP (n:Int):IntKind.u16.wrap n=n%65536:=rfl
theorem d6 (n:Int):IntKind.u32.wrap n=n%4294967296:=rfl
theorem dK (n:Int):IntKind.u64.wrap n=n%18446744073709551616:=rfl
theorem dl (n:Int):IntKind.i64.wrap n=(n+9223372036854775808)%18446744073709551616-9223372036854775808:=by
 unfold IntKind.wrap
 simp [IntKind.bits,IntKind.signed]
 omega
theorem eT {x y:Int} {n m:Nat} (h:x=(n:Int):=by rfl) (k:y=(m:Int):=by rfl):x+y=((n+m:Nat):Int):=by rw [h,k];omega
theorem j5 {x y:Int} {n m:Nat} (h:x=(n:Int):=by rfl) (k:y=(m:Int):=by rfl):x*y=((n*m:Nat):Int):=by rw [h,k];exact (Int.natCast_mul n m).symm
theorem pF {x y:Int} {n m:Nat} (h:x=(n:Int)) (k:y=(m:Int):=by rfl) (a:m≤n:=by omega):x-y=((n-m:Nat):Int):=by rw [h,k];omega
theorem Dl {x y:Int} {n m:Nat} (h:x=(n:Int)) (k:y=(m:Int)):Int.tdiv x y=((n/m:Nat):Int):=by rw [h,k];exact (Int.ofNat_tdiv n m).symm
theorem ox {x y:Int} {n m:Nat} (h:x=(n:Int):=by rfl) (k:y=(m:Int):=by rfl):Int.tmod x y=((n%m:Nat):Int):=by rw [h,k];exact (Int.ofNat_tmod n m).symm
theorem k5 {x:Int} {n:Nat} (h:x=(n:Int):=by rfl) (hb:n<256:=by omega):IntKind.u8.wrap x=(n:Int):=by rw [h,eE];omega
theorem yB {x:Int} {n:Nat} (h:x=(n:Int)) (hb:n<65536):IntKind.u16.wrap x=(n:Int):=by rw [h,dP];omega
theorem jr {x:Int} {n:Nat} (h:x=(n:Int)) (hb:n<4294967296:=by omega):IntKind.u32.wrap x=(n:Int):=by rw [h,d6];omega
theorem dj {x:Int} {n:Nat} (h:x=(n:Int):=by rfl) (hb:n<18446744073709551616:=by omega):IntKind.u64.wrap x=(n:Int):=by rw [h,dK];omega
theorem di {x:Int} {n:Nat} (h:x=(n:Int)) (hb:n<9223372036854775808:=by omega):IntKind.i64.wrap x=(n:Int):=by rw [h,dl];omega
theorem wI (x:Int) (n:Nat) (e:x=n:=by omega) (b:n<9223372036854775808:=by omega):IntKind.wrap .i64 x=n:=di e b
theorem An (x:Int) (n:Nat) (e:x=n:=by omega) (b:n<4294967296:=by omega):IntKind.wrap .u32 x=n:=jr e b
theorem n5 (x:Int) (n:Nat) (e:x=n:=by omega) (b:n<18446744073709551616:=by omega):IntKind.wrap .u64 x=n:=dj e b
theorem kd (n:Nat) (b:n<4294967296:=by omega):IntKind.wrap .u32 n=n:=jr rfl b
theorem nI (n:Nat) (b:n<9223372036854775808:=by omega):IntKind.wrap .i64 n=n:=di rfl b
theorem DP (n:Nat) (b:n<18446744073709551616:=by omega):IntKind.wrap .u64 n=n:=dj rfl b
theorem CQ {x:Int} {n:Nat} (h:x=(n:Int)):IntKind.u8.wrap x=((n%256:Nat):Int):=by rw [h,eE];omega
theorem DZ {x:Int} {n:Nat} (h:x=(n:Int)):IntKind.u16.wrap x=((n%65536:Nat):Int):=by rw [h,dP];omega
theorem yn {x:Int} {n:Nat} (h:x=(n:Int)):IntKind.u32.wrap x=((n%4294967296:Nat):Int):=by rw [h,d6];omega
section
variable {P:Program} {Q:QR} {K0:Nat→Prop} {w0:World} {M:List Nat} {st:ES}
def Reads (P:Program) (s:Sem Next) (L:HP) (v:Vl):Prop:=
 ∀ w,(∀ (k b:Nat) (t:SB),L[k]?=some (b,t)→t.live=true→∃ o,w.heap[b]?=some o∧t.ok o)→(∀ (k a:Nat) (p:World→Prop),L[k]?=some (a,.fa p)→p w)→s.run P w = .ok (.value v) w
theorem Reads.runK {s:Sem Next} {L:HP} {v:Vl} (h:Reads P s L v):gq P s L [] uT (fun _=>v) (fun _=>[]) (fun _=>[]):=fun K w ho hk=>
 ⟨_,w,⟨(),K,trivial,.inl rfl,by simpa using ho,Fr.refl _ _,(fun b hb=>by cases hb),KExt.refl _ _ _,by simpa using hk⟩,h w (fun k b t hb hl=>ho.at_ k b t (by simpa using hb) hl) fun k a p hp=>(hk.fac k a p (by simpa using hp)).now⟩
theorem Eq {s:Sem Next} {L:HP} {v:Vl} (b:Reads P s L v) (a:List Nat) (d:Views st.H a L) (c:((dn st).map (execOp (cT st.ts)),a.length,e8 st a [])=(some s,L.length,true)) (h:GW P Q K0 w0 M (after st v st.H)):GW P Q K0 w0 M st:=by
 simp only [Prod.mk.injEq] at c
 obtain ⟨h1,h2,h3⟩:=c
 refine rG b.runK a [] d (by rw [h1,h2,h3];rfl) (fun _=>bH) fun _ _=>?_
 have e:co st.H [] []++[]=st.H:=by rw [List.append_nil];unfold co;rfl
 rw [e]
 exact h
theorem mK {s:Sem Next} {L:HP} {v:Vl} (b:Reads P s L v) (a:List Nat) (c:Views st.H a L) (h:GW P Q K0 w0 M (after st v st.H)) (d:((dn st).map (execOp (cT st.ts)),a.length,e8 st a [])=(some s,L.length,true):=by kernel_rfl):GW P Q K0 w0 M st:=
 Eq b a c d h
theorem rE {s:Sem Next} {L:HP} {v:Vl} (b:Reads P s L v) (a:List Nat) (h:GW P Q K0 w0 M (after st v st.H)) (c:Views st.H a L:=by exact Views.of_map (by kernel_rfl)) (d:((dn st).map (execOp (cT st.ts)),a.length,e8 st a [])=(some s,L.length,true):=by kernel_rfl):GW P Q K0 w0 M st:=
 Eq b a c d h
theorem Reads.pure {s:Sem Vl} {v:Vl} (h:∀ w,s.run P w = .ok v w):Reads P (vS s) [] v:=fun w _ _=>ce (h w)
def BF (A:Option Addr) (n c:Nat) (l:Bs):World→Prop:=fun w=>Rd w A n c l
def CF (b off:Nat) (vs:List Vl):World→Prop:=At b (.pr (bG off vs))
theorem bL {t e:TypeId} {k:Nat} (a:P.underlying t=some (.slice e)) (κ:IntKind) (b off n c i:Nat) (hi:i<n) (d:(P.info? e).map (·.size)=some k:=by kernel_rfl):Reads P (vS (Instr.indexAt t (.slice (some ⟨b,off,none⟩) n c) (.int κ (i:Int)))) [] (.pointer (some ⟨b,off+i*k,none⟩)):=
 Reads.pure fun w=>ie a b off n c i κ d hi
theorem ep {t e:TypeId} {k n:Nat} (a:P.underlying t=some (.array n e)) (κ:IntKind) (b off i:Nat) (hi:i<n) (c:(P.info? e).map (·.size)=some k:=by kernel_rfl):Reads P (vS (Instr.indexAt t (.pointer (some ⟨b,off,none⟩)) (.int κ (i:Int)))) [] (.pointer (some ⟨b,off+i*k,none⟩)):=
 Reads.pure fun w=>jv a b off i hi κ c
theorem Rd.here {w:World} {b off n c:Nat} {l:Bs} (h:Rd w (pO b off) n c l) (i:Nat) (hi:i<l.length):w.cell? ⟨b,off+i,none⟩=some (B8 (l.getD i 0)):=by
 obtain ⟨h1,h2,h3,h4⟩:=h
 obtain ⟨b',o',e,h5⟩:=h4 (by omega)
 injection e with e
 injection e with e1 e2
 subst e1;subst e2
 exact h5 i (by omega)
theorem oW {T:TypeId} {w:World} {a:Addr} {u:Vl} (hc:w.cell? a=some u) (ha:∀ w,(isAgg T).run P w = .ok false w):(Instr.loadAt T (.pointer (some a))).run P w = .ok u w:=by
 unfold Instr.loadAt loadVar
 simp [Sem.run_bind,Instr.sureAddr,ha,Result.andThen,Go.load,Sem.run,hc]
theorem dH {T:TypeId} (a b off n c i:Nat) (l:Bs) (ha:∀ w,(isAgg T).run P w = .ok false w:=by intro w;kernel_rfl) (hi:i<l.length:=by omega):Reads P (vS (Instr.loadAt T (.pointer (some ⟨b,off+i*1,none⟩)))) [(a,.fa (BF (some ⟨b,off,none⟩) n c l))] (B8 (l.getD i 0)):=fun w _ hf=>
 ce (oW (by rw [Nat.mul_one];exact Rd.here (hf 0 a _ rfl) i hi) ha)
theorem dM {T:TypeId} (b off:Nat) (a:List Vl) (t:TypeId) (u:Vl) (ha:∀ w,(isAgg T).run P w = .ok false w:=by intro w;kernel_rfl) (h:a[off]?=some u:=by rfl):Reads P (vS (Instr.loadAt T (.pointer (some ⟨b,off,none⟩)))) [(b,.cl a t)] u:=fun w hl _=>by
 obtain ⟨o,h1,h2⟩:=hl 0 b _ rfl rfl
 exact ce (fD h1 (fZ off [u] (fG h) o h2) ha)
theorem du {T:TypeId} (b i:Nat) (l:Bs) (t:TypeId) (hi:i<l.length) (ha:∀ w,(isAgg T).run P w = .ok false w:=by intro w;kernel_rfl):Reads P (vS (Instr.loadAt T (.pointer (some ⟨b,i,none⟩)))) [(b,.cl (l.map B8) t)] (B8 (l.getD i 0)):=
 dM b i _ t _ ha (by rw [List.getElem?_map,List.getD_eq_getElem?_getD,List.getElem?_eq_getElem hi];rfl)
theorem g7 {T:TypeId} (b off j:Nat) (vs:List Vl) (u:Vl) (h:vs[j]?=some u) (ha:∀ w,(isAgg T).run P w = .ok false w:=by intro w;kernel_rfl):Reads P (vS (Instr.loadAt T (.pointer (some ⟨b,off+j*1,none⟩)))) [(b,.pr (bG off vs))] u:=fun w hl _=>by
 obtain ⟨o,h1,h2⟩:=hl 0 b _ rfl rfl
 rw [Nat.mul_one]
 exact ce (fD h1 (c7 off j (fG h) o h2) ha)
theorem je {T:TypeId} (a b o:Nat) (vs:List Vl) (u:Vl) (ha:∀ w,(isAgg T).run P w = .ok false w:=by intro w;kernel_rfl) (h:vs[o]?=some u:=by rfl):Reads P (vS (Instr.loadAt T (.pointer (some ⟨b,o,none⟩)))) [(a,.fa (CF b 0 vs))] u:=fun w _ hf=>by
 obtain ⟨ob,h1,h2⟩:=hf 0 a _ rfl
 have:=fD h1 (c7 0 o (fG h) ob h2) ha
 rw [Nat.zero_add] at this
 exact ce this
theorem u7 {T:TypeId} {d:TypeDesc} (c:P.underlying T=some d) (hd:d.isRow=true) (b off:Nat) (a vs:List Vl) (t:TypeId) (hi:(P.info? T).map (·.size)=some vs.length) (h:∀ j u,vs[j]?=some u→a[off+j]?=some u):Reads P (vS (Instr.loadAt T (.pointer (pO b off)))) [(b,.cl a t)] (.agg vs.toArray):=fun w hl _=>by
 obtain ⟨o,h1,h2⟩:=hl 0 b _ rfl rfl
 exact ce (gI h1 (fZ off vs h o h2) c hd hi)
theorem cI {T:TypeId} {d:TypeDesc} (a:P.underlying T=some d) (b:Nat) (l:Bs) (t:TypeId) (n:Nat) (hd:d.isRow=true:=by kernel_rfl) (hi:(P.info? T).map (·.size)=some n:=by kernel_rfl) (c:n=l.length:=by omega):Reads P (vS (Instr.loadAt T (.pointer (some ⟨b,0,none⟩)))) [(b,.cl (l.map B8) t)] (.agg (l.map B8).toArray):=
 u7 a hd b 0 _ _ t (by rw [List.length_map,← c];exact hi) fun j u h=>by simpa using h
theorem k9 {t e:TypeId} {k:Nat} (d:P.underlying t=some (.slice e)) (f:(P.info? e).map (·.size)=some k) (b off n c:Nat) (lo hi a:Option Nat) (g:a.isSome=true→hi.isSome=true) (h1:lo.getD 0≤hi.getD n) (h2:hi.getD n≤a.getD c) (h3:a.getD c≤c) :
 Reads P (vS (Instr.sliceAt t (sO b off n c) (oI lo) (oI hi) (oI a))) [] (sO b (if a.getD c=lo.getD 0 then off else off+lo.getD 0*k) (hi.getD n-lo.getD 0) (a.getD c-lo.getD 0)):=
 Reads.pure fun w=>sX d f b off n c lo hi a g h1 h2 h3 w
theorem pm {t e:TypeId} {k:Nat} (a:P.underlying t=some (.slice e)) (b off n c hi:Nat) (d:(P.info? e).map (·.size)=some k:=by kernel_rfl) (h2:hi≤c:=by omega) :
 Reads P (vS (Instr.sliceAt t (.slice (some ⟨b,off,none⟩) n c) none (some (.int .i64 (hi:Int))) none)) [] (.slice (some ⟨b,off,none⟩) hi c):=by
 have:=k9 (P:=P) a d b off n c none (some hi) none (by intro h;cases h) (Nat.zero_le _) h2 (Nat.le_refl _)
 simp only [Option.getD_none,Option.getD_some,Nat.sub_zero,Nat.zero_mul,Nat.add_zero,ite_self] at this
 exact this
theorem lI {t e:TypeId} {k:Nat} (d:P.underlying t=some (.slice e)) (b off n c hi a:Nat) (h2:a≤c) (f:(P.info? e).map (·.size)=some k:=by kernel_rfl) (h1:hi≤a:=by omega) :
 Reads P (vS (Instr.sliceAt t (.slice (some ⟨b,off,none⟩) n c) none (some (.int .i64 (hi:Int))) (some (.int .i64 (a:Int))))) [] (.slice (some ⟨b,off,none⟩) hi a):=by
 have:=k9 (P:=P) d f b off n c none (some hi) (some a) (by intro h;rfl) (Nat.zero_le _) h1 h2
 simp only [Option.getD_none,Option.getD_some,Nat.sub_zero,Nat.zero_mul,Nat.add_zero,ite_self] at this
 exact this
theorem jW {t e:TypeId} {k:Nat} (a:P.underlying t=some (.slice e)) (b off n c lo:Nat) (d:(P.info? e).map (·.size)=some k:=by kernel_rfl) (h1:lo≤n:=by omega) (h2:n≤c:=by omega) :
 Reads P (vS (Instr.sliceAt t (.slice (some ⟨b,off,none⟩) n c) (some (.int .i64 (lo:Int))) none none)) [] (.slice (some ⟨b,if c=lo then off else off+lo*k,none⟩) (n-lo) (c-lo)):=by
 have:=k9 (P:=P) a d b off n c (some lo) none none (by intro h;cases h) h1 h2 (Nat.le_refl _)
 simp only [Option.getD_none,Option.getD_some] at this
 exact this
theorem kD {t e:TypeId} {k:Nat} (a:P.underlying t=some (.slice e)) (b off n c lo:Nat) (h2:n≤c) (d:(P.info? e).map (·.size)=some k:=by kernel_rfl) (h1:lo<n:=by omega) :
 Reads P (vS (Instr.sliceAt t (.slice (some ⟨b,off,none⟩) n c) (some (.int .i64 (lo:Int))) none none)) [] (.slice (some ⟨b,off+lo*k,none⟩) (n-lo) (c-lo)):=by
 have:=jW (P:=P) a b off n c lo d (Nat.le_of_lt h1) h2
 rw [if_neg (by omega)] at this
 exact this
theorem gR {t e:TypeId} {k:Nat} (a:P.underlying t=some (.slice e)) (b off n c lo hi:Nat) (d:(P.info? e).map (·.size)=some k:=by kernel_rfl) (h1:lo≤hi:=by omega) (h2:hi≤c:=by omega) (h3:lo<c:=by omega) :
 Reads P (vS (Instr.sliceAt t (.slice (some ⟨b,off,none⟩) n c) (some (.int .i64 (lo:Int))) (some (.int .i64 (hi:Int))) none)) [] (.slice (some ⟨b,off+lo*k,none⟩) (hi-lo) (c-lo)):=by
 have:=k9 (P:=P) a d b off n c (some lo) (some hi) none (by intro h;cases h) h1 h2 (Nat.le_refl _)
 simp only [Option.getD_none,Option.getD_some] at this
 rw [if_neg (by omega)] at this
 exact this
theorem eY {t e:TypeId} {k:Nat} (a:P.underlying t=some (.slice e)) (b off n c lo m:Nat) (d:(P.info? e).map (·.size)=some k:=by kernel_rfl) (h2:lo+m≤c:=by omega) (h3:0<m:=by omega) :
 Reads P (vS (Instr.sliceAt t (.slice (some ⟨b,off,none⟩) n c) (some (.int .i64 (lo:Int))) (some (.int .i64 ((lo+m:Nat):Int))) none)) [] (.slice (some ⟨b,off+lo*k,none⟩) m (c-lo)):=by
 have:=gR (P:=P) a b off n c lo (lo+m) d (by omega) h2
 rw [Nat.add_sub_cancel_left] at this
 exact this
theorem zq {t e:TypeId} {k:Nat} (d:P.underlying t=some (.slice e)) (f:(P.info? e).map (·.size)=some k) (b off n c lo hi a:Nat) (h1:lo≤hi) (h2:hi≤a) (h4:a≤c) (h3:lo<a) :
 Reads P (vS (Instr.sliceAt t (sO b off n c) (some (.int .i64 lo)) (some (.int .i64 hi)) (some (.int .i64 a)))) [] (sO b (off+lo*k) (hi-lo) (a-lo)):=by
 have:=k9 (P:=P) d f b off n c (some lo) (some hi) (some a) (by intro h;rfl) h1 h2 h4
 simp only [Option.getD_none,Option.getD_some] at this
 rw [if_neg (by omega)] at this
 exact this
theorem eh (j b:Nat) {e n c:Nat} {l:Bs} (d:n=l.length) (h:GW P Q K0 w0 M ⟨st.todo,st.ts,st.ds,st.H.set j (b,.fa (BF (pA b) n c l)),st.nr⟩) (a:(st.H[j]?,eF st.todo,st.nr.ble j)=(some (b,.pr (bn e 1 n c (l.map B8))),true,true):=by kernel_rfl):GW P Q K0 w0 M st:=by
 simp only [Prod.mk.injEq] at a
 obtain ⟨h1,h2,h3⟩:=a
 refine ip j b (.pr (bn e 1 n c (l.map B8))) (BF (pA b) n c l) ?_ h (by rw [h1,h2,h3];rfl)
 rintro w ⟨o,ho,cur,rfl,hs,ht,hc,hm⟩
 refine ⟨d,hc,hm,fun h0=>⟨b,0,rfl,fun k hk=>?_⟩⟩
 have:=dU ho (ci _ ⟨cur,rfl,hs,ht,hc,hm⟩) k (B8 (l.getD k 0)) (by simp [List.getD,List.getElem?_eq_getElem (show k<l.length by omega)])
 rw [Addr.add_lit] at this
 exact this
theorem gW (j b:Nat) {t:TypeId} {l:Bs} (n:Nat) (c:n=l.length) (d:n≤maxLen) (h:GW P Q K0 w0 M ⟨st.todo,st.ts,st.ds,st.H.set j (b,.fa (BF (pA b) n n l)),st.nr⟩) (a:(st.H[j]?,eF st.todo,st.nr.ble j)=(some (b,.cl (l.map B8) t),true,true):=by kernel_rfl):GW P Q K0 w0 M st:=by
 simp only [Prod.mk.injEq] at a
 obtain ⟨h1,h2,h3⟩:=a
 refine ip j b (.cl (l.map B8) t) (BF (pA b) n n l) ?_ h (by rw [h1,h2,h3];rfl)
 rintro w ⟨o,ho,hcl⟩
 refine ⟨c,Nat.le_refl _,d,fun h0=>⟨b,0,rfl,fun k hk=>?_⟩⟩
 have:=dU ho (bA _ hcl) k (B8 (l.getD k 0)) (by simp [List.getD,List.getElem?_eq_getElem (show k<l.length by omega)])
 rw [Addr.add_lit] at this
 exact this
end
end Go.Proofs.YtlkeemedalncoaaGreat.En
namespace Go.Proofs.YtlkeemedalncoaaGreat.En
open Go Go.Proofs.YtlkeemedalncoaaGreat Go.Proofs.Tryz
abbrev TT:=Tri Tryz.prog
abbrev bi (b:Nat):Vl:=.pointer (pA b)
abbrev i64 (n:Int):Vl:=.int .i64 n
abbrev u8 (n:Int):Vl:=.int .u8 n
abbrev u16 (n:Int):Vl:=.int .u16 n
abbrev u32 (n:Int):Vl:=.int .u32 n
abbrev u64 (n:Int):Vl:=.int .u64 n
theorem HG:prog.follows .mixedOrders=true:=by kernel_rfl
section
variable {Q:QR} {K0:Nat→Prop} {w0:World} {M:List Nat} {st:ES}
theorem fe (hs:List Nat) (n:Nat) (L:List (Bool×Bool)) (a:Alike L) (h:∀ nm:Nat→Nat,((sg prog 1000 hs st n nm).eqs.map (·.1),(sg prog 1000 hs st n nm).bqs)=((sg prog 1000 hs st n nm).eqs.map (·.2),L)∧GW prog Q K0 w0 M (sg prog 1000 hs st n nm).st):GW prog Q K0 w0 M st:=
 HB HG 1000 n hs L a h
theorem Eg (hs:List Nat) (st:ES) (a:Nat→Nat):sg prog 1000 hs st 0 a=sg prog 1000 hs st 0 fun _=>0:=by unfold sg;rfl
theorem bj (hs:List Nat) (h:GW prog Q K0 w0 M (sg prog 1000 hs st 0 fun _=>0).st) (c:((sg prog 1000 hs st 0 fun _=>0).eqs.map (·.1),(sg prog 1000 hs st 0 fun _=>0).bqs)=((sg prog 1000 hs st 0 fun _=>0).eqs.map (·.2),[]):=by kernel_rfl):GW prog Q K0 w0 M st:=
 fe hs 0 [] bt fun nm=>by rw [Eg hs st nm];exact ⟨c,h⟩
theorem zE (h:GW prog Q K0 w0 M (sg prog 1000 [] st 0 fun _=>0).st) (c:((sg prog 1000 [] st 0 fun _=>0).eqs.map (·.1),(sg prog 1000 [] st 0 fun _=>0).bqs)=((sg prog 1000 [] st 0 fun _=>0).eqs.map (·.2),[]):=by kernel_rfl):GW prog Q K0 w0 M st:=bj [] h c
theorem bK (hs:List Nat) {L:List (Bool×Bool)} (a:Alike L) (h:GW prog Q K0 w0 M (sg prog 1000 hs st 0 fun _=>0).st) (c:((sg prog 1000 hs st 0 fun _=>0).eqs.map (·.1),(sg prog 1000 hs st 0 fun _=>0).bqs)=((sg prog 1000 hs st 0 fun _=>0).eqs.map (·.2),L):=by kernel_rfl):GW prog Q K0 w0 M st:=
 fe hs 0 L a fun nm=>by rw [Eg hs st nm];exact ⟨c,h⟩
theorem tT (b:Bool) (h:b=true:=by first | (simp;done) | (simp;omega)):b=true:=h
theorem dT (p:Prop) [Decidable p] (h:decide p=true:=by first | (simp;done) | (simp;omega)):decide p=true:=h
theorem dF (p:Prop) [Decidable p] (h:decide p=false:=by first | (simp;done) | (simp;omega)):decide p=false:=h
theorem tF (b:Bool) (h:b=false:=by first | (simp;done) | (simp;omega)):b=false:=h
theorem bu (hs:List Nat) (n:Nat) (h:∀ nm:Nat→Nat,GW prog Q K0 w0 M (sg prog 1000 hs st n nm).st) (c:∀ nm:Nat→Nat,((sg prog 1000 hs st n nm).eqs.map (·.1),(sg prog 1000 hs st n nm).bqs)=((sg prog 1000 hs st n nm).eqs.map (·.2),[]):=by intro nm;kernel_rfl):GW prog Q K0 w0 M st:=
 fe hs n [] bt fun nm=>⟨c nm,h nm⟩
end
def Same (f:FuncId) (args:Array Vl) (HR:HP) (v:Vl):Prop:=TT f args HR [] uT (fun _=>.returned v) (fun _=>[]) (fun _=>[])
end Go.Proofs.YtlkeemedalncoaaGreat.En
namespace Go.Proofs.YtlkeemedalncoaaGreat.En
open Go Go.Proofs.YtlkeemedalncoaaGreat
def bE (bl:List Bs):List Vl:=(bl.map fun l=>l.map B8).flatten
def bP (bl:List Bs):Prop:=∀ l∈bl,l.length=256
theorem eZ {a:List Bs} (h:bP a):(bE a).length=a.length*256:=by
 induction a with
 | nil=>rfl
 | cons x a ih=>
  have h1:=h x List.mem_cons_self
  have h2:=ih fun l hl=>h l (List.mem_cons_of_mem _ hl)
  simp only [bE,List.map_cons,List.flatten_cons,List.length_append,List.length_map] at h2 ⊢
  rw [h1,h2]
  simp
  omega
theorem jS (x:Bs) (a:List Bs):bE (x::a)=x.map B8++bE a:=by simp [bE]
theorem mw {a:List Bs} (h:bP a) {i:Nat} (hi:i<a.length):∃ pre post,bE a=pre++(a.getD i []).map B8++post∧pre.length=i*256∧∀ b,b.length=256→bE (a.set i b)=pre++b.map B8++post:=by
 induction a generalizing i with
 | nil=>simp at hi
 | cons x a ih=>
  cases i with
  | zero=>exact ⟨[],bE a,by simp [jS],rfl,fun b _=>by simp [jS]⟩
  | succ i=>
   obtain ⟨pre,post,h1,h2,h3⟩:=ih (fun l hl=>h l (List.mem_cons_of_mem _ hl)) (i:=i) (by simpa using hi)
   refine ⟨x.map B8++pre,post,by rw [jS,h1];simp,?_,fun b hb=>by simp [jS,h3 b hb]⟩
   have:=h x List.mem_cons_self
   simp [this,h2]
   omega
theorem iu {a:List Bs} (h:bP a) {i:Nat} (hi:i<a.length:=by omega):(a.getD i []).length=256:=by
 rw [List.getD_eq_getElem?_getD,List.getElem?_eq_getElem hi]
 exact h _ (List.getElem_mem hi)
theorem B9 {a:List Bs} (h:bP a) {i:Nat} (hi:i<a.length):∀ (j:Nat) (u:Vl),((a.getD i []).map B8)[j]?=some u→(bE a)[i*256+j]?=some u:=by
 intro j u hu
 obtain ⟨pre,post,h1,h2,_⟩:=mw h hi
 rw [h1,List.append_assoc,List.getElem?_append_right (by omega),h2,Nat.add_sub_cancel_left,List.getElem?_append_left (cj hu)]
 exact hu
theorem sr {a:List Bs} (h:bP a) {i:Nat} (hi:i<a.length) {b:Bs} (hb:b.length=256):cW (bE a) (i*256) (b.map B8)=bE (a.set i b):=by
 obtain ⟨pre,post,h1,h2,h3⟩:=mw h hi
 have h4:=iu h hi
 rw [h3 b hb,h1,cW,← h2]
 have c:(pre++(a.getD i []).map B8++post).take pre.length=pre:=by rw [List.append_assoc,List.take_left]
 have e2:(pre++(a.getD i []).map B8++post).drop (pre.length+(b.map B8).length)=post:=by rw [show pre.length+(b.map B8).length=(pre++(a.getD i []).map B8).length by simp only [List.length_append,List.length_map];omega,List.drop_left]
 rw [c,e2]
theorem lZ {a:List Bs} (h:bP a) (i:Nat) {b:Bs} (hb:b.length=256):bP (a.set i b):=by
 intro l hl
 rcases List.mem_or_eq_of_mem_set hl with hl | rfl
 · exact h l hl
 · exact hb
theorem dB (l:Bs):∀ v∈l.map B8,v.oneCell'=true:=by
 intro v hv
 obtain ⟨x,_,rfl⟩:=List.mem_map.1 hv
 rfl
theorem ql (a:List Bs):∀ v∈bE a,v.oneCell'=true:=by
 intro v hv
 obtain ⟨l,hl,hv⟩:=List.mem_flatten.1 hv
 obtain ⟨x,_,rfl⟩:=List.mem_map.1 hl
 exact dB _ _ hv
theorem oQ:∀ N,bE (List.replicate N (List.replicate 256 0))=List.replicate (N*256) (Value.int .u8 0)
 | 0=>rfl
 | N+1=>by
  rw [List.replicate_succ,jS,oQ N,List.map_replicate,Nat.succ_mul,Nat.add_comm,← List.replicate_append_replicate]
  rfl
theorem xT (N:Nat):bP (List.replicate N (List.replicate 256 0)):=by
 intro l hl
 rw [(List.mem_replicate.1 hl).2,List.length_replicate]
theorem iX (vs:List Vl):(Value.agg vs.toArray).cells.toList=vs:=by simp [Value.cells]
def part (b:Bs) (at_:Nat) (l:Bs):Bs:=b.take at_++l++b.drop (at_+l.length)
theorem l9 {b l:Bs} {at_:Nat} (h:at_+l.length≤b.length):(part b at_ l).length=b.length:=by
 simp only [part,List.length_append,List.length_take,List.length_drop]
 omega
theorem qH {a:List Bs} (h:bP a) {i:Nat} (hi:i<a.length) {at_:Nat} {l:Bs} (d:at_+l.length≤256):cW (bE a) (i*256+at_) (l.map B8)=bE (a.set i (part (a.getD i []) at_ l)):=by
 have h4:=iu h hi
 have hb:(part (a.getD i []) at_ l).length=256:=by rw [l9 (by omega),h4]
 obtain ⟨pre,post,h1,h2,h3⟩:=mw h hi
 rw [h3 _ hb,h1,cW,← h2,List.length_map]
 generalize a.getD i []=b at h4 ⊢
 have c:(pre++b.map B8++post).take (pre.length+at_)=pre++(b.take at_).map B8:=by
  rw [List.append_assoc,List.take_append,List.take_of_length_le (by omega),show pre.length+at_-pre.length=at_ by omega,List.take_append_of_le_length (by rw [List.length_map];omega),List.map_take]
 have e2:(pre++b.map B8++post).drop (pre.length+at_+l.length)=(b.drop (at_+l.length)).map B8++post:=by
  rw [List.append_assoc,Nat.add_assoc,List.drop_append,List.drop_of_length_le (by omega),List.nil_append,show pre.length+(at_+l.length)-pre.length=at_+l.length by omega,List.drop_append_of_le_length (by rw [List.length_map];omega),List.map_drop]
 rw [c,e2]
 simp only [part,List.map_append,List.append_assoc]
end Go.Proofs.YtlkeemedalncoaaGreat.En
namespace Go.Proofs.YtlkeemedalncoaaGreat
theorem take_snoc (l:List UInt8) (k:Nat) (h:k<l.length):l.take (k+1)=l.take k++[l.getD k 0]:=by
 rw [List.take_succ_eq_append_getElem h];simp [List.getD,List.getElem?_eq_getElem h]
theorem qd {α:Type} {P:List α→Prop} (h0:P []) (h1:∀ l x,P l→P (l++[x])) (l:List α):P l:=by
 have:∀ n,∀ l:List α,l.length=n→P l:=by
  intro n
  induction n with
  | zero=>intro l hl;rw [List.eq_nil_of_length_eq_zero hl];exact h0
  | succ n ih=>
   intro l hl
   have a:l≠[]:=by intro e;subst e;simp at hl
   rw [← List.dropLast_concat_getLast a]
   exact h1 _ _ (ih _ (by simp [hl]))
 exact this _ l rfl
def b8 (l:List UInt8):Nat:=l.foldl (fun a x=>256*a+x.toNat) 0
theorem l4 (l:List UInt8) (x:UInt8):b8 (l++[x])=256*b8 l+x.toNat:=by simp [b8]
theorem xF (l:List UInt8):b8 l<256^l.length:=by
 induction l using qd with
 | h0=>simp [b8]
 | h1 l x ih=>rw [l4,List.length_append,List.length_singleton,Nat.pow_succ];have:=x.toNat_lt;omega
theorem yf (l:List UInt8) (k:Nat) (x:UInt8) (h:k<l.length) (a:l.getD k 0=x):b8 (l.take (k+1))=256*b8 (l.take k)+x.toNat:=by
 rw [take_snoc l k h,l4,a]
theorem rq (l:List UInt8) (k:Nat) (a:k≤7):b8 (l.take k)<72057594037927936:=by
 have hb:=xF (l.take k)
 have b:256^(l.take k).length≤256^7:=Nat.pow_le_pow_right (by omega) (by simp;omega)
 omega
theorem kH (l:List UInt8) (a:l.length≤8):b8 l<18446744073709551616:=by
 have hb:=xF l
 have b:256^l.length≤256^8:=Nat.pow_le_pow_right (by omega) a
 omega
def be (n:Nat):Nat→List UInt8
 | 0=>[]
 | k+1=>UInt8.ofNat (n/256^k)::be n k
theorem cc (n k:Nat):(be n k).length=k:=by induction k with
 | zero=>rfl
 | succ k ih=>simp [be,ih]
theorem tz (a b:Nat):a ||| b=0↔a=0∧b=0:=Nat.or_eq_zero_iff
theorem xor_zero (a b:UInt8):a.toNat^^^b.toNat=0↔a=b:=by
 rw [← UInt8.toNat_xor,← UInt8.toNat_inj]
 constructor
 · intro h
   have h2:a^^^b=0:=UInt8.toNat_inj.1 (by rw [h];rfl)
   have h3:(a^^^b)^^^b=0^^^b:=by rw [h2]
   rw [UInt8.xor_assoc,UInt8.xor_self,UInt8.xor_zero,UInt8.zero_xor] at h3
   rw [h3]
 · intro h
   rw [UInt8.toNat_inj] at h;subst h
   rw [UInt8.xor_self];rfl
def fB (l:List UInt8):Bool:=l.all (·==0)
theorem vl (l:List UInt8) (x:UInt8):fB (l++[x])=(fB l&&x==0):=by simp [fB]
def ir (l:List UInt8):UInt8:=l.foldl (· ||| ·) 0
theorem oF (l:List UInt8) (x:UInt8):ir (l++[x])=ir l ||| x:=by simp [ir]
theorem y9 (l:List UInt8) (k:Nat) (x:UInt8) (h:k<l.length) (a:l.getD k 0=x):ir (l.take (k+1))=ir (l.take k) ||| x:=by
 rw [take_snoc l k h,oF,a]
theorem vG (a b:UInt8):a ||| b=0↔a=0∧b=0:=by
 rw [← UInt8.toNat_inj,UInt8.toNat_or]
 show a.toNat ||| b.toNat=0↔_
 rw [tz,← UInt8.toNat_inj,← UInt8.toNat_inj (a:=b)]
 rfl
theorem qj (l:List UInt8):(ir l).toNat=0↔fB l=true:=by
 have e:(ir l).toNat=0↔ir l=0:=by rw [← UInt8.toNat_inj];rfl
 rw [e]
 clear e
 induction l using qd with
 | h0=>simp [ir,fB]
 | h1 l x ih=>
  have a:ir l=0↔fB l=true:=ih
  rw [oF,vl,vG,a];simp
def eM (l m:List UInt8):List UInt8:=List.zipWith (·^^^·) l m
theorem lA (l m:List UInt8):(eM l m).length=min l.length m.length:=by simp [eM]
theorem qg (l m:List UInt8) (k:Nat) (x y:UInt8) (h:k<l.length) (a:k<m.length) (b:l.getD k 0=x) (c:m.getD k 0=y) :
 eM (l.take (k+1)) (m.take (k+1))=eM (l.take k) (m.take k)++[x^^^y]:=by
 rw [take_snoc l k h,take_snoc m k a,b,c]
 unfold eM
 rw [List.zipWith_append (by simp;omega)]
 rfl
theorem oY:∀ (l m:List UInt8),l.length=m.length→(fB (eM l m)=true↔l=m)
 | [],[],_=>by simp [eM,fB]
 | x::l,y::m,h=>by
  have a:=oY l m (by simpa using h)
  have e:fB (eM (x::l) (y::m))=(((x^^^y)==0)&&fB (eM l m)):=by simp [eM,fB]
  rw [e,Bool.and_eq_true,a,beq_iff_eq,List.cons.injEq]
  have:x^^^y=0↔x=y:=by
   rw [← xor_zero x y,← UInt8.toNat_xor,← UInt8.toNat_inj];rfl
  rw [this]
 | [],_::_,h=>by simp at h
 | _::_,[],h=>by simp at h
theorem yM (l m:List UInt8) (h:l.length=m.length):((ir (eM l m)).toNat==0)=(l==m):=by
 rw [Bool.eq_iff_iff,beq_iff_eq,qj,oY l m h,beq_iff_eq]
theorem BA (n j:Nat):be n (j+1)=UInt8.ofNat (n/256^j)::be n j:=rfl
theorem zN (x:UInt8) (l:List UInt8):b8 (x::l)=x.toNat*256^l.length+b8 l:=by
 induction l using qd with
 | h0=>simp [b8]
 | h1 l y ih=>
  have a:b8 (x::l)=x.toNat*256^l.length+b8 l:=ih
  rw [← List.cons_append,l4,l4,a,List.length_append,List.length_singleton,Nat.pow_succ,Nat.mul_add,← Nat.mul_assoc,← Nat.mul_assoc]
  have:x.toNat*256^l.length*256=256*x.toNat*256^l.length:=by rw [Nat.mul_comm _ 256,Nat.mul_assoc]
  omega
theorem Dn (n k:Nat):b8 (be n k)=n%256^k:=by
 induction k with
 | zero=>simp [be,b8,Nat.mod_one]
 | succ k ih=>
  rw [BA,zN,cc,ih]
  have a:(UInt8.ofNat (n/256^k)).toNat=n/256^k%256:=by simp
  rw [a,Nat.pow_succ,Nat.mod_mul,Nat.mul_comm]
  omega
theorem gc (n k:Nat) (h:n<256^k:=by omega):b8 (be n k)=n:=by rw [Dn,Nat.mod_eq_of_lt h]
theorem mU:∀ (l m:List UInt8),l.length=m.length→eM (eM l m) m=l
 | [],[],_=>rfl
 | x::l,y::m,h=>by
  have a:=mU l m (by simpa using h)
  show (x^^^y^^^y)::eM (eM l m) m=x::l
  rw [a,UInt8.xor_assoc,UInt8.xor_self,UInt8.xor_zero]
 | [],_::_,h=>by simp at h
 | _::_,[],h=>by simp at h
end Go.Proofs.YtlkeemedalncoaaGreat
namespace Go.Proofs.YtlkeemedalncoaaGreat
open Go.RowKit



theorem tc:(Tryz.prog.info? 5).map (fun i=>(i.zero,i.size,i.bytes))=some (some (.int .u8 0),1,1):=by kernel_rfl

end Go.Proofs.YtlkeemedalncoaaGreat
