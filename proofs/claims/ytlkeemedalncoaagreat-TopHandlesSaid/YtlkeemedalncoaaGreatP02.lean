/- TopHandles, part 2: no condition. -/
import Derived.OrdersIn
import Derived.Defers
import Derived.Recover
import Derived.Deep.LoopGhost
import Derived.RangeFuncLeaves
import Derived.RangeFuncSeq
import Derived.KernelRfl
import Derived.Test.YtlkeemedalncoaaGreatP01
set_option linter.all false
set_option maxHeartbeats 16000000
set_option maxRecDepth 100000
namespace Go.Proofs.YtlkeemedalncoaaGreat.En
open Go Go.Proofs.YtlkeemedalncoaaGreat
abbrev pA (b:Nat):Option Addr:=some ⟨b,0,none⟩
abbrev pO (b o:Nat):Option Addr:=some ⟨b,o,none⟩
abbrev sA (b n c:Nat):Value:=.slice (some ⟨b,0,none⟩) n c
abbrev sO (b o n c:Nat):Value:=.slice (some ⟨b,o,none⟩) n c
abbrev Bs:=List UInt8
abbrev Vl:=Value
abbrev uT:Unit→Prop:=fun _=>True
abbrev iQ:List Value:=[.int .u8 0,.int .u8 0,.int .u8 0,.int .u8 0,.int .u8 0,.int .u8 0,.int .u8 0,.int .u8 0,.int .u8 0,.int .u8 0,.int .u8 0,.int .u8 0,.int .u8 0,.int .u8 0,.int .u8 0,.int .u8 0]
inductive SB where
 | cl (cs:List Value) (t:TypeId)
 | ob (o:Obj)
 | pr (p:Obj→Prop)
 | dead
 | fa (p:World→Prop)
def SB.ok:SB→Obj→Prop
 | .cl cs t,o=>o = .cells cs.toArray t (0,0)
 | .ob o',o=>o=o'
 | .pr p,o=>p o
 | .dead,_=>True
 | .fa _,_=>True
def SB.live:SB→Bool
 | .dead=>false
 | .fa _=>false
 | _=>true
def SB.isFa:SB→Bool
 | .fa _=>true
 | _=>false
abbrev HP:=List (Nat×SB)
def lv (H:HP):List Nat:=(H.filter fun x=>x.2.live).map (·.1)
structure Own (H:HP) (w:World):Prop where
 nd:∀ (i j b:Nat) (s t:SB),i≠j→H[i]?=some (b,s)→H[j]?=some (b,t)→s.live=true→t.live=true→False
 at_:∀ (j b:Nat) (s:SB),H[j]?=some (b,s)→s.live=true→∃ o,w.heap[b]?=some o∧s.ok o
theorem da {H:HP} {j b:Nat} {s:SB} (h:H[j]?=some (b,s)) (a:s.live=true):b∈lv H:=
 List.mem_map.2 ⟨(b,s),List.mem_filter.2 ⟨List.mem_of_getElem? h,a⟩,rfl⟩
theorem fM {H:HP} {b:Nat} (h:b∈lv H):∃ (j:Nat) (s:SB),H[j]?=some (b,s)∧s.live=true:=by
 obtain ⟨x,hx,rfl⟩:=List.mem_map.1 h
 obtain ⟨hx,hl⟩:=List.mem_filter.1 hx
 obtain ⟨j,hj,e⟩:=List.mem_iff_getElem.1 hx
 exact ⟨j,x.2,by rw [List.getElem?_eq_getElem hj,e],hl⟩
theorem cy (A B:HP):lv (A++B)=lv A++lv B:=by simp [lv]
theorem cj {α:Type} {l:List α} {i:Nat} {x:α} (h:l[i]?=some x):i<l.length:=by
 rcases Nat.lt_or_ge i l.length with hh | hh
 · exact hh
 · rw [List.getElem?_eq_none hh] at h;cases h
structure Fr (M:List Nat) (w w':World):Prop where
 os:w'.os=w.os
 tape:w'.tape=w.tape
 output:w'.output=w.output
 size:w.heap.size≤w'.heap.size
 block:∀ b,b<w.heap.size→b∉M→w'.heap[b]?=w.heap[b]?
theorem Fr.refl (M:List Nat) (w:World):Fr M w w:=⟨rfl,rfl,rfl,Nat.le_refl _,fun _ _ _=>rfl⟩
theorem Fr.trans {M:List Nat} {a b c:World} (h:Fr M a b) (k:Fr M b c):Fr M a c:=
 ⟨k.os.trans h.os,k.tape.trans h.tape,k.output.trans h.output,Nat.le_trans h.size k.size,fun i hi hM=>(k.block i (Nat.lt_of_lt_of_le hi h.size) hM).trans (h.block i hi hM)⟩
theorem Fr.mono {M N:List Nat} {a b:World} (h:Fr M a b) (hs:∀ x∈M,x∈N):Fr N a b:=
 ⟨h.os,h.tape,h.output,h.size,fun i hi hN=>h.block i hi fun hM=>hN (hs i hM)⟩
theorem Fr.then_ {M N:List Nat} {w0 w w':World} (h:Fr M w0 w) (k:Fr N w w') (a:∀ x∈N,x∈M∨w0.heap.size≤x):Fr M w0 w':=
 ⟨k.os.trans h.os,k.tape.trans h.tape,k.output.trans h.output,Nat.le_trans h.size k.size,fun i hi hM=>(k.block i (Nat.lt_of_lt_of_le hi h.size) (fun hx=>by
  rcases a i hx with h1 | h1
  · exact hM h1
  · omega)).trans (h.block i hi hM)⟩
theorem dR {w:World} {b:Nat} {o:Obj} (h:w.heap[b]?=some o):b<w.heap.size:=by
 rcases Nat.lt_or_ge b w.heap.size with h1 | h1
 · exact h1
 · rw [Array.getElem?_eq_none h1] at h;cases h
theorem Own.lt {H:HP} {w:World} (h:Own H w) {b:Nat} (hb:b∈lv H):b<w.heap.size:=by
 obtain ⟨j,s,hj,hl⟩:=fM hb
 obtain ⟨o,ho,_⟩:=h.at_ j b s hj hl
 exact dR ho
theorem Own.heap {H:HP} {w w':World} (h:Own H w) (e:w'.heap=w.heap):Own H w':=⟨h.nd,fun j b s hj=>by rw [e];exact h.at_ j b s hj⟩
def Fresh (bs:List Nat) (w:World):Prop:=∀ i b,bs[i]?=some b→b=w.heap.size+i
def Stab (K:Nat→Prop) (p:World→Prop) (w:World):Prop:=∀ w':World,(∀ b,K b→w'.heap[b]?=w.heap[b]?)→p w'
theorem Stab.now {K:Nat→Prop} {p:World→Prop} {w:World} (h:Stab K p w):p w:=h w fun _ _=>rfl
structure Kn (K:Nat→Prop) (H:HP) (w:World):Prop where
 off:∀ b,K b→b<w.heap.size∧b∉lv H
 fac:∀ (j a:Nat) (p:World→Prop),H[j]?=some (a,.fa p)→Stab K p w
def KExt (K0 K:Nat→Prop) (M:List Nat) (w0:World):Prop:=(∀ b,K0 b→K b)∧∀ b,K b→K0 b∨w0.heap.size≤b∨b∈M
theorem KExt.refl (K:Nat→Prop) (M:List Nat) (w:World):KExt K K M w:=⟨fun _ h=>h,fun _ h=>.inl h⟩
def FaS (H H':HP):Prop:=∀ (j a:Nat) (p:World→Prop),H'[j]?=some (a,SB.fa p)→∃ (i a':Nat),H[i]?=some (a',SB.fa p)
theorem FaS.refl (H:HP):FaS H H:=fun j a p h=>⟨j,a,h⟩
theorem FaS.trans {A B C:HP} (h:FaS A B) (k:FaS B C):FaS A C:=fun j a p e=>by
 obtain ⟨i,a',e'⟩:=k j a p e
 exact h i a' p e'
theorem Kn.step {K:Nat→Prop} {H c:HP} {M:List Nat} {w w':World} (h:Kn K H w) (e:Fr M w w') (f:∀ b∈M,b∈lv H) (g:∀ b∈lv c,b∈lv H∨w.heap.size≤b) (d:FaS H c):Kn K c w':=by
 refine ⟨fun b hb=>⟨Nat.lt_of_lt_of_le (h.off b hb).1 e.size,fun hm=>?_⟩,fun j a p hj w'' hw=>?_⟩
 · rcases g b hm with h1 | h1
   · exact (h.off b hb).2 h1
   · have:=(h.off b hb).1;omega
 · obtain ⟨i,a',hi⟩:=d j a p hj
   exact h.fac i a' p hi w'' fun b hb=>(hw b hb).trans (e.block b (h.off b hb).1 fun hm=>(h.off b hb).2 (f b hm))
theorem Kn.heap {K:Nat→Prop} {H:HP} {w w':World} (h:Kn K H w) (e:w'.heap=w.heap):Kn K H w':=
 ⟨fun b hb=>by rw [e];exact h.off b hb,fun j a p hj w'' hw=>h.fac j a p hj w'' fun b hb=>by rw [hw b hb,e]⟩
theorem Fresh.heap {bs:List Nat} {w w':World} (h:Fresh bs w) (e:w'.heap.size=w.heap.size):Fresh bs w':=fun i b hb=>by rw [e];exact h i b hb
def ua:Vl→Bool
 | .agg _=>false
 | .tuple _=>false
 | _=>true
def Obj.isCells':Obj→Bool
 | .cells ..=>true
 | _=>false
def conv:Obj→SB
 | .cells c t (0,0)=>.cl c.toList t
 | o=>.ob o
theorem xb (o:Obj):(conv o).isFa=false:=by
 unfold conv
 split <;> rfl
def tL:List Nat→List Nat
 | []=>[]
 | [j]=>[j]
 | _::l=>l
def j9 (js:List Nat):Nat:=js.headD 9999
theorem vd (b:List Nat):j9 b∈9999::b:=by
 cases b with
 | nil=>exact List.mem_cons_self
 | cons a l=>exact List.mem_cons_of_mem _ List.mem_cons_self
theorem lN (c:List Nat) (x:Nat) (h:x∉9999::c):x∉9999::tL c:=by
 intro hx
 apply h
 match c,hx with
 | [],hx=>exact hx
 | [_],hx=>exact hx
 | a::b::l,hx=>
  rcases List.mem_cons.1 hx with hx | hx
  · rw [hx];exact List.mem_cons_self
  · exact List.mem_cons_of_mem _ (List.mem_cons_of_mem _ hx)
theorem A6 (o:Obj):(conv o).ok o:=by
 unfold conv
 split
 · simp [SB.ok]
 · rfl
def dg (P:Program) {α:Type} (nr:Nat):List Nat→Sem α→HP→List Nat→Option (α×HP×List Nat×List (Nat×Nat))
 | _,.pure a,H,bs=>some (a,H,bs,[])
 | js,.load _ a k,H,bs=>
  match H[j9 js]? with
  | some (b,.cl cs _)=>
   if a.spot.isSome then none else
   match cs[a.off]? with
   | some v=>(dg P nr (tL js) (k v) H bs).map fun r=>(r.1,r.2.1,r.2.2.1,(a.block,b)::r.2.2.2)
   | none=>none
  | _=>none
 | js,.store _ a v k,H,bs=>
  if ua v&&nr.ble (j9 js) then
   match H[j9 js]? with
   | some (b,.cl cs t)=>
    if a.spot.isSome then none else
    if a.off<cs.length then (dg P nr (tL js) k (H.set (j9 js) (b,.cl (cs.set a.off v) t)) bs).map fun r=>(r.1,r.2.1,r.2.2.1,(a.block,b)::r.2.2.2)
    else none
   | _=>none
  else none
 | js,.new o k,H,bs=>
  match bs with
  | b::bs'=>dg P nr js (k b) (H++[(b,conv o)]) bs'
  | []=>none
 | js,.shape r k,H,bs=>
  match H[j9 js]? with
  | some (b,.cl cs t)=>(dg P nr (tL js) (k (some (t,cs.length))) H bs).map fun q=>(q.1,q.2.1,q.2.2.1,(r,b)::q.2.2.2)
  | _=>none
 | js,.getObj r k,H,bs=>
  match H[j9 js]? with
  | some (b,.ob o)=>if Obj.isCells' o then none else (dg P nr (tL js) (k o) H bs).map fun q=>(q.1,q.2.1,q.2.2.1,(r,b)::q.2.2.2)
  | _=>none
 | js,.setObj r o k,H,bs=>
  match H[j9 js]? with
  | some (b,.ob o')=>if Obj.isCells' o'||!nr.ble (j9 js) then none else (dg P nr (tL js) k (H.set (j9 js) (b,.ob o)) bs).map fun q=>(q.1,q.2.1,q.2.2.1,(r,b)::q.2.2.2)
  | _=>none
 | js,.choose q k,H,bs=>if q.forced then dg P nr js (k 0) H bs else none
 | js,.program k,H,bs=>dg P nr js (k P) H bs
 | js,.mark _ k,H,bs=>dg P nr js k H bs
 | js,.freeze ..,_,_=>none
 | js,.frozen ..,_,_=>none
 | js,.sys ..,_,_=>none
 | js,.halt _,_,_=>none
def wr (nr:Nat) (H:HP):List Nat:=lv (H.drop nr)
theorem fH {nr:Nat} {H:HP} {j b:Nat} {s:SB} (h:H[j]?=some (b,s)) (a:s.live=true) (c:nr≤j):b∈wr nr H:=
 da (j:=j-nr) (by rw [List.getElem?_drop,← h];congr 1;omega) a
theorem jV {nr:Nat} {H:HP} {b:Nat} (h:b∈wr nr H):∃ (j:Nat) (s:SB),nr≤j∧H[j]?=some (b,s)∧s.live=true:=by
 obtain ⟨j,s,hj,hl⟩:=fM h
 rw [List.getElem?_drop] at hj
 exact ⟨nr+j,s,by omega,hj,hl⟩
structure Ran (nr:Nat) (H:HP) (w:World) (H':HP) (bs':List Nat) (w':World):Prop where
 own:Own H' w'
 fresh:Fresh bs' w'
 fr:Fr (wr nr H) w w'
 ad:∀ b∈wr nr H',b∈wr nr H∨w.heap.size≤b
 al:∀ b∈lv H',b∈lv H∨w.heap.size≤b
 fa:FaS H H'
theorem GI {nr:Nat} {H:HP} {b:Nat} (h:b∈wr nr H):b∈lv H:=by
 obtain ⟨j,s,_,hj,hl⟩:=jV h
 exact da hj hl
theorem pG {H:HP} {j b:Nat} {s:SB} (hs:s.isFa=false):FaS H (H.set j (b,s)):=by
 intro i a p hi
 rw [List.getElem?_set] at hi
 split at hi
 · split at hi
   · injection hi with hi
     injection hi with _ h2
     subst h2
     cases hs
   · cases hi
 · exact ⟨i,a,hi⟩
theorem pP {H:HP} {b:Nat} {s:SB} (hs:s.isFa=false):FaS H (H++[(b,s)]):=by
 intro i a p hi
 rcases Nat.lt_or_ge i H.length with hl | hl
 · rw [List.getElem?_append_left hl] at hi
   exact ⟨i,a,hi⟩
 · rw [List.getElem?_append_right hl] at hi
   rcases hk:i-H.length with _ | k
   · rw [hk] at hi
     simp at hi
     obtain ⟨_,h2⟩:=hi
     subst h2
     cases hs
   · rw [hk] at hi
     simp at hi
theorem kI {H:HP} {j i:Nat} {y x:Nat×SB} (h:(H.set j y)[i]?=some x):(i=j∧x=y)∨(i≠j∧H[i]?=some x):=by
 rw [List.getElem?_set] at h
 split at h
 · rename_i e
   split at h
   · injection h with h;exact .inl ⟨e.symm,h.symm⟩
   · cases h
 · rename_i e;exact .inr ⟨fun e2=>e e2.symm,h⟩
theorem Own.put {H:HP} {w:World} (h:Own H w) {j b:Nat} {s s':SB} (d:H[j]?=some (b,s)) (a:s.live=true) {w':World} (hb:∃ o,w'.heap[b]?=some o∧s'.ok o) (f:∀ i,i≠b→w'.heap[i]?=w.heap[i]?):Own (H.set j (b,s')) w':=by
 constructor
 · intro i k c t u hik hi hk ht hu
   rcases kI hi with ⟨e1,e2⟩ | ⟨e1,e2⟩ <;> rcases kI hk with ⟨e3,e4⟩ | ⟨e3,e4⟩
   · exact hik (e1.trans e3.symm)
   · injection e2 with e5 e6
     subst e5
     exact h.nd k j c u s e3 e4 d hu a
   · injection e4 with e5 e6
     subst e5
     exact h.nd i j c t s e1 e2 d ht a
   · exact h.nd i k c t u hik e2 e4 ht hu
 · intro i c t hi ht
   rcases kI hi with ⟨e1,e2⟩ | ⟨e1,e2⟩
   · injection e2 with e5 e6
     subst e5;subst e6
     exact hb
   · obtain ⟨o,h1,h2⟩:=h.at_ i c t e2 ht
     refine ⟨o,?_,h2⟩
     rw [f c ?_]
     · exact h1
     · intro e
       subst e
       exact h.nd i j c t s e1 e2 d ht a
theorem Own.app {H:HP} {w:World} (h:Own H w) (o:Obj) {s:SB} (hs:s.ok o):Own (H++[(w.heap.size,s)]) {w with heap:=w.heap.push o}:=by
 have a:∀ (i:Nat) (x:Nat×SB),(H++[(w.heap.size,s)])[i]?=some x→(i<H.length∧H[i]?=some x)∨(i=H.length∧x=(w.heap.size,s)):=by
  intro i x hi
  rcases Nat.lt_or_ge i H.length with hl | hl
  · rw [List.getElem?_append_left hl] at hi;exact .inl ⟨hl,hi⟩
  · rw [List.getElem?_append_right hl] at hi
    rcases hk:i-H.length with _ | k
    · rw [hk] at hi
      simp at hi
      exact .inr ⟨by omega,hi.symm⟩
    · rw [hk] at hi
      simp at hi
 constructor
 · intro i j b t u hij hi hj ht hu
   rcases a i _ hi with ⟨h1,h2⟩ | ⟨h1,h2⟩ <;> rcases a j _ hj with ⟨h3,h4⟩ | ⟨h3,h4⟩
   · exact h.nd i j b t u hij h2 h4 ht hu
   · injection h4 with e1 e2
     have:=h.lt (da h2 ht)
     omega
   · injection h2 with e1 e2
     have:=h.lt (da h4 hu)
     omega
   · omega
 · intro j b t hj ht
   rcases a j _ hj with ⟨h1,h2⟩ | ⟨h1,h2⟩
   · obtain ⟨o',h3,h4⟩:=h.at_ j b t h2 ht
     refine ⟨o',?_,h4⟩
     have:=dR h3
     show (w.heap.push o)[b]?=_
     rw [Array.getElem?_push,if_neg (by omega)]
     exact h3
   · injection h2 with e1 e2
     subst e1;subst e2
     exact ⟨o,by simp,hs⟩
theorem oM {nr:Nat} {H:HP} {j b:Nat} {s s':SB} (h:H[j]?=some (b,s)) (a:s.live=true):∀ c∈wr nr (H.set j (b,s')),c∈wr nr H:=by
 intro c hc
 obtain ⟨i,t,hi,hg,ht⟩:=jV hc
 rcases kI hg with ⟨e1,e2⟩ | ⟨e1,e2⟩
 · injection e2 with e3 e4
   subst e1;subst e3
   exact fH h a hi
 · exact fH e2 ht hi
theorem Ran.step {nr:Nat} {H c f:HP} {w w1 w':World} {a:List Nat} (h:Ran nr c w1 f a w') (d:Fr (wr nr H) w w1) (ha:∀ m,∀ b∈wr m c,b∈wr m H∨w.heap.size≤b) (e:FaS H c):Ran nr H w f a w':=
 ⟨h.own,h.fresh,d.then_ h.fr (ha nr),fun b hb=>by
  rcases h.ad b hb with h1 | h1
  · exact ha nr b h1
  · exact .inr (Nat.le_trans d.size h1),fun b hb=>by
  rcases h.al b hb with h1 | h1
  · exact ha 0 b h1
  · exact .inr (Nat.le_trans d.size h1),e.trans h.fa⟩
theorem nN {w:World} {b:Nat} {c:List Vl} {t:TypeId} {a:Addr} (hb:w.heap[b]?=some (.cells c.toArray t (0,0))) (e:a.block=b) (hs:a.spot.isSome=false):w.cell? a=c[a.off]?:=by
 unfold World.cell?
 rw [e,hb]
 simp [hs]
theorem Bo {w:World} {b:Nat} {c:List Vl} {t:TypeId} {a:Addr} (hb:w.heap[b]?=some (.cells c.toArray t (0,0))) (e:a.block=b):w.frozen? a=false:=by
 unfold World.frozen?
 rw [e,hb]
 simp
theorem jt {P:Program} {α:Type} {nr:Nat} (s:Sem α):∀ (js:List Nat) (H:HP) (bs:List Nat) (w:World) (x:α) (H':HP) (bs':List Nat) (eqs:List (Nat×Nat)),
 dg P nr js s H bs=some (x,H',bs',eqs)→(∀ p∈eqs,p.1=p.2)→Own H w→Fresh bs w→∃ w',s.run P w = .ok x w'∧Ran nr H w H' bs' w':=by
 induction s with
 | pure a=>
  intro js H bs w x H' bs' eqs h he ho hf
  simp only [dg,Option.some.injEq,Prod.mk.injEq] at h
  obtain ⟨rfl,rfl,rfl,rfl⟩:=h
  exact ⟨w,rfl,ho,hf,Fr.refl _ _,fun b hb=>.inl hb,fun b hb=>.inl hb,FaS.refl _⟩
 | load m a k ih=>
  intro js H bs w x H' bs' eqs h he ho hf
  simp only [dg] at h
  split at h
  · rename_i b cs t hj
    split at h
    · cases h
    · rename_i hs
      split at h
      · rename_i v hv
        rw [Option.map_eq_some_iff] at h
        obtain ⟨r,hr,e⟩:=h
        simp only [Prod.mk.injEq] at e
        obtain ⟨rfl,rfl,rfl,rfl⟩:=e
        obtain ⟨o,h1,h2⟩:=ho.at_ _ b _ hj rfl
        have h2:o = .cells cs.toArray t (0,0):=h2
        subst h2
        obtain ⟨w',hw,hR⟩:=ih v _ H bs w _ _ _ _ hr (fun p hp=>he p (List.mem_cons_of_mem _ hp)) ho hf
        refine ⟨w',?_,hR⟩
        simp only [Sem.run]
        rw [nN h1 (he _ List.mem_cons_self) (by simpa using hs),hv]
        exact hw
      · cases h
  · cases h
 | store m a v k ih=>
  intro js H bs w x H' bs' eqs h he ho hf
  simp only [dg] at h
  split at h
  · rename_i hvn
    rw [Bool.and_eq_true] at hvn
    obtain ⟨hv,j⟩:=hvn
    have j:nr≤j9 js:=Nat.le_of_ble_eq_true j
    split at h
    · rename_i b cs t hj
      split at h
      · cases h
      · rename_i hs
        split at h
        · rename_i l
          rw [Option.map_eq_some_iff] at h
          obtain ⟨r,hr,e⟩:=h
          simp only [Prod.mk.injEq] at e
          obtain ⟨rfl,rfl,rfl,rfl⟩:=e
          obtain ⟨o,h1,h2⟩:=ho.at_ _ b _ hj rfl
          have h2:o = .cells cs.toArray t (0,0):=h2
          subst h2
          have g:a.block=b:=he _ List.mem_cons_self
          have u:a.spot.isSome=false:=by simpa using hs
          have f:(w.setCell a v).heap[b]?=some (.cells (cs.set a.off v).toArray t (0,0)):=by
           simp [World.setCell,Array.getElem?_modify,g,h1,u]
          have d:∀ i,i≠b→(w.setCell a v).heap[i]?=w.heap[i]?:=fun i hi=>RowKit.Below.heap_setCell w a v i (by rw [g];exact hi)
          have y:(w.setCell a v).heap.size=w.heap.size:=by simp [World.setCell]
          obtain ⟨w',hw,hR⟩:=ih _ _ bs (w.setCell a v) _ _ _ _ hr (fun p hp=>he p (List.mem_cons_of_mem _ hp)) (ho.put hj rfl ⟨_,f,rfl⟩ d) (hf.heap y)
          refine ⟨w',?_,hR.step ⟨rfl,rfl,rfl,by rw [y];exact Nat.le_refl _,fun i hi hM=>d i (fun e=>hM (by rw [e];exact fH hj rfl j))⟩ (fun m c hc=>.inl (oM hj rfl c hc)) (pG rfl)⟩
          have hc:w.cell? a=some (cs[a.off]):=by rw [nN h1 g u,List.getElem?_eq_getElem l]
          have A:w.frozen? a=false:=Bo h1 g
          cases v <;> first
           | (simp [ua] at hv;done)
           | (simp only [Sem.run];rw [hc];simp only [A];exact hw)
        · cases h
    · cases h
  · cases h
 | new o k ih=>
  intro js H bs w x H' bs' eqs h he ho hf
  unfold dg at h
  split at h
  · rename_i b bs1
    have hb:b=w.heap.size:=by have:=hf 0 b rfl;simpa using this
    subst hb
    have B:=ho.app o (A6 o)
    obtain ⟨w',hw,hR⟩:=ih _ _ _ _ _ _ _ _ _ h he B (fun i b hb=>by
     have:=hf (i+1) b (by simpa using hb)
     simp only [Array.size_push]
     omega)
    refine ⟨w',hw,hR.step ⟨rfl,rfl,rfl,by simp,fun i hi _=>by show (w.heap.push o)[i]?=_;rw [Array.getElem?_push,if_neg (by omega)]⟩ (fun m c hc=>?_) (pP (xb o))⟩
    unfold wr at hc
    rw [List.drop_append,cy,List.mem_append] at hc
    rcases hc with hc | hc
    · exact .inl hc
    · obtain ⟨z,hz,rfl⟩:=List.mem_map.1 hc
      have:=List.mem_of_mem_drop (List.mem_filter.1 hz).1
      simp at this
      subst this
      exact .inr (Nat.le_refl _)
  · cases h
 | shape r k ih=>
  intro js H bs w x H' bs' eqs h he ho hf
  simp only [dg] at h
  split at h
  · rename_i b cs t hj
    rw [Option.map_eq_some_iff] at h
    obtain ⟨q,hr,e⟩:=h
    simp only [Prod.mk.injEq] at e
    obtain ⟨rfl,rfl,rfl,rfl⟩:=e
    obtain ⟨o,h1,h2⟩:=ho.at_ _ b _ hj rfl
    have h2:o = .cells cs.toArray t (0,0):=h2
    subst h2
    obtain ⟨w',hw,hR⟩:=ih _ _ H bs w _ _ _ _ hr (fun p hp=>he p (List.mem_cons_of_mem _ hp)) ho hf
    have g:r=b:=he _ List.mem_cons_self
    refine ⟨w',?_,hR⟩
    simp only [Sem.run]
    have:w.shape? r=some (t,cs.length):=by unfold World.shape?;rw [g,h1];simp
    rw [this]
    exact hw
  · cases h
 | getObj r k ih=>
  intro js H bs w x H' bs' eqs h he ho hf
  simp only [dg] at h
  split at h
  · rename_i b o' hj
    split at h
    · cases h
    · rename_i hc
      rw [Option.map_eq_some_iff] at h
      obtain ⟨q,hr,e⟩:=h
      simp only [Prod.mk.injEq] at e
      obtain ⟨rfl,rfl,rfl,rfl⟩:=e
      obtain ⟨o,h1,h2⟩:=ho.at_ _ b _ hj rfl
      have h2:o=o':=h2
      subst h2
      obtain ⟨w',hw,hR⟩:=ih _ _ H bs w _ _ _ _ hr (fun p hp=>he p (List.mem_cons_of_mem _ hp)) ho hf
      have g:r=b:=he _ List.mem_cons_self
      refine ⟨w',?_,hR⟩
      simp only [Sem.run]
      rw [g,h1]
      cases o <;> first
       | exact absurd rfl hc
       | exact hw
  · cases h
 | setObj r o k ih=>
  intro js H bs w x H' bs' eqs h he ho hf
  simp only [dg] at h
  split at h
  · rename_i b o' hj
    split at h
    · cases h
    · rename_i hcn
      rw [Bool.or_eq_true,not_or] at hcn
      obtain ⟨hc,j⟩:=hcn
      have j:nr≤j9 js:=Nat.le_of_ble_eq_true (by simpa using j)
      rw [Option.map_eq_some_iff] at h
      obtain ⟨q,hr,e⟩:=h
      simp only [Prod.mk.injEq] at e
      obtain ⟨rfl,rfl,rfl,rfl⟩:=e
      obtain ⟨o2,h1,h2⟩:=ho.at_ _ b _ hj rfl
      have h2:o2=o':=h2
      subst h2
      have g:r=b:=he _ List.mem_cons_self
      subst g
      have l:=dR h1
      have f:(w.heap.setIfInBounds r o)[r]?=some o:=by simp [l]
      have d:∀ i,i≠r→(w.heap.setIfInBounds r o)[i]?=w.heap[i]?:=fun i hi=>by rw [Array.getElem?_setIfInBounds_ne (Ne.symm hi)]
      obtain ⟨w',hw,hR⟩:=ih _ _ bs {w with heap:=w.heap.setIfInBounds r o} _ _ _ _ hr (fun p hp=>he p (List.mem_cons_of_mem _ hp)) (ho.put hj rfl ⟨_,f,rfl⟩ d) (hf.heap (by simp))
      refine ⟨w',?_,hR.step ⟨rfl,rfl,rfl,by simp,fun i hi hM=>d i (fun e=>hM (by rw [e];exact fH hj rfl j))⟩ (fun m c hc=>.inl (oM hj rfl c hc)) (pG rfl)⟩
      simp only [Sem.run]
      rw [h1]
      cases o2 <;> first
       | exact absurd rfl hc
       | exact hw
  · cases h
 | choose q k ih=>
  intro js H bs w x H' bs' eqs h he ho hf
  simp only [dg] at h
  split at h
  · rename_i hq
    obtain ⟨w',hw,hR⟩:=ih _ _ H bs w _ _ _ _ h he ho hf
    refine ⟨w',?_,hR⟩
    simp only [Sem.run,hq,if_true]
    exact hw
  · cases h
 | program k ih=>
  intro js H bs w x H' bs' eqs h he ho hf
  simp only [dg] at h
  exact ih _ _ H bs w _ _ _ _ h he ho hf
 | mark m k ih=>
  intro js H bs w x H' bs' eqs h he ho hf
  simp only [dg] at h
  exact ih _ H bs w _ _ _ _ h he ho hf
 | freeze a n k ih=>intro js H bs w x H' bs' eqs h;simp [dg] at h
 | frozen a k ih=>intro js H bs w x H' bs' eqs h;simp [dg] at h
 | sys c k ih=>intro js H bs w x H' bs' eqs h;simp [dg] at h
 | halt h0=>intro js H bs w x H' bs' eqs h;simp [dg] at h
theorem xD {P:Program} {α:Type} {nr:Nat} (s:Sem α):∀ (js:List Nat) (H:HP) (bs:List Nat) (x:α) (H':HP) (bs':List Nat) (eqs:List (Nat×Nat)),
 dg P nr js s H bs=some (x,H',bs',eqs)→H.length≤H'.length∧∀ i,i<H.length→i∉9999::js→H'[i]?=H[i]?:=by
 induction s with
 | pure a=>
  intro js H bs x H' bs' eqs h
  simp only [dg,Option.some.injEq,Prod.mk.injEq] at h
  obtain ⟨_,rfl,_,_⟩:=h
  exact ⟨Nat.le_refl _,fun _ _ _=>rfl⟩
 | load m a k ih=>
  intro js H bs x H' bs' eqs h
  simp only [dg] at h
  split at h
  · split at h
    · cases h
    · split at h
      · rw [Option.map_eq_some_iff] at h
        obtain ⟨r,hr,e⟩:=h
        simp only [Prod.mk.injEq] at e
        obtain ⟨rfl,rfl,rfl,rfl⟩:=e
        obtain ⟨h1,h2⟩:=ih _ _ _ _ _ _ _ _ hr
        exact ⟨h1,fun i hi hne=>h2 i hi (lN js i hne)⟩
      · cases h
  · cases h
 | store m a v k ih=>
  intro js H bs x H' bs' eqs h
  simp only [dg] at h
  split at h
  · split at h
    · split at h
      · cases h
      · split at h
        · rw [Option.map_eq_some_iff] at h
          obtain ⟨r,hr,e⟩:=h
          simp only [Prod.mk.injEq] at e
          obtain ⟨rfl,rfl,rfl,rfl⟩:=e
          obtain ⟨h1,h2⟩:=ih _ _ _ _ _ _ _ hr
          rw [List.length_set] at h1 h2
          exact ⟨h1,fun i hi hne=>by rw [h2 i hi (lN js i hne),List.getElem?_set_ne (fun e=>hne (by rw [← e];exact vd js))]⟩
        · cases h
    · cases h
  · cases h
 | new o k ih=>
  intro js H bs x H' bs' eqs h
  unfold dg at h
  split at h
  · obtain ⟨h1,h2⟩:=ih _ _ _ _ _ _ _ _ h
    rw [List.length_append] at h1 h2
    exact ⟨by omega,fun i hi hne=>by rw [h2 i (by omega) hne,List.getElem?_append_left hi]⟩
  · cases h
 | shape r k ih=>
  intro js H bs x H' bs' eqs h
  simp only [dg] at h
  split at h
  · rw [Option.map_eq_some_iff] at h
    obtain ⟨r,hr,e⟩:=h
    simp only [Prod.mk.injEq] at e
    obtain ⟨rfl,rfl,rfl,rfl⟩:=e
    obtain ⟨h1,h2⟩:=ih _ _ _ _ _ _ _ _ hr
    exact ⟨h1,fun i hi hne=>h2 i hi (lN js i hne)⟩
  · cases h
 | getObj r k ih=>
  intro js H bs x H' bs' eqs h
  simp only [dg] at h
  split at h
  · split at h
    · cases h
    · rw [Option.map_eq_some_iff] at h
      obtain ⟨r,hr,e⟩:=h
      simp only [Prod.mk.injEq] at e
      obtain ⟨rfl,rfl,rfl,rfl⟩:=e
      obtain ⟨h1,h2⟩:=ih _ _ _ _ _ _ _ _ hr
      exact ⟨h1,fun i hi hne=>h2 i hi (lN js i hne)⟩
  · cases h
 | setObj r o k ih=>
  intro js H bs x H' bs' eqs h
  simp only [dg] at h
  split at h
  · split at h
    · cases h
    · rw [Option.map_eq_some_iff] at h
      obtain ⟨r,hr,e⟩:=h
      simp only [Prod.mk.injEq] at e
      obtain ⟨rfl,rfl,rfl,rfl⟩:=e
      obtain ⟨h1,h2⟩:=ih _ _ _ _ _ _ _ hr
      rw [List.length_set] at h1 h2
      exact ⟨h1,fun i hi hne=>by rw [h2 i hi (lN js i hne),List.getElem?_set_ne (fun e=>hne (by rw [← e];exact vd js))]⟩
  · cases h
 | choose q k ih=>
  intro js H bs x H' bs' eqs h
  simp only [dg] at h
  split at h
  · exact ih _ _ _ _ _ _ _ _ h
  · cases h
 | program k ih=>intro js H bs x H' bs' eqs h;simp only [dg] at h;exact ih _ _ _ _ _ _ _ _ h
 | mark m k ih=>intro js H bs x H' bs' eqs h;simp only [dg] at h;exact ih _ _ _ _ _ _ _ h
 | freeze a n k ih=>intro js H bs x H' bs' eqs h;simp [dg] at h
 | frozen a k ih=>intro js H bs x H' bs' eqs h;simp [dg] at h
 | sys c k ih=>intro js H bs x H' bs' eqs h;simp [dg] at h
 | halt h0=>intro js H bs x H' bs' eqs h;simp [dg] at h
def cU (P:Program) {α:Type} (X:Option (Nat×SB)):Sem α→Option (α×List (Nat×Nat))
 | .pure a=>some (a,[])
 | .load _ a k=>
  match X with
  | some (b,.cl cs _)=>
   if a.spot.isSome then none else
   match cs[a.off]? with
   | some v=>(cU P X (k v)).map fun r=>(r.1,(a.block,b)::r.2)
   | none=>none
  | _=>none
 | .shape r k=>
  match X with
  | some (b,.cl cs t)=>(cU P X (k (some (t,cs.length)))).map fun q=>(q.1,(r,b)::q.2)
  | _=>none
 | .getObj r k=>
  match X with
  | some (b,.ob o)=>if Obj.isCells' o then none else (cU P X (k o)).map fun q=>(q.1,(r,b)::q.2)
  | _=>none
 | .choose q k=>if q.forced then cU P X (k 0) else none
 | .program k=>cU P X (k P)
 | .mark _ k=>cU P X k
 | .store ..=>none
 | .new ..=>none
 | .setObj ..=>none
 | .freeze ..=>none
 | .frozen ..=>none
 | .sys ..=>none
 | .halt _=>none
theorem iL {P:Program} {α:Type} {X:Option (Nat×SB)} {w:World} (d:∀ b s,X=some (b,s)→s.live=true→∃ o,w.heap[b]?=some o∧s.ok o) (s:Sem α):∀ (x:α) (eqs:List (Nat×Nat)),
 cU P X s=some (x,eqs)→(∀ p∈eqs,p.1=p.2)→s.run P w = .ok x w:=by
 induction s with
 | pure a=>
  intro x eqs h he
  simp only [cU,Option.some.injEq,Prod.mk.injEq] at h
  obtain ⟨rfl,rfl⟩:=h
  rfl
 | load m a k ih=>
  intro x eqs h he
  unfold cU at h
  split at h
  · rename_i b cs t
    split at h
    · cases h
    · rename_i hs
      split at h
      · rename_i v hv
        rw [Option.map_eq_some_iff] at h
        obtain ⟨r,hr,e⟩:=h
        simp only [Prod.mk.injEq] at e
        obtain ⟨rfl,rfl⟩:=e
        obtain ⟨o,h1,h2⟩:=d b _ rfl rfl
        have h2:o = .cells cs.toArray t (0,0):=h2
        subst h2
        simp only [Sem.run]
        rw [nN h1 (he _ List.mem_cons_self) (by simpa using hs),hv]
        exact ih v _ _ hr (fun p hp=>he p (List.mem_cons_of_mem _ hp))
      · cases h
  · cases h
 | shape r k ih=>
  intro x eqs h he
  unfold cU at h
  split at h
  · rename_i b cs t
    rw [Option.map_eq_some_iff] at h
    obtain ⟨q,hr,e⟩:=h
    simp only [Prod.mk.injEq] at e
    obtain ⟨rfl,rfl⟩:=e
    obtain ⟨o,h1,h2⟩:=d b _ rfl rfl
    have h2:o = .cells cs.toArray t (0,0):=h2
    subst h2
    have f:r=b:=he _ List.mem_cons_self
    simp only [Sem.run]
    have:w.shape? r=some (t,cs.length):=by unfold World.shape?;rw [f,h1];simp
    rw [this]
    exact ih _ _ _ hr (fun p hp=>he p (List.mem_cons_of_mem _ hp))
  · cases h
 | getObj r k ih=>
  intro x eqs h he
  unfold cU at h
  split at h
  · rename_i b o'
    split at h
    · cases h
    · rename_i hc
      rw [Option.map_eq_some_iff] at h
      obtain ⟨q,hr,e⟩:=h
      simp only [Prod.mk.injEq] at e
      obtain ⟨rfl,rfl⟩:=e
      obtain ⟨o,h1,h2⟩:=d b _ rfl rfl
      have h2:o=o':=h2
      subst h2
      have f:r=b:=he _ List.mem_cons_self
      simp only [Sem.run]
      rw [f,h1]
      have:=ih _ _ _ hr (fun p hp=>he p (List.mem_cons_of_mem _ hp))
      cases o <;> first
       | exact absurd rfl hc
       | exact this
  · cases h
 | choose q k ih=>
  intro x eqs h he
  unfold cU at h
  split at h
  · rename_i hq
    simp only [Sem.run,hq,if_true]
    exact ih _ _ _ h he
  · cases h
 | program k ih=>intro x eqs h he;unfold cU at h;exact ih _ _ _ h he
 | mark m k ih=>intro x eqs h he;unfold cU at h;exact ih _ _ h he
 | store m a v k ih=>intro x eqs h;simp [cU] at h
 | new o k ih=>intro x eqs h;simp [cU] at h
 | setObj r o k ih=>intro x eqs h;simp [cU] at h
 | freeze a n k ih=>intro x eqs h;simp [cU] at h
 | frozen a k ih=>intro x eqs h;simp [cU] at h
 | sys c k ih=>intro x eqs h;simp [cU] at h
 | halt h0=>intro x eqs h;simp [cU] at h
inductive It where
 | code (c:Code)
 | blk (id:Nat)
 | ops (ops:Array Oper) (l:List Nat)
 | reg (ops:Array Oper) (listed:Array Bool) (fuel n:Nat) (mask:List Bool) (H0:HP)
 | regAt (r:Nat) (ops:Array Oper) (listed:Array Bool) (fuel n:Nat) (mask:List Bool) (H0:HP)
 | lp (J:Act→World→Prop)
 | rnd (n:Nat) (c:Code)
structure QR where
 rd:Option Nat
 q:Exit→Act→World→Prop
 no:rd≠none→∀ a w,¬ q .outgrown a w
instance:Coe (Exit→Act→World→Prop) QR:=⟨fun q=>⟨none,q,fun h=>absurd rfl h⟩⟩
def iW (r:Option Nat):Fence:={Fence.wide with round:=r}
theorem lq {F:Fence} {m:Nat} {P:Program} {Q:Exit→Act→World→Prop} {a:Act} {w:World} {c:Code} (I:Nat→Act→World→Prop) (b:Nat) (d:I b a w)
 (round:∀ n a w,I n a w→c.wpIn F m P (Exit.then (fun a' w'=>∃ n',n'<n∧I n' a' w') Q) a w):(Code.loop c).wpIn F m P Q a w:=by
 refine wpIn_loop (fun a w=>∃ n,I n a w) (fun a w=>leastOf (fun n=>I n a w)) ⟨b,d⟩ fun a w hI=>wpIn_mono (round _ a w (leastOf_spec hI).1) fun e a' w' hq=>?_
 cases e with
 | normal=>
  obtain ⟨n',hlt,hI'⟩:=hq
  exact show (∃ n,I n a' w')∧leastOf (fun n=>I n a' w')<leastOf (fun n=>I n a w) from ⟨⟨n',hI'⟩,Nat.lt_of_le_of_lt ((leastOf_spec ⟨n',hI'⟩).2 n' hI') hlt⟩
 | exit id=>exact hq
 | goto l=>exact hq
 | ret=>exact hq
 | panic ch=>exact hq
 | outgrown=>exact hq
def jD (P:Program) (r:Option Nat) (c:Code) (Q:Exit→Act→World→Prop):Nat→Act→World→Prop
 | 0=>fun _ _=>False
 | n+1=>fun a w=>c.wpIn (iW r) 0 P (Exit.then (jD P r c Q n) Q) a w
theorem sP {P:Program} {r:Option Nat} {c:Code} {Q:Exit→Act→World→Prop} (n:Nat) {a:Act} {w:World} (h:jD P r c Q n a w):(Code.loop c).wpIn (iW r) 0 P Q a w:=by
 refine lq (fun n a w=>jD P r c Q n a w) n h fun n a w h=>?_
 cases n with
 | zero=>exact h.elim
 | succ n=>
  refine wpIn_mono h fun en a' w' hq=>?_
  cases en with
  | normal=>exact ⟨n,Nat.lt_succ_self n,hq⟩
  | exit id=>exact hq
  | goto l=>exact hq
  | ret=>exact hq
  | panic ch=>exact hq
  | outgrown=>exact hq
def kY (mask:List Bool) (H0:HP) (w:World):Prop:=(∀ (j b:Nat) (s:SB),mask[j]?=some true→H0[j]?=some (b,s)→s.live=true→∃ o,w.heap[b]?=some o∧s.ok o)∧∀ (j a:Nat) (p:World→Prop),mask[j]?=some true→H0[j]?=some (a,.fa p)→p w
def iP (P:Program) (ops:Array Oper) (QQ:Exit→Act→World→Prop) (n:Nat) (S:World→Prop) (fuel:Nat) (listed:Array Bool) (r:Nat) (a:Act) (w:World):Prop:=
 wpOp P ops QQ r (fun a' w'=>((listed.setIfInBounds r true).getD n false=false→S w')∧wpAnyG P .any ops QQ n S fuel (listed.setIfInBounds r true) a' w') a w
theorem me {P:Program} {d:Array Oper} {g:Exit→Act→World→Prop} {n:Nat} {S:World→Prop} {c:Nat} {b:Array Bool} {rs:List Nat} {a:Act} {w:World} (hr:Region.ready .any d b=rs) (f:rs≠[]) (h:∀ r∈rs,iP P d g n S c b r a w):wpAnyG P .any d g n S (c+1) b a w:=
 ⟨fun e=>absurd (hr.symm.trans e) f,fun r hm=>h r (by rw [← hr];exact hm)⟩
def fT (P:Program) (r:Option Nat) (ops:Array Oper) (Q:Exit→Act→World→Prop) (l:List Nat) (a:Act) (w:World):Prop:=wpOpsIn (iW r) 0 P ops Q l a w
def iy (o:Oper):Bool:=
 match o.op with
 | .defer _=>false
 | _=>true
theorem vQ {o:Oper} (h:iy o=true):∀ c,o.op≠.defer c:=fun c e=>by
 unfold iy at h
 rw [e] at h
 cases h
theorem jF {P:Program} {o:Oper} {ρ:Operand→Vl} {w w':World} {a:Next} (h:(execOp ρ o).run P w = .ok a w') (b:∀ d,a≠.defer d):iy o=true:=by
 unfold iy
 split
 · rename_i c e
   unfold execOp at h
   rw [e] at h
   simp only [Sem.run_bind] at h
   cases hr:(resolve ρ c o.type).run P w with
   | ok d w1=>
    rw [hr] at h
    simp only [Result.andThen] at h
    exact absurd (by have:=congrArg (fun r:Result Next=>match r with | .ok x _=>some x | _=>none) h;simpa [Sem.run_pure] using this.symm) (b d)
   | halt x w1=>
    rw [hr] at h
    simp only [Result.andThen] at h
    cases h
 · rfl
theorem tK {P:Program} {r:Option Nat} {o:Oper} (hd:r=none∨iy o=true) {a:Act} {w:World} {next:Act→World→Prop} {Q:Exit→Act→World→Prop} (h:o.wp P a w next Q):o.wpIn (iW r) 0 P a w next Q:=by
 refine ⟨fun _ _=>trivial,?_⟩
 have hs:o.semAt (iW r).round a.eval=execOp a.eval o:=by
  rcases hd with rfl | hd
  · rfl
  · exact Oper.semAt_eq _ _ _ (vQ hd)
 rw [hs]
 unfold Oper.wp at h
 revert h
 generalize (execOp a.eval o).run P w=res
 intro h
 match res with
 | .ok (.value v) w'=>exact h
 | .ok .skip w'=>exact h
 | .ok (.defer d) w'=>exact h
 | .ok (.enter f args) w'=>
  refine ⟨fun hd=>(by cases hd),?_⟩
  have h2:=callsIn_wide (n:=0) |>.2 h
  refine CallsIn.mono (show CallsIn (iW r) 0 P f args w' _ from h2) fun en w2 he=>?_
  match en with
  | .returned v=>exact he
  | .panicked c=>exact he
  | .outgrown=>exact he
 | .ok (.row row args) w'=>
  refine ⟨fun hd=>(by cases hd),fun c cs _=>?_⟩
  obtain ⟨v,w'',h1,h2⟩:=h c cs
  exact ⟨v,w'',h1,stepsIn_wide.2 h2⟩
 | .halt (.panic v) w'=>exact h
theorem iY {P:Program} {r:Option Nat} {b:Array Oper} {Q:Exit→Act→World→Prop} {i:Nat} {l:List Nat} {a:Act} {w:World} {o:Oper} (c:b[i]?=some o) (d:Region.wanted o (yielded b a.tmps)=true) (h:o.wpIn (iW r) 0 P a w (fT P r b Q l) Q):fT P r b Q (i::l) a w:=by
 show wpOpsIn (iW r) 0 P b Q (i::l) a w
 unfold wpOpsIn
 rw [c]
 simp only [d,if_true]
 exact h
theorem wV {P:Program} {r:Option Nat} {b:Array Oper} {Q:Exit→Act→World→Prop} {i:Nat} {l:List Nat} {a:Act} {w:World} {o:Oper} (c:b[i]?=some o) (d:Region.wanted o (yielded b a.tmps)=false) (h:fT P r b Q l (a.put o.dst undef) w):fT P r b Q (i::l) a w:=by
 show wpOpsIn (iW r) 0 P b Q (i::l) a w
 unfold wpOpsIn
 rw [c]
 simp only [d,Bool.false_eq_true,if_false]
 exact ⟨fun _ _=>trivial,h⟩
theorem wC {P:Program} {r:Option Nat} {b:Array Oper} {Q:Exit→Act→World→Prop} {i:Nat} {l:List Nat} {a:Act} {w:World} (c:b[i]?=none) (h:fT P r b Q l a w):fT P r b Q (i::l) a w:=by
 show wpOpsIn (iW r) 0 P b Q (i::l) a w
 unfold wpOpsIn
 rw [c]
 exact h
theorem B1 {P:Program} {r:Option Nat} {c:Nat} {b:Array Oper} {Q:Exit→Act→World→Prop} {a:Act} {w:World} (h:fT P r b Q (List.range b.size) a w):(Code.region c b false).wpIn (iW r) 0 P Q a w:=wpIn_region (n:=0) h
theorem I1 {P:Program} {md:Region.Mode} {r:Option Nat} {b:Array Oper} {Q:Exit→Act→World→Prop} (d:∀ a w,¬ Q .outgrown a w) (hd:b.toList.all iy=true):∀ (fuel:Nat) (listed:Array Bool) (a:Act) (w:World),wpAny P md b Q fuel listed a w→wpAnyIn (iW r) 0 P md b Q fuel listed a w:=by
 intro fuel
 induction fuel with
 | zero=>exact fun _ _ _ h=>h
 | succ f ih=>
  refine fun listed a w h=>⟨h.1,fun i hi=>?_⟩
  have h2:=h.2 i hi
  unfold wpOp at h2
  unfold wpOpIn
  split
  · rename_i ho
    rw [ho] at h2
    exact ih _ _ _ h2
  · rename_i o ho
    rw [ho] at h2
    dsimp only at h2
    have c:iy o=true:=List.all_eq_true.1 hd o (Array.mem_toList_iff.2 (Array.mem_of_getElem? ho))
    split
    · rename_i hw
      rw [if_pos hw] at h2
      rcases h2 with h2 | ⟨_,a,w,h3⟩
      · exact tK (.inr c) (Oper.wp_mono (fun a w h=>ih _ _ _ h) h2)
      · exact (d a w h3).elim
    · rename_i hw
      rw [if_neg hw] at h2
      exact ⟨fun _ _=>trivial,ih _ _ _ h2⟩
def PanQ (ops:Array Oper) (Q:Exit→Act→World→Prop):Exit→Act→World→Prop
 | .panic c,a,w=>∀ a':Act,a'.defers=a.defers→(∀ i,(∀ o∈ops.toList,o.dst≠some i)→a'.tmps[i]?=a.tmps[i]?)→Q (.panic c) a' w
 | e,a,w=>Q e a w
theorem PanQ.normal {b:Array Oper} {Q:Exit→Act→World→Prop} {a:Act} {w:World} (h:Q .normal a w):PanQ b Q .normal a w:=h
theorem PanQ.imp {b:Array Oper} {Q:Exit→Act→World→Prop}:∀ (e:Exit) (a:Act) (w:World),PanQ b Q e a w→Q e a w:=fun e a w h=>by
 cases e <;> first | exact h a rfl (fun _ _=>rfl) | exact h
theorem PanQ.inv {b:Array Oper} {Q:Exit→Act→World→Prop} {i:Nat} {o:Oper} {d:Tmp} (g:b[i]?=some o) (hd:o.dst=some d) {c:List PanicEntry} {a:Act} {v:Vl} {w:World} (h:PanQ b Q (.panic c) (a.put (some d) v) w):PanQ b Q (.panic c) a w:=by
 intro a' h1 h2
 refine h a' (by rw [h1];rfl) fun j hj=>?_
 rw [h2 j hj]
 have f:d≠j:=fun e=>hj o (by rw [Array.mem_toList_iff];exact Array.mem_of_getElem? g) (by rw [hd,e])
 show a.tmps[j]?=(a.tmps.setIfInBounds d v)[j]?
 rw [Array.getElem?_setIfInBounds,if_neg f]
section
variable {P:Program} {ops:Array Oper} {Q:Exit→Act→World→Prop} {md:Region.Mode} {S:World→Prop}
theorem Hf {n:Nat} {b:Array Bool} {a:Act} {w:World} (hr:Region.ready md ops b=[]) (h:Q .normal a w):∀ fuel,wpAnyG P md ops (PanQ ops Q) n S fuel b a w
 | 0=>⟨hr,PanQ.normal h⟩
 | _+1=>⟨fun _=>PanQ.normal h,by rw [hr];simp⟩
theorem ri (i:Nat) {n:Nat} {f:Oper} {v:Vl} {e:Nat} {b:Array Bool} {ts:Array Vl} {ds:List Deferred} {w:World} {d:Tmp} (hi:ops[i]?=some f) (hd:f.dst=some d)
 (hs:Region.noSelect ops=true) (j:Region.free md ops b i=true) (hr:(Region.ready md ops b).contains i=true) (g:n≠i)
 (k:f.guard=none) (l:∀ w,(execOp (Act.eval ⟨ts,ds⟩) f).run P w = .ok (.value v) w) (m:b.getD n false=false→S w)
 (h:wpAnyG P md ops (PanQ ops Q) n S e (b.setIfInBounds i true) ⟨ts.setIfInBounds d v,ds⟩ w):wpAnyG P md ops (PanQ ops Q) n S (e+1) b ⟨ts,ds⟩ w:=
 tG hi (Region.noSelect_spec hs) (fun c a w hh=>PanQ.inv hi hd (by rw [hd] at hh;exact hh)) g e b _ w (Region.free_spec hi j) (by simpa using hr) ⟨k,fun w _=>.inl (l w)⟩ m (by rw [hd];exact h)
theorem ut (i:Nat) {n:Nat} {g:Oper} {v:Vl} {e:Nat} {b:Array Bool} {ts:Array Vl} {ds:List Deferred} {w:World} {d:Tmp} (hi:ops[i]?=some g) (hd:g.dst=some d)
 (hs:Region.noSelect ops=true) (k:Region.free md ops b i=true) (hr:(Region.ready md ops b).contains i=true) (f:ns md ops n i b=true) (j:n≠i)
 (l:Region.wanted g (yielded ops ts)=true) (m:∀ w,S w→(execOp (Act.eval ⟨ts,ds⟩) g).run P w = .ok (.value v) w) (o:S w)
 (h:wpAnyG P md ops (PanQ ops Q) n S e (b.setIfInBounds i true) ⟨ts.setIfInBounds d v,ds⟩ w):wpAnyG P md ops (PanQ ops Q) n S (e+1) b ⟨ts,ds⟩ w:=
 qK hi (Region.noSelect_spec hs) (fun c a w hh=>PanQ.inv hi hd (by rw [hd] at hh;exact hh)) (lB f).2 j e b _ w (Region.free_spec hi k) (by simpa using hr) (lB f).1 ⟨l,fun w hw=>.inl (m w hw)⟩ o (by rw [hd];exact h)
theorem CY (i:Nat) {n:Nat} {f:Oper} {e:Nat} {b:Array Bool} {ts:Array Vl} {ds:List Deferred} {w:World} {d:Tmp} (hi:ops[i]?=some f) (hd:f.dst=some d)
 (hs:Region.noSelect ops=true) (j:Region.free md ops b i=true) (hr:(Region.ready md ops b).contains i=true) (g:n≠i)
 (k:Region.wanted f (yielded ops ts)=false) (l:b.getD n false=false→S w)
 (h:wpAnyG P md ops (PanQ ops Q) n S e (b.setIfInBounds i true) ⟨ts.setIfInBounds d undef,ds⟩ w):wpAnyG P md ops (PanQ ops Q) n S (e+1) b ⟨ts,ds⟩ w:=
 wa hi (Region.noSelect_spec hs) (fun c a w hh=>PanQ.inv hi hd (by rw [hd] at hh;exact hh)) g e b _ w (Region.free_spec hi j) (by simpa using hr) k l (by rw [hd];exact h)
end
theorem sK (n:Nat) (S:World→Prop) {P:Program} {r:Option Nat} {f:Nat} {b:Array Oper} {Q:Exit→Act→World→Prop} {a:Act} {w:World} (c:P.follows .mixedOrders=true) (g:r≠none→∀ a w,¬ Q .outgrown a w) (hd:b.toList.all iy=true) (d:S w.drew)
 (h:S w.drew→wpAnyG P .any b (PanQ b Q) n S b.size (Array.replicate b.size false) a w.drew):(Code.region f b true).wpIn (iW r) 0 P Q a w:=by
 cases r with
 | none=>exact wpIn_wide.2 (Code.wp_mono PanQ.imp (wp_region_any c ((h d).any)))
 | some l=>exact wpIn_mono (wpIn_region_any (Q:=PanQ b Q) c (I1 (Q:=PanQ b Q) (fun a w h=>g (by intro e;cases e) a w h) hd _ _ _ _ ((h d).any))) PanQ.imp
def QT (P:Program) (Q:QR):List It→Exit→Act→World→Prop
 | []=>Q.q
 | .code c::k=>Exit.then (fun a w=>c.wpIn (iW Q.rd) 0 P (QT P Q k) a w) (QT P Q k)
 | .blk id::k=>Exit.inBlock id (QT P Q k)
 | .ops ops l::k=>Exit.then (fun a w=>fT P Q.rd ops (QT P Q k) l a w) (QT P Q k)
 | .reg ops listed fuel n mask H0::k=>Exit.then (fun a w=>wpAnyG P .any ops (PanQ ops (QT P Q k)) n (kY mask H0) fuel listed a w) (QT P Q k)
 | .regAt r ops listed fuel n mask H0::k=>Exit.then (fun a w=>iP P ops (PanQ ops (QT P Q k)) n (kY mask H0) fuel listed r a w) (QT P Q k)
 | .lp J::k=>Exit.then J (QT P Q k)
 | .rnd n c::k=>Exit.then (jD P Q.rd c (QT P Q k) n) (QT P Q k)
def iO (id:Nat):List It→Option (List It)
 | []=>none
 | .blk id'::k=>if id=id' then some k else iO id k
 | .code _::k=>iO id k
 | .ops _ _::k=>iO id k
 | .reg ..::k=>iO id k
 | .lp _::k=>iO id k
 | .regAt ..::k=>iO id k
 | .rnd _ _::k=>iO id k
theorem fK {P:Program} {Q:QR} {b:Nat} {a:Act} {w:World}:∀ (k k':List It),iO b k=some k'→QT P Q k' .normal a w→QT P Q k (.exit b) a w
 | [],_,h,_=>by cases h
 | .blk id'::k,k',h,hq=>by
  unfold iO at h
  show Exit.inBlock id' (QT P Q k) (.exit b) a w
  unfold Exit.inBlock
  split at h
  · rename_i e;injection h with h;subst h;simp only [e,if_true];exact hq
  · rename_i e;simp only [e,if_false];exact fK k k' h hq
 | .code _::k,k',h,hq=>fK k k' h hq
 | .ops _ _::k,k',h,hq=>fK k k' h hq
 | .reg ..::k,k',h,hq=>fK k k' h hq
 | .lp _::k,k',h,hq=>fK k k' h hq
 | .regAt ..::k,k',h,hq=>fK k k' h hq
 | .rnd _ _::k,k',h,hq=>fK k k' h hq
theorem iN {P:Program} {Q:QR} {a:Act} {w:World} (h:Q.q .ret a w):∀ k:List It,QT P Q k .ret a w
 | []=>h
 | .blk _::k=>iN h k
 | .code _::k=>iN h k
 | .ops _ _::k=>iN h k
 | .reg ..::k=>iN h k
 | .lp _::k=>iN h k
 | .regAt ..::k=>iN h k
 | .rnd _ _::k=>iN h k
theorem jR {P:Program} {Q:QR} {a:Act} {w:World} (h:¬ Q.q .outgrown a w):∀ k:List It,¬ QT P Q k .outgrown a w
 | []=>h
 | .blk _::k=>jR h k
 | .code _::k=>jR h k
 | .ops _ _::k=>jR h k
 | .reg ..::k=>jR h k
 | .lp _::k=>jR h k
 | .regAt ..::k=>jR h k
 | .rnd _ _::k=>jR h k
theorem gG {P:Program} {Q:QR} {c:List PanicEntry} {a:Act} {w:World} (h:Q.q (.panic c) a w):∀ k:List It,QT P Q k (.panic c) a w
 | []=>h
 | .blk _::k=>gG h k
 | .code _::k=>gG h k
 | .ops _ _::k=>gG h k
 | .reg ..::k=>gG h k
 | .lp _::k=>gG h k
 | .regAt ..::k=>gG h k
 | .rnd _ _::k=>gG h k
def cT (ts:List Vl):Operand→Vl
 | .tmp t=>ts.getD t undef
 | .const v=>v
 | .global g=>.pointer (pA g)
 | .func f=>.func (.func f) #[] #[]
theorem dQ (ts:List Vl) (ds:List Deferred):Act.eval ⟨ts.toArray,ds⟩=cT ts:=by
 funext x
 cases x <;> simp [Act.eval,cT]
def iK (ts:List Vl) (dst:Option Tmp) (v:Vl):List Vl:=
 match dst with
 | some d=>ts.set d v
 | none=>ts
theorem gD (ts:List Vl) (ds:List Deferred) (dst:Option Tmp) (v:Vl):Act.put ⟨ts.toArray,ds⟩ dst v=⟨(iK ts dst v).toArray,ds⟩:=by
 cases dst <;> simp [Act.put,iK]
structure ES where
 todo:List It
 ts:List Vl
 ds:List Deferred
 H:HP
 nr:Nat
def ES.act (st:ES):Act:=⟨st.ts.toArray,st.ds⟩
def RegOK (st:ES):Prop:=
 match st.todo with
 | .reg _ listed _ n mask H0::_=>listed.getD n false=false→∀ (i:Nat) (x:Nat×SB),mask[i]?=some true→H0[i]?=some x→st.H[i]?=some x
 | .regAt _ _ listed _ n mask H0::_=>listed.getD n false=false→∀ (i:Nat) (x:Nat×SB),mask[i]?=some true→H0[i]?=some x→st.H[i]?=some x
 | _=>True
structure Inv (K0:Nat→Prop) (w0:World) (M:List Nat) (nr:Nat) (H:HP) (w:World):Prop where
 own:Own H w
 fr:Fr M w0 w
 ad:∀ b∈wr nr H,b∈M∨w0.heap.size≤b
 kn:∃ K,KExt K0 K M w0∧Kn K H w
theorem Inv.ran {a:Nat→Prop} {w0 w w':World} {M bs:List Nat} {nr:Nat} {H c:HP} (h:Inv a w0 M nr H w) (r:Ran nr H w c bs w'):Inv a w0 M nr c w':=
 ⟨r.own,h.fr.then_ r.fr h.ad,fun b hb=>by
  rcases r.ad b hb with h1 | h1
  · exact h.ad b h1
  · exact .inr (Nat.le_trans h.fr.size h1),by
  obtain ⟨K,h1,h2⟩:=h.kn
  exact ⟨K,h1,h2.step r.fr (fun b hb=>GI hb) r.al r.fa⟩⟩
theorem Inv.drew {a:Nat→Prop} {w0 w:World} {M:List Nat} {nr:Nat} {H:HP} (h:Inv a w0 M nr H w):Inv a w0 M nr H w.drew:=
 ⟨h.own.heap rfl,h.fr.trans ⟨rfl,rfl,rfl,Nat.le_refl _,fun _ _ _=>rfl⟩,h.ad,by
  obtain ⟨K,h1,h2⟩:=h.kn
  exact ⟨K,h1,h2.heap rfl⟩⟩
theorem Inv.fact {b:Nat→Prop} {w0 w:World} {M:List Nat} {nr:Nat} {H:HP} (h:Inv b w0 M nr H w) {j a:Nat} {p:World→Prop} (c:H[j]?=some (a,.fa p)):p w:=by
 obtain ⟨K,h1,h2⟩:=h.kn
 exact (h2.fac j a p c).now
theorem RegOK.own {st:ES} {o:Nat→Prop} {w0 w:World} {M:List Nat} {nr:Nat} {g:Array Oper} {c:Array Bool} {f n:Nat} {d:List Bool} {i:HP} {k:List It} (h:RegOK st) (e:st.todo = .reg g c f n d i::k) (l:c.getD n false=false) (m:Inv o w0 M nr st.H w):kY d i w:=by
 unfold RegOK at h
 rw [e] at h
 refine ⟨fun j b s hj hb=>m.own.at_ j b s (h l j (b,s) hj hb),fun j a p hj hb=>?_⟩
 exact m.fact (h l j (a,.fa p) hj hb)
def GW (P:Program) (Q:QR) (K0:Nat→Prop) (w0:World) (M:List Nat) (st:ES):Prop:=
 RegOK st→∀ w,Inv K0 w0 M st.nr st.H w→QT P Q st.todo .normal st.act w
structure EV where
 st:ES
 hs:List Nat
 bs:List Nat
 eqs:List (Nat×Nat)
 bqs:List (Bool×Bool)
def pj (ts:List Vl):Op→Nat
 | .load ..=>1
 | .store ..=>1
 | .lookup ..=>1
 | .mapUpdate ..=>1
 | .insert ..=>1
 | .range ..=>1
 | .next ..=>3
 | .entry ..=>2
 | .indexAddr ..=>1
 | .index ..=>1
 | .slice ..=>1
 | .makeSlice ..=>1
 | .build ..=>1
 | .buildSlice ..=>1
 | .convert ..=>1
 | .field ..=>1
 | .box ..=>1
 | .call {callee:=.builtin .delete,..}=>1
 | .call {callee:=.builtin .len,args,..}=>
  match args[0]? with
  | some x=>match cT ts x with
   | .map (some _)=>1
   | _=>0
  | none=>0
 | _=>0
def uE:Op→Bool
 | .call {callee:=.builtin .len,..}=>false
 | .call {callee:=.builtin .cap,..}=>false
 | .call {callee:=.builtin .min,..}=>false
 | .call {callee:=.builtin .max,..}=>false
 | .call {callee:=.builtin .delete,..}=>false
 | .call _=>true
 | _=>false
def od:Op→Bool
 | .move _ | .assign _ | .pick .. | .load .. | .nilCheck _ | .binOp .. | .unOp .. | .convert .. | .makeInterface .. | .slice .. | .fieldAddr .. | .field .. | .indexAddr .. | .index .. | .typeAssert .. | .extract .. | .build .. | .makeFunc ..=>true
 | .call {callee:=.builtin .len,..}=>true
 | .call {callee:=.builtin .cap,..}=>true
 | .call {callee:=.builtin .min,..}=>true
 | .call {callee:=.builtin .max,..}=>true
 | _=>false
def GG:Op→Bool
 | .binOp .eql ..=>true
 | .binOp .neq ..=>true
 | .binOp .lss ..=>true
 | .binOp .leq ..=>true
 | .binOp .gtr ..=>true
 | .binOp .geq ..=>true
 | _=>false
def xX (ts:List Vl) (o:Op) (hs:List Nat):Option (List Nat×Nat×List Nat):=
 if (pj ts o).ble hs.length then
  if GG o then
   match hs.drop (pj ts o) with
   | f::hs'=>some (hs.take (pj ts o),f,hs')
   | []=>none
  else some (hs.take (pj ts o),0,hs.drop (pj ts o))
 else none
def oR (f:Nat) (v:Vl):Option (Vl×List (Bool×Bool)):=
 match f with
 | 0=>some (v,[])
 | 1=>match v with
  | .bool b=>some (.bool true,[(b,true)])
  | _=>none
 | _=>match v with
  | .bool b=>some (.bool false,[(b,false)])
  | _=>none
theorem mJ {f:Nat} {v v':Vl} {l:List (Bool×Bool)} (h:oR f v=some (v',l)) (hb:∀ p∈l,p.1=p.2):v=v':=by
 unfold oR at h
 split at h
 · injection h with h;injection h with h1 h2
 · split at h
   · injection h with h;injection h with h1 h2
     subst h1;subst h2
     exact congrArg Value.bool (hb _ List.mem_cons_self)
   · cases h
 · split at h
   · injection h with h;injection h with h1 h2
     subst h1;subst h2
     exact congrArg Value.bool (hb _ List.mem_cons_self)
   · cases h
def eF:List It→Bool
 | .reg ..::_=>false
 | .regAt ..::_=>false
 | _=>true
def toK (x:EV) (k:List It):Option EV:=if eF k then some ⟨{x.st with todo:=k},x.hs,x.bs,[],[]⟩ else none
def pZ (P:Program) (o:Oper) (x:EV) (todo':List It):Option EV:=
 if uE o.op then none else
 match xX x.st.ts o.op x.hs with
 | none=>none
 | some (js,f,hs')=>
  match dg P x.st.nr js (execOp (cT x.st.ts) o) x.st.H x.bs with
  | some (.value v,H',bs',e)=>
   match oR f v with
   | some (v',bq)=>some ⟨⟨todo',iK x.st.ts o.dst v',x.st.ds,H',x.st.nr⟩,hs',bs',e,bq⟩
   | none=>none
  | some (.skip,H',bs',e)=>some ⟨⟨todo',iK x.st.ts o.dst undef,x.st.ds,H',x.st.nr⟩,hs',bs',e,[]⟩
  | _=>none
def lK (c:Code) (x:EV) (k:List It):Option EV:=
 match c with
 | .skip=>toK x k
 | .label _=>toK x k
 | .seq a b=>some ⟨{x.st with todo:=.code a::.code b::k},x.hs,x.bs,[],[]⟩
 | .block id a=>some ⟨{x.st with todo:=.code a::.blk id::k},x.hs,x.bs,[],[]⟩
 | .cond c a b=>
  match x.hs with
  | []=>none
  | h::hs=>
   match cT x.st.ts c with
   | .bool t=>
    match h with
    | 0=>match t with
     | true=>some ⟨{x.st with todo:=.code a::k},hs,x.bs,[],[]⟩
     | false=>some ⟨{x.st with todo:=.code b::k},hs,x.bs,[],[]⟩
    | 1=>some ⟨{x.st with todo:=.code a::k},hs,x.bs,[],[(t,true)]⟩
    | _=>some ⟨{x.st with todo:=.code b::k},hs,x.bs,[],[(t,false)]⟩
   | _=>none
 | .exit id=>
  match iO id k with
  | some k'=>toK x k'
  | none=>none
 | .region _ ops false=>some ⟨{x.st with todo:=.ops ops (List.range ops.size)::k},x.hs,x.bs,[],[]⟩
 | .region _ ops true=>
  match x.hs,ops.toList.all iy with
  | n::m::hs,true=>some ⟨{x.st with todo:=.reg ops (Array.replicate ops.size false) ops.size n ((List.range x.st.H.length).map fun i=>!m.testBit i) x.st.H::k},hs,x.bs,[],[]⟩
  | _,_=>none
 | .loop a=>
  match x.hs with
  | n::hs=>some ⟨{x.st with todo:=.rnd n a::k},hs,x.bs,[],[]⟩
  | []=>none
 | _=>none
def nQ (P:Program) (ops:Array Oper) (listed:Array Bool) (fuel n:Nat) (mask:List Bool) (H0:HP) (k:List It) (x:EV):Option EV:=
 match Region.ready .any ops listed with
 | []=>toK x k
 | r::rs=>
  match fuel with
  | 0=>none
  | fuel+1=>
   match (r::rs).find? fun i=>match ops[i]? with | some o=>od o.op | none=>false with
   | some i=>
    match ops[i]? with
    | none=>none
    | some o=>
     match o.dst with
     | none=>none
     | some d=>
      if Region.noSelect ops&&Region.free .any ops listed i&&(Region.ready .any ops listed).contains i&&n != i then
       if Region.wanted o (yielded ops x.st.ts.toArray) then
        if listed.getD n false then
         match o.guard with
         | some _=>none
         | none=>
          match cU P none (execOp (cT x.st.ts) o) with
          | some (.value v,e)=>some ⟨{x.st with todo:=.reg ops (listed.setIfInBounds i true) fuel n mask H0::k,ts:=x.st.ts.set d v},x.hs,x.bs,e,[]⟩
          | _=>none
        else if ns .any ops n i listed then
         match xX x.st.ts o.op x.hs with
         | none=>none
         | some (js,f,hs')=>
          match cU P (if mask[j9 js]?=some true then H0[j9 js]? else none) (execOp (cT x.st.ts) o) with
          | some (.value v,e)=>
           match oR f v with
           | some (v',bq)=>some ⟨{x.st with todo:=.reg ops (listed.setIfInBounds i true) fuel n mask H0::k,ts:=x.st.ts.set d v'},hs',x.bs,e,bq⟩
           | none=>none
          | _=>none
        else
         match rs with
         | _::_=>
          match o.guard with
          | some _=>none
          | none=>
           match cU P none (execOp (cT x.st.ts) o) with
           | some (.value v,e)=>some ⟨{x.st with todo:=.reg ops (listed.setIfInBounds i true) fuel n mask H0::k,ts:=x.st.ts.set d v},x.hs,x.bs,e,[]⟩
           | _=>none
         | []=>some ⟨{x.st with todo:=.regAt r ops listed fuel n mask H0::k},x.hs,x.bs,[],[]⟩
       else some ⟨{x.st with todo:=.reg ops (listed.setIfInBounds i true) fuel n mask H0::k,ts:=x.st.ts.set d undef},x.hs,x.bs,[],[]⟩
      else none
   | none=>
    match rs with
    | _::_=>none
    | []=>some ⟨{x.st with todo:=.regAt r ops listed fuel n mask H0::k},x.hs,x.bs,[],[]⟩
def pX (P:Program) (r:Nat) (ops:Array Oper) (listed:Array Bool) (fuel n:Nat) (mask:List Bool) (H0:HP) (k:List It) (x:EV):Option EV:=
 match ops[r]? with
 | none=>none
 | some o=>
  if Region.wanted o (yielded ops x.st.ts.toArray) then
   if uE o.op then none else
   match xX x.st.ts o.op x.hs with
   | none=>none
   | some (js,f,hs')=>
    if (listed.setIfInBounds r true).getD n false||(9999::js).all (fun j=>!(mask[j]?.getD false)) then
     match dg P x.st.nr js (execOp (cT x.st.ts) o) x.st.H x.bs with
     | some (.value v,H',bs',e)=>some ⟨⟨.reg ops (listed.setIfInBounds r true) fuel n mask H0::k,iK x.st.ts o.dst v,x.st.ds,H',x.st.nr⟩,hs',bs',e,[]⟩
     | some (.skip,H',bs',e)=>some ⟨⟨.reg ops (listed.setIfInBounds r true) fuel n mask H0::k,iK x.st.ts o.dst undef,x.st.ds,H',x.st.nr⟩,hs',bs',e,[]⟩
     | _=>none
    else none
  else some ⟨⟨.reg ops (listed.setIfInBounds r true) fuel n mask H0::k,iK x.st.ts o.dst undef,x.st.ds,x.st.H,x.st.nr⟩,x.hs,x.bs,[],[]⟩
def uv (P:Program) (x:EV):Option EV:=
 match x.st.todo with
 | []=>none
 | .code c::k=>lK c x k
 | .blk _::k=>toK x k
 | .ops _ []::k=>toK x k
 | .ops ops (i::l)::k=>
  match ops[i]? with
  | none=>some ⟨{x.st with todo:=.ops ops l::k},x.hs,x.bs,[],[]⟩
  | some o=>
   if Region.wanted o (yielded ops x.st.ts.toArray) then pZ P o x (.ops ops l::k)
   else some ⟨{x.st with todo:=.ops ops l::k,ts:=iK x.st.ts o.dst undef},x.hs,x.bs,[],[]⟩
 | .reg ops listed fuel n mask H0::k=>nQ P ops listed fuel n mask H0 k x
 | .regAt r ops listed fuel n mask H0::k=>pX P r ops listed fuel n mask H0 k x
 | .lp _::_=>none
 | .rnd 0 _::_=>none
 | .rnd (n+1) c::k=>some ⟨{x.st with todo:=.code c::.rnd n c::k},x.hs,x.bs,[],[]⟩
def Back (P:Program) (Q:QR) (K0:Nat→Prop) (w0:World) (M:List Nat) (x y:EV):Prop:=
 RegOK x.st→(∀ p∈y.eqs,p.1=p.2)→(∀ p∈y.bqs,p.1=p.2)→RegOK y.st ∧
  ∀ w,Inv K0 w0 M x.st.nr x.st.H w→Fresh x.bs w→(∀ w',Inv K0 w0 M y.st.nr y.st.H w'→Fresh y.bs w'→QT P Q y.st.todo .normal y.st.act w')→QT P Q x.st.todo .normal x.st.act w
theorem Back.still {P:Program} {Q:QR} {c:Nat→Prop} {w0:World} {M:List Nat} {x:EV} {a:ES} {hs:List Nat} {eqs:List (Nat×Nat)} {bqs:List (Bool×Bool)} (b:a.H=x.st.H∧a.nr=x.st.nr) (hr:RegOK x.st→RegOK a)
 (h:∀ w,(∀ p∈eqs,p.1=p.2)→(∀ p∈bqs,p.1=p.2)→QT P Q a.todo .normal a.act w→QT P Q x.st.todo .normal x.st.act w):Back P Q c w0 M x ⟨a,hs,x.bs,eqs,bqs⟩:=
 fun hR he hb=>⟨hr hR,fun w hi hf k=>h w he hb (k w (by rw [b.1,b.2];exact hi) hf)⟩
theorem cD {st:ES} (h:eF st.todo=true:=by rfl):RegOK st:=by
 unfold RegOK
 split
 · rename_i e;rw [e] at h;cases h
 · rename_i e;rw [e] at h;cases h
 · trivial
section
variable {P:Program} {Q:QR} {K0:Nat→Prop} {w0:World} {M:List Nat}
theorem iZ {x y:EV} {k:List It} (h:toK x k=some y) (a:∀ w,QT P Q k .normal x.st.act w→QT P Q x.st.todo .normal x.st.act w):Back P Q K0 w0 M x y:=by
 unfold toK at h
 split at h
 · rename_i hk
   injection h with h
   subst h
   exact Back.still ⟨rfl,rfl⟩ (fun _=>cD hk) fun w _ _ h=>a w h
 · cases h
theorem vx {o:Oper} {x y:EV} {b:List It} (g:eF b=true) (h:pZ P o x b=some y)
 (j:∀ v w,QT P Q b .normal (x.st.act.put o.dst v) w→QT P Q b .normal (x.st.act.put o.dst v) w)
 (i:∀ w w' (a':Act),iy o=true→QT P Q b .normal a' w'→o.upon P x.st.act (fun a w=>QT P Q b .normal a w) (fun _ _ _=>False) ((execOp x.st.act.eval o).run P w)→QT P Q x.st.todo .normal x.st.act w):Back P Q K0 w0 M x y:=by
 unfold pZ at h
 split at h
 · cases h
 split at h
 · cases h
 rename_i js fh hs' hp
 have c:x.st.act.eval=cT x.st.ts:=dQ _ _
 split at h
 · rename_i v0 H' bs' e hr
   split at h
   rotate_left
   · cases h
   rename_i v bq hfb
   injection h with h
   subst h
   refine fun hR he hb=>⟨cD g,fun w hi hf k=>?_⟩
   obtain rfl:v0=v:=mJ hfb hb
   obtain ⟨w',hw,hran⟩:=jt _ _ _ _ w _ _ _ _ hr he hi.own hf
   have f:=k w' (hi.ran hran) hran.fresh
   refine i w w' _ (jF hw (by intro d e;cases e)) f ?_
   rw [c,hw]
   show QT P Q b .normal (x.st.act.put o.dst v0) w'
   rw [show x.st.act.put o.dst v0=_ from gD _ _ _ _]
   exact f
 · rename_i H' bs' e hr
   injection h with h
   subst h
   refine fun hR he hb=>⟨cD g,fun w hi hf k=>?_⟩
   obtain ⟨w',hw,hran⟩:=jt _ _ _ _ w _ _ _ _ hr he hi.own hf
   have f:=k w' (hi.ran hran) hran.fresh
   refine i w w' _ (jF hw (by intro d e;cases e)) f ?_
   rw [c,hw]
   show QT P Q b .normal (x.st.act.put o.dst undef) w'
   rw [show x.st.act.put o.dst undef=_ from gD _ _ _ _]
   exact f
 · cases h
theorem r9 {c:Code} {x y:EV} {k:List It} (f:P.follows .mixedOrders=true) (e:x.st.todo = .code c::k) (h:lK c x k=some y):Back P Q K0 w0 M x y:=by
 have hT:∀ w,c.wpIn (iW Q.rd) 0 P (QT P Q k) x.st.act w→QT P Q x.st.todo .normal x.st.act w:=fun w h=>by rw [e];exact h
 unfold lK at h
 split at h
 · exact iZ h fun w hq=>hT w (wpIn_skip hq)
 · exact iZ h fun w hq=>hT w (wpIn_label hq)
 · injection h with h;subst h
   exact Back.still ⟨rfl,rfl⟩ (fun _=>cD) fun w _ _ hq=>hT w (wpIn_seq hq)
 · injection h with h;subst h
   exact Back.still ⟨rfl,rfl⟩ (fun _=>cD) fun w _ _ hq=>hT w (wpIn_block hq)
 · rename_i c a b
   split at h
   · cases h
   · split at h
     · rename_i t ht
       have hc:x.st.act.eval c = .bool t:=by rw [show x.st.act.eval=cT x.st.ts from dQ _ _];exact ht
       split at h
       · split at h
         · injection h with h;subst h
           exact Back.still ⟨rfl,rfl⟩ (fun _=>cD) fun w _ _ hq=>hT w (wpIn_cond_true hc hq)
         · injection h with h;subst h
           exact Back.still ⟨rfl,rfl⟩ (fun _=>cD) fun w _ _ hq=>hT w (wpIn_cond_false hc hq)
       · injection h with h;subst h
         refine Back.still ⟨rfl,rfl⟩ (fun _=>cD) fun w _ hb hq=>hT w ?_
         have d:t=true:=hb _ List.mem_cons_self
         subst d
         exact wpIn_cond_true hc hq
       · injection h with h;subst h
         refine Back.still ⟨rfl,rfl⟩ (fun _=>cD) fun w _ hb hq=>hT w ?_
         have d:t=false:=hb _ List.mem_cons_self
         subst d
         exact wpIn_cond_false hc hq
     · cases h
 · split at h
   · rename_i id k' hk
     exact iZ h fun w hq=>hT w (wpIn_exit (fK k k' hk hq))
   · cases h
 · injection h with h;subst h
   exact Back.still ⟨rfl,rfl⟩ (fun _=>cD) fun w _ _ hq=>hT w (B1 hq)
 · rename_i id ops
   split at h
   · rename_i n m hs hh hnd
     injection h with h;subst h
     intro hR he hb
     refine ⟨fun hn i z hi hz=>hz,fun w hi hf kk=>hT w ?_⟩
     have g:kY ((List.range x.st.H.length).map fun i=>!m.testBit i) x.st.H w.drew:=⟨fun j b s _ hb hlv=>hi.drew.own.at_ j b s hb hlv,fun j a p _ hb=>hi.drew.fact hb⟩
     exact sK n _ f (fun hr a w=>jR (Q.no hr a w) k) hnd g fun _=>kk w.drew hi.drew (hf.heap rfl)
   · cases h
 · split at h
   · injection h with h;subst h
     exact Back.still ⟨rfl,rfl⟩ (fun _=>cD) fun w _ _ hq=>hT w (sP _ hq)
   · cases h
 · cases h
end
section
variable {P:Program} {Q:QR} {K0:Nat→Prop} {w0:World} {M:List Nat}
theorem Hg {c:Array Oper} {g:Exit→Act→World→Prop} {S:World→Prop} {i n d:Nat} {o:Oper} {b:Array Bool} {a:Act} {w w':World} {f:Next} {v:Vl} (k:c[i]?=some o)
 (l:Region.wanted o (yielded c a.tmps)=true) (e:(execOp a.eval o).run P w = .ok f w') (m:f = .value v∨f = .skip∧v=undef) (j:(b.setIfInBounds i true).getD n false=false→S w')
 (h:wpAnyG P .any c g n S d (b.setIfInBounds i true) (a.put o.dst v) w'):iP P c g n S d b i a w:=by
 unfold iP wpOp
 simp only [k,l,if_true]
 refine .inl ?_
 unfold Oper.wp
 rw [e]
 rcases m with rfl | ⟨rfl,rfl⟩
 · exact ⟨j,h⟩
 · exact ⟨j,h⟩
theorem tH {m:Array Oper} {a:Array Bool} {c n:Nat} {g:List Bool} {t:HP} {k:List It} {x y:EV} (e:x.st.todo = .reg m a c n g t::k) (h:nQ P m a c n g t k x=some y):Back P Q K0 w0 M x y:=by
 have hT:∀ w,wpAnyG P .any m (PanQ m (QT P Q k)) n (kY g t) c a x.st.act w→QT P Q x.st.todo .normal x.st.act w:=fun w h=>by rw [e];exact h
 have A:x.st.act.eval=cT x.st.ts:=dQ _ _
 unfold nQ at h
 split at h
 · rename_i hr
   exact iZ h fun w hq=>hT w (Hf hr hq _)
 · rename_i r rs hr
   split at h
   · cases h
   · rename_i fuel0 c
     split at h
     · rename_i i hfi
       split at h
       · cases h
       · rename_i o ho
         split at h
         · cases h
         · rename_i d hd
           split at h
           · rename_i hchk
             simp only [Bool.and_eq_true,bne_iff_ne,ne_eq] at hchk
             obtain ⟨⟨⟨c1,c2⟩,c3⟩,c4⟩:=hchk
             have j:∀ v,x.st.ts.toArray.setIfInBounds d v=(x.st.ts.set d v).toArray:=fun v=>by simp
             have f:∀ {X:Option (Nat×SB)} {v:Vl} {eqs:List (Nat×Nat)} {w:World},(∀ b s,X=some (b,s)→s.live=true→∃ o,w.heap[b]?=some o∧s.ok o)→cU P X (execOp (cT x.st.ts) o)=some (.value v,eqs)→(∀ p∈eqs,p.1=p.2) →
              (execOp (Act.eval ⟨x.st.ts.toArray,x.st.ds⟩) o).run P w = .ok (.value v) w:=fun hX hs he=>by rw [dQ];exact iL hX _ _ _ hs he
             have l:∀ (z:ES),z.H=x.st.H→z.todo = .reg m (a.setIfInBounds i true) c n g t::k→RegOK x.st→RegOK z:=by
              intro z hz1 hz2 hR
              unfold RegOK at hR ⊢
              rw [e] at hR
              rw [hz2]
              dsimp only at hR ⊢
              intro hl
              rw [hz1]
              exact hR (by
               rw [getD_set_ne false (Ne.symm c4)] at hl
               exact hl)
             split at h
             · rename_i hw
               split at h
               · rename_i hpass
                 split at h
                 · cases h
                 · rename_i hg
                   split at h
                   · rename_i v eqs hs
                     injection h with h;subst h
                     refine Back.still ⟨rfl,rfl⟩ (fun hR=>l _ rfl rfl hR) fun w he _ hq=>hT w<|ri i ho hd c1 c2 c3 c4 hg (fun w=>f (fun _ _ hh _=>by cases hh) hs he) (fun hh=>by rw [hpass] at hh;cases hh) ?_
                     rw [j]
                     exact hq
                   · cases h
               · rename_i hpass
                 split at h
                 · rename_i hgate
                   split at h
                   · cases h
                   · rename_i js fh hs' hp
                     split at h
                     · rename_i v0 eqs hs
                       split at h
                       rotate_left
                       · cases h
                       rename_i v bq hfb
                       injection h with h;subst h
                       have q:a.getD n false=false:=by simpa using hpass
                       intro hR he hb
                       obtain rfl:v0=v:=mJ hfb hb
                       refine ⟨l _ rfl rfl hR,fun w hi hf kk=>hT w ?_⟩
                       refine ut (v:=v0) i ho hd c1 c2 c3 hgate c4 hw (fun w hS=>f (fun b s hh hlv=>?_) hs he) (hR.own e q hi) ?_
                       · split at hh
                         · rename_i hm;exact hS.1 (j9 js) b s hm hh hlv
                         · cases hh
                       · rw [j]
                         exact kk w hi hf
                     · cases h
                 · split at h
                   · split at h
                     · cases h
                     · rename_i hg
                       split at h
                       · rename_i v eqs hs
                         injection h with h;subst h
                         have q:a.getD n false=false:=by simpa using hpass
                         intro hR he hb
                         refine ⟨l _ rfl rfl hR,fun w hi hf kk=>hT w ?_⟩
                         refine ri i ho hd c1 c2 c3 c4 hg (fun w=>f (fun _ _ hh _=>by cases hh) hs he) (fun _=>hR.own e q hi) ?_
                         rw [j]
                         exact kk w hi hf
                       · cases h
                   · injection h with h;subst h
                     intro hR he hb
                     refine ⟨?_,fun w hi hf kk=>hT w ?_⟩
                     · unfold RegOK at hR ⊢
                       rw [e] at hR
                       exact hR
                     · exact me hr (by simp) fun r' hm=>by rw [List.mem_singleton] at hm;subst hm;exact kk w hi hf
             · rename_i hw
               injection h with h;subst h
               have u:Region.wanted o (yielded m x.st.ts.toArray)=false:=by simpa using hw
               intro hR he hb
               refine ⟨l _ rfl rfl hR,fun w hi hf kk=>hT w ?_⟩
               refine CY i ho hd c1 c2 c3 c4 u (fun q=>hR.own e q hi) ?_
               rw [j]
               exact kk w hi hf
           · cases h
     · split at h
       · cases h
       · injection h with h;subst h
         intro hR he hb
         refine ⟨?_,fun w hi hf kk=>hT w ?_⟩
         · unfold RegOK at hR ⊢
           rw [e] at hR
           exact hR
         · exact me hr (by simp) fun r' hm=>by rw [List.mem_singleton] at hm;subst hm;exact kk w hi hf
theorem vu {r:Nat} {j:Array Oper} {c:Array Bool} {g n:Nat} {f:List Bool} {m:HP} {k:List It} {x y:EV} (e:x.st.todo = .regAt r j c g n f m::k) (h:pX P r j c g n f m k x=some y):Back P Q K0 w0 M x y:=by
 have hT:∀ w,iP P j (PanQ j (QT P Q k)) n (kY f m) g c r x.st.act w→QT P Q x.st.todo .normal x.st.act w:=fun w h=>by rw [e];exact h
 have q:x.st.act.eval=cT x.st.ts:=dQ _ _
 unfold pX at h
 split at h
 · cases h
 · rename_i o ho
   split at h
   · rename_i hw
     split at h
     · cases h
     · split at h
       · cases h
       · rename_i js fh hs' hp
         split at h
         · rename_i hok
           have key:∀ {nx:Next} {v:Vl} {H':HP} {bs':List Nat} {eqs:List (Nat×Nat)},dg P x.st.nr js (execOp (cT x.st.ts) o) x.st.H x.bs=some (nx,H',bs',eqs)→(nx = .value v∨nx = .skip∧v=undef) →
            Back P Q K0 w0 M x ⟨⟨.reg j (c.setIfInBounds r true) g n f m::k,iK x.st.ts o.dst v,x.st.ds,H',x.st.nr⟩,hs',bs',eqs,[]⟩:=by
            intro nx v H' bs' eqs hs hn hR he hb
            have d:(c.setIfInBounds r true).getD n false=false→∀ (i:Nat) (z:Nat×SB),f[i]?=some true→m[i]?=some z→H'[i]?=some z:=by
             intro hl i z hm hz
             have l:c.getD n false=false:=by
              cases hh:c.getD n false with
              | false=>rfl
              | true=>rw [getD_set_true hh] at hl;cases hl
             unfold RegOK at hR
             rw [e] at hR
             have h1:=hR l i z hm hz
             have t:i∉9999::js:=by
              intro hij
              rw [hl,Bool.false_or] at hok
              have A:=List.all_eq_true.1 hok i hij
              rw [hm] at A
              simp at A
             rw [(xD _ _ _ _ _ _ _ _ hs).2 i (cj h1) t]
             exact h1
            refine ⟨d,fun w hi hf kk=>hT w ?_⟩
            obtain ⟨w',hrun,hran⟩:=jt _ _ _ _ w _ _ _ _ hs he hi.own hf
            refine Hg ho hw (by rw [q];exact hrun) hn (fun hl=>?_) ?_
            · refine ⟨fun i b s hm hb hlv=>hran.own.at_ i b s (d hl i (b,s) hm hb) hlv,fun i a p hm hb=>?_⟩
              exact (hi.ran hran).fact (d hl i (a,.fa p) hm hb)
            · rw [show x.st.act.put o.dst v=_ from gD _ _ _ _]
              exact kk w' (hi.ran hran) hran.fresh
           split at h
           · rename_i hs
             injection h with h;subst h
             exact key hs (.inl rfl)
           · rename_i hs
             injection h with h;subst h
             exact key hs (.inr ⟨rfl,rfl⟩)
           · cases h
         · cases h
   · rename_i hw
     injection h with h;subst h
     intro hR he hb
     have d:(c.setIfInBounds r true).getD n false=false→∀ (i:Nat) (z:Nat×SB),f[i]?=some true→m[i]?=some z→x.st.H[i]?=some z:=by
      intro hl i z hm hz
      have l:c.getD n false=false:=by
       cases hh:c.getD n false with
       | false=>rfl
       | true=>rw [getD_set_true hh] at hl;cases hl
      unfold RegOK at hR
      rw [e] at hR
      exact hR l i z hm hz
     refine ⟨d,fun w hi hf kk=>hT w ?_⟩
     have u:Region.wanted o (yielded j x.st.act.tmps)=false:=(Bool.not_eq_true _).mp hw
     unfold iP wpOp
     simp only [ho,u,Bool.false_eq_true,if_false]
     refine ⟨fun hl=>⟨fun i b s hm hb hlv=>hi.own.at_ i b s (d hl i (b,s) hm hb) hlv,fun i a p hm hb=>hi.fact (d hl i (a,.fa p) hm hb)⟩,?_⟩
     rw [show x.st.act.put o.dst undef=_ from gD _ _ _ _]
     exact kk w hi hf
theorem xO {x y:EV} (b:P.follows .mixedOrders=true) (h:uv P x=some y) (g:∀ ops l k,x.st.todo = .ops ops l::k→True):Back P Q K0 w0 M x y:=by
 unfold uv at h
 split at h
 · cases h
 · rename_i c k e
   exact r9 b e h
 · rename_i id k e
   exact iZ h fun w hq=>by rw [e];exact hq
 · rename_i ops k e
   exact iZ h fun w hq=>by rw [e];exact hq
 · rename_i ops i l k e
   have hT:∀ w,fT P Q.rd ops (QT P Q k) (i::l) x.st.act w→QT P Q x.st.todo .normal x.st.act w:=fun w h=>by rw [e];exact h
   split at h
   · rename_i ho
     injection h with h;subst h
     exact Back.still ⟨rfl,rfl⟩ (fun _=>cD) fun w _ _ hq=>hT w<|wC ho hq
   · rename_i o ho
     split at h
     · rename_i hw
       refine vx rfl h (fun _ _ h=>h) fun w w' a' hd _ hu=>hT w<|iY ho hw (tK (.inr hd) ?_)
       unfold Oper.wp
       revert hu
       generalize (execOp x.st.act.eval o).run P w=r
       intro hu
       match r with
       | .ok (.value v) w'=>exact hu
       | .ok .skip w'=>exact hu
       | .ok (.defer d) w'=>exact hu
       | .ok (.enter f args) w'=>
        refine Calls.mono hu fun en w2 he=>?_
        match en with
        | .returned v=>exact he
        | .panicked c=>exact (he:False).elim
        | .outgrown=>obtain ⟨_,_,hf⟩:=(he:LetsOut fun _ _ _=>False);exact hf.elim
       | .ok (.row row args) w'=>exact hu
       | .halt (.panic v) w'=>exact (hu:False).elim
       | .halt h0 w'=>cases h0 <;> exact (hu:False).elim
     · rename_i hw
       injection h with h;subst h
       refine Back.still ⟨rfl,rfl⟩ (fun _=>cD) fun w _ _ hq=>hT w ?_
       have a:Region.wanted o (yielded ops x.st.act.tmps)=false:=Bool.eq_false_iff.2 hw
       refine wV ho a ?_
       rw [show x.st.act.put o.dst undef=_ from gD _ _ _ _]
       exact hq
 · rename_i ops listed fuel n mask H0 k e
   exact tH e h
 · rename_i r ops listed fuel n mask H0 k e
   exact vu e h
 · cases h
 · cases h
 · rename_i n c k e
   injection h with h;subst h
   exact Back.still ⟨rfl,rfl⟩ (fun _=>cD) fun w _ _ hq=>by rw [e];exact hq
def ev (P:Program):Nat→EV→EV
 | 0,x=>x
 | f+1,x=>
  match uv P x with
  | none=>x
  | some y=>ev P f ⟨y.st,y.hs,y.bs,y.eqs++x.eqs,y.bqs++x.bqs⟩
theorem AS (f:Nat):∀ x:EV,(∃ l,(ev P f x).eqs=l++x.eqs)∧(∃ l,(ev P f x).bqs=l++x.bqs):=by
 induction f with
 | zero=>exact fun x=>⟨⟨[],rfl⟩,⟨[],rfl⟩⟩
 | succ f ih=>
  intro x
  unfold ev
  split
  · exact ⟨⟨[],rfl⟩,⟨[],rfl⟩⟩
  · rename_i y hy
    obtain ⟨⟨l,hl⟩,⟨m,hmm⟩⟩:=ih ⟨y.st,y.hs,y.bs,y.eqs++x.eqs,y.bqs++x.bqs⟩
    exact ⟨⟨l++y.eqs,by rw [hl];simp⟩,⟨m++y.bqs,by rw [hmm];simp⟩⟩
theorem yr (a:P.follows .mixedOrders=true) (f:Nat):∀ x:EV,RegOK x.st→(∀ p∈(ev P f x).eqs,p.1=p.2)→(∀ p∈(ev P f x).bqs,p.1=p.2)→RegOK (ev P f x).st ∧
 ∀ w,Inv K0 w0 M x.st.nr x.st.H w→Fresh x.bs w→(∀ w',Inv K0 w0 M (ev P f x).st.nr (ev P f x).st.H w'→QT P Q (ev P f x).st.todo .normal (ev P f x).st.act w')→QT P Q x.st.todo .normal x.st.act w:=by
 induction f with
 | zero=>exact fun x hR _ _=>⟨hR,fun w hi _ k=>k w hi⟩
 | succ f ih=>
  intro x hR he hb
  unfold ev at he hb ⊢
  split at he
  · rename_i hy
    rw [hy] at hb
    exact ⟨hR,fun w hi _ k=>k w hi⟩
  · rename_i y hy
    rw [hy] at hb
    simp only at hb
    obtain ⟨⟨l,hl⟩,⟨m,hmm⟩⟩:=AS (P:=P) f ⟨y.st,y.hs,y.bs,y.eqs++x.eqs,y.bqs++x.bqs⟩
    obtain ⟨hR',hk⟩:=xO (Q:=Q) (w0:=w0) (M:=M) a hy (fun _ _ _ _=>trivial) hR (fun p hp=>he p (by rw [hl];exact List.mem_append_right _ (List.mem_append_left _ hp))) (fun p hp=>hb p (by rw [hmm];exact List.mem_append_right _ (List.mem_append_left _ hp)))
    obtain ⟨hR2,hk2⟩:=ih ⟨y.st,y.hs,y.bs,y.eqs++x.eqs,y.bqs++x.bqs⟩ hR' he hb
    exact ⟨hR2,fun w hi hf kk=>hk w hi hf fun w' hi' hf'=>hk2 w' hi' hf' kk⟩
theorem lW {α:Type} {l:List (α×α)} (h:l.map (·.1)=l.map (·.2)):∀ p∈l,p.1=p.2:=by
 induction l with
 | nil=>intro p hp;cases hp
 | cons x l ih=>
  intro p hp
  injection h with h1 h2
  rcases List.mem_cons.1 hp with rfl | hp
  · exact h1
  · exact ih h2 p hp
def Alike:List (Bool×Bool)→Prop
 | []=>True
 | p::l=>p.1=p.2∧Alike l
theorem bt:Alike []:=trivial
theorem br {a b:Bool} {l:List (Bool×Bool)} (h:a=b) (k:Alike l):Alike ((a,b)::l):=⟨h,k⟩
theorem Alike.all {l:List (Bool×Bool)} (h:Alike l):∀ p∈l,p.1=p.2:=by
 induction l with
 | nil=>intro p hp;cases hp
 | cons x l ih=>
  intro p hp
  rcases List.mem_cons.1 hp with rfl | hp
  · exact h.1
  · exact ih h.2 p hp
def sg (P:Program) (f:Nat) (hs:List Nat) (st:ES) (n:Nat) (nm:Nat→Nat):EV:=ev P f ⟨st,hs,(List.range n).map nm,[],[]⟩
theorem HB (a:P.follows .mixedOrders=true) (f n:Nat) (hs:List Nat) (L:List (Bool×Bool)) {st:ES} (d:Alike L) (h:∀ nm:Nat→Nat,((sg P f hs st n nm).eqs.map (·.1),(sg P f hs st n nm).bqs)=((sg P f hs st n nm).eqs.map (·.2),L)∧GW P Q K0 w0 M (sg P f hs st n nm).st):GW P Q K0 w0 M st:=by
 intro hR w hi
 obtain ⟨h12,h3⟩:=h fun i=>w.heap.size+i
 obtain ⟨h1,h2'⟩:=Prod.mk.inj h12
 have h2:Alike (sg P f hs st n fun i=>w.heap.size+i).bqs:=by rw [h2'];exact d
 obtain ⟨hR',hk⟩:=yr (Q:=Q) (w0:=w0) (M:=M) a f ⟨st,hs,(List.range n).map fun i=>w.heap.size+i,[],[]⟩ hR (lW h1) h2.all
 refine hk w hi ?_ (h3 hR')
 intro i b hb
 rw [List.getElem?_map] at hb
 rw [Option.map_eq_some_iff] at hb
 obtain ⟨c,hc,rfl⟩:=hb
 obtain ⟨hl,hc⟩:=List.getElem?_eq_some_iff.1 hc
 rw [List.getElem_range] at hc
 rw [hc]
end
def TriPost (K:Nat→Prop) (HR HW:HP) {X:Type} (φ:X→Prop) (e:X→Ending) (HW' HN:X→HP) (w:World) (en:Ending) (w':World):Prop:=
 ∃ x K',φ x∧en=e x∧Own (HR++HW' x++HN x) w'∧Fr (lv HW) w w'∧(∀ b∈lv (HN x),w.heap.size≤b∨b∈lv HW)∧KExt K K' (lv HW) w∧Kn K' (HR++HW' x++HN x) w'
def Tri (P:Program) (f:FuncId) (args:Array Vl) (HR HW:HP) {X:Type} (φ:X→Prop) (e:X→Ending) (HW' HN:X→HP):Prop:=
 ∀ K w,Own (HR++HW) w→Kn K (HR++HW) w→Calls P f args w (TriPost K HR HW φ e HW' HN w)
def RunTri (P:Program) (s:Sem Next) (HR HW:HP) {X:Type} (φ:X→Prop) (v:X→Vl) (HW' HN:X→HP):Prop:=
 ∀ w,Own (HR++HW) w→∃ nx w',(∃ x,φ x∧(nx = .value (v x)∨nx = .skip∧v x=undef)∧Own (HR++HW' x++HN x) w'∧Fr (lv HW) w w'∧∀ b∈lv (HN x),w.heap.size≤b∨b∈lv HW)∧s.run P w = .ok nx w'
def gq (P:Program) (s:Sem Next) (HR HW:HP) {X:Type} (φ:X→Prop) (v:X→Vl) (HW' HN:X→HP):Prop:=
 ∀ K w,Own (HR++HW) w→Kn K (HR++HW) w→∃ nx w',(∃ x K',φ x∧(nx = .value (v x)∨nx = .skip∧v x=undef)∧Own (HR++HW' x++HN x) w'∧Fr (lv HW) w w'∧(∀ b∈lv (HN x),w.heap.size≤b∨b∈lv HW)∧KExt K K' (lv HW) w∧Kn K' (HR++HW' x++HN x) w')∧s.run P w = .ok nx w'
def noFa (H:HP):Bool:=H.all fun x=>!x.2.isFa
theorem wD {H:HP} (h:noFa H=true) {j a:Nat} {p:World→Prop} (b:H[j]?=some (a,.fa p)):False:=by
 have:=List.all_eq_true.1 h _ (List.mem_of_getElem? b)
 simp [SB.isFa] at this
theorem r6 {l:List Nat} (h:l.Nodup) {i k a:Nat} (hi:l[i]?=some a) (b:l[k]?=some a):i=k:=by
 have h1:=cj hi
 have h2:=cj b
 rw [List.getElem?_eq_getElem h1] at hi
 rw [List.getElem?_eq_getElem h2] at b
 injection hi with hi
 injection b with b
 have c:=List.pairwise_iff_getElem.1 h
 rcases Nat.lt_trichotomy i k with hl | hl | hl
 · exact absurd (hi.trans b.symm) (c i k h1 h2 hl)
 · exact hl
 · exact absurd (b.trans hi.symm) (c k i h2 h1 hl)
theorem eu {H L:HP} {a:List Nat} (b:a.map (fun i=>H[i]?)=L.map some) {i:Nat} {x:Nat×SB} (c:L[i]?=some x):∃ j,a[i]?=some j∧H[j]?=some x:=by
 have h1:=congrArg (fun l=>l[i]?) b
 simp only [List.getElem?_map,c,Option.map_some] at h1
 rw [Option.map_eq_some_iff] at h1
 exact h1
theorem xJ {H L:HP} {a:List Nat} (b:a.map (fun i=>H[i]?)=L.map some) {i j:Nat} (c:a[i]?=some j):∃ x,L[i]?=some x∧H[j]?=some x:=by
 have h1:=congrArg (fun l=>l[i]?) b
 simp only [List.getElem?_map,c,Option.map_some] at h1
 cases hh:L[i]? with
 | none=>rw [hh] at h1;cases h1
 | some x=>rw [hh] at h1;exact ⟨x,rfl,by simpa using h1⟩
theorem Own.pick {H:HP} {w:World} (h:Own H w) (d:List Nat) (f:d.Nodup) (L:HP) (g:d.map (fun i=>H[i]?)=L.map some):Own L w:=by
 constructor
 · intro i k b s t hik hi hk hs ht
   obtain ⟨a,ha,ha'⟩:=eu g hi
   obtain ⟨c,hc,hc'⟩:=eu g hk
   refine h.nd a c b s t (fun e=>?_) ha' hc' hs ht
   subst e
   exact hik (r6 f ha hc)
 · intro i b s hi hs
   obtain ⟨j,_,hj⟩:=eu g hi
   exact h.at_ j b s hj hs
theorem Kn.pick {K:Nat→Prop} {H:HP} {w:World} (h:Kn K H w) (c:List Nat) (L:HP) (d:c.map (fun i=>H[i]?)=L.map some):Kn K L w:=by
 refine ⟨fun b hb=>⟨(h.off b hb).1,fun hm=>?_⟩,fun j a p hj=>?_⟩
 · obtain ⟨k,s,hk,hs⟩:=fM hm
   obtain ⟨i,_,hi⟩:=eu d hk
   exact (h.off b hb).2 (da hi hs)
 · obtain ⟨i,_,hi⟩:=eu d hj
   exact h.fac i a p hi
def co:HP→List Nat→HP→HP
 | H,j::js,y::ys=>co (H.set j y) js ys
 | H,_,_=>H
theorem jO:∀ (sel:List Nat) (H L:HP),(co H sel L).length=H.length
 | [],H,L=>by unfold co;rfl
 | j::js,H,[]=>by unfold co;rfl
 | j::js,H,y::ys=>by unfold co;rw [jO js];simp
theorem hC:∀ (sel:List Nat) (H L:HP) (i:Nat),i∉sel→(co H sel L)[i]?=H[i]?
 | [],H,L,i,_=>by unfold co;rfl
 | j::js,H,[],i,_=>by unfold co;rfl
 | j::js,H,y::ys,i,hi=>by
  unfold co
  rw [hC js _ ys i (fun h=>hi (List.mem_cons_of_mem _ h)),List.getElem?_set_ne (fun e=>hi (by rw [e];exact List.mem_cons_self))]
theorem mq:∀ (sel:List Nat) (H L:HP) (k j:Nat) (y:Nat×SB),sel.Nodup→sel[k]?=some j→L[k]?=some y→j<H.length→(co H sel L)[j]?=some y
 | [],_,_,_,_,_,_,h,_,_=>by simp at h
 | _::_,_,[],_,_,_,_,_,h,_=>by simp at h
 | i::is,H,z::zs,0,j,y,hn,h1,h2,hl=>by
  unfold co
  simp at h1 h2
  subst h1;subst h2
  rw [hC is _ _ i (List.nodup_cons.1 hn).1]
  simp [hl]
 | i::is,H,z::zs,k+1,j,y,hn,h1,h2,hl=>by
  unfold co
  exact mq is (H.set i z) zs k j y (List.nodup_cons.1 hn).2 (by simpa using h1) (by simpa using h2) (by simpa using hl)
section
variable {P:Program} {Q:QR} {K0:Nat→Prop} {w0:World} {M:List Nat} {st:ES}
def cO (fn:Func):Code:=
 match fn.body with
 | some c=>c
 | none=>.skip
theorem Fq {f:FuncId} {a:Func} {args:Array Vl} {w:World} {R:Ending→World→Prop} (g:P.funcs[f]?=some a) (hb:a.body.isSome=true) {HR HW:HP} {K:Nat→Prop} (i:Own (HR++HW) w) (j:Kn K (HR++HW) w)
 (h:GW P (bodyPost P a R) K w (lv HW) ⟨[.code (cO a)],args.toList++List.replicate (a.ntmps-args.size) undef,[],HR++HW,HR.length⟩):Calls P f args w R:=by
 have d:a.body=some (cO a):=by
  unfold cO
  cases hh:a.body with
  | none=>rw [hh] at hb;cases hb
  | some c=>rfl
 refine calls_of_wp g d ?_
 have h1:=h (cD) w ⟨i,Fr.refl _ _,fun b hb=>.inl (by unfold wr at hb;simpa using hb),K,KExt.refl _ _ _,j⟩
 have e:args++Array.replicate (a.ntmps-args.size) undef=(args.toList++List.replicate (a.ntmps-args.size) undef).toArray:=by simp
 rw [e]
 exact (wpIn_wide (n:=0)).1 h1
theorem cJ {f:FuncId} {a:Func} {args:Array Vl} {HR HW:HP} {X:Type} {φ:X→Prop} {e:X→Ending} {HW' HN:X→HP} (b:P.funcs[f]?=some a) (hb:a.body.isSome=true)
 (h:∀ {K:Nat→Prop} w,Own (HR++HW) w→GW P (bodyPost P a (TriPost K HR HW φ e HW' HN w)) K w (lv HW) ⟨[.code (cO a)],args.toList++List.replicate (a.ntmps-args.size) undef,[],HR++HW,HR.length⟩):Tri P f args HR HW φ e HW' HN:=
 fun K w ho hk=>Fq b hb ho hk (h w ho)
theorem iE {f:FuncId} {a:Func} {args:Array Vl} {HR HW:HP} {X:Type} {φ:X→Prop} {e:X→Ending} {HW' HN:X→HP} (b:P.funcs[f]?=some a) (h:∀ {K:Nat→Prop} {w:World},GW P (bodyPost P a (TriPost K HR HW φ e HW' HN w)) K w (lv HW) ⟨[.code (cO a)],args.toList++List.replicate (a.ntmps-args.size) undef,[],HR++HW,HR.length⟩) (hb:a.body.isSome=true:=by kernel_rfl):Tri P f args HR HW φ e HW' HN:=cJ b hb fun w _=>h
def ix:List It→Bool
 | []=>true
 | .code .ret::_=>true
 | _=>false
theorem y7 {v:Vl} (a:ix st.todo=true) (b:∀ w,Inv K0 w0 M st.nr st.H w→Q.q .normal st.act w) (hr:∀ w,Inv K0 w0 M st.nr st.H w→Q.q .ret st.act w):GW P Q K0 w0 M st:=by
 intro _ w hi
 unfold ix at a
 split at a
 · rename_i e;rw [e];exact b w hi
 · rename_i k e;rw [e];exact wpIn_ret (iN (hr w hi) k)
 · cases a
theorem CW {a:Func} {R:Ending→World→Prop} (j:Nat) (v:Vl) (e:ix st.todo=true) (hd:st.ds.isEmpty=true) (d:(cU P st.H[j]? (results a st.ts.toArray)).map (·.1)=some v)
 (c:((cU P st.H[j]? (results a st.ts.toArray)).map (·.2.map (·.1)))=((cU P st.H[j]? (results a st.ts.toArray)).map (·.2.map (·.2)))) (h:∀ w,Inv K0 w0 M st.nr st.H w→R (.returned v) w):GW P (bodyPost P a R) K0 w0 M st:=by
 have key:∀ w,Inv K0 w0 M st.nr st.H w→st.act.defers=[]∧∃ v,(results a st.act.tmps).run P w = .ok v w∧R (.returned v) w:=by
  intro w hi
  refine ⟨by unfold ES.act;simpa using hd,v,?_,h w hi⟩
  rw [Option.map_eq_some_iff] at d
  obtain ⟨⟨u,eqs⟩,h1,rfl⟩:=d
  rw [h1] at c
  simp only [Option.map_some,Option.some.injEq] at c
  exact iL (fun b s hb hl=>hi.own.at_ j b s hb hl) _ _ _ h1 (lW c)
 exact y7 (v:=v) e key key
theorem TriPost.mk {K:Nat→Prop} {HR HW:HP} {X:Type} {φ:X→Prop} {e:X→Ending} {HW' HN:X→HP} {w:World} {m:Ending} (x:X) (c:List Nat) (q:φ x) (r:m=e x) {H:HP} {nr:Nat} (u:nr=HR.length) (n:H.take (HR.length+HW.length)=HR++HW' x) (ha:(HW' x).length=HW.length)
 (o:c.map (fun i=>H[i]?)=(HN x).map some) (hi:(c.all fun j=>(HR.length+HW.length).ble j)=true) (l:decide c.Nodup=true) (w':World) (h:Inv K w (lv HW) nr H w'):TriPost K HR HW φ e HW' HN w m w':=by
 have f:∀ j∈c,HR.length+HW.length≤j:=fun j hj=>Nat.le_of_ble_eq_true (List.all_eq_true.1 hi j hj)
 have p:HR.length+HW.length≤H.length:=by
  have:=congrArg List.length n
  simp [ha] at this
  omega
 have g:∀ i,i<HR.length+HW.length→H[i]?=(HR++HW' x)[i]?:=fun i hi=>by rw [← n,List.getElem?_take_of_lt hi]
 have d:(List.range (HR.length+HW.length)++c).map (fun i=>H[i]?)=(HR++HW' x++HN x).map some:=by
  rw [List.map_append,List.map_append,o]
  congr 1
  apply List.ext_getElem?
  intro i
  rw [List.getElem?_map,List.getElem?_map]
  rcases Nat.lt_or_ge i (HR.length+HW.length) with hl | hl
  · rw [List.getElem?_range hl,Option.map_some,g i hl,List.getElem?_eq_getElem (by simp [ha];exact hl)]
    rfl
  · rw [List.getElem?_eq_none (by simpa using hl),List.getElem?_eq_none (by simp [ha];exact hl)]
    rfl
 obtain ⟨K',hk1,hk2⟩:=h.kn
 refine ⟨x,K',q,r,?_,h.fr,?_,hk1,hk2.pick _ _ d⟩
 · refine h.own.pick (List.range (HR.length+HW.length)++c) ?_ _ d
   rw [List.nodup_append]
   refine ⟨List.nodup_range,by simpa using l,?_⟩
   intro a ha' b hb e
   have h1:=List.mem_range.1 ha'
   have h2:=f b hb
   omega
 · intro b hb
   obtain ⟨k,s,hk,hs⟩:=fM hb
   obtain ⟨j,hj,hj2⟩:=eu o hk
   have t:=f j (List.mem_of_getElem? hj)
   rcases h.ad b (fH hj2 hs (by omega)) with h4 | h4
   · exact .inr h4
   · exact .inl h4
theorem rT {b:Func} {HR HW:HP} {X:Type} {φ:X→Prop} {e:X→Ending} {HW' HN:X→HP} {K:Nat→Prop} {w:World} {v:Vl} (x:X) (j:Nat:=9999) (a:List Nat:=[]) (c:Ending.returned v=e x:=by rfl) (d:φ x:=by first | trivial | (repeat' (first | assumption | (exact ⟨_,by assumption⟩) | (apply And.intro)))) (h:(ix st.todo,st.ds.isEmpty,(cU P st.H[j]? (results b st.ts.toArray)).map (·.1),((cU P st.H[j]? (results b st.ts.toArray)).map (·.2.map (·.1))),st.nr,st.H.take (HR.length+HW.length),(HW' x).length,a.map (fun i=>st.H[i]?),(a.all fun j=>(HR.length+HW.length).ble j),decide a.Nodup) =
 (true,true,some v,((cU P st.H[j]? (results b st.ts.toArray)).map (·.2.map (·.2))),HR.length,HR++HW' x,HW.length,(HN x).map some,true,true):=by kernel_rfl):GW P (bodyPost P b (TriPost K HR HW φ e HW' HN w)) K w (lv HW) st:=by
 simp only [Prod.mk.injEq] at h
 obtain ⟨ht,hd,hv,hq,hm,hp,ha,hN,hi,hnd⟩:=h
 exact CW j v ht hd hv hq fun w' h=>TriPost.mk x a d c hm hp ha hN hi hnd w' h
theorem iz {b:Func} {HR HW:HP} {X:Type} {φ:X→Prop} {e:X→Ending} {HW' HN:X→HP} {K:Nat→Prop} {w:World} (x:X) (v:Vl) (a:List Nat) (hr:∀ w,Own st.H w→(results b st.ts.toArray).run P w = .ok v w) (c:Ending.returned v=e x:=by rfl) (d:φ x:=by trivial) (h:(ix st.todo,st.ds.isEmpty,st.nr,st.H.take (HR.length+HW.length),(HW' x).length,a.map (fun i=>st.H[i]?),(a.all fun j=>(HR.length+HW.length).ble j),decide a.Nodup) =
 (true,true,HR.length,HR++HW' x,HW.length,(HN x).map some,true,true):=by kernel_rfl):GW P (bodyPost P b (TriPost K HR HW φ e HW' HN w)) K w (lv HW) st:=by
 simp only [Prod.mk.injEq] at h
 obtain ⟨ht,hd,hm,hp,ha,hN,hi,hnd⟩:=h
 have key:∀ w1,Inv K w (lv HW) st.nr st.H w1→st.act.defers=[]∧∃ v,(results b st.act.tmps).run P w1 = .ok v w1∧TriPost K HR HW φ e HW' HN w (.returned v) w1:=by
  intro w1 hi1
  exact ⟨by unfold ES.act;simpa using hd,v,hr w1 hi1.own,TriPost.mk x a d c hm hp ha hN hi hnd w1 hi1⟩
 exact y7 (v:=v) ht key key
def dn (st:ES):Option Oper:=
 match st.todo with
 | .ops ops (i::_)::_=>
  match ops[i]? with
  | some o=>if Region.wanted o (yielded ops st.ts.toArray) then some o else none
  | none=>none
 | .regAt r ops _ _ _ _ _::_=>
  match ops[r]? with
  | some o=>if Region.wanted o (yielded ops st.ts.toArray) then some o else none
  | none=>none
 | _=>none
def l6 (ops:Array Oper) (i:Nat):Option Tmp:=
 match ops[i]? with
 | some o=>o.dst
 | none=>none
def after (st:ES) (v:Vl) (H':HP):ES:=
 match st.todo with
 | .ops ops (i::l)::k=>⟨.ops ops l::k,iK st.ts (l6 ops i) v,st.ds,H',st.nr⟩
 | .regAt r ops listed f n mask H0::k=>⟨.reg ops (listed.setIfInBounds r true) f n mask H0::k,iK st.ts (l6 ops r) v,st.ds,H',st.nr⟩
 | _=>st
def e8 (st:ES) (selR selW:List Nat):Bool:=
 decide (selR++selW).Nodup&&selW.all (fun j=>st.nr.ble j) &&
 match st.todo with
 | .regAt r ops listed _ n mask _::_=>(listed.setIfInBounds r true).getD n false||selW.all fun j=>!(mask[j]?.getD false)
 | _=>true
theorem vB {o:Oper} (a:dn st=some o)
 (h:RegOK st→∀ w,Inv K0 w0 M st.nr st.H w→∀ (K:Act→World→Prop) (QQ:Exit→Act→World→Prop),(∀ v w' H',Inv K0 w0 M st.nr H' w'→(after st v H').H=H'→RegOK (after st v H')→GW P Q K0 w0 M (after st v H')→K (st.act.put o.dst v) w')→iy o=true∧o.wp P st.act w K QQ):GW P Q K0 w0 M st:=by
 intro hR w hi
 have h1:=h hR w hi
 unfold dn at a
 split at a
 · rename_i ops i l k e
   split at a
   · rename_i o' ho'
     split at a
     · rename_i hw
       injection a with a
       subst a
       rw [e]
       show fT P Q.rd ops (QT P Q k) (i::l) st.act w
       have h3:=h1 (fT P Q.rd ops (QT P Q k) l) (QT P Q k) fun v w' H' hi' hH hr hg=>by
        have ha:after st v H'=⟨.ops ops l::k,iK st.ts o'.dst v,st.ds,H',st.nr⟩:=by
         unfold after l6
         rw [e]
         simp only [ho']
        rw [ha] at hg hr
        have h2:=hg hr w' hi'
        rw [show st.act.put o'.dst v=_ from gD _ _ _ _]
        exact h2
       exact iY ho' hw (tK (.inr h3.1) h3.2)
     · cases a
   · cases a
 · rename_i j ops listed fuel n mask H0 k e
   split at a
   · rename_i o' ho'
     split at a
     · rename_i hw
       injection a with a
       subst a
       rw [e]
       show iP P ops (PanQ ops (QT P Q k)) n (kY mask H0) fuel listed j st.act w
       unfold iP wpOp
       simp only [ho',show Region.wanted o' (yielded ops st.act.tmps)=true from hw,if_true]
       refine .inl (h1 _ _ fun v w' H' hi' hH hr hg=>?_).2
       have ha:after st v H'=⟨.reg ops (listed.setIfInBounds j true) fuel n mask H0::k,iK st.ts o'.dst v,st.ds,H',st.nr⟩:=by
        unfold after l6
        rw [e]
        simp only [ho']
       rw [ha] at hg hr
       have h2:=hg hr w' hi'
       rw [show st.act.put o'.dst v=_ from gD _ _ _ _]
       exact ⟨fun hl=>hr.own rfl hl hi',h2⟩
     · cases a
   · cases a
 · cases a
def de (A B:HP):Prop:=A.length=B.length∧∀ (k b:Nat) (s:SB),B[k]?=some (b,s)→∃ s0,A[k]?=some (b,s0)∧(s.live=true→s0.live=true)
theorem bH:de [] []:=⟨rfl,fun k b s h=>by simp at h⟩
theorem bD {b:Nat} {a s:SB} {A B:HP} (h:de A B) (d:s.live=true→a.live=true):de ((b,a)::A) ((b,s)::B):=by
 refine ⟨by simp [h.1],fun k c t hk=>?_⟩
 cases k with
 | zero=>simp at hk;obtain ⟨rfl,rfl⟩:=hk;exact ⟨a,rfl,d⟩
 | succ k=>exact h.2 k c t (by simpa using hk)
theorem Kn.calls {K:Nat→Prop} {HR HW HW' HN:HP} {w w':World} (h:Kn K (HR++HW) w) (d:Fr (lv HW) w w') (e:de HW HW') (f:∀ b∈lv HN,w.heap.size≤b∨b∈lv HW) (c:noFa (HW'++HN)=true):KExt K K (lv HW) w∧Kn K (HR++HW'++HN) w':=by
 refine ⟨KExt.refl _ _ _,h.step d (fun b hb=>by rw [cy];exact List.mem_append_right _ hb) (fun b hb=>?_) fun j a p hj=>?_⟩
 · rw [cy,cy,List.mem_append,List.mem_append] at hb
   rcases hb with (hb | hb) | hb
   · exact .inl (by rw [cy];exact List.mem_append_left _ hb)
   · obtain ⟨k,s,hk,hs⟩:=fM hb
     obtain ⟨s0,h1,h2⟩:=e.2 k b s hk
     exact .inl (by rw [cy];exact List.mem_append_right _ (da h1 (h2 hs)))
   · rcases f b hb with h1 | h1
     · exact .inr h1
     · exact .inl (by rw [cy];exact List.mem_append_right _ h1)
 · rw [List.append_assoc] at hj
   rcases Nat.lt_or_ge j HR.length with hlt | hge
   · rw [List.getElem?_append_left hlt] at hj
     exact ⟨j,a,by rw [List.getElem?_append_left hlt];exact hj⟩
   · rw [List.getElem?_append_right hge] at hj
     exact (wD c hj).elim
theorem RunTri.toK {P:Program} {s:Sem Next} {HR HW:HP} {X:Type} {φ:X→Prop} {v:X→Vl} {HW' HN:X→HP} (h:RunTri P s HR HW φ v HW' HN) (b:∀ x,de HW (HW' x)) (a:∀ x,φ x→noFa (HW' x++HN x)=true):gq P s HR HW φ v HW' HN:=by
 intro K w ho hk
 obtain ⟨nx,w',⟨x,h1,h2,h3,h4,h5⟩,hr⟩:=h w ho
 obtain ⟨h6,h7⟩:=hk.calls h4 (b x) h5 (a x h1)
 exact ⟨nx,w',⟨x,K,h1,h2,h3,h4,h5,h6,h7⟩,hr⟩
theorem Inv.after {nr:Nat} {H HR HW HW' HN:HP} {w w':World} {K I:Nat→Prop} (h:Inv K0 w0 M nr H w) (u:KExt K0 K M w0) (d:Kn K H w) (r:KExt K I (lv HW) w) (n:Kn I (HR++HW'++HN) w') {F c:List Nat} (J:(F++c).Nodup) (B:∀ j∈c,nr≤j) (C:c.map (fun i=>H[i]?)=HW.map some)
 (R:de HW HW') (E:Own (HR++HW'++HN) w') (L:Fr (lv HW) w w') (N:∀ b∈lv HN,w.heap.size≤b∨b∈lv HW):Inv K0 w0 M nr (co H c HW'++HN) w':=by
 have G:c.Nodup:=(List.nodup_append.1 J).2.1
 have v:∀ (j:Nat),j∈c→∃ k,c[k]?=some j:=fun j hj=>by
  obtain ⟨k,d,e⟩:=List.mem_iff_getElem.1 hj
  exact ⟨k,by rw [List.getElem?_eq_getElem d,e]⟩
 have z:=jO c H HW'
 have S:=R.1
 have l:∀ (i b:Nat) (s:SB),i∉c→H[i]?=some (b,s)→s.live=true→b∉lv HW:=by
  intro i b s hi hb hs hm
  obtain ⟨k,t,d,ht⟩:=fM hm
  obtain ⟨j,hj,hj2⟩:=eu C d
  exact h.own.nd i j b s t (fun e=>hi (by rw [e];exact List.mem_of_getElem? hj)) hb hj2 hs ht
 have q:∀ (i b:Nat) (s:SB),(co H c HW'++HN)[i]?=some (b,s)→s.live=true →
  (i∉c∧H[i]?=some (b,s))∨(∃ (k:Nat) (s0:SB),c[k]?=some i∧HW'[k]?=some (b,s)∧HW[k]?=some (b,s0)∧H[i]?=some (b,s0)∧s0.live=true)∨(H.length≤i∧HN[i-H.length]?=some (b,s)):=by
  intro i b s hi hs
  rcases Nat.lt_or_ge i H.length with hlt | hge'
  · rw [List.getElem?_append_left (by omega)] at hi
    by_cases hm:i∈c
    · obtain ⟨k,d⟩:=v i hm
      obtain ⟨y,hy,hy2⟩:=xJ C d
      have D:k<HW'.length:=by have:=cj hy;omega
      have A:HW'[k]?=some HW'[k]:=List.getElem?_eq_getElem D
      rw [mq c H HW' k i _ G d A hlt] at hi
      injection hi with hi
      rw [hi] at A
      obtain ⟨s0,h1,h2⟩:=R.2 k b s A
      rw [h1] at hy
      injection hy with hy
      subst hy
      exact .inr (.inl ⟨k,s0,d,A,h1,hy2,h2 hs⟩)
    · rw [hC _ _ _ _ hm] at hi
      exact .inl ⟨hm,hi⟩
  · rw [List.getElem?_append_right (by omega),z] at hi
    exact .inr (.inr ⟨hge',hi⟩)
 have f:∀ (k b:Nat) (s:SB),HW'[k]?=some (b,s)→(HR++HW'++HN)[HR.length+k]?=some (b,s):=by
  intro k b s d
  have:=cj d
  rw [List.getElem?_append_left (by simp;omega),List.getElem?_append_right (by omega),← d]
  congr 1
  omega
 have g:∀ (k b:Nat) (s:SB),HN[k]?=some (b,s)→(HR++HW'++HN)[(HR++HW').length+k]?=some (b,s):=by
  intro k b s d
  rw [List.getElem?_append_right (by omega),← d]
  congr 1
  omega
 have O:(HR++HW').length=HR.length+HW'.length:=List.length_append
 have P:∀ b∈lv HW,b∈M∨w0.heap.size≤b:=by
  intro x u
  obtain ⟨k,t,d,ht⟩:=fM u
  obtain ⟨j,hj,hj2⟩:=eu C d
  exact h.ad x (fH hj2 ht (B j (List.mem_of_getElem? hj)))
 have Q:∀ b∈lv HW,b∈lv H:=by
  intro x u
  obtain ⟨k,t,d,ht⟩:=fM u
  obtain ⟨j,hj,hj2⟩:=eu C d
  exact da hj2 ht
 refine ⟨⟨?_,?_⟩,?_,?_,I,⟨fun b hb=>r.1 b (u.1 b hb),fun b hb=>?_⟩,fun b hb=>⟨(n.off b hb).1,fun hm=>?_⟩,fun j a p hj=>?_⟩
 rotate_left 4
 · rcases r.2 b hb with h1 | h1 | h1
   · exact u.2 b h1
   · exact .inr (.inl (Nat.le_trans h.fr.size h1))
   · rcases P b h1 with h2 | h2
     · exact .inr (.inr h2)
     · exact .inr (.inl h2)
 · obtain ⟨i,s,hi,hs⟩:=fM hm
   rcases q i b s hi hs with ⟨a1,a2⟩ | ⟨k,s0,a1,a2,a3,a4,a5⟩ | ⟨a1,a2⟩
   · rcases r.2 b hb with h1 | h1 | h1
     · exact (d.off b h1).2 (da a2 hs)
     · have:=h.own.lt (da a2 hs);omega
     · exact l i b s a1 a2 hs h1
   · exact (n.off b hb).2 (da (f k b s a2) hs)
   · exact (n.off b hb).2 (da (g _ b s a2) hs)
 · have old:H[j]?=some (a,.fa p)→Stab I p w':=fun hjj w'' hw''=>d.fac j a p hjj w'' fun b hb=>(hw'' b (r.1 b hb)).trans (L.block b (d.off b hb).1 fun hm=>(d.off b hb).2 (Q b hm))
   rcases Nat.lt_or_ge j H.length with hlt | hge'
   · rw [List.getElem?_append_left (by omega)] at hj
     by_cases hm:j∈c
     · obtain ⟨k,hkk⟩:=v j hm
       obtain ⟨y,hy,hy2⟩:=xJ C hkk
       have D:k<HW'.length:=by have:=cj hy;omega
       have A:HW'[k]?=some HW'[k]:=List.getElem?_eq_getElem D
       rw [mq c H HW' k j _ G hkk A hlt] at hj
       injection hj with hj
       rw [hj] at A
       exact n.fac _ a p (f k a _ A)
     · rw [hC _ _ _ _ hm] at hj
       exact old hj
   · rw [List.getElem?_append_right (by omega),z] at hj
     exact n.fac _ a p (g _ a _ hj)
 · intro i j b s t hij hi hj hs ht
   rcases q i b s hi hs with ⟨a1,a2⟩ | ⟨k,s0,a1,a2,a3,a4,a5⟩ | ⟨a1,a2⟩ <;> rcases q j b t hj ht with ⟨c1,c2⟩ | ⟨m,t0,c1,c2,c3,c4,c5⟩ | ⟨c1,c2⟩
   · exact h.own.nd i j b s t hij a2 c2 hs ht
   · exact l i b s a1 a2 hs (da c3 c5)
   · rcases N b (da c2 ht) with h1 | h1
     · have:=h.own.lt (da a2 hs);omega
     · exact l i b s a1 a2 hs h1
   · exact l j b t c1 c2 ht (da a3 a5)
   · refine E.nd _ _ b s t (fun e=>hij ?_) (f k b s a2) (f m b t c2) hs ht
     have e2:k=m:=by omega
     subst e2
     rw [a1] at c1
     injection c1
   · have:=cj a2
     exact E.nd _ _ b s t (by omega) (f k b s a2) (g _ b t c2) hs ht
   · rcases N b (da a2 hs) with h1 | h1
     · have:=h.own.lt (da c2 ht);omega
     · exact l j b t c1 c2 ht h1
   · have:=cj c2
     exact E.nd _ _ b s t (by omega) (g _ b s a2) (f m b t c2) hs ht
   · exact E.nd _ _ b s t (by omega) (g _ b s a2) (g _ b t c2) hs ht
 · intro i b s hi hs
   rcases q i b s hi hs with ⟨a1,a2⟩ | ⟨k,s0,a1,a2,a3,a4,a5⟩ | ⟨a1,a2⟩
   · obtain ⟨o,h1,h2⟩:=h.own.at_ i b s a2 hs
     exact ⟨o,(L.block b (dR h1) (l i b s a1 a2 hs)).trans h1,h2⟩
   · exact E.at_ _ b s (f k b s a2) hs
   · exact E.at_ _ b s (g _ b s a2) hs
 · refine h.fr.then_ L fun x u=>?_
   obtain ⟨k,t,d,ht⟩:=fM u
   obtain ⟨j,hj,hj2⟩:=eu C d
   exact h.ad x (fH hj2 ht (B j (List.mem_of_getElem? hj)))
 · intro b hb
   obtain ⟨i,s,hi,hg,hs⟩:=jV hb
   rcases q i b s hg hs with ⟨a1,a2⟩ | ⟨k,s0,a1,a2,a3,a4,a5⟩ | ⟨a1,a2⟩
   · exact h.ad b (fH a2 hs hi)
   · exact h.ad b (fH a4 a5 hi)
   · rcases N b (da a2 hs) with h1 | h1
     · exact .inr (Nat.le_trans h.fr.size h1)
     · obtain ⟨k,t,d,ht⟩:=fM h1
       obtain ⟨j,hj,hj2⟩:=eu C d
       exact h.ad b (fH hj2 ht (B j (List.mem_of_getElem? hj)))
theorem kw {b a:List Nat} (h:e8 st b a=true):(b++a).Nodup∧∀ j∈a,st.nr≤j:=by
 unfold e8 at h
 rw [Bool.and_eq_true,Bool.and_eq_true] at h
 exact ⟨by simpa using h.1.1,fun j hj=>Nat.le_of_ble_eq_true (List.all_eq_true.1 h.1.2 j hj)⟩
theorem ly {b a:List Nat} {v:Vl} {HW' HN:HP} (d:RegOK st) (hs:e8 st b a=true) {o:Oper} (f:dn st=some o):RegOK (after st v (co st.H a HW'++HN)):=by
 unfold dn at f
 split at f
 · rename_i ops i l k e
   refine cD ?_
   unfold after
   rw [e]
   rfl
 · rename_i r ops listed fuel n mask H0 k e
   have ha:after st v (co st.H a HW'++HN)=⟨.reg ops (listed.setIfInBounds r true) fuel n mask H0::k,iK st.ts (l6 ops r) v,st.ds,co st.H a HW'++HN,st.nr⟩:=by
    unfold after
    rw [e]
   rw [ha]
   unfold RegOK at d ⊢
   rw [e] at d
   dsimp only at d ⊢
   intro hl i x hm hx
   have g:listed.getD n false=false:=by
    cases hh:listed.getD n false with
    | false=>rfl
    | true=>rw [getD_set_true hh] at hl;cases hl
   have h1:=d g i x hm hx
   unfold e8 at hs
   rw [e] at hs
   dsimp only at hs
   rw [Bool.and_eq_true] at hs
   have c:=hs.2
   rw [hl,Bool.false_or] at c
   have h:i∉a:=by
    intro hi
    have:=List.all_eq_true.1 c i hi
    rw [hm] at this
    simp at this
   rw [List.getElem?_append_left (by rw [jO];exact cj h1),hC _ _ _ _ h]
   exact h1
 · cases f
theorem pJ {v:Vl} {b:HP} {o:Oper} (a:dn st=some o):(after st v b).H=b:=by
 unfold dn at a
 split at a
 · rename_i ops i l k e
   unfold after
   rw [e]
 · rename_i r ops listed fuel n mask H0 k e
   unfold after
   rw [e]
 · cases a
def lP:Option (Next×List (Nat×Nat))→Option (FuncId×Array Vl)
 | some (.enter f args,[])=>some (f,args)
 | _=>none
def fu (P:Program) (st:ES):Option (FuncId×Array Vl):=
 match dn st with
 | some o=>lP (cU P none (execOp (cT st.ts) o))
 | none=>none
theorem jM {f:FuncId} {args:Array Vl} (h:fu P st=some (f,args)):∃ o,dn st=some o∧∀ w,(execOp st.act.eval o).run P w = .ok (.enter f args) w:=by
 unfold fu at h
 split at h
 · rename_i o ho
   refine ⟨o,ho,fun w=>?_⟩
   unfold lP at h
   split at h
   · rename_i f' args' hs
     injection h with h
     injection h with h1 h2
     subst h1;subst h2
     rw [show st.act.eval=cT st.ts from dQ _ _]
     exact iL (fun _ _ hh _=>by cases hh) _ _ _ hs (fun p hp=>by cases hp)
   · cases h
 · cases h
def AR (H:HP) (j:Nat) (x:Nat×SB):Prop:=
 (∃ s,H[j]?=some (x.1,s)∧s.live=true∧∀ o,s.ok o→x.2.ok o)∧x.2.isFa=false∨(∃ a p0 p,H[j]?=some (a,.fa p0)∧x.2 = .fa p∧∀ w,p0 w→p w)∨(x.2.live=false∧x.2.isFa=false)
def Views (H:HP):List Nat→HP→Prop
 | [],[]=>True
 | j::js,x::L=>AR H j x∧Views H js L
 | _,_=>False
theorem Views.nil {H:HP}:Views H [] []:=trivial
theorem xN {s:SB} (h:s.live=true):s.isFa=false:=by cases s <;> first | rfl | cases h
theorem Views.same {H L:HP} {j b:Nat} {a:List Nat} {s:SB} (h:(H[j]?,s.live)=(some (b,s),true)) (k:Views H a L):Views H (j::a) ((b,s)::L):=
 ⟨.inl ⟨⟨s,(Prod.mk.inj h).1,(Prod.mk.inj h).2,fun _ h=>h⟩,xN (Prod.mk.inj h).2⟩,k⟩
theorem Views.less {H L:HP} {j b:Nat} {d:List Nat} {s:SB} (a:SB) (hs:∀ o,a.ok o→s.ok o) (k:Views H d L) (h:(H[j]?,a.live)=(some (b,a),true):=by kernel_rfl) (c:s.isFa=false:=by rfl):Views H (j::d) ((b,s)::L):=
 ⟨.inl ⟨⟨a,(Prod.mk.inj h).1,(Prod.mk.inj h).2,hs⟩,c⟩,k⟩
theorem Views.fact {H L:HP} {j a b:Nat} {c:List Nat} {p:World→Prop} (p0:World→Prop) (h:H[j]?=some (a,.fa p0)) (hs:∀ w,p0 w→p w) (k:Views H c L):Views H (j::c) ((b,.fa p)::L):=
 ⟨.inr (.inl ⟨a,p0,p,h,rfl,hs⟩),k⟩
theorem Views.facts {H L:HP} {j a:Nat} {b:List Nat} {p:World→Prop} (k:Views H b L) (h:H[j]?=some (a,.fa p):=by kernel_rfl):Views H (j::b) ((a,.fa p)::L):=
 ⟨.inr (.inl ⟨a,p,p,h,rfl,fun _ h=>h⟩),k⟩
theorem Views.of_map {H:HP}:∀ {js:List Nat} {L:HP},js.map (fun i=>H[i]?)=L.map some→Views H js L
 | [],[],_=>trivial
 | [],_::_,h=>by cases h
 | _::_,[],h=>by cases h
 | j::js,x::L,h=>by
  rw [List.map_cons,List.map_cons] at h
  injection h with h1 h2
  refine ⟨?_,Views.of_map h2⟩
  obtain ⟨b,s⟩:=x
  cases s with
  | dead=>exact .inr (.inr ⟨rfl,rfl⟩)
  | fa p=>exact .inr (.inl ⟨b,p,p,h1,rfl,fun _ h=>h⟩)
  | cl cs t=>exact .inl ⟨⟨_,h1,rfl,fun _ h=>h⟩,rfl⟩
  | ob o=>exact .inl ⟨⟨_,h1,rfl,fun _ h=>h⟩,rfl⟩
  | pr p=>exact .inl ⟨⟨_,h1,rfl,fun _ h=>h⟩,rfl⟩
theorem Views.get1 {H:HP}:∀ {js:List Nat} {L:HP} {i:Nat} {x:Nat×SB},Views H js L→L[i]?=some x→∃ j,js[i]?=some j∧AR H j x
 | [],[],_,_,_,h=>by simp at h
 | [],_::_,_,_,h,_=>h.elim
 | _::_,[],_,_,h,_=>h.elim
 | j::js,y::L,0,x,h,e=>by
  simp at e
  subst e
  exact ⟨j,rfl,h.1⟩
 | j::js,y::L,i+1,x,h,e=>by
  obtain ⟨j',h1,h2⟩:=Views.get1 h.2 (i:=i) (x:=x) (by simpa using e)
  exact ⟨j',by simpa using h1,h2⟩
theorem Views.get {H:HP} {c:List Nat} {L:HP} {i:Nat} {x:Nat×SB} (h:Views H c L) (e:L[i]?=some x) (b:x.2.live=true):∃ j s,c[i]?=some j∧H[j]?=some (x.1,s)∧s.live=true∧∀ o,s.ok o→x.2.ok o:=by
 obtain ⟨j,hj,h1⟩:=h.get1 e
 rcases h1 with ⟨⟨s,h2⟩,_⟩ | ⟨a,p0,p,h2,h3,_⟩ | ⟨h2,_⟩
 · exact ⟨j,s,hj,h2⟩
 · rw [h3] at b;cases b
 · rw [h2] at b;cases b
theorem Views.getF {H:HP} {b:List Nat} {L:HP} {i a:Nat} {p:World→Prop} (h:Views H b L) (e:L[i]?=some (a,.fa p)):∃ (j a':Nat) (p0:World→Prop),H[j]?=some (a',SB.fa p0)∧∀ w,p0 w→p w:=by
 obtain ⟨j,hj,h1⟩:=h.get1 e
 rcases h1 with ⟨_,h2⟩ | ⟨a',p0,p',h2,h3,h4⟩ | ⟨_,h2⟩
 · cases h2
 · injection h3 with h3
   subst h3
   exact ⟨j,a',p0,h2,h4⟩
 · cases h2
theorem Own.views {H:HP} {w:World} (h:Own H w) {d f:List Nat} {HR HW:HP} (g:(d++f).Nodup) (l:Views H d HR) (m:d.length=HR.length) (n:f.map (fun i=>H[i]?)=HW.map some):Own (HR++HW) w:=by
 have key:∀ (i b:Nat) (s:SB),(HR++HW)[i]?=some (b,s)→s.live=true→∃ (j:Nat) (s0:SB),(d++f)[i]?=some j∧H[j]?=some (b,s0)∧s0.live=true∧∀ o,s0.ok o→s.ok o:=by
  intro i b s hi hs
  rcases Nat.lt_or_ge i HR.length with hlt | hge
  · rw [List.getElem?_append_left hlt] at hi
    obtain ⟨j,s0,h1,h2⟩:=l.get hi hs
    exact ⟨j,s0,by rw [List.getElem?_append_left (by omega)];exact h1,h2⟩
  · rw [List.getElem?_append_right hge] at hi
    obtain ⟨j,h1,h2⟩:=eu n hi
    exact ⟨j,s,by rw [List.getElem?_append_right (by omega),m];exact h1,h2,hs,fun _ h=>h⟩
 constructor
 · intro i k b s t hik hi hk hs ht
   obtain ⟨a,s0,ha,ha',hs0,_⟩:=key i b s hi hs
   obtain ⟨c,t0,hc,hc',ht0,_⟩:=key k b t hk ht
   refine h.nd a c b s0 t0 (fun e=>?_) ha' hc' hs0 ht0
   subst e
   exact hik (r6 g ha hc)
 · intro i b s hi hs
   obtain ⟨a,s0,ha,ha',hs0,hok⟩:=key i b s hi hs
   obtain ⟨o,h1,h2⟩:=h.at_ a b s0 ha' hs0
   exact ⟨o,h1,hok o h2⟩
theorem Kn.views {K:Nat→Prop} {H:HP} {w:World} (h:Kn K H w) {c d:List Nat} {HR HW:HP} (e:Views H c HR) (f:d.map (fun i=>H[i]?)=HW.map some):Kn K (HR++HW) w:=by
 refine ⟨fun b hb=>⟨(h.off b hb).1,fun hm=>?_⟩,fun j a p hj=>?_⟩
 · rw [cy,List.mem_append] at hm
   rcases hm with hm | hm
   · obtain ⟨k,s,hk,hs⟩:=fM hm
     obtain ⟨i,t,_,hi,ht,_⟩:=e.get hk hs
     exact (h.off b hb).2 (da hi ht)
   · obtain ⟨k,s,hk,hs⟩:=fM hm
     obtain ⟨i,_,hi⟩:=eu f hk
     exact (h.off b hb).2 (da hi hs)
 · rcases Nat.lt_or_ge j HR.length with hlt | hge
   · rw [List.getElem?_append_left hlt] at hj
     obtain ⟨i,a',p0,hi,hp⟩:=e.getF hj
     exact fun w' hw=>hp w' (h.fac i a' p0 hi w' hw)
   · rw [List.getElem?_append_right hge] at hj
     obtain ⟨i,_,hi⟩:=eu f hj
     exact h.fac i a p hi
theorem Ac {f:FuncId} {args:Array Vl} {HR HW:HP} {X:Type} {φ:X→Prop} {v:X→Vl} {HW' HN:X→HP} (c:Tri P f args HR HW φ (fun x=>.returned (v x)) HW' HN) (a b:List Nat)
 (g:Views st.H a HR) (j:(fu P st,a.length,b.map (fun i=>st.H[i]?),e8 st a b)=(some (f,args),HR.length,HW.map some,true))
 (k:∀ x,de HW (HW' x)) (h:∀ x,φ x→GW P Q K0 w0 M (after st (v x) (co st.H b (HW' x)++HN x))):GW P Q K0 w0 M st:=by
 simp only [Prod.mk.injEq] at j
 obtain ⟨hc,hlen,hW,hs⟩:=j
 obtain ⟨o,ho,hrun⟩:=jM hc
 obtain ⟨hnd,hge⟩:=kw hs
 refine vB ho fun hRg w hi K QQ hK=>⟨jF (hrun w) (by intro d e;cases e),?_⟩
 unfold Oper.wp
 rw [hrun w]
 obtain ⟨K1,hk1,hk2⟩:=hi.kn
 refine Calls.mono (c K1 w (hi.own.views hnd g hlen hW) (hk2.views g hW)) ?_
 rintro en w' ⟨x,K',hx,rfl,ho',hf',hn',hx',hk'⟩
 exact hK (v x) w' _ (hi.after hk1 hk2 hx' hk' hnd hge hW (k x) ho' hf' hn') (pJ ho) (ly hRg hs ho) (h x hx)
theorem cV {f:FuncId} {args:Array Vl} {HR HW:HP} {X:Type} {φ:X→Prop} {v:X→Vl} {HW' HN:X→HP} (c:Tri P f args HR HW φ (fun x=>.returned (v x)) HW' HN) (a b:List Nat) (d:Views st.H a HR) (h:∀ x,φ x→GW P Q K0 w0 M (after st (v x) (co st.H b (HW' x)++HN x))) (e:(fu P st,a.length,b.map (fun i=>st.H[i]?),e8 st a b)=(some (f,args),HR.length,HW.map some,true):=by kernel_rfl) (g:∀ x,de HW (HW' x):=by intro _;first | ((repeat refine bD ?_ (by first | exact fun _=>rfl | (intro h;cases h)));exact bH) | exact sameAd_dead _):GW P Q K0 w0 M st:=
 Ac c a b d e g h
theorem cE {f:FuncId} {args:Array Vl} {HR HW:HP} {X:Type} {φ:X→Prop} {v:X→Vl} {HW' HN:X→HP} (c:Tri P f args HR HW φ (fun x=>.returned (v x)) HW' HN) (a b:List Nat) (h:∀ x,φ x→GW P Q K0 w0 M (after st (v x) (co st.H b (HW' x)++HN x))) (d:(fu P st,a.map (fun i=>st.H[i]?),b.map (fun i=>st.H[i]?),e8 st a b)=(some (f,args),HR.map some,HW.map some,true):=by kernel_rfl) (e:∀ x,de HW (HW' x):=by intro _;first | ((repeat refine bD ?_ (by first | exact fun _=>rfl | (intro h;cases h)));exact bH) | exact sameAd_dead _):GW P Q K0 w0 M st:=by
 simp only [Prod.mk.injEq] at d
 obtain ⟨hc,hR,hW,hs⟩:=d
 exact Ac c a b (Views.of_map hR) (by rw [hc,hW,hs,show a.length=HR.length by have:=congrArg List.length hR;simpa using this]) e h
theorem bv {f:FuncId} {args:Array Vl} {HR HW:HP} {φ:Unit→Prop} {v:Unit→Vl} {HW' HN:Unit→HP} (c:Tri P f args HR HW φ (fun x=>.returned (v x)) HW' HN) (b a:List Nat) (h:GW P Q K0 w0 M (after st (v ()) (co st.H a (HW' ())++HN ()))) (d:(fu P st,b.map (fun i=>st.H[i]?),a.map (fun i=>st.H[i]?),e8 st b a)=(some (f,args),HR.map some,HW.map some,true):=by kernel_rfl) (e:∀ x,de HW (HW' x):=by intro _;first | ((repeat refine bD ?_ (by first | exact fun _=>rfl | (intro h;cases h)));exact bH) | exact sameAd_dead _):GW P Q K0 w0 M st:=cE c b a (fun _ _=>h) d e
theorem rG {s:Sem Next} {HR HW:HP} {X:Type} {φ:X→Prop} {v:X→Vl} {HW' HN:X→HP} (f:gq P s HR HW φ v HW' HN) (a b:List Nat)
 (c:Views st.H a HR) (g:((dn st).map (execOp (cT st.ts)),a.length,b.map (fun i=>st.H[i]?),e8 st a b)=(some s,HR.length,HW.map some,true))
 (j:∀ x,de HW (HW' x)) (h:∀ x,φ x→GW P Q K0 w0 M (after st (v x) (co st.H b (HW' x)++HN x))):GW P Q K0 w0 M st:=by
 simp only [Prod.mk.injEq] at g
 obtain ⟨hc,hlen,hW,hs⟩:=g
 rw [Option.map_eq_some_iff] at hc
 obtain ⟨o,ho,rfl⟩:=hc
 obtain ⟨hnd,hge⟩:=kw hs
 refine vB ho fun hRg w hi K QQ hK=>?_
 obtain ⟨K1,hk1,hk2⟩:=hi.kn
 obtain ⟨nx,w',⟨x,K',hx,hnx,ho',hf',hn',hx',hk'⟩,hrun⟩:=f K1 w (hi.own.views hnd c hlen hW) (hk2.views c hW)
 refine ⟨jF hrun (by rcases hnx with rfl | ⟨rfl,_⟩ <;> (intro d e;cases e)),?_⟩
 unfold Oper.wp
 rw [show st.act.eval=cT st.ts from dQ _ _]
 rw [hrun]
 have:=hK (v x) w' _ (hi.after hk1 hk2 hx' hk' hnd hge hW (j x) ho' hf' hn') (pJ ho) (ly hRg hs ho) (h x hx)
 rcases hnx with rfl | ⟨rfl,c⟩
 · exact this
 · rw [c] at this;exact this
theorem iI {s:Sem Next} {HR HW:HP} {X:Type} {φ:X→Prop} {v:X→Vl} {HW' HN:X→HP} (c:gq P s HR HW φ v HW' HN) (a b:List Nat) (d:Views st.H a HR) (h:∀ x,φ x→GW P Q K0 w0 M (after st (v x) (co st.H b (HW' x)++HN x))) (e:((dn st).map (execOp (cT st.ts)),a.length,b.map (fun i=>st.H[i]?),e8 st a b)=(some s,HR.length,HW.map some,true):=by kernel_rfl) (f:∀ x,de HW (HW' x):=by intro _;first | ((repeat refine bD ?_ (by first | exact fun _=>rfl | (intro h;cases h)));exact bH) | exact sameAd_dead _):GW P Q K0 w0 M st:=
 rG c a b d e f h
theorem xK {s:Sem Next} {HR HW:HP} {X:Type} {φ:X→Prop} {v:X→Vl} {HW' HN:X→HP} (c:gq P s HR HW φ v HW' HN) (a b:List Nat) (h:∀ x,φ x→GW P Q K0 w0 M (after st (v x) (co st.H b (HW' x)++HN x))) (d:Views st.H a HR:=by exact Views.of_map (by kernel_rfl)) (e:((dn st).map (execOp (cT st.ts)),a.length,b.map (fun i=>st.H[i]?),e8 st a b)=(some s,HR.length,HW.map some,true):=by kernel_rfl) (f:∀ x,de HW (HW' x):=by intro _;first | ((repeat refine bD ?_ (by first | exact fun _=>rfl | (intro h;cases h)));exact bH) | exact sameAd_dead _):GW P Q K0 w0 M st:=
 rG c a b d e f h
theorem xV {s:Sem Next} {HR HW:HP} {X:Type} {φ:X→Prop} {v:X→Vl} {HW' HN:X→HP} (c:RunTri P s HR HW φ v HW' HN) (a b:List Nat) (f:Views st.H a HR) (h:∀ x,φ x→GW P Q K0 w0 M (after st (v x) (co st.H b (HW' x)++HN x))) (d:∀ x,φ x→noFa (HW' x++HN x)=true:=by intro _ _;rfl) (g:((dn st).map (execOp (cT st.ts)),a.length,b.map (fun i=>st.H[i]?),e8 st a b)=(some s,HR.length,HW.map some,true):=by kernel_rfl) (e:∀ x,de HW (HW' x):=by intro _;first | ((repeat refine bD ?_ (by first | exact fun _=>rfl | (intro h;cases h)));exact bH) | exact sameAd_dead _):GW P Q K0 w0 M st:=
 rG (c.toK e d) a b f g e h
theorem xE {s:Sem Next} {HR HW:HP} {X:Type} {φ:X→Prop} {v:X→Vl} {HW' HN:X→HP} (c:RunTri P s HR HW φ v HW' HN) (a b:List Nat) (h:∀ x,φ x→GW P Q K0 w0 M (after st (v x) (co st.H b (HW' x)++HN x))) (d:∀ x,φ x→noFa (HW' x++HN x)=true:=by intro _ _;rfl) (e:((dn st).map (execOp (cT st.ts)),a.map (fun i=>st.H[i]?),b.map (fun i=>st.H[i]?),e8 st a b)=(some s,HR.map some,HW.map some,true):=by kernel_rfl) (f:∀ x,de HW (HW' x):=by intro _;first | ((repeat refine bD ?_ (by first | exact fun _=>rfl | (intro h;cases h)));exact bH) | exact sameAd_dead _):GW P Q K0 w0 M st:=by
 simp only [Prod.mk.injEq] at e
 obtain ⟨hc,hR,hW,hs⟩:=e
 exact rG (c.toK f d) a b (Views.of_map hR) (by rw [hc,hW,hs,show a.length=HR.length by have:=congrArg List.length hR;simpa using this]) f h
def lG (st:ES):Option (Nat×Oper×Tmp):=
 match st.todo with
 | .reg ops listed (_+1) n _ _::_=>
  match (Region.ready .any ops listed).find? fun i=>match ops[i]? with | some o=>od o.op | none=>false with
  | some i=>
   match ops[i]? with
   | some o=>
    match o.dst with
    | some d=>if Region.noSelect ops&&Region.free .any ops listed i&&(Region.ready .any ops listed).contains i&&n != i&&Region.wanted o (yielded ops st.ts.toArray)&&ns .any ops n i listed then some (i,o,d) else none
    | none=>none
   | none=>none
  | none=>none
 | _=>none
def iF (st:ES) (i:Nat) (d:Tmp) (v:Vl):ES:=
 match st.todo with
 | .reg ops listed (f+1) n mask H0::k=>⟨.reg ops (listed.setIfInBounds i true) f n mask H0::k,st.ts.set d v,st.ds,st.H,st.nr⟩
 | _=>st
def kV (st:ES):List Bool×HP:=
 match st.todo with
 | .reg _ _ _ _ mask H0::_=>(mask,H0)
 | _=>([],[])
def oV (st:ES):Option (Sem Next):=
 match lG st with
 | some (_,o,_)=>some (execOp (cT st.ts) o)
 | none=>none
def kK (st:ES) (v:Vl):ES:=
 match lG st with
 | some (i,_,d)=>iF st i d v
 | none=>st
theorem tE {s:Sem Next} (v:Vl) (f:List Nat) (L:HP) (hr:∀ w,(∀ (k b:Nat) (t:SB),L[k]?=some (b,t)→t.live=true→∃ o,w.heap[b]?=some o∧t.ok o)→(∀ (k a:Nat) (p:World→Prop),L[k]?=some (a,.fa p)→p w)→s.run P w = .ok (.value v) w) (h:GW P Q K0 w0 M (kK st v)) (u:(oV st,f.map (fun j=>(kV st).1[j]?),f.map (fun j=>(kV st).2[j]?))=(some s,L.map (fun _=>some true),L.map some):=by kernel_rfl):GW P Q K0 w0 M st:=by
 simp only [Prod.mk.injEq] at u
 obtain ⟨hs,hm,hL⟩:=u
 unfold oV at hs
 split at hs
 rotate_left
 · cases hs
 rename_i i o d ht
 injection hs with hs
 subst hs
 have m:kK st v=iF st i d v:=by unfold kK;rw [ht]
 rw [m] at h
 unfold lG at ht
 split at ht
 · rename_i ops listed fuel n mask H0 k e
   split at ht
   · rename_i i' hfi
     split at ht
     · rename_i o' ho'
       split at ht
       · rename_i d' hd'
         split at ht
         · rename_i hchk
           simp only [Option.some.injEq,Prod.mk.injEq] at ht
           obtain ⟨rfl,rfl,rfl⟩:=ht
           simp only [Bool.and_eq_true,bne_iff_ne,ne_eq] at hchk
           obtain ⟨⟨⟨⟨⟨c1,c2⟩,c3⟩,c4⟩,c5⟩,c6⟩:=hchk
           have c:iF st i' d' v=⟨.reg ops (listed.setIfInBounds i' true) fuel n mask H0::k,st.ts.set d' v,st.ds,st.H,st.nr⟩:=by unfold iF;rw [e]
           have q:kV st=(mask,H0):=by unfold kV;rw [e]
           rw [q] at hm hL
           intro hR w hi
           have r:=(lB c6).1
           have g:RegOK (iF st i' d' v):=by
            rw [c]
            unfold RegOK at hR ⊢
            rw [e] at hR
            dsimp only at hR ⊢
            intro hl
            exact hR (by rw [getD_set_ne false (Ne.symm c4)] at hl;exact hl)
           have h2:=h g w (by rw [c];exact hi)
           rw [c] at h2
           rw [e]
           show wpAnyG P .any ops (PanQ ops (QT P Q k)) n (kY mask H0) (fuel+1) listed ⟨st.ts.toArray,st.ds⟩ w
           refine ut (v:=v) i' ho' hd' c1 c2 c3 c6 c4 c5 (fun w hS=>?_) (hR.own e r hi) ?_
           · rw [dQ]
             refine hr w (fun j b t hj hlv=>?_) fun j a p hj=>?_
             · obtain ⟨x,hx,hx2⟩:=eu hL hj
               have h4:=congrArg (fun l=>l[j]?) hm
               simp only [List.getElem?_map,hx,hj,Option.map_some,Option.some.injEq] at h4
               exact hS.1 x b t h4 hx2 hlv
             · obtain ⟨x,hx,hx2⟩:=eu hL hj
               have h4:=congrArg (fun l=>l[j]?) hm
               simp only [List.getElem?_map,hx,hj,Option.map_some,Option.some.injEq] at h4
               exact hS.2 x a p h4 hx2
           · rw [show st.ts.toArray.setIfInBounds d' v=(st.ts.set d' v).toArray by simp]
             exact h2
         · cases ht
       · cases ht
     · cases ht
   · cases ht
 · cases ht
def kB (st:ES):Option (Nat×Oper×Tmp):=
 match st.todo with
 | .reg ops listed (_+1) n _ _::_=>
  match (Region.ready .any ops listed).find? fun i=>match ops[i]? with | some o=>od o.op | none=>false with
  | some i=>
   match ops[i]? with
   | some o=>
    match o.dst with
    | some d=>if Region.noSelect ops&&Region.free .any ops listed i&&(Region.ready .any ops listed).contains i&&n != i&&o.guard.isNone then some (i,o,d) else none
    | none=>none
   | none=>none
  | none=>none
 | _=>none
def mS (st:ES):Option (Sem Next):=
 match kB st with
 | some (_,o,_)=>some (execOp (cT st.ts) o)
 | none=>none
def jI (st:ES) (v:Vl):ES:=
 match kB st with
 | some (i,_,d)=>iF st i d v
 | none=>st
theorem tW {s:Sem Next} (v:Vl) (hr:∀ w,(∀ (k b:Nat) (t:SB),([]:HP)[k]?=some (b,t)→t.live=true→∃ o,w.heap[b]?=some o∧t.ok o)→(∀ (k a:Nat) (p:World→Prop),([]:HP)[k]?=some (a,.fa p)→p w)→s.run P w = .ok (.value v) w) (h:GW P Q K0 w0 M (jI st v)) (g:mS st=some s:=by kernel_rfl):GW P Q K0 w0 M st:=by
 have hr:∀ w,s.run P w = .ok (.value v) w:=fun w=>hr w (fun k b t hk=>by simp at hk) (fun k a p hk=>by simp at hk)
 unfold mS at g
 split at g
 rotate_left
 · cases g
 rename_i i o d ht
 injection g with hs
 subst hs
 have j:jI st v=iF st i d v:=by unfold jI;rw [ht]
 rw [j] at h
 unfold kB at ht
 split at ht
 · rename_i ops listed fuel n mask H0 k e
   split at ht
   · rename_i i' hfi
     split at ht
     · rename_i o' ho'
       split at ht
       · rename_i d' hd'
         split at ht
         · rename_i hchk
           simp only [Option.some.injEq,Prod.mk.injEq] at ht
           obtain ⟨rfl,rfl,rfl⟩:=ht
           simp only [Bool.and_eq_true,bne_iff_ne,ne_eq] at hchk
           obtain ⟨⟨⟨⟨c1,c2⟩,c3⟩,c4⟩,c5⟩:=hchk
           have c:iF st i' d' v=⟨.reg ops (listed.setIfInBounds i' true) fuel n mask H0::k,st.ts.set d' v,st.ds,st.H,st.nr⟩:=by unfold iF;rw [e]
           intro hR w hi
           have f:RegOK (iF st i' d' v):=by
            rw [c]
            unfold RegOK at hR ⊢
            rw [e] at hR
            dsimp only at hR ⊢
            intro hl
            exact hR (by rw [getD_set_ne false (Ne.symm c4)] at hl;exact hl)
           have h2:=h f w (by rw [c];exact hi)
           rw [c] at h2
           rw [e]
           show wpAnyG P .any ops (PanQ ops (QT P Q k)) n (kY mask H0) (fuel+1) listed ⟨st.ts.toArray,st.ds⟩ w
           refine ri i' ho' hd' c1 c2 c3 c4 (by simpa using c5) (fun w=>by rw [dQ];exact hr w) (fun hnl=>hR.own e hnl hi) ?_
           rw [show st.ts.toArray.setIfInBounds d' v=(st.ts.set d' v).toArray by simp]
           exact h2
         · cases ht
       · cases ht
     · cases ht
   · cases ht
 · cases ht
def iB (st:ES):Bool:=
 match st.todo with
 | .ops _ (_::_)::_=>true
 | _=>false
theorem AQ {f:FuncId} {args:Array Vl} {HR HW:HP} {X:Type} {φ:X→Prop} {c:X→List PanicEntry} {HW' HN:X→HP} (j:Tri P f args HR HW φ (fun x=>.panicked (c x)) HW' HN) (b a:List Nat)
 (m:(fu P st,b.map (fun i=>st.H[i]?),a.map (fun i=>st.H[i]?),e8 st b a,iB st)=(some (f,args),HR.map some,HW.map some,true,true))
 (n:∀ x,de HW (HW' x)) (h:∀ x,φ x→∀ w,Inv K0 w0 M st.nr (co st.H a (HW' x)++HN x) w→Q.q (.panic (c x)) st.act w):GW P Q K0 w0 M st:=by
 simp only [Prod.mk.injEq] at m
 obtain ⟨hc,hR,hW,hs,hp⟩:=m
 obtain ⟨o,ho,hrun⟩:=jM hc
 obtain ⟨hnd,hge⟩:=kw hs
 intro hRg w hi
 unfold iB at hp
 split at hp
 · rename_i ops i l k e
   unfold dn at ho
   rw [e] at ho
   dsimp only at ho
   split at ho
   · rename_i o' ho'
     split at ho
     · rename_i hw
       injection ho with ho
       subst ho
       rw [e]
       show fT P Q.rd ops (QT P Q k) (i::l) st.act w
       refine iY ho' hw (tK (.inr (jF (hrun w) (by intro d e;cases e))) ?_)
       unfold Oper.wp
       rw [hrun w]
       have g:Own (HR++HW) w:=hi.own.pick (b++a) hnd _ (by rw [List.map_append,List.map_append,hR,hW])
       obtain ⟨K1,hk1,hk2⟩:=hi.kn
       refine Calls.mono (j K1 w g (hk2.pick (b++a) _ (by rw [List.map_append,List.map_append,hR,hW]))) ?_
       rintro en w' ⟨x,K',hx,rfl,ho',hf',hn',hx',hk'⟩
       exact gG (h x hx w' (hi.after hk1 hk2 hx' hk' hnd hge hW (n x) ho' hf' hn')) k
     · cases ho
   · cases ho
 · cases hp
theorem o3 (a:List Nat) (c:Nat) (L:HP) (d:(decide a.Nodup,a.map (fun i=>st.H[i]?),((a.drop c).all fun j=>st.nr.ble j),eF st.todo)=(true,L.map some,true,true)) (h:GW P Q K0 w0 M ⟨st.todo,st.ts,st.ds,L,c⟩):GW P Q K0 w0 M st:=by
 simp only [Prod.mk.injEq] at d
 obtain ⟨hnd,hL,hnr,ht⟩:=d
 intro _ w hi
 obtain ⟨K1,hk1,hk2⟩:=hi.kn
 refine h (cD ht) w ⟨hi.own.pick a (by simpa using hnd) L hL,hi.fr,fun b hb=>?_,K1,hk1,hk2.pick a L hL⟩
 obtain ⟨k,s,e,hg,hs⟩:=jV hb
 have e:c≤k:=e
 obtain ⟨j,hj,hj2⟩:=eu hL hg
 refine hi.ad _ (fH hj2 hs ?_)
 have:j∈a.drop c:=List.mem_of_getElem? (i:=k-c) (by rw [List.getElem?_drop,← hj];congr 1;omega)
 exact Nat.le_of_ble_eq_true (List.all_eq_true.1 hnr j this)
theorem wE (a:List Nat) (b:Nat) (L:HP) (h:GW P Q K0 w0 M ⟨st.todo,st.ts,st.ds,L,b⟩) (c:(decide a.Nodup,a.map (fun i=>st.H[i]?),((a.drop b).all fun j=>st.nr.ble j),eF st.todo)=(true,L.map some,true,true):=by kernel_rfl):GW P Q K0 w0 M st:=
 o3 a b L c h
def gO (n:Nat) (tm:List (Nat×Vl)) (u:Nat→Vl):List Vl:=(List.range n).map fun i=>((tm.find? fun p=>p.1==i).map (·.2)).getD (u i)
theorem kg (n:Nat) (a:List (Nat×Vl)) (ts:List Vl) (d:ts.length=n) (h:a.map (fun p=>ts.getD p.1 undef)=a.map (·.2)):ts=gO n a fun i=>ts.getD i undef:=by
 apply List.ext_getElem?
 intro i
 unfold gO
 rw [List.getElem?_map]
 rcases Nat.lt_or_ge i n with hi | hi
 · rw [List.getElem?_range hi,List.getElem?_eq_getElem (by omega)]
   simp only [Option.map_some,Option.some.injEq]
   cases hf:a.find? fun p=>p.1==i with
   | none=>simp [List.getD,List.getElem?_eq_getElem (show i<ts.length by omega)]
   | some p=>
    have b:=List.mem_of_find?_eq_some hf
    have c:p.1=i:=by have:=List.find?_some hf;simpa using this
    have:ts.getD p.1 undef=p.2:=by
     obtain ⟨k,hk,e⟩:=List.mem_iff_getElem.1 b
     have h1:=congrArg (fun l=>l[k]?) h
     simp only [List.getElem?_map,List.getElem?_eq_getElem hk,e,Option.map_some,Option.some.injEq] at h1
     exact h1
    rw [c] at this
    simp only [Option.map_some,Option.getD_some,← this]
    simp [List.getD,List.getElem?_eq_getElem (show i<ts.length by omega)]
 · rw [List.getElem?_eq_none (by omega)]
   simp [hi]
def jm:List It→Option (Code×List It)
 | .code (.loop c)::k=>some (c,k)
 | _=>none
def wL (K0:Nat→Prop) (w0:World) (M:List Nat) {X:Type} (n:Nat) (pre:X→Prop) (μ:X→Nat) (tm:X→List (Nat×Vl)) (ds:List Deferred) (HL:X→HP) (nr:Nat) (x:X) (a:Act) (w:World):Prop:=
 ∃ x' u,pre x'∧μ x'<μ x∧a=⟨(gO n (tm x') u).toArray,ds⟩∧Inv K0 w0 M nr (HL x') w
theorem FX {X:Type} (b:X→Prop) (μ:X→Nat) (d:X→List (Nat×Vl)) (g:X→HP) (f:X) {c:Code} {k:List It} (i:jm st.todo=some (c,k)) (n:Nat) (j:st.ts.length=n) (h0:b f) (h1:(d f).map (fun p=>st.ts.getD p.1 undef)=(d f).map (·.2)) (h2:st.H=g f)
 (h:∀ x u,b x→GW P Q K0 w0 M ⟨.code c::.lp (wL K0 w0 M n b μ d st.ds g st.nr x)::k,gO n (d x) u,st.ds,g x,st.nr⟩):GW P Q K0 w0 M st:=by
 intro _ w hi
 unfold jm at i
 split at i
 · rename_i c' k' e
   injection i with i
   injection i with e1 e2
   subst e1;subst e2
   rw [e]
   show (Code.loop c').wpIn (iW Q.rd) 0 P (QT P Q k') st.act w
   refine lq (fun m a w=>∃ x u,b x∧μ x=m∧a=⟨(gO n (d x) u).toArray,st.ds⟩∧Inv K0 w0 M st.nr (g x) w) (μ f) ⟨f,_,h0,rfl,by unfold ES.act;rw [← kg n (d f) st.ts j h1],by rw [← h2];exact hi⟩ ?_
   rintro m a w ⟨x,u,hp,rfl,rfl,hi⟩
   have h3:=h x u hp (cD) w hi
   refine wpIn_mono (show c'.wpIn (iW Q.rd) 0 P (Exit.then (wL K0 w0 M n b μ d st.ds g st.nr x) (QT P Q k')) ⟨(gO n (d x) u).toArray,st.ds⟩ w from h3) fun en a' w' hq=>?_
   cases en with
   | normal=>
    obtain ⟨x',u',h4,h5,h6,h7⟩:=(hq:wL K0 w0 M n b μ d st.ds g st.nr x a' w')
    exact ⟨μ x',h5,x',u',h4,rfl,h6,h7⟩
   | exit id=>exact hq
   | goto l=>exact hq
   | ret=>exact hq
   | panic ch=>exact hq
   | outgrown=>exact hq
 · cases i
theorem Jr {X:Type} {a:X→Prop} {μ:X→Nat} {c:X→List (Nat×Vl)} {d:X→HP} {n:Nat} {ds:List Deferred} {nr:Nat} {x:X} {k:List It} (b:X) (f:st.todo = .lp (wL K0 w0 M n a μ c ds d nr x)::k) (g:st.ts.length=n) (hd:st.ds=ds) (e:st.nr=nr)
 (h0:a b) (h:μ b<μ x) (h1:(c b).map (fun p=>st.ts.getD p.1 undef)=(c b).map (·.2)) (h2:st.H=d b):GW P Q K0 w0 M st:=by
 intro _ w hi
 rw [f]
 show wL K0 w0 M n a μ c ds d nr x st.act w
 refine ⟨b,fun i=>st.ts.getD i undef,h0,h,?_,by rw [← e,← h2];exact hi⟩
 unfold ES.act
 rw [hd,← kg n (c b) st.ts g h1]
end
section
variable {P:Program} {Q:QR} {K0:Nat→Prop} {w0:World} {M:List Nat} {st:ES}
def mh (t:List It):Code:=
 match jm t with
 | some (c,_)=>c
 | none=>.ret
def kh (t:List It):List It:=
 match jm t with
 | some (_,k)=>k
 | none=>[]
theorem cY {X:Type} (a:X→Prop) (μ:X→Nat) (n:Nat) (b:X→List (Nat×Vl)) (f:X→HP) (d:X)
 (g:((jm st.todo).isSome,st.ts.length,st.H,(b d).map (fun p=>st.ts.getD p.1 undef))=(true,n,f d,(b d).map (·.2))) (h0:a d)
 (h:∀ x u (J:Act→World→Prop),a x→(∀ (st':ES) (x':X),a x'→μ x'<μ x→(st'.todo,st'.ts.length,st'.ds,st'.nr,(b x').map (fun p=>st'.ts.getD p.1 undef),st'.H)=(.lp J::kh st.todo,n,st.ds,st.nr,(b x').map (·.2),f x')→GW P Q K0 w0 M st') →
  GW P Q K0 w0 M ⟨.code (mh st.todo)::.lp J::kh st.todo,gO n (b x) u,st.ds,f x,st.nr⟩):GW P Q K0 w0 M st:=by
 simp only [Prod.mk.injEq] at g
 obtain ⟨h1,h2,h3,h4⟩:=g
 obtain ⟨⟨c,k⟩,e⟩:=Option.isSome_iff_exists.1 h1
 have hc:mh st.todo=c:=by unfold mh;rw [e]
 have i:kh st.todo=k:=by unfold kh;rw [e]
 rw [hc,i] at h
 refine FX a μ b f d e n h2 h0 h4 h3 fun x u hp=>h x u _ hp fun st' x' hp' hm hq=>?_
 simp only [Prod.mk.injEq] at hq
 obtain ⟨q1,q2,q3,q4,q5,q6⟩:=hq
 exact Jr x' q1 q2 q3 q4 hp' hm q5 q6
def ze (P:Program) (Q:QR) (K0:Nat→Prop) (w0:World) (M:List Nat) (st:ES):Ending→World→Prop
 | .returned v,w'=>∃ H',Inv K0 w0 M st.nr H' w'∧(after st v H').H=H'∧RegOK (after st v H')∧GW P Q K0 w0 M (after st v H')
 | _,_=>False
theorem eA {f:FuncId} {args:Array Vl} {a:Func} (g:P.funcs[f]?=some a) (h:GW P (bodyPost P a (ze P Q K0 w0 M st)) K0 w0 M ⟨[.code (cO a)],args.toList++List.replicate (a.ntmps-args.size) undef,[],st.H,st.nr⟩) (hb:a.body.isSome=true:=by kernel_rfl) (hc:fu P st=some (f,args):=by kernel_rfl):GW P Q K0 w0 M st:=by
 obtain ⟨o,ho,hrun⟩:=jM hc
 refine vB ho fun hRg w hi K QQ hK=>⟨jF (hrun w) (by intro d e;cases e),?_⟩
 unfold Oper.wp
 rw [hrun w]
 have b:a.body=some (cO a):=by
  unfold cO
  cases hh:a.body with
  | none=>rw [hh] at hb;cases hb
  | some c=>rfl
 have h1:=h (cD) w hi
 have e:args++Array.replicate (a.ntmps-args.size) undef=(args.toList++List.replicate (a.ntmps-args.size) undef).toArray:=by simp
 have h2:Calls P f args w (ze P Q K0 w0 M st):=by
  refine calls_of_wp g b ?_
  rw [e]
  exact (wpIn_wide (n:=0)).1 h1
 refine Calls.mono h2 fun en w' he=>?_
 match en with
 | .returned v=>
  obtain ⟨H',h3,h4,h5,h6⟩:=he
  exact hK v w' H' h3 h4 h5 h6
 | .panicked _=>exact (he:False).elim
 | .outgrown=>exact (he:False).elim
theorem eC {b:Func} {a:ES} (v:Vl) (j:Nat) (c:GW P Q K0 w0 M (after a v st.H)) (h:(ix st.todo,st.ds.isEmpty,(cU P st.H[j]? (results b st.ts.toArray)).map (·.1),((cU P st.H[j]? (results b st.ts.toArray)).map (·.2.map (·.1))),st.nr,eF (after a v st.H).todo,(dn a).isSome) =
 (true,true,some v,((cU P st.H[j]? (results b st.ts.toArray)).map (·.2.map (·.2))),a.nr,true,true):=by kernel_rfl):GW P (bodyPost P b (ze P Q K0 w0 M a)) K0 w0 M st:=by
 simp only [Prod.mk.injEq] at h
 obtain ⟨ht,hd,hv,hq,hm,hr,hs⟩:=h
 obtain ⟨o,ho⟩:=Option.isSome_iff_exists.1 hs
 exact CW j v ht hd hv hq fun w' h=>⟨st.H,by rw [← hm];exact h,pJ ho,cD hr,c⟩
theorem Inv.put {nr:Nat} {H:HP} {w:World} (h:Inv K0 w0 M nr H w) {j b:Nat} {s s':SB} (a:H[j]?=some (b,s)) (d:s.live=true) (hs:s'.isFa=false) (hb:∃ o,w.heap[b]?=some o∧s'.ok o):Inv K0 w0 M nr (H.set j (b,s')) w:=by
 obtain ⟨K1,hk1,hk2⟩:=h.kn
 refine ⟨h.own.put a d hb fun _ _=>rfl,h.fr,fun c hc=>h.ad c (oM a d c hc),K1,hk1,hk2.step (Fr.refl [] w) (fun b hb=>by cases hb) (fun c hc=>.inl ?_) (pG hs)⟩
 exact oM (nr:=0) a d c hc
theorem iT (j b:Nat) (p:Obj→Prop) (a:(st.H[j]?,eF st.todo)=(some (b,.pr p),true)) (h:∀ o,p o→GW P Q K0 w0 M ⟨st.todo,st.ts,st.ds,st.H.set j (b,.ob o),st.nr⟩):GW P Q K0 w0 M st:=by
 simp only [Prod.mk.injEq] at a
 obtain ⟨hj,ht⟩:=a
 intro _ w hi
 obtain ⟨o,h1,h2⟩:=hi.own.at_ j b _ hj rfl
 exact h o h2 (cD ht) w (hi.put hj rfl rfl ⟨o,h1,rfl⟩)
def l2 (st:ES) (r:Nat):ES:=
 match st.todo with
 | .reg ops listed (f+1) n mask H0::k=>{st with todo:=.regAt r ops listed f n mask H0::k}
 | _=>st
def jK (st:ES):List Nat:=
 match st.todo with
 | .reg ops listed (_+1) _ _ _::_=>Region.ready .any ops listed
 | _=>[]
theorem HE (rs:List Nat) (b:(jK st,rs.isEmpty)=(rs,false)) (h:∀ r∈rs,GW P Q K0 w0 M (l2 st r)):GW P Q K0 w0 M st:=by
 simp only [Prod.mk.injEq] at b
 obtain ⟨hr,hne⟩:=b
 have a:rs≠[]:=by intro e;subst e;cases hne
 unfold jK at hr
 split at hr
 · rename_i ops listed fuel n mask H0 k e
   intro hR w hi
   rw [e]
   show wpAnyG P .any ops (PanQ ops (QT P Q k)) n (kY mask H0) (fuel+1) listed st.act w
   refine me hr a fun r hm=>?_
   have hb:l2 st r={st with todo:=.regAt r ops listed fuel n mask H0::k}:=by unfold l2;rw [e]
   have h1:=h r hm
   rw [hb] at h1
   refine h1 ?_ w hi
   unfold RegOK at hR ⊢
   rw [e] at hR
   exact hR
 · exact absurd hr.symm a
theorem dq (i j:Nat) (h1:GW P Q K0 w0 M (l2 st i)) (h2:GW P Q K0 w0 M (l2 st j)) (a:jK st=[i,j]:=by kernel_rfl):GW P Q K0 w0 M st:=
 HE [i,j] (by rw [a];rfl) fun r hr=>by
  simp only [List.mem_cons,List.not_mem_nil,or_false] at hr
  rcases hr with rfl | rfl
  · exact h1
  · exact h2
theorem lV (h:GW P Q K0 w0 M ⟨st.todo,st.ts,st.ds,st.H++[(0,.dead)],st.nr⟩):GW P Q K0 w0 M st:=by
 intro hR w hi
 have a:∀ (i:Nat) (x:Nat×SB),(st.H++[(0,SB.dead)])[i]?=some x→x.2.live=true→st.H[i]?=some x:=by
  intro i x hi hs
  rcases Nat.lt_or_ge i st.H.length with hl | hl
  · rw [List.getElem?_append_left hl] at hi;exact hi
  · rw [List.getElem?_append_right hl] at hi
    rcases hk:i-st.H.length with _ | k
    · rw [hk] at hi
      simp at hi
      rw [← hi] at hs
      cases hs
    · rw [hk] at hi
      simp at hi
 refine h ?_ w ⟨⟨fun i j b s t hij hi' hj hs ht=>hi.own.nd i j b s t hij (a i _ hi' hs) (a j _ hj ht) hs ht,fun j b s hj hs=>hi.own.at_ j b s (a j _ hj hs) hs⟩,hi.fr,fun b hb=>?_,?_⟩
 · unfold RegOK at hR ⊢
   dsimp only
   split at hR
   · intro hl i x hm hx
     have:=hR hl i x hm hx
     rw [List.getElem?_append_left (cj this)]
     exact this
   · intro hl i x hm hx
     have:=hR hl i x hm hx
     rw [List.getElem?_append_left (cj this)]
     exact this
   · trivial
 · obtain ⟨j,s,h1,h2,h3⟩:=jV hb
   exact hi.ad b (fH (a j _ h2 h3) h3 h1)
 · obtain ⟨K1,hk1,hk2⟩:=hi.kn
   exact ⟨K1,hk1,hk2.step (Fr.refl [] w) (fun b hb=>by cases hb) (fun c hc=>.inl (by rw [cy] at hc;simpa [lv,SB.live] using hc)) (pP rfl)⟩
theorem y8 (c0:Nat) (h:GW P Q K0 w0 M ⟨st.todo,st.ts,st.ds,st.H++[(c0,.dead)],st.nr⟩):GW P Q K0 w0 M st:=by
 intro hR w hi
 have a:∀ (i:Nat) (x:Nat×SB),(st.H++[(c0,SB.dead)])[i]?=some x→x.2.live=true→st.H[i]?=some x:=by
  intro i x hi hs
  rcases Nat.lt_or_ge i st.H.length with hl | hl
  · rw [List.getElem?_append_left hl] at hi;exact hi
  · rw [List.getElem?_append_right hl] at hi
    rcases hk:i-st.H.length with _ | k
    · rw [hk] at hi
      simp at hi
      rw [← hi] at hs
      cases hs
    · rw [hk] at hi
      simp at hi
 refine h ?_ w ⟨⟨fun i j b s t hij hi' hj hs ht=>hi.own.nd i j b s t hij (a i _ hi' hs) (a j _ hj ht) hs ht,fun j b s hj hs=>hi.own.at_ j b s (a j _ hj hs) hs⟩,hi.fr,fun b hb=>?_,?_⟩
 · unfold RegOK at hR ⊢
   dsimp only
   split at hR
   · intro hl i x hm hx
     have:=hR hl i x hm hx
     rw [List.getElem?_append_left (cj this)]
     exact this
   · intro hl i x hm hx
     have:=hR hl i x hm hx
     rw [List.getElem?_append_left (cj this)]
     exact this
   · trivial
 · obtain ⟨j,s,h1,h2,h3⟩:=jV hb
   exact hi.ad b (fH (a j _ h2 h3) h3 h1)
 · obtain ⟨K1,hk1,hk2⟩:=hi.kn
   exact ⟨K1,hk1,hk2.step (Fr.refl [] w) (fun b hb=>by cases hb) (fun c hc=>.inl (by rw [cy] at hc;simpa [lv,SB.live] using hc)) (pP rfl)⟩
theorem vE (i:Nat) (v v':Vl) (e:v=v') (h:GW P Q K0 w0 M ⟨st.todo,st.ts.set i v',st.ds,st.H,st.nr⟩) (a:st.ts[i]?=some v:=by kernel_rfl):GW P Q K0 w0 M st:=by
 subst e
 have:st.ts.set i v=st.ts:=by
  apply List.ext_getElem?
  intro j
  rw [List.getElem?_set]
  split
  · rename_i e
    subst e
    have:=cj a
    rw [if_pos this,a]
  · rfl
 rw [this] at h
 exact h
theorem vJ (j b:Nat) (s s':SB) (c:(st.H[j]?,eF st.todo,s.live)=(some (b,s),true,true)) (hs:∀ o,s.ok o→s'.ok o) (h:GW P Q K0 w0 M ⟨st.todo,st.ts,st.ds,st.H.set j (b,s'),st.nr⟩) (a:s'.isFa=false:=by rfl):GW P Q K0 w0 M st:=by
 simp only [Prod.mk.injEq] at c
 obtain ⟨hj,ht,hl⟩:=c
 intro _ w hi
 obtain ⟨o,h1,h2⟩:=hi.own.at_ j b s hj hl
 exact h (cD ht) w (hi.put hj hl a ⟨o,h1,hs o h2⟩)
theorem lE (j b:Nat) (s s':SB) (hs:∀ o,s.ok o→s'.ok o) (h:GW P Q K0 w0 M ⟨st.todo,st.ts,st.ds,st.H.set j (b,s'),st.nr⟩) (c:(st.H[j]?,eF st.todo,s.live)=(some (b,s),true,true):=by kernel_rfl) (a:s'.isFa=false:=by rfl):GW P Q K0 w0 M st:=
 vJ j b s s' c hs h a
def At (b:Nat) (s:SB):World→Prop:=fun w=>∃ o,w.heap[b]?=some o∧s.ok o
theorem ip (j b:Nat) (s:SB) (q:World→Prop) (m:∀ w,At b s w→q w) (h:GW P Q K0 w0 M ⟨st.todo,st.ts,st.ds,st.H.set j (b,.fa q),st.nr⟩) (l:(st.H[j]?,eF st.todo,s.live,st.nr.ble j)=(some (b,s),true,true,true):=by kernel_rfl):GW P Q K0 w0 M st:=by
 simp only [Prod.mk.injEq] at l
 obtain ⟨hj,ht,hl,g⟩:=l
 have g:=Nat.le_of_ble_eq_true g
 intro _ w hi
 obtain ⟨K1,hk1,hk2⟩:=hi.kn
 obtain ⟨o,h1,h2⟩:=hi.own.at_ j b s hj hl
 have d:∀ (i c:Nat) (t:SB),(st.H.set j (b,SB.fa q))[i]?=some (c,t)→t.live=true→i≠j∧st.H[i]?=some (c,t):=by
  intro i c t hi ht
  rcases kI hi with ⟨e1,e2⟩ | e
  · injection e2 with _ e3
    rw [e3] at ht
    cases ht
  · exact e
 have f:∀ c∈lv (st.H.set j (b,SB.fa q)),c∈lv st.H∧c≠b:=by
  intro c hc
  obtain ⟨i,t,hi',ht'⟩:=fM hc
  obtain ⟨e1,e2⟩:=d i c t hi' ht'
  refine ⟨da e2 ht',fun e=>?_⟩
  subst e
  exact hi.own.nd i j c t s e1 e2 hj ht' hl
 refine h (cD ht) w ⟨⟨fun i k c t u hik hi' hk ht' hu=>?_,fun i c t hi' ht'=>hi.own.at_ i c t (d i c t hi' ht').2 ht'⟩,hi.fr,fun c hc=>?_,fun x=>K1 x∨x=b,⟨fun c hc=>.inl (hk1.1 c hc),fun c hc=>?_⟩,fun c hc=>?_,fun i a p hp=>?_⟩
 · exact hi.own.nd i k c t u hik (d i c t hi' ht').2 (d k c u hk hu).2 ht' hu
 · obtain ⟨i,t,hni,hi',ht'⟩:=jV hc
   exact hi.ad c (fH (d i c t hi' ht').2 ht' hni)
 · rcases hc with hc | rfl
   · exact hk1.2 c hc
   · exact .inr (hi.ad c (fH hj hl g)).symm
 · rcases hc with hc | rfl
   · exact ⟨(hk2.off c hc).1,fun hm=>(hk2.off c hc).2 (f c hm).1⟩
   · exact ⟨dR h1,fun hm=>(f c hm).2 rfl⟩
 · rcases kI hp with ⟨e1,e2⟩ | ⟨e1,e2⟩
   · injection e2 with e3 e4
     injection e4 with e4
     subst e4
     intro w' hw
     exact m w' ⟨o,(hw b (.inr rfl)).trans h1,h2⟩
   · exact fun w' hw=>hk2.fac i a p e2 w' fun c hc=>hw c (.inl hc)
theorem vO (j b:Nat) (s:SB) (h:GW P Q K0 w0 M ⟨st.todo,st.ts,st.ds,st.H.set j (b,.fa (At b s)),st.nr⟩) (a:(st.H[j]?,eF st.todo,s.live,st.nr.ble j)=(some (b,s),true,true,true):=by kernel_rfl):GW P Q K0 w0 M st:=ip j b s (At b s) (fun _ h=>h) h a
theorem fq (f:List Nat) (L:List (World→Prop)) (q:World→Prop) (n:∀ w,(∀ (i:Nat) (p:World→Prop),L[i]?=some p→p w)→q w) (h:GW P Q K0 w0 M ⟨st.todo,st.ts,st.ds,st.H++[(0,.fa q)],st.nr⟩) (m:(f.map (fun j=>st.H[j]?.map (·.2)),eF st.todo)=(L.map (fun p=>some (.fa p)),true):=by kernel_rfl):GW P Q K0 w0 M st:=by
 simp only [Prod.mk.injEq] at m
 obtain ⟨hL,ht⟩:=m
 have d:∀ (i:Nat) (p:World→Prop),L[i]?=some p→∃ (j a:Nat),st.H[j]?=some (a,SB.fa p):=by
  intro i p hi
  have h1:=congrArg (fun l=>l[i]?) hL
  simp only [List.getElem?_map,hi,Option.map_some] at h1
  rw [Option.map_eq_some_iff] at h1
  obtain ⟨j,_,h2⟩:=h1
  rw [Option.map_eq_some_iff] at h2
  obtain ⟨⟨a,s⟩,h3,h4⟩:=h2
  exact ⟨j,a,by rw [h3];exact congrArg some (congrArg (Prod.mk a) h4)⟩
 intro _ w hi
 obtain ⟨K1,hk1,hk2⟩:=hi.kn
 have e:∀ (i c:Nat) (t:SB),(st.H++[(0,SB.fa q)])[i]?=some (c,t)→st.H[i]?=some (c,t)∨t = .fa q:=by
  intro i c t hi
  rcases Nat.lt_or_ge i st.H.length with hl | hl
  · rw [List.getElem?_append_left hl] at hi;exact .inl hi
  · rw [List.getElem?_append_right hl] at hi
    rcases hk:i-st.H.length with _ | k
    · rw [hk] at hi
      simp at hi
      exact .inr hi.2.symm
    · rw [hk] at hi
      simp at hi
 have b:∀ (i c:Nat) (t:SB),(st.H++[(0,SB.fa q)])[i]?=some (c,t)→t.live=true→st.H[i]?=some (c,t):=by
  intro i c t hi hl
  rcases e i c t hi with h1 | h1
  · exact h1
  · subst h1;cases hl
 have g:lv (st.H++[(0,SB.fa q)])=lv st.H:=by rw [cy];simp [lv,SB.live]
 refine h (cD ht) w ⟨⟨fun i k c t u hik hi' hk ht' hu=>hi.own.nd i k c t u hik (b i c t hi' ht') (b k c u hk hu) ht' hu,fun i c t hi' ht'=>hi.own.at_ i c t (b i c t hi' ht') ht'⟩,hi.fr,fun c hc=>?_,K1,hk1,fun c hc=>⟨(hk2.off c hc).1,by rw [g];exact (hk2.off c hc).2⟩,fun i a p hp=>?_⟩
 · obtain ⟨i,t,hni,hi',ht'⟩:=jV hc
   exact hi.ad c (fH (b i c t hi' ht') ht' hni)
 · rcases e i a _ hp with h1 | h1
   · exact hk2.fac i a p h1
   · injection h1 with h1
     subst h1
     intro w' hw
     refine n w' fun i p' hp'=>?_
     obtain ⟨j,a',hj⟩:=d i p' hp'
     exact hk2.fac j a' p' hj w' hw
theorem fP (j a:Nat) (p:World→Prop) {q:Prop} (b:∀ w,p w→q) (h:q→GW P Q K0 w0 M st) (c:st.H[j]?=some (a,.fa p):=by kernel_rfl):GW P Q K0 w0 M st:=fun hR w hi=>h (b w (hi.fact c)) hR w hi
def jG:Code→List Code
 | .seq a b=>.seq a b::(jG a++jG b)
 | .cond c a b=>.cond c a b::(jG a++jG b)
 | .block id a=>.block id a::jG a
 | .loop a=>.loop a::jG a
 | .scope a=>.scope a::jG a
 | .rangeFunc f p a b=>.rangeFunc f p a b::(jG a++jG b)
 | c=>[c]
def cZ (fn:Func) (i:Nat):Code:=(jG (cO fn)).getD i .skip
theorem kE (n:Nat) (d:List (Nat×Vl)) (a:List It) (f:HP) (b:List Deferred) (c:Nat) (h:∀ u,GW P Q K0 w0 M ⟨a,gO n d u,b,f,c⟩) (g:(st.todo,st.ts.length,d.map (fun p=>st.ts.getD p.1 undef),st.H,st.ds,st.nr,eF a)=(a,n,d.map (·.2),f,b,c,true):=by kernel_rfl):GW P Q K0 w0 M st:=by
 simp only [Prod.mk.injEq] at g
 obtain ⟨h1,h2,h3,h4,h5,h6,h7⟩:=g
 have e:st=⟨a,gO n d fun i=>st.ts.getD i undef,b,f,c⟩:=by
  rw [← kg n d st.ts h2 h3,← h1,← h4,← h5,← h6]
 have:=h fun i=>st.ts.getD i undef
 rw [← e] at this
 exact this
theorem ef (Y:Type) (b:Y→Prop) (n:Nat) (e:Y→List (Nat×Vl)) (a:List It) (f:Y→HP) (c:List Deferred) (d:Nat) (k:(∀ y u,b y→GW P Q K0 w0 M ⟨a,gO n (e y) u,c,f y,d⟩)→GW P Q K0 w0 M st)
 (h:∀ y u,b y→GW P Q K0 w0 M ⟨a,gO n (e y) u,c,f y,d⟩):GW P Q K0 w0 M st:=k h
theorem jT {n:Nat} {e:List (Nat×Vl)} {a:List It} {f:HP} {d:List Deferred} {c:Nat} (b:List Nat) (key:∀ u,GW P Q K0 w0 M ⟨a,gO n e u,d,f,c⟩) (g:(st.todo,st.ts.length,e.map (fun p=>st.ts.getD p.1 undef),b.map (fun i=>st.H[i]?),decide b.Nodup,(b.drop c).all (fun j=>st.nr.ble j),st.ds,eF a)=(a,n,e.map (·.2),f.map some,true,true,d,true):=by kernel_rfl):GW P Q K0 w0 M st:=by
 simp only [Prod.mk.injEq] at g
 obtain ⟨h1,h2,h3,h4,h5,h6,h7,h8⟩:=g
 have k:=key fun i=>st.ts.getD i undef
 rw [← kg n e st.ts h2 h3,← h1,← h7] at k
 exact o3 b c f (by rw [h4,h5,h6,h1,h8]) k
theorem qE (j b:Nat) (s s':SB) (e:s=s') (h:GW P Q K0 w0 M ⟨st.todo,st.ts,st.ds,st.H.set j (b,s'),st.nr⟩) (a:st.H[j]?=some (b,s):=by kernel_rfl):GW P Q K0 w0 M st:=by
 subst e
 have:st.H.set j (b,s)=st.H:=by
  apply List.ext_getElem?
  intro i
  rw [List.getElem?_set]
  split
  · rename_i e
    subst e
    rw [if_pos (cj a),a]
  · rfl
 rw [this] at h
 exact h
theorem vC {α:Type} {a b:α} (i:Nat) (V:α→Vl) (e:a=b) (h:GW P Q K0 w0 M ⟨st.todo,st.ts.set i (V b),st.ds,st.H,st.nr⟩) (c:st.ts[i]?=some (V a):=by kernel_rfl):GW P Q K0 w0 M st:=vE i (V a) (V b) (congrArg V e) h c
theorem qC {α:Type} {a b:α} (j c:Nat) (V:α→SB) (e:a=b) (h:GW P Q K0 w0 M ⟨st.todo,st.ts,st.ds,st.H.set j (c,V b),st.nr⟩) (d:st.H[j]?=some (c,V a):=by kernel_rfl):GW P Q K0 w0 M st:=qE j c (V a) (V b) (congrArg V e) h d
theorem fE (j b:Nat) (p:Obj→Prop) {q:Prop} (c:∀ o,p o→q) (h:q→GW P Q K0 w0 M st) (a:(st.H[j]?,eF st.todo)=(some (b,.pr p),true):=by kernel_rfl):GW P Q K0 w0 M st:=by
 simp only [Prod.mk.injEq] at a
 obtain ⟨hj,ht⟩:=a
 intro hR w hi
 obtain ⟨o,h1,h2⟩:=hi.own.at_ j b _ hj rfl
 exact h (c o h2) hR w hi
end
section
variable {P:Program} {Q:QR} {K0:Nat→Prop} {w0:World} {M:List Nat} {st:ES}
def LW (P:Program) (fn:Func) (R:Ending→World→Prop) (u:FrameMode) (K0:Nat→Prop) (w0:World) (M:List Nat) (st:ES):Prop:=
 ∀ w,Inv K0 w0 M st.nr st.H w→Leaves P fn st.ts.toArray R st.ds u w
theorem dE {f:FuncId} {a:Func} {args:Array Vl} {HR HW:HP} {X:Type} {φ:X→Prop} {e:X→Ending} {HW' HN:X→HP} (g:P.funcs[f]?=some a) (h:∀ {K:Nat→Prop} w,Own (HR++HW) w→GW P (bodyPostD P a (TriPost K HR HW φ e HW' HN w)) K w (lv HW) ⟨[.code (cO a)],args.toList++List.replicate (a.ntmps-args.size) undef,[],HR++HW,HR.length⟩) (hb:a.body.isSome=true:=by kernel_rfl):Tri P f args HR HW φ e HW' HN:=by
 intro K w ho hk
 have d:a.body=some (cO a):=by
  unfold cO
  cases hh:a.body with
  | none=>rw [hh] at hb;cases hb
  | some c=>rfl
 refine calls_of_wp_defers g d ?_
 have h1:=h (K:=K) w ho (cD) w ⟨ho,Fr.refl _ _,fun b hb=>.inl (by unfold wr at hb;simpa using hb),K,KExt.refl _ _ _,hk⟩
 have e:args++Array.replicate (a.ntmps-args.size) undef=(args.toList++List.replicate (a.ntmps-args.size) undef).toArray:=by simp
 rw [e]
 exact (wpIn_wide (n:=0)).1 h1
theorem fV {b:Func} {R:Ending→World→Prop} (h:LW P b R .returning K0 w0 M st) (a:ix st.todo=true:=by kernel_rfl):GW P (bodyPostD P b R) K0 w0 M st:=by
 intro _ w hi
 unfold ix at a
 split at a
 · rename_i e;rw [e];exact h w hi
 · rename_i k e;rw [e];exact wpIn_ret (iN (h w hi) k)
 · cases a
theorem iq {e:Func} {R:Ending→World→Prop} {f:FuncId} {args:Array Vl} {HR HW:HP} {X:Type} {φ:X→Prop} {c:X→List PanicEntry} {HW' HN:X→HP} (d:Tri P f args HR HW φ (fun x=>.panicked (c x)) HW' HN) (b a:List Nat) (g:∀ x,de HW (HW' x)) (h:∀ x,φ x→LW P e R (.panicking (c x)) K0 w0 M ⟨[],st.ts,st.ds,co st.H a (HW' x)++HN x,st.nr⟩) (j:(fu P st,b.map (fun i=>st.H[i]?),a.map (fun i=>st.H[i]?),e8 st b a,iB st)=(some (f,args),HR.map some,HW.map some,true,true):=by kernel_rfl):GW P (bodyPostD P e R) K0 w0 M st:=
 AQ d b a j g fun x hx w hi=>h x hx w hi
def jZ (P:Program) (f:FuncId) (args:Array Vl) (u u':FrameMode) (HR HW:HP) {X:Type} (φ:X→Prop) (v:X→Vl) (HW' HN:X→HP):Prop:=
 ∀ K w,Own (HR++HW) w→Kn K (HR++HW) w→CallsD P f args u w fun en u2 w'=>u2=u'∧TriPost K HR HW φ (fun x=>.returned (v x)) HW' HN w en w'
theorem qL {f:FuncId} {a:Func} {args:Array Vl} {u:FrameMode} {HR HW:HP} {X:Type} {φ:X→Prop} {v:X→Vl} {HW' HN:X→HP} (g:P.funcs[f]?=some a) (h:∀ {K:Nat→Prop} w,Own (HR++HW) w→GW P (bodyPost P a (TriPost K HR HW φ (fun x=>.returned (v x)) HW' HN w)) K w (lv HW) ⟨[.code (cO a)],args.toList++List.replicate (a.ntmps-args.size) undef,[],HR++HW,HR.length⟩) (hb:a.body.isSome=true:=by kernel_rfl):jZ P f args u u HR HW φ v HW' HN:=by
 intro K w ho hk
 have d:a.body=some (cO a):=by
  unfold cO
  cases hh:a.body with
  | none=>rw [hh] at hb;cases hb
  | some c=>rfl
 refine callsD_of_wp g d ?_
 have h1:=h (K:=K) w ho (cD) w ⟨ho,Fr.refl _ _,fun b hb=>.inl (by unfold wr at hb;simpa using hb),K,KExt.refl _ _ _,hk⟩
 have e:args++Array.replicate (a.ntmps-args.size) undef=(args.toList++List.replicate (a.ntmps-args.size) undef).toArray:=by simp
 rw [e]
 exact (wpIn_wide (n:=0)).1 h1
theorem cS (d:Deferred) (h:GW P Q K0 w0 M {after st undef st.H with ds:=d::st.ds}) (f:Q.rd=none:=by rfl) (c:((dn st).bind (fun o=>(cU P none (execOp (cT st.ts) o)).map (fun r=>(match r.1 with | .defer d=>some d | _=>none,r.2))),iB st)=(some (some d,[]),true):=by kernel_rfl):GW P Q K0 w0 M st:=by
 simp only [Prod.mk.injEq] at c
 obtain ⟨hc,hp⟩:=c
 rw [Option.bind_eq_some_iff] at hc
 obtain ⟨o,ho,hc⟩:=hc
 rw [Option.map_eq_some_iff] at hc
 obtain ⟨⟨nx,eqs⟩,hs,he⟩:=hc
 simp only [Prod.mk.injEq] at he
 obtain ⟨hd,rfl⟩:=he
 obtain rfl:nx = .defer d:=by
  revert hd
  cases nx <;> simp
 intro hRg w hi
 have a:(execOp (cT st.ts) o).run P w = .ok (.defer d) w:=iL (fun b s hb hl=>by cases hb) _ _ _ hs (by intro p hp;cases hp)
 unfold iB at hp
 split at hp
 · rename_i ops i l k e
   unfold dn at ho
   rw [e] at ho
   dsimp only at ho
   split at ho
   · rename_i o' ho'
     split at ho
     · rename_i hw
       injection ho with ho
       subst ho
       have ha:{after st undef st.H with ds:=d::st.ds}=(⟨.ops ops l::k,iK st.ts o'.dst undef,d::st.ds,st.H,st.nr⟩:ES):=by
        unfold after l6
        rw [e]
        simp only [ho']
       rw [ha] at h
       have h2:=h (cD) w hi
       rw [e]
       show fT P Q.rd ops (QT P Q k) (i::l) st.act w
       refine iY ho' hw (tK (.inl f) ?_)
       unfold Oper.wp
       rw [show st.act.eval=cT st.ts from dQ _ _,a]
       show fT P Q.rd ops (QT P Q k) l (Act.put ⟨st.ts.toArray,d::st.ds⟩ o'.dst undef) w
       rw [gD]
       exact h2
     · cases ho
   · cases ho
 · cases hp
theorem Ju {fn:Func} {R:Ending→World→Prop} {u k:FrameMode} {f:FuncId} {args:Array Vl} {HR HW:HP} {X:Type} {φ:X→Prop} {v:X→Vl} {HW' HN:X→HP} {l:Fn} {cap c:Array Vl} {ds:List Deferred}
 (g:jZ P f args u k HR HW φ v HW' HN) (b a:List Nat) (m:Views st.H b HR)
 (n:(st.ds,b.length,a.map (fun i=>st.H[i]?),decide (b++a).Nodup,a.all (fun j=>st.nr.ble j))=(⟨.fn l cap,c⟩::ds,HR.length,HW.map some,true,true)) (o:u≠.run)
 (hi:∀ w,(invoke (.fn l cap) c).run P w = .ok (.enter f args) w) (p:∀ x,de HW (HW' x))
 (h:∀ x,φ x→LW P fn R (settle k) K0 w0 M ⟨[],st.ts,ds,co st.H a (HW' x)++HN x,st.nr⟩):LW P fn R u K0 w0 M st:=by
 simp only [Prod.mk.injEq] at n
 obtain ⟨hd,hlen,hW,d,e⟩:=n
 have d:(b++a).Nodup:=by simpa using d
 have e:∀ j∈a,st.nr≤j:=fun j hj=>Nat.le_of_ble_eq_true (List.all_eq_true.1 e j hj)
 intro w hiv
 rw [hd]
 refine leaves_cons o (hi w) ?_
 obtain ⟨K1,hk1,hk2⟩:=hiv.kn
 refine CallsD.mono (g K1 w (hiv.own.views d m hlen hW) (hk2.views m hW)) ?_
 rintro en u2 w' ⟨rfl,x,K',hx,rfl,ho',hf',hn',hx',hk'⟩
 exact h x hx w' (hiv.after hk1 hk2 hx' hk' d e hW (p x) ho' hf' hn')
theorem fS {b:Func} {HR HW:HP} {X:Type} {φ:X→Prop} {e:X→Ending} {HW' HN:X→HP} {K:Nat→Prop} {w:World} (x:X) (v:Vl) (a:List Nat) (hr:∀ w,Own st.H w→(results b st.ts.toArray).run P w = .ok v w) (c:Ending.returned v=e x:=by rfl) (d:φ x:=by trivial) (h:(st.ds.isEmpty,st.nr,st.H.take (HR.length+HW.length),(HW' x).length,a.map (fun i=>st.H[i]?),(a.all fun j=>(HR.length+HW.length).ble j),decide a.Nodup) =
 (true,HR.length,HR++HW' x,HW.length,(HN x).map some,true,true):=by kernel_rfl):LW P b (TriPost K HR HW φ e HW' HN w) .returning K w (lv HW) st:=by
 simp only [Prod.mk.injEq] at h
 obtain ⟨hd,hm,hp,ha,hN,hi,hnd⟩:=h
 have hd:st.ds=[]:=by simpa using hd
 intro w1 hi1
 rw [hd]
 exact ⟨v,hr w1 hi1.own,TriPost.mk x a d c hm hp ha hN hi hnd w1 hi1⟩
theorem fN {a:Func} {ts:List Vl} {H:HP} (v:Vl) (j:Nat) (h:((cU P H[j]? (results a ts.toArray)).map (·.1),((cU P H[j]? (results a ts.toArray)).map (·.2.map (·.1))))=(some v,((cU P H[j]? (results a ts.toArray)).map (·.2.map (·.2)))):=by kernel_rfl):∀ w,Own H w→(results a ts.toArray).run P w = .ok v w:=by
 simp only [Prod.mk.injEq] at h
 obtain ⟨hv,he⟩:=h
 intro w ho
 rw [Option.map_eq_some_iff] at hv
 obtain ⟨⟨u,eqs⟩,h1,rfl⟩:=hv
 rw [h1] at he
 simp only [Option.map_some,Option.some.injEq] at he
 exact iL (fun b s hb hl=>ho.at_ j b s hb hl) _ _ _ h1 (lW he)
end
attribute [irreducible] cZ jG mh kh oV kK mS jI kB l2 jK pX lG iF kV jD cO dg cU uv nQ lK pZ ev sg after dn fu co gO e8 GW QT ix jm Alike lP
end Go.Proofs.YtlkeemedalncoaaGreat.En
