/- TopHandles, part 13: no condition. -/
import Derived.Test.YtlkeemedalncoaaGreatP12
set_option linter.all false
set_option maxHeartbeats 16000000
set_option maxRecDepth 100000
namespace Go.Proofs.YtlkeemedalncoaaGreat.En
open Go Go.RowKit Go.Proofs.YtlkeemedalncoaaGreat Go.Proofs.Tryz
structure Gone (es vs:List MapEntry):Prop where
 sub:∀ e∈vs,e∈es
 nd:(vs.map (·.born)).Nodup
theorem Gone.nil (a:List MapEntry):Gone a []:=⟨fun e h=>(List.not_mem_nil h).elim,List.nodup_nil⟩
theorem Gone.add {c vs:List MapEntry} (h:Gone c vs) {e:MapEntry} (d:e∈c) (f:e.born∉vs.map (·.born)):Gone c (vs++[e]):=by
 refine ⟨fun x hx=>?_,?_⟩
 · rcases List.mem_append.1 hx with hx | hx
   · exact h.sub x hx
   · rw [List.mem_singleton.1 hx];exact d
 · rw [List.map_append,List.nodup_append]
   refine ⟨h.nd,by simp,?_⟩
   intro a ha b hb
   simp at hb
   subst hb
   intro hab
   subst hab
   exact f ha
theorem mE {α β:Type} (f:α→β) {l:List α} (h:(l.map f).Nodup):l.Nodup:=by
 induction l with
 | nil=>exact List.nodup_nil
 | cons a l ih=>
  rw [List.map_cons,List.nodup_cons] at h
  rw [List.nodup_cons]
  exact ⟨fun hm=>h.1 (List.mem_map_of_mem hm),ih h.2⟩
theorem Gone.all {c vs:List MapEntry} (h:Gone c vs) (b:(c.map (·.born)).Nodup) (ha:∀ e∈c,e.born∈vs.map (·.born)):vs.Perm c:=by
 refine (List.perm_ext_iff_of_nodup (mE _ h.nd) (mE _ b)).2 fun e=>⟨h.sub e,fun he=>?_⟩
 obtain ⟨x,hx,hxe⟩:=List.mem_map.1 (ha e he)
 have d:=h.sub x hx
 obtain ⟨i,hi,e1⟩:=List.mem_iff_getElem.1 d
 obtain ⟨j,hj,e2⟩:=List.mem_iff_getElem.1 he
 have:i=j:=r6 b (a:=x.born) (by rw [List.getElem?_map,List.getElem?_eq_getElem hi,e1];rfl) (by rw [List.getElem?_map,List.getElem?_eq_getElem hj,e2,hxe];rfl)
 subst this
 rw [e1] at e2
 subst e2
 exact hx
def gM (es vs:List MapEntry):Nat:=(es.filter fun e=>!(vs.map (·.born)).contains e.born).length
theorem xa {α:Type} {p q:α→Bool} {l:List α} (h:∀ x,q x=true→p x=true) {a:α} (ha:a∈l) (c:p a=true) (d:q a=false):(l.filter q).length<(l.filter p).length:=by
 have b:∀ l:List α,(l.filter q).length≤(l.filter p).length:=by
  intro l
  induction l with
  | nil=>exact Nat.le_refl _
  | cons x l ih=>
   by_cases hqx:q x=true
   · simp [hqx,h x hqx,ih]
   · by_cases hpx:p x=true <;> simp [hqx,hpx] <;> omega
 induction l with
 | nil=>cases ha
 | cons x l ih=>
  rcases List.mem_cons.1 ha with rfl | ha
  · have:=b l
    simp [c,d]
    omega
  · have:=ih ha
    by_cases hqx:q x=true
    · simp [hqx,h x hqx,this]
    · by_cases hpx:p x=true <;> simp [hqx,hpx] <;> omega
theorem mL (a:List MapEntry):gM a []=a.length:=by
 unfold gM
 rw [List.filter_eq_self.2 (by simp)]
theorem jC {a vs:List MapEntry} {e:MapEntry} (c:e∈a) (b:e.born∉vs.map (·.born)):gM a (vs++[e])<gM a vs:=by
 refine xa (fun x hx=>?_) c ?_ ?_
 · simp at hx ⊢
   exact hx.1
 · simp at b ⊢
   exact b
 · simp
def gY (v:Vl):Nat:=
 match v with
 | .int _ n=>n.toNat
 | _=>0
abbrev rX:Type:=List MapEntry×Vl×Nat×SB
theorem xB {b vs:List MapEntry} {l:List (Nat×Vl)} (a:b.map (fun e=>(e.key,e.val))=l.map (fun p=>(eK .u32 p.1,p.2))) (c:vs.Perm b):(vs.map fun e=>gY e.key).Perm (l.map (·.1))∧vs.map (·.key)=(vs.map fun e=>gY e.key).map cr:=by
 have h1:b.map (fun e=>gY e.key)=l.map (·.1):=by
  have:=congrArg (List.map fun p:Value×Value=>gY p.1) a
  simpa [Function.comp_def,gY] using this
 have h2:∀ e∈b,e.key=cr (gY e.key):=by
  intro e he
  have:(e.key,e.val)∈l.map (fun p=>(eK .u32 p.1,p.2)):=by rw [← a];exact List.mem_map_of_mem (f:=fun e:MapEntry=>(e.key,e.val)) he
  obtain ⟨p,_,c⟩:=List.mem_map.1 this
  injection c with hk _
  rw [← hk]
  simp [gY]
 refine ⟨by rw [← h1];exact c.map _,?_⟩
 rw [List.map_map]
 exact List.map_congr_left fun e he=>h2 e (c.mem_iff.1 he)
theorem DY {b:List MapEntry} {l:List (Nat×Vl)} (a:b.map (fun e=>(e.key,e.val))=l.map (fun p=>(eK .u32 p.1,p.2))) {e:MapEntry} (c:e∈b):∃ p∈l,e.key=cr p.1∧e.val=p.2:=by
 have:(e.key,e.val)∈l.map (fun p=>(eK .u32 p.1,p.2)):=by rw [← a];exact List.mem_map_of_mem (f:=fun e:MapEntry=>(e.key,e.val)) c
 obtain ⟨p,hp,h⟩:=List.mem_map.1 this
 injection h with h1 h2
 exact ⟨p,hp,h1.symm,h2.symm⟩
theorem ui (m:Nat) (l:List (Nat×Vl)) (i:l.length≤12) :
 TT 226 #[.map (some m)] [(m,.pr (MU l))] [] (fun x:List Nat×Vl×Nat×SB=>x.1.Perm (l.map (·.1))∧(∀ p q,p<q→q<x.1.length→x.1.getD p 0≤x.1.getD q 0)∧SlE 37 1 x.1.length (x.1.map cr) x.2.1 (x.2.2.1,x.2.2.2)) (fun x=>.returned x.2.1) (fun _=>[]) (fun x=>[(x.2.2.1,x.2.2.2)]):=by
 refine cJ func226 (by kernel_rfl) fun w0 ho=>iT 0 m (MU l) (by kernel_rfl) fun o hm=>?_
 obtain ⟨es,clock,rfl,hes,hnd,hck⟩:=hm
 refine zE<|xE (fj (t:=196) (kt:=37) (et:=4) underlying196 m es clock hck) [0] [] fun x _=>zE<|lV<|cY (X:=rX) (fun x=>x.1.length+gM es.toList x.1≤12∧Gone es.toList x.1∧SlE 37 1 x.1.length (x.1.map (·.key)) x.2.1 (x.2.2.1,x.2.2.2)) (fun x=>gM es.toList x.1) 18 (fun y=>[(6,bi x),(3,y.2.1)]) (fun y=>[(m,.ob (.map es clock)),(x,.pr (fW m es clock y.1)),(y.2.2.1,y.2.2.2)]) ([],.slice none 0 0,0,.dead) (by kernel_rfl) ⟨by rw [mL];have:=congrArg List.length hes;simp at this ⊢;omega,Gone.nil _,SlE.nil 37 1⟩ fun ⟨vs,v,b,sb⟩ u J hpre back=>?_
 have w:vs.length+gM es.toList vs≤12:=hpre.1
 have j:Gone es.toList vs:=hpre.2.1
 have c:SlE 37 1 vs.length (vs.map (·.key)) v (b,sb):=hpre.2.2
 clear hpre
 refine zE<|xE (el 0 x m es clock vs) [0] [1] fun x1 ⟨hx,hx1⟩=>?_
 rcases x1 with _ | e
 · simp only [Option.toList_none,List.append_nil]
   have f:=j.all hnd (hx rfl)
   obtain ⟨hk1,hk2⟩:=xB hes f
   have g:vs.length=(vs.map fun e=>gY e.key).length:=by simp
   rw [hk2,g] at c
   generalize (vs.map fun e=>gY e.key)=L0 at c hk1
   have n:L0.length≤12:=by rw [hk1.length_eq];simpa using i
   clear back hk2 g f j hx hx1
   have a:∀ o,(SB.ob (.map es clock)).ok o→(SB.pr (MU l)).ok o:=fun o ho=>⟨es,clock,ho,hes,hnd,hck⟩
   rcases c with ⟨rfl,h0,h1,rfl⟩ | ⟨cap,rfl,rfl⟩
   · refine bj [0]<|bv (Hc none 0) [] []<|zE ?_
     have h0:L0=[]:=List.eq_nil_of_length_eq_zero h0
     subst h0
     exact lE 0 m (.ob (.map es clock)) (.pr (MU l)) a<|rT (([]:List Nat),.slice none 0 0,b,.dead) 9999 [2] rfl ⟨hk1,fun p q h1 h2=>by simp at h2,.inl ⟨rfl,rfl,rfl,rfl⟩⟩
   · refine bj [0]<|cE (EA b L0.length cap L0 (by with_reducible rfl) n) [] [2] fun x1 ⟨hx,hx1⟩=>zE<|lE 0 m (.ob (.map es clock)) (.pr (MU l)) a ?_
     have h:x1.length=L0.length:=hx.length_eq
     exact rT (x1,sA b L0.length cap,b,.pr (bn 37 1 L0.length cap (List.map cr x1))) 9999 [2] rfl ⟨hx.trans hk1,fun p q h1 h2=>hx1 p q h1 (by dsimp only at h2;omega),.inr ⟨cap,by dsimp only;rw [h],by dsimp only;rw [h]⟩⟩
 · simp only [Option.toList_some]
   obtain ⟨he,hnb⟩:=hx1 e rfl
   have r:=jC he hnb
   have s:=j.add he hnb
   obtain ⟨ek,ev,eb⟩:=e
   obtain ⟨p,hp,d,-⟩:=DY hes he
   have d:ek=cr p.1:=d
   subst d
   exact bj [0]<|rE (eH x m es clock vs ({key:=cr (Prod.fst p),val:=ev,born:=eb}) he hnd) [0,1]<|bu [9999] 1 fun nm=>iI (j0 (t:=45) (e:=37) (ty:=45) (k:=1) (by_:=4) (z:=u32 0) underlying45 v b sb vs.length (List.map (fun x ↦ MapEntry.key x) vs) c (nm 0) 1 1 ([u32 ↑(Prod.fst p)])) [3] [2] (Views.less (.cl [u32 ↑(Prod.fst p)] 37) bA Views.nil) fun ⟨x1,x2,x3,x4⟩ hx2=>zE<|wE [0,1,4] 1 [(m,.ob (Obj.map es clock)),(x,.pr (fW m es clock (vs++[{key:=cr (Prod.fst p),val:=ev,born:=eb}]))),(x3,x4)]<|back _ (vs++[⟨cr p.1,ev,eb⟩],.slice x1 (vs.length+1) x2,x3,x4) ⟨by dsimp only;rw [List.length_append];simp only [List.length_cons,List.length_nil];omega,s,by have:=hx2;simpa using this⟩ r (by kernel_rfl)
def dW (v:Vl):Nat×Nat:=
 match v with
 | .agg a=>match a.toList with
  | [.int _ x,.int _ y]=>(x.toNat,y.toNat)
  | _=>(0,0)
 | _=>(0,0)
theorem Ad (k:Nat×Nat):dW (eW k)=k:=by simp [dW,eW]
def cg (t:Nat) (ks:List (Nat×Nat)):List Nat:=(ks.filter fun k=>k.1==t).map (·.2)
theorem vP (t:Nat) (ks:List (Nat×Nat)) (k:Nat×Nat):cg t (ks++[k])=if k.1=t then cg t ks++[k.2] else cg t ks:=by
 unfold cg
 by_cases h:k.1=t <;> simp [h]
theorem yx {a vs:List MapEntry} {l:List ((Nat×Nat)×Vl)} {ks:List (Nat×Nat)} (b:a.map (fun e=>(e.key,e.val))=l.map (fun p=>(eW p.1,p.2))) (d:vs.Perm a) (c:vs.map (·.key)=ks.map eW):ks.Perm (l.map (·.1)):=by
 have h1:(a.map (·.key)).map dW=l.map (·.1):=by
  have:=congrArg (List.map fun p:Value×Value=>dW p.1) b
  simpa [Function.comp_def,Ad] using this
 have h2:(vs.map (·.key)).map dW=ks:=by rw [c,List.map_map];simp [Function.comp_def,Ad]
 rw [← h1,← h2]
 exact (d.map _).map _
theorem vg {l G:List Nat} (h:l.Perm G) (a:G.length≤1):l=G:=by
 match G,a with
 | [],_=>exact h.eq_nil
 | [g],_=>exact List.perm_singleton.1 h
abbrev mV:Nat→Vl:=fun n=>.int .u16 (n:Int)
theorem AX {b:List MapEntry} {l:List ((Nat×Nat)×Vl)} (a:b.map (fun e=>(e.key,e.val))=l.map (fun p=>(eW p.1,p.2))) {e:MapEntry} (c:e∈b):∃ p∈l,e.key=eW p.1∧e.val=p.2:=by
 have:(e.key,e.val)∈l.map (fun p=>(eW p.1,p.2)):=by rw [← a];exact List.mem_map_of_mem (f:=fun e:MapEntry=>(e.key,e.val)) c
 obtain ⟨p,hp,h⟩:=List.mem_map.1 this
 injection h with h1 h2
 exact ⟨p,hp,h1.symm,h2.symm⟩
theorem rM (r m t:Nat) (l:List ((Nat×Nat)×Vl)) (F:l.length≤1000) (G:List Nat) (E:cg t (l.map (·.1))=G) (A:G.length≤1) :
 TT 48 #[bi r,u32 t] [(r,.cl [.map (some m)] 182),(m,.pr (bB eW l))] [] (fun x:Vl×Nat×SB=>SlE 68 1 G.length (G.map mV) x.1 (x.2.1,x.2.2)) (fun x=>.returned x.1) (fun _=>[]) (fun x=>[(x.2.1,x.2.2)]):=by
 refine cJ func48 (by kernel_rfl) fun w0 ho=>iT 1 m (bB eW l) (by kernel_rfl) fun o hm=>?_
 obtain ⟨es,clock,rfl,hes,hnd,hck⟩:=hm
 have a:∀ o,(SB.ob (.map es clock)).ok o→(SB.pr (bB eW l)).ok o:=fun o ho=>⟨es,clock,ho,hes,hnd,hck⟩
 refine bj [0,0,0]<|xE (fj (t:=180) (kt:=187) (et:=27) underlying180 m es clock hck) [1] [] fun x _=>zE<|lV<|cY (X:=List (Nat×Nat)×List MapEntry×Vl×Nat×SB) (fun y=>y.2.1.length+gM es.toList y.2.1≤1000∧Gone es.toList y.2.1∧y.2.1.map (·.key)=y.1.map eW∧SlE 68 1 (cg t y.1).length ((cg t y.1).map mV) y.2.2.1 (y.2.2.2.1,y.2.2.2.2)) (fun y=>gM es.toList y.2.1) 30 (fun y=>[(1,u32 t),(13,bi x),(5,y.2.2.1)]) (fun y=>[(r,.cl [.map (some m)] 182),(m,.ob (.map es clock)),(x,.pr (fW m es clock y.2.1)),(y.2.2.2.1,y.2.2.2.2)]) ([],[],.slice none 0 0,0,.dead) (by kernel_rfl) ⟨by rw [mL];have:=congrArg List.length hes;simp at this ⊢;omega,Gone.nil _,rfl,SlE.nil 68 1⟩ fun ⟨ks,vs,v,b,sb⟩ u J hpre back=>?_
 have j:vs.length+gM es.toList vs≤1000:=hpre.1
 have B:Gone es.toList vs:=hpre.2.1
 have c:vs.map (·.key)=ks.map eW:=hpre.2.2.1
 have f:SlE 68 1 (cg t ks).length ((cg t ks).map mV) v (b,sb):=hpre.2.2.2
 clear hpre
 refine zE<|xE (el 0 x m es clock vs) [1] [2] fun x1 ⟨hx,hx1⟩=>?_
 rcases x1 with _ | e
 · simp only [Option.toList_none,List.append_nil]
   have n:=B.all hnd (hx rfl)
   have p:=yx hes n c
   have q:cg t ks=G:=vg (by rw [← E];unfold cg;exact (p.filter _).map _) A
   rw [q] at f
   clear back n B hx hx1 p c q j
   rcases f with ⟨rfl,h0,h1,rfl⟩ | ⟨cap,rfl,rfl⟩
   · exact bj [0]<|bv (D4 none 0) [] []<|zE<|lE 1 m (.ob (.map es clock)) (.pr (bB eW l)) a<|rT (.slice none 0 0,b,.dead) 9999 [3] rfl (.inl ⟨rfl,h0,h1,rfl⟩)
   · have d:G.length=0∨G.length=1:=by omega
     rcases d with d | d
     · have C:G=[]:=List.eq_nil_of_length_eq_zero d
       subst C
       exact bj [0]<|bv (D4 (pA b) cap) [] []<|zE<|lE 1 m (.ob (.map es clock)) (.pr (bB eW l)) a<|rT (sA b 0 cap,b,.pr (bn 68 1 0 cap [])) 9999 [3] rfl (.inr ⟨cap,rfl,rfl⟩)
     · obtain ⟨g,rfl⟩:=List.length_eq_one_iff.1 d
       exact bj [0]<|bv (Ie (pA b) cap) [] []<|zE<|lE 1 m (.ob (.map es clock)) (.pr (bB eW l)) a<|rT (sA b 1 cap,b,.pr (bn 68 1 1 cap [mV g])) 9999 [3] rfl (.inr ⟨cap,rfl,rfl⟩)
 · simp only [Option.toList_some]
   obtain ⟨he,hnb⟩:=hx1 e rfl
   have s:=jC he hnb
   have w:=B.add he hnb
   obtain ⟨ek,ev,eb⟩:=e
   obtain ⟨⟨⟨k1,k2⟩,pv⟩,hp,i,-⟩:=AX hes he
   have i:ek = .agg #[u32 k1,u16 k2]:=i
   subst i
   have h:=vP t ks (k1,k2)
   have D:(cg t ks).length≤1000000:=by
    have h1:vs.length=ks.length:=by have:=congrArg List.length c;simpa using this
    have h2:(cg t ks).length≤ks.length:=by unfold cg;rw [List.length_map];exact List.length_filter_le _ _
    omega
   by_cases hkt:k1=t
   · have h1:((k1:Int)==(t:Int))=true:=by simp [hkt]
     rw [if_pos hkt] at h
     refine bj [0]<|rE (eH x m es clock vs ({key:=.agg #[u32 k1,u16 k2],val:=ev,born:=eb}) he hnd) [1,2]<|fe [4,4,1,0,4,9999] 2 _ (br h1 bt) fun nm=>⟨by kernel_rfl,?_⟩
     exact iI (j0 (t:=136) (e:=68) (ty:=136) (k:=1) (by_:=2) (z:=u16 0) underlying136 v b sb (List.length (cg t ks)) (List.map mV (cg t ks)) f (nm 1) 1 1 ([u16 k2]) (by kernel_rfl) (by kernel_rfl) (by kernel_rfl) (by omega) rfl rfl D) [5] [3] (Views.less (.cl [u16 k2] 68) bA Views.nil) fun ⟨x1,x2,x3,x4⟩ hx2=>zE<|wE [0,1,2,6] 2 [(r,.cl [.map (some m)] 182),(m,.ob (Obj.map es clock)),(x,.pr (fW m es clock (vs++[{key:=.agg #[u32 k1,u16 k2],val:=ev,born:=eb}]))),(x3,x4)]<|back _ (ks++[(k1,k2)],vs++[⟨.agg #[u32 k1,u16 k2],ev,eb⟩],.slice x1 ((cg t ks).length+1) x2,x3,x4) ⟨by dsimp only;rw [List.length_append];simp only [List.length_cons,List.length_nil];omega,w,by simp [c,eW],by dsimp only;rw [h];have:=hx2;simpa using this⟩ s (by kernel_rfl)
   · have h1:((k1:Int)==(t:Int))=false:=by simp;omega
     rw [if_neg hkt] at h
     refine bj [0]<|rE (eH x m es clock vs ({key:=.agg #[u32 k1,u16 k2],val:=ev,born:=eb}) he hnd) [1,2]<|fe [4,4,2,0] 1 _ (br h1 bt) fun nm=>⟨by kernel_rfl,?_⟩
     exact wE [0,1,2,3] 2 [(r,.cl [.map (some m)] 182),(m,.ob (Obj.map es clock)),(x,.pr (fW m es clock (vs++[{key:=.agg #[u32 k1,u16 k2],val:=ev,born:=eb}]))),(b,sb)]<|back _ (ks++[(k1,k2)],vs++[⟨.agg #[u32 k1,u16 k2],ev,eb⟩],v,b,sb) ⟨by dsimp only;rw [List.length_append];simp only [List.length_cons,List.length_nil];omega,w,by simp [c,eW],by dsimp only;rw [h];exact f⟩ s (by kernel_rfl)
theorem SlE.one {e:TypeId} {x v:Vl} {b:Nat} {sb:SB} (h:SlE e 1 1 [x] v (b,sb)):∃ cap,v=sA b 1 cap∧sb = .pr (bn e 1 1 cap [x]):=by
 rcases h with ⟨_,h0,_⟩ | h
 · omega
 · exact h
theorem oy (r m t g:Nat) (l:List ((Nat×Nat)×Vl)) (b:l.length≤1000) (c:cg t (l.map (·.1))=[g]) :
 TT 459 #[bi r,u32 t] [(r,.cl [.map (some m)] 182),(m,.pr (bB eW l))] [] uT (fun x=>.returned (.tuple #[u16 g,i64 0])) (fun _=>[]) (fun _=>[]):=by
 refine cJ func459 (by kernel_rfl) fun w0 ho=>?_
 have a:[g].length≤1:=Nat.le_refl _
 refine bj [0,0]<|cE (rM r m t l b ([g]) c a) [0,1] [] fun ⟨x,x1,x2⟩ hx=>?_
 dsimp only at hx
 obtain ⟨cap,rfl,rfl⟩:=SlE.one (x:=mV g) hx
 exact bj [0,0,9999]<|rE (cx (T:=68) (e:=68) x1 0 1 1 cap ([mV g]) (mV g)) [2]<|zE<|rT ()
abbrev kX (c p rc rg lv g n:Nat):Vl:=.agg #[u64 (c:Int),u32 (p:Int),u64 (rc:Int),u16 (rg:Int),u8 (lv:Int),u16 (g:Int),u32 (n:Int)]
theorem rv (c p rc rg g n:Nat) (hc:0<c) :
 TT 269 #[kX c p rc rg 0 g n] [] [] uT (fun x=>.returned (i64 0)) (fun _=>[]) (fun _=>[]):=by
 refine cJ func269 (by kernel_rfl) fun w0 ho=>?_
 rcases Decidable.em ((p:Int)=0∧(rc:Int)=0∧(rg:Int)=0) with hz | hz
 · refine fe [9999,9999,1,0,2,0,0,0,1] 2 _ (br (show ((↑c:Int)==0)=false by (simp;omega)) bt) fun nm=>⟨by kernel_rfl,?_⟩
   exact rE (zK (Operand.tmp 17) (Operand.tmp 18) ((↑p:Int)) ((↑rc:Int)) ((↑rg:Int)) 0 0 0 hz) []<|bj [0,0,0]<|rT ()
 · refine fe [9999,9999,1,0,2,0,0,0,1] 2 _ (br (show ((↑c:Int)==0)=false by (simp;omega)) bt) fun nm=>⟨by kernel_rfl,?_⟩
   exact rE (zL (Operand.tmp 17) (Operand.tmp 18) ((↑p:Int)) ((↑rc:Int)) ((↑rg:Int)) 0 0 0 hz) []<|bj [0]<|rT ()
def bO (c p rc rg lv g n:Nat):Bs:=(be c 8++be p 4++be rc 8++be rg 2++be lv 1++be g 2++be n 4)++List.replicate 195 0
theorem fd (c p rc rg lv g n:Nat):(bO c p rc rg lv g n).length=224:=by
 unfold bO
 rw [List.length_append,List.length_replicate]
 simp [cc]
theorem Io (c p rc rg g n:Nat) (h0:0<c) (hc:c<18446744073709551616) (f:p<4294967296) (a:rc<18446744073709551616) (d:rg<65536) (h:g<65536) (i:n<4294967296) :
 TT 401 #[kX c p rc rg 0 g n] [] [] (fun _:Nat×Nat=>True) (fun x=>.returned (.tuple #[sA x.1 224 x.2,i64 0])) (fun _=>[]) (fun x=>[(x.1,.fa (BF (pA x.1) 224 x.2 (bO c p rc rg 0 g n)))]):=by
 have b:=fd c p rc rg 0 g n
 unfold bO at b ⊢
 refine iE func401<|bu [9999,0] 1 fun nm=>bv (rv c p rc rg g n h0) [] []<|bu [0,0,0,1,0,9999,1,9999,9999,1,9999,1,9999,9999,0,9999,9999,0,9999,9999,0,9999,9999,9999,8,0,0,9999,2,3,3,3] 3 fun nm1=>qE 2 (nm1 1) (.cl [u64 c,i64 8,u64 (IntKind.wrap .u64 p),i64 4,u64 rc,i64 8,u64 (IntKind.wrap .u64 rg),i64 2,u64 0,i64 1,u64 (IntKind.wrap .u64 g),i64 2,u64 (IntKind.wrap .u64 n),i64 4] 521) (.cl [u64 c,i64 8,u64 p,i64 4,u64 rc,i64 8,u64 rg,i64 2,u64 0,i64 1,u64 g,i64 2,u64 n,i64 4] 521) (by rw [show IntKind.wrap .u64 p=(↑p:Int) from (dj),show IntKind.wrap .u64 rg=(↑rg:Int) from (dj),show IntKind.wrap .u64 g=(↑g:Int) from (dj),show IntKind.wrap .u64 n=(↑n:Int) from (dj)])<|cE (gr c 8 hc) [] [] fun ⟨x,x1⟩ _=>fE 4 x (bn 5 1 8 x1 (List.map B8 (be c 8))) bx fun hc1=>zE<|xV (gT x 0 8 x1 (be c 8)) [4] [] (Views.less (.pr (bn 5 1 8 x1 (List.map B8 (be c 8)))) ci Views.nil) fun ⟨x2,x3⟩ _=>fE 5 x2 (bn 5 1 8 x3 (List.map B8 (be c 8))) bx fun hc2=>bu [0,0,9999,2,6,6,6] 1 fun nm2=>?_
 refine cE (gr p 4) [] [] fun ⟨x4,x5⟩ _=>fE 7 x4 (bn 5 1 4 x5 (List.map B8 (be p 4))) bx fun hc3=>zE<|xV (dy x2 8 x3 x4 0 4 x5 (be c 8) (be p 4)) [7] [5] (Views.less (.pr (bn 5 1 4 x5 (List.map B8 (be p 4)))) ci Views.nil) fun ⟨x6,x7⟩ _=>fE 8 x6 (bn 5 1 (8+4) x7 (List.map B8 (be c 8++be p 4))) bx fun hc4=>bu [0,0,9999,2,9,9,9] 1 fun nm3=>cE (gr rc 8 a) [] [] fun ⟨x8,x9⟩ _=>fE 10 x8 (bn 5 1 8 x9 (List.map B8 (be rc 8))) bx fun hc5=>zE<|xV (dy x6 12 x7 x8 0 8 x9 (be c 8++be p 4) (be rc 8)) [10] [8] (Views.less (.pr (bn 5 1 8 x9 (List.map B8 (be rc 8)))) ci Views.nil) fun ⟨x10,x11⟩ _=>fE 11 x10 (bn 5 1 (12+8) x11 (List.map B8 (be c 8++be p 4++be rc 8))) bx fun hc6=>?_
 refine bu [0,0,9999,2,12,12,12] 1 fun nm4=>cE (gr rg 2) [] [] fun ⟨x12,x13⟩ _=>fE 13 x12 (bn 5 1 2 x13 (List.map B8 (be rg 2))) bx fun hc7=>zE<|xV (dy x10 20 x11 x12 0 2 x13 (be c 8++be p 4++be rc 8) (be rg 2)) [13] [11] (Views.less (.pr (bn 5 1 2 x13 (List.map B8 (be rg 2)))) ci Views.nil) fun ⟨x14,x15⟩ _=>fE 14 x14 (bn 5 1 (20+2) x15 (List.map B8 (be c 8++be p 4++be rc 8++be rg 2))) bx fun hc8=>bu [0,0,9999,2,15,15,15] 1 fun nm5=>cE (gr 0 1 (by omega) (by omega) (by omega) (fun w=>by kernel_rfl)) [] [] fun ⟨x16,x17⟩ _=>fE 16 x16 (bn 5 1 1 x17 (List.map B8 (be 0 1))) bx fun hc9=>zE<|xV (dy x14 22 x15 x16 0 1 x17 (be c 8++be p 4++be rc 8++be rg 2) (be 0 1)) [16] [14] (Views.less (.pr (bn 5 1 1 x17 (List.map B8 (be 0 1)))) ci Views.nil) ?_
 rintro ⟨x18,x19⟩ _
 refine fE 17 x18 (bn 5 1 (22+1) x19 (List.map B8 (be c 8++be p 4++be rc 8++be rg 2++be 0 1))) bx fun hc10=>bu [0,0,9999,2,18,18,18] 1 fun nm6=>cE (gr g 2) [] [] fun ⟨x20,x21⟩ _=>fE 19 x20 (bn 5 1 2 x21 (List.map B8 (be g 2))) bx fun hc11=>zE<|xV (dy x18 23 x19 x20 0 2 x21 (be c 8++be p 4++be rc 8++be rg 2++be 0 1) (be g 2)) [19] [17] (Views.less (.pr (bn 5 1 2 x21 (List.map B8 (be g 2)))) ci Views.nil) fun ⟨x22,x23⟩ _=>fE 20 x22 (bn 5 1 (23+2) x23 (List.map B8 (be c 8++be p 4++be rc 8++be rg 2++be 0 1++be g 2))) bx fun hc12=>bu [0,0,9999,2,21,21,21] 1 fun nm7=>cE (gr n 4) [] [] fun ⟨x24,x25⟩ _=>fE 22 x24 (bn 5 1 4 x25 (List.map B8 (be n 4))) bx fun hc13=>zE ?_
 exact xV (dy x22 25 x23 x24 0 4 x25 (be c 8++be p 4++be rc 8++be rg 2++be 0 1++be g 2) (be n 4)) [22] [20] (Views.less (.pr (bn 5 1 4 x25 (List.map B8 (be n 4)))) ci Views.nil) fun ⟨x26,x27⟩ _=>fE 23 x26 (bn 5 1 (25+4) x27 (List.map B8 (be c 8++be p 4++be rc 8++be rg 2++be 0 1++be g 2++be n 4))) bx fun hc14=>bj [0,0]<|xE (Ak x26 29 x27 195 (be c 8++be p 4++be rc 8++be rg 2++be 0 1++be g 2++be n 4) (by kernel_rfl) (by omega) (by omega)) [] [23] fun ⟨x28,x29⟩ _=>fE 24 x28 (bn 5 1 (29+195) x29 (List.map B8 (be c 8++be p 4++be rc 8++be rg 2++be 0 1++be g 2++be n 4++List.replicate 195 0))) bx fun hc15=>zE<|eh (e:=5) (n:=29+195) (c:=x29) (l:=be c 8++be p 4++be rc 8++be rg 2++be 0 1++be g 2++be n 4++List.replicate 195 0) 24 x28 (by omega)<|rT ((x28,x29)) 9999 [24]
theorem tg (c p rc rg lv g n:Nat) (hc:c<4294967296) :
 TT 171 #[kX c p rc rg lv g n] [] [] uT (fun x=>.returned (mr 0 4 0 (c%2) c g)) (fun _=>[]) (fun _=>[]):=iE func171<|bu [9999,0,9999,0,0,9999,9999,1] 2 fun nm=>qC 1 (nm 1) (fun z9:Int=>(.cl [u32 0,u8 4,u8 0,u32 z9,u64 c,u16 g] 72)) (show IntKind.wrap .u32 (Int.tmod (↑c:Int) 2)=(↑(c%2):Int) from (jr (ox)))<|rT () 1
theorem Gj (r m d g c p rc rg n kb e kc a N lb:Nat) (lsb:SB) (lv:Vl) (xs:List Vl) (key:Bs) (l:List ((Nat×Nat)×Vl)) (b:lk l (0,g)=some (sO kb e 32 kc)) (f:32=key.length) (h:SlE 502 9 N xs lv (lb,lsb)) (o:N≤1000000)
 (h0:0<c) (hc:c<4294967296) (q:p<4294967296) (i:rc<18446744073709551616) (j:rg<65536) (k:g<65536) (s:n<4294967296) :
 TT 378 #[bi r,bi d,kX c p rc rg 0 g n] [(r,.cl [.map (some m)] 182),(m,.pr (bB eW l)),(a,.fa (BF (pO kb e) 32 kc key))] [(d,.cl [lv] 128),(lb,lsb)]
  (fun x:(Nat×Nat)×(Option Addr×Nat×Nat×SB)=>∃ ys,SlE 502 9 (N+1) ys (.slice x.2.1 (N+1) x.2.2.1) (x.2.2.2.1,x.2.2.2.2)) (fun x=>.returned (.tuple #[sA x.1.1 256 x.1.2,i64 0])) (fun x=>[(d,.cl [.slice x.2.1 (N+1) x.2.2.1] 128),(lb,.dead)]) (fun x=>[(x.1.1,.fa (BF (pA x.1.1) 256 x.1.2 (bI key 0 4 0 (c%2) c g (bO c p rc rg 0 g n)))),(x.2.2.2.1,x.2.2.2.2)]):=by
 have t:=(fd c p rc rg 0 g n).symm
 refine iE func378<|bu [9999,0,0,0,5] 1 fun nm=>cE (Io c p rc rg g n h0 (by omega) q i j k s) [] [] fun ⟨x,x1⟩ _=>bj [0,0,5]<|cE (mn r m 0 g kb e 32 kc a key l b f) [0,1,2] [] fun ⟨x2,x3⟩ _=>bj [0,0,5]<|bv (tg c p rc rg 0 g n hc) [] []<|zE<|fP 7 x2 (BF (pA x2) 32 x3 key) db fun ⟨fl,fc,fm⟩=>cE (xk d x2 0 32 x3 x 0 x1 x2 x 0 4 0 (c%2) c g N lb lsb lv xs key (bO c p rc rg 0 g n) h o (by omega) fl fc (by kernel_rfl) (by omega) (by omega) (by omega) (by omega) (by omega) (by omega) k) [7,6] [3,4] fun ⟨⟨x4,x5⟩,x6,x7,x8,x9⟩ hx=>?_
 try dsimp only at hx
 exact zE<|rT (((x4,x5),x6,x7,x8,x9)) 9999 [8,9]
theorem IZ {h:Func} {ts:List Vl} {H:HP} {d:TypeDesc} (j i b c a k l:Nat) (T U t m:TypeId) {f:List Vl} {u v:Vl} (n:h.results = #[.cell a T,.tmp k,.cell l U]) (e:(ts[a]?,ts[k]?,ts[l]?,H[j]?,H[i]?)=(some (.pointer (pA b)),some u,some (.pointer (pA c)),some (b,.cl f t),some (c,.cl [v] m))) (p:prog.underlying T=some d) (hd:d.isRow=true) (hi:(prog.info? T).map (·.size)=some f.length) (ha:∀ w,(isAgg U).run prog w = .ok false w) :
 ∀ w,Own H w→(results h ts.toArray).run prog w = .ok (.tuple #[.agg f.toArray,u,v]) w:=by
 intro w ho
 simp only [Prod.mk.injEq] at e
 obtain ⟨o,h1,h2⟩:=ho.at_ j b _ e.2.2.2.1 rfl
 obtain ⟨o',h3,h4⟩:=ho.at_ i c _ e.2.2.2.2 rfl
 have q:=iR (P:=prog) h1 (bA o h2) p hd hi
 have hc:w.cell? ⟨c,0,none⟩=some v:=nN (show w.heap[c]?=some (.cells [v].toArray m (0,0)) from by rw [h3];exact congrArg some h4) rfl rfl
 have g:(loadVar U ⟨c,0,none⟩).run prog w = .ok v w:=by
  unfold loadVar
  simp [Sem.run_bind,ha,Result.andThen,Go.load,Sem.run,hc]
 unfold results
 rw [n]
 simp [Sem.run_bind,e.1,e.2.1,e.2.2.1,asAddr,Result.andThen,q,g,Sem.run]
theorem jE (n k m:Nat) (h:k≤m):List.drop m (be n k)=[]:=List.drop_of_length_le (by rw [cc];exact h)
theorem jB (n k m:Nat) (h:k≤m):List.take m (be n k)=be n k:=List.take_of_length_le (by rw [cc];exact h)
theorem wH (c p rc rg lv g n:Nat):∃ Z,Z=List.replicate 195 (0:UInt8)∧bO c p rc rg lv g n=be c 8++(be p 4++(be rc 8++(be rg 2++(be lv 1++(be g 2++(be n 4++Z)))))):=⟨_,rfl,by unfold bO;simp only [List.append_assoc]⟩
theorem HV (b o d a c p rc rg g n:Nat) (h0:0<c) (hc:c<18446744073709551616) (B:p<4294967296) (s:rc<18446744073709551616) (v:rg<65536) (C:g<65536) (D:n<4294967296) :
 TT 172 #[sO b o 224 d] [(a,.fa (BF (pO b o) 224 d (bO c p rc rg 0 g n)))] [] uT (fun x=>.returned (.tuple #[kX c p rc rg 0 g n,i64 0,i64 0])) (fun _=>[]) (fun _=>[]):=by
 have y:=(fd c p rc rg 0 g n).symm
 obtain ⟨Z,hZ,hB⟩:=wH c p rc rg 0 g n
 have h:b8 (List.take 8 (List.drop (0*1) (bO c p rc rg 0 g n)))=c:=by rw [hB];simp [List.take_append,List.drop_append,cc,jE,jB];exact gc c 8
 have e2:b8 (List.take 4 (List.drop (8*1) (bO c p rc rg 0 g n)))%4294967296=p:=by rw [hB];simp [List.take_append,List.drop_append,cc,jE,jB];rw [gc p 4];omega
 have j:b8 (List.take 8 (List.drop (12*1) (bO c p rc rg 0 g n)))=rc:=by rw [hB];simp [List.take_append,List.drop_append,cc,jE,jB];exact gc rc 8
 have l:b8 (List.take 2 (List.drop (20*1) (bO c p rc rg 0 g n)))%65536=rg:=by rw [hB];simp [List.take_append,List.drop_append,cc,jE,jB];rw [gc rg 2];omega
 have m:b8 (List.take 1 (List.drop (22*1) (bO c p rc rg 0 g n)))%256=0:=by rw [hB];simp [List.take_append,List.drop_append,cc,jE,jB];rw [gc 0 1]
 have q:b8 (List.take 2 (List.drop (23*1) (bO c p rc rg 0 g n)))%65536=g:=by rw [hB];simp [List.take_append,List.drop_append,cc,jE,jB];rw [gc g 2];omega
 have r:b8 (List.take 4 (List.drop (25*1) (bO c p rc rg 0 g n)))%4294967296=n:=by rw [hB];simp [List.take_append,List.drop_append,cc,jE,jB];rw [gc n 4];omega
 have z:∀ i,29≤i→(bO c p rc rg 0 g n).getD i 0=0:=by
  intro i hi
  unfold bO
  rw [List.getD_eq_getElem?_getD,List.getElem?_append_right (by simp [cc];omega),List.getElem?_replicate]
  split <;> rfl
 clear hB hZ
 refine iE func172<|bu [9999,1,0,0] 3 fun nm=>eA (args:=#[i64 8,bi (nm 0),bi (nm 2)]) func268<|bj [1,3,3]<|fP 0 a (BF (pO b o) 224 d (bO c p rc rg 0 g n)) db fun ⟨fl,fc,fm⟩=>rE (gR (t:=27) (e:=5) (k:=1) underlying27 b o 224 d 0 8) []<|cV (gm b (o+0*1) 8 (d-0) a (List.take 8 (List.drop (0*1) (bO c p rc rg 0 g n)))) [0] [] (Views.fact (a:=a) (BF (pO b o) 224 d (bO c p rc rg 0 g n)) (by kernel_rfl) (cF (0*1) 8 (d-0)) Views.nil) fun _ _=>bj [3,3]<|eC (u64 ↑(b8 (List.take 8 (List.drop (0*1) (bO c p rc rg 0 g n))))) 9999<|bj [2]<|eA (args:=#[i64 4,bi (nm 0),bi (nm 2)]) func268 ?_
 refine bj [1,3,3]<|rE (gR (t:=27) (e:=5) (k:=1) underlying27 b o 224 d 8 12) []<|cV (gm b (o+8*1) 4 (d-8) a (List.take 4 (List.drop (8*1) (bO c p rc rg 0 g n)))) [0] [] (Views.fact (a:=a) (BF (pO b o) 224 d (bO c p rc rg 0 g n)) (by kernel_rfl) (cF (8*1) 4 (d-8)) Views.nil) fun _ _=>bj [3,3]<|eC (u64 ↑(b8 (List.take 4 (List.drop (8*1) (bO c p rc rg 0 g n))))) 9999<|bj [9999]<|eA (args:=#[i64 8,bi (nm 0),bi (nm 2)]) func268<|bj [1,3,3]<|rE (gR (t:=27) (e:=5) (k:=1) underlying27 b o 224 d 12 20) []<|cV (gm b (o+12*1) 8 (d-12) a (List.take 8 (List.drop (12*1) (bO c p rc rg 0 g n)))) [0] [] (Views.fact (a:=a) (BF (pO b o) 224 d (bO c p rc rg 0 g n)) (by kernel_rfl) (cF (12*1) 8 (d-12)) Views.nil) fun _ _=>bj [3,3] ?_
 refine eC (u64 ↑(b8 (List.take 8 (List.drop (12*1) (bO c p rc rg 0 g n))))) 9999<|zE<|eA (args:=#[i64 2,bi (nm 0),bi (nm 2)]) func268<|bj [1,3,3]<|rE (gR (t:=27) (e:=5) (k:=1) underlying27 b o 224 d 20 22) []<|cV (gm b (o+20*1) 2 (d-20) a (List.take 2 (List.drop (20*1) (bO c p rc rg 0 g n)))) [0] [] (Views.fact (a:=a) (BF (pO b o) 224 d (bO c p rc rg 0 g n)) (by kernel_rfl) (cF (20*1) 2 (d-20)) Views.nil) fun _ _=>bj [3,3]<|eC (u64 ↑(b8 (List.take 2 (List.drop (20*1) (bO c p rc rg 0 g n))))) 9999<|bj [9999,9999]<|eA (args:=#[i64 1,bi (nm 0),bi (nm 2)]) func268<|bj [1,3,3] ?_
 refine rE (gR (t:=27) (e:=5) (k:=1) underlying27 b o 224 d 22 23) []<|cV (gm b (o+22*1) 1 (d-22) a (List.take 1 (List.drop (22*1) (bO c p rc rg 0 g n)))) [0] [] (Views.fact (a:=a) (BF (pO b o) 224 d (bO c p rc rg 0 g n)) (by kernel_rfl) (cF (22*1) 1 (d-22)) Views.nil) fun _ _=>bj [3,3]<|eC (u64 ↑(b8 (List.take 1 (List.drop (22*1) (bO c p rc rg 0 g n))))) 9999<|bj [9999,9999,2]<|qE 2 (nm 1) (.cl [u64 ↑(b8 (List.take 8 (List.drop (0*1) (bO c p rc rg 0 g n)))),u32 (IntKind.wrap .u32 ↑(b8 (List.take 4 (List.drop (8*1) (bO c p rc rg 0 g n))))),u64 ↑(b8 (List.take 8 (List.drop (12*1) (bO c p rc rg 0 g n)))),u16 (IntKind.wrap .u16 ↑(b8 (List.take 2 (List.drop (20*1) (bO c p rc rg 0 g n))))),u8 (IntKind.wrap .u8 ↑(b8 (List.take 1 (List.drop (22*1) (bO c p rc rg 0 g n))))),u16 0,u32 0] 87) (.cl [u64 ↑(b8 (List.take 8 (List.drop (0*1) (bO c p rc rg 0 g n)))),u32 ↑(b8 (List.take 4 (List.drop (8*1) (bO c p rc rg 0 g n)))%4294967296),u64 ↑(b8 (List.take 8 (List.drop (12*1) (bO c p rc rg 0 g n)))),u16 ↑(b8 (List.take 2 (List.drop (20*1) (bO c p rc rg 0 g n)))%65536),u8 ↑(b8 (List.take 1 (List.drop (22*1) (bO c p rc rg 0 g n)))%256),u16 0,u32 0] 87) (by rw [show IntKind.wrap .u32 ↑(b8 (List.take 4 (List.drop (8*1) (bO c p rc rg 0 g n))))=(↑(b8 (List.take 4 (List.drop (8*1) (bO c p rc rg 0 g n)))%4294967296):Int) from (yn rfl),show IntKind.wrap .u16 ↑(b8 (List.take 2 (List.drop (20*1) (bO c p rc rg 0 g n))))=(↑(b8 (List.take 2 (List.drop (20*1) (bO c p rc rg 0 g n)))%65536):Int) from (DZ rfl),show IntKind.wrap .u8 ↑(b8 (List.take 1 (List.drop (22*1) (bO c p rc rg 0 g n))))=(↑(b8 (List.take 1 (List.drop (22*1) (bO c p rc rg 0 g n)))%256):Int) from (CQ rfl)])<|eA (args:=#[i64 2,bi (nm 0),bi (nm 2)]) func268<|bj [1,3,3]<|rE (gR (t:=27) (e:=5) (k:=1) underlying27 b o 224 d 23 25) []<|cV (gm b (o+23*1) 2 (d-23) a (List.take 2 (List.drop (23*1) (bO c p rc rg 0 g n)))) [0] [] (Views.fact (a:=a) (BF (pO b o) 224 d (bO c p rc rg 0 g n)) (by kernel_rfl) (cF (23*1) 2 (d-23)) Views.nil) fun _ _=>bj [3,3] ?_
 refine eC (u64 ↑(b8 (List.take 2 (List.drop (23*1) (bO c p rc rg 0 g n))))) 9999<|bj [9999,2]<|qC 2 (nm 1) (fun z9:Int=>(.cl [u64 ↑(b8 (List.take 8 (List.drop (0*1) (bO c p rc rg 0 g n)))),u32 ↑(b8 (List.take 4 (List.drop (8*1) (bO c p rc rg 0 g n)))%4294967296),u64 ↑(b8 (List.take 8 (List.drop (12*1) (bO c p rc rg 0 g n)))),u16 ↑(b8 (List.take 2 (List.drop (20*1) (bO c p rc rg 0 g n)))%65536),u8 ↑(b8 (List.take 1 (List.drop (22*1) (bO c p rc rg 0 g n)))%256),u16 z9,u32 0] 87)) (show IntKind.wrap .u16 ↑(b8 (List.take 2 (List.drop (23*1) (bO c p rc rg 0 g n))))=(↑(b8 (List.take 2 (List.drop (23*1) (bO c p rc rg 0 g n)))%65536):Int) from (DZ rfl))<|eA (args:=#[i64 4,bi (nm 0),bi (nm 2)]) func268<|bj [1,3,3]<|rE (gR (t:=27) (e:=5) (k:=1) underlying27 b o 224 d 25 29) []<|cV (gm b (o+25*1) 4 (d-25) a (List.take 4 (List.drop (25*1) (bO c p rc rg 0 g n)))) [0] [] (Views.fact (a:=a) (BF (pO b o) 224 d (bO c p rc rg 0 g n)) (by kernel_rfl) (cF (25*1) 4 (d-25)) Views.nil) fun _ _=>bj [3,3]<|eC (u64 ↑(b8 (List.take 4 (List.drop (25*1) (bO c p rc rg 0 g n))))) 9999<|bj [9999,2,2]<|vC 36 (fun z9:Int=>(.agg ⟨[u64 ↑(b8 (List.take 8 (List.drop (0*1) (bO c p rc rg 0 g n)))),u32 ↑(b8 (List.take 4 (List.drop (8*1) (bO c p rc rg 0 g n)))%4294967296),u64 ↑(b8 (List.take 8 (List.drop (12*1) (bO c p rc rg 0 g n)))),u16 ↑(b8 (List.take 2 (List.drop (20*1) (bO c p rc rg 0 g n)))%65536),u8 ↑(b8 (List.take 1 (List.drop (22*1) (bO c p rc rg 0 g n)))%256),u16 ↑(b8 (List.take 2 (List.drop (23*1) (bO c p rc rg 0 g n)))%65536),u32 z9]⟩)) (show IntKind.wrap .u32 ↑(b8 (List.take 4 (List.drop (25*1) (bO c p rc rg 0 g n))))=(↑(b8 (List.take 4 (List.drop (25*1) (bO c p rc rg 0 g n)))%4294967296):Int) from (yn rfl)) ?_
 refine qC 2 (nm 1) (fun z9:Int=>(.cl [u64 ↑(b8 (List.take 8 (List.drop (0*1) (bO c p rc rg 0 g n)))),u32 ↑(b8 (List.take 4 (List.drop (8*1) (bO c p rc rg 0 g n)))%4294967296),u64 ↑(b8 (List.take 8 (List.drop (12*1) (bO c p rc rg 0 g n)))),u16 ↑(b8 (List.take 2 (List.drop (20*1) (bO c p rc rg 0 g n)))%65536),u8 ↑(b8 (List.take 1 (List.drop (22*1) (bO c p rc rg 0 g n)))%256),u16 ↑(b8 (List.take 2 (List.drop (23*1) (bO c p rc rg 0 g n)))%65536),u32 z9] 87)) (show IntKind.wrap .u32 ↑(b8 (List.take 4 (List.drop (25*1) (bO c p rc rg 0 g n))))=(↑(b8 (List.take 4 (List.drop (25*1) (bO c p rc rg 0 g n)))%4294967296):Int) from (yn rfl))<|qE 2 (nm 1) (.cl [u64 ↑(b8 (List.take 8 (List.drop (0*1) (bO c p rc rg 0 g n)))),u32 ↑(b8 (List.take 4 (List.drop (8*1) (bO c p rc rg 0 g n)))%4294967296),u64 ↑(b8 (List.take 8 (List.drop (12*1) (bO c p rc rg 0 g n)))),u16 ↑(b8 (List.take 2 (List.drop (20*1) (bO c p rc rg 0 g n)))%65536),u8 ↑(b8 (List.take 1 (List.drop (22*1) (bO c p rc rg 0 g n)))%256),u16 ↑(b8 (List.take 2 (List.drop (23*1) (bO c p rc rg 0 g n)))%65536),u32 ↑(b8 (List.take 4 (List.drop (25*1) (bO c p rc rg 0 g n)))%4294967296)] 87) (.cl [u64 c,u32 p,u64 rc,u16 rg,u8 ↑0,u16 g,u32 n] 87) (by rw [h,e2,j,l,m,q,r];try rfl)<|vE 36 (.agg ⟨[u64 ↑(b8 (List.take 8 (List.drop (0*1) (bO c p rc rg 0 g n)))),u32 ↑(b8 (List.take 4 (List.drop (8*1) (bO c p rc rg 0 g n)))%4294967296),u64 ↑(b8 (List.take 8 (List.drop (12*1) (bO c p rc rg 0 g n)))),u16 ↑(b8 (List.take 2 (List.drop (20*1) (bO c p rc rg 0 g n)))%65536),u8 ↑(b8 (List.take 1 (List.drop (22*1) (bO c p rc rg 0 g n)))%256),u16 ↑(b8 (List.take 2 (List.drop (23*1) (bO c p rc rg 0 g n)))%65536),u32 ↑(b8 (List.take 4 (List.drop (25*1) (bO c p rc rg 0 g n)))%4294967296)]⟩) (kX c p rc rg 0 g n) (by rw [h,e2,j,l,m,q,r];try rfl)<|bv (rv c p rc rg g n h0) [] []<|bj [0,0]<|cY (X:=Nat) (fun i=>29≤i∧i≤224) (fun i=>224-i) 58 (fun i=>[(1,bi (nm 0)),(2,bi (nm 1)),(3,i64 0),(4,bi (nm 2))]) (fun i=>[(a,.fa (BF (pO b o) 224 d (bO c p rc rg 0 g n))),(nm 0,.cl [sO b o 224 d] 27),(nm 1,.cl [u64 c,u32 p,u64 rc,u16 rg,u8 ((0:Nat):Int),u16 g,u32 n] 87),(nm 2,.cl [i64 i] 3)]) 29 (by kernel_rfl) ⟨by omega,by omega⟩ fun i u J hpre back=>?_
 have f:29≤i:=hpre.1
 have A:i≤224:=hpre.2
 clear hpre
 by_cases hlt:i<224
 · have h1:decide ((i:Int)<224)=true:=decide_eq_true (by omega)
   have h2:((((bO c p rc rg 0 g n).getD i 0).toNat:Int) != 0)=false:=by rw [z i f];rfl
   exact bK [3,1,1,0,1,3] (br h1 bt)<|rE (bL (t:=27) (e:=5) (k:=1) underlying27 .i64 b o 224 d i hlt) []<|rE (dH (T:=5) a b o 224 d i (bO c p rc rg 0 g n)) [0]<|bK [2,0,3,3] (br h2 bt)<|qC 3 (nm 2) (fun z9:Int=>(.cl [i64 z9] 3)) (wI ((↑i:Int)+1) (i+1))<|back _ (i+1) (by omega) (by omega) (by kernel_rfl)
 · have h1:decide ((i:Int)<224)=false:=decide_eq_false (by omega)
   exact bK [3,1,2,0,2,2,3] (br h1 bt)<|iz () (.tuple #[kX c p rc rg 0 g n,i64 0,i64 0]) [] (IZ 2 3 (nm 1) (nm 2) 2 3 4 87 3 87 3 (by kernel_rfl) (by kernel_rfl) underlying87 rfl (by kernel_rfl) (fun w=>by kernel_rfl)) rfl trivial
theorem FP (r m b d s e c p rc rg g n kb f kc:Nat) (key:Bs) (l:List ((Nat×Nat)×Vl)) (a:lk l (0,g)=some (sO kb f 32 kc)) (h:32=key.length)
 (h0:0<c) (hc:c<4294967296) (u:p<4294967296) (i:rc<18446744073709551616) (j:rg<65536) (k:g<65536) (v:n<4294967296) :
 TT 94 #[bi r,i64 ((c%2:Nat):Int),sO b d 256 256] [(r,.cl [.map (some m)] 182),(m,.pr (bB eW l)),(s,.fa (BF (pO kb f) 32 kc key)),(e,.fa (BF (pO b d) 256 256 (bI key 0 4 0 (c%2) c g (bO c p rc rg 0 g n))))] [] uT (fun x=>.returned (.tuple #[kX c p rc rg 0 g n,i64 0])) (fun _=>[]) (fun _=>[]):=by
 have o:=(fd c p rc rg 0 g n).symm
 have q:((c:Int).tmod 2 != IntKind.u64.wrap ((c%2:Nat):Int))=false:=by
  rw [show (c:Int).tmod 2=((c%2:Nat):Int) from ox,dj (n:=c%2)]
  simp
 refine iE func94<|fe [0,0,2,2,0,0] 1 _ (br (show (decide ((↑(c%2):Int)>1))=false by (simp;omega)) (br (show (decide ((↑(c%2):Int)<0))=false by kernel_rfl) bt)) fun nm=>⟨by kernel_rfl,?_⟩
 refine bv (ru b d e 0 4 0 (c%2) c g key (bO c p rc rg 0 g n) (by kernel_rfl) (by omega) k) [3] []<|bK [0,0,0,9999,2,0] (br q bt)<|cE (mn r m 0 g kb f 32 kc s key l a h) [0,1,2] [] fun ⟨x,x1⟩ _=>bj [0,0,9999]<|bv (tg c 0 0 0 0 g 0 hc) [] []<|zE<|fP 5 x (BF (pA x) 32 x1 key) db fun ⟨fl,fc,fm⟩=>cE (uQ x 0 32 x1 b d x e 0 4 0 (c%2) c g key (bO c p rc rg 0 g n) (by omega) fl fc (by kernel_rfl) (by omega) (by omega) (by omega) (by omega) (by omega) (by omega) k) [5,3] [] fun x2 _=>bj [0,0]<|gW (t:=5) (l:=bO c p rc rg 0 g n) 6 x2 224 o (by first | decide | (simp only [maxLen];omega))<|cE (HV x2 0 224 x2 c p rc rg g n h0 (by omega) u i j k v) [6] [] ?_
 intro _ _
 refine fe [7,0,7,2,7,2,0,7,4] 1 _ (br (show ((↑g:Int) != (↑g:Int))=false by (simp;done)) (br (show ((↑c:Int) != (↑c:Int))=false by (simp;done)) bt)) fun nm1=>⟨by kernel_rfl,?_⟩
 exact rT () 4
abbrev bM (d r g:Nat) (Af:Option Addr) (nf cf kn wt:Nat) (pu dr:Option Nat) (pi:Nat) (cm lst:Nat) (fl:Bool):List Vl:=[bi d,bi r,bi g,.slice Af nf cf,.map (some kn),.map (some wt),.map pu,.map dr,.map (some pi),u64 (cm:Int),u64 (lst:Int),.bool fl,.bool false]
section
variable (p d r g:Nat) (Af:Option Addr) (nf cf kn wt:Nat) (pu dr:Option Nat) (pi cm lst:Nat) (fl:Bool)
theorem iJ:Same 102 #[bi p] [(p,.cl (bM d r g Af nf cf kn wt pu dr pi cm lst fl) 199)] (i64 0):=iE func102<|bj [0,0,0,0]<|rT ()
theorem jA (na nfm N:Nat) (a:Vl) (steps:Int) (n:Nat) (h2:2≤n) (c:n<N) (b:n<4294967296):Same 96 #[bi p,.int .u32 n] [(p,.cl (bM d r g Af nf cf kn wt pu dr pi cm lst fl) 199),(d,.cl (bQ na nfm N a steps) bT)] (.bool true):=iE func96<|bK [1,9999,0] (br (dT ((↑n:Int)>1)) bt)<|bv (um d na nfm N a steps) [1] []<|bK [1] (br (show (decide (IntKind.wrap .i64 n<(↑N:Int)))=true by (simp only [eE,dP,d6,dK,dl,decide_eq_true_eq,decide_eq_false_iff_not];omega)) bt)<|rT ()
theorem wm (na nfm N:Nat) (a:Vl) (steps:Int) (n:Nat) (c:N≤n) (h2:2≤n) (b:n<4294967296):Same 96 #[bi p,.int .u32 n] [(p,.cl (bM d r g Af nf cf kn wt pu dr pi cm lst fl) 199),(d,.cl (bQ na nfm N a steps) bT)] (.bool false):=iE func96<|bK [1,9999,0] (br (dT ((↑n:Int)>1)) bt)<|bv (um d na nfm N a steps) [1] []<|bK [2] (br (show (decide (IntKind.wrap .i64 n<(↑N:Int)))=false by (simp only [eE,dP,d6,dK,dl,decide_eq_true_eq,decide_eq_false_iff_not];omega)) bt)<|rT ()
theorem pC (h:0<cm):Same 225 #[bi p] [(p,.cl (bM d r g Af nf cf kn wt pu dr pi cm lst false) 199)] (.bool true):=iE func225<|bK [0,1,0] (br (tT ((↑cm:Int) != 0)) bt)<|rT ()
theorem Co:Same 225 #[bi p] [(p,.cl (bM d r g Af nf cf kn wt pu dr pi cm lst true) 199)] (.bool false):=by
 refine cJ func225 (by kernel_rfl) fun w0 ho=>?_
 rcases Nat.eq_zero_or_pos cm with rfl | h0
 · exact bj [0,0]<|rT ()
 · exact bK [0,1,0] (br (tT ((↑cm:Int) != 0)) bt)<|rT ()
theorem ne (n:Nat) (a:Nat) (l:bV) (f:RunsP l) (i:nf≤50000) (c:¬ bR l n):Same 458 #[bi p,.int .u32 n] [(p,.cl (bM d r g Af nf cf kn wt pu dr pi cm lst fl) 199),(a,.fa (bN Af nf cf l))] (.bool false):=by
 have e:=f.ok
 have b:¬ Ap l n:=fun h=>c (wF h)
 exact iE func458<|bj [0]<|bv (uw Af nf cf a n l e (by omega) b) [1] []<|zE<|rT ()
theorem A8:Same 195 #[bi p] [(p,.cl (bM d r g Af nf cf kn wt pu dr pi cm lst fl) 199)] (.bool false):=iE func195<|bj [0,0]<|rT ()
theorem Gn:Same 299 #[bi p] [(p,.cl (bM d r g Af nf cf kn wt pu dr pi cm lst fl) 199)] (u64 lst):=iE func299<|bj [0,0,0]<|rT ()
theorem zz:Same 298 #[bi p] [(p,.cl (bM d r g Af nf cf kn wt pu dr pi 0 lst fl) 199)] (.tuple #[u64 0,.bool false]):=iE func298<|bj [0,0,0,0]<|rT ()
theorem zy (h:0<cm):Same 298 #[bi p] [(p,.cl (bM d r g Af nf cf kn wt pu dr pi cm lst fl) 199)] (.tuple #[u64 cm,.bool fl]):=iE func298<|bK [0,0,2,0] (br (tF ((↑cm:Int)==0)) bt)<|bj [9999,0,0,0]<|rT ()
theorem jx:TT 103 #[bi p,i64 0] [] [(p,.cl (bM d r g Af nf cf kn wt pu dr pi cm lst fl) 199)] uT (fun _=>.returned (i64 0)) (fun _=>[(p,.cl (bM d r g Af nf cf kn wt pu dr pi cm lst fl) 199)]) (fun _=>[]):=iE func103<|bj [0,0,0]<|qE 0 p (.cl [bi d,bi r,bi g,.slice Af nf cf,.map (some kn),.map (some wt),.map pu,.map dr,.map (some pi),u64 cm,u64 lst,.bool fl,.bool (0 != 0)] 199) (.cl (bM d r g Af nf cf kn wt pu dr pi cm lst fl) 199) (by rfl)<|rT ()
end
section
variable (p d r g:Nat) (Af:Option Addr) (nf cf kn wt:Nat) (pu dr:Option Nat) (pi cm lst:Nat) (fl:Bool)
theorem oa (n a:Nat) (l:bV) (K:List (Nat×Vl)) (e:RunsP l) (f:nf≤50000) (h:n<4294967295) (b:¬ bR l n) (c:∀ r∈l,r.2<4294967296) :
 TT 106 #[bi p,.int .u32 n] [(a,.fa (bN Af nf cf l))] [(p,.cl (bM d r g Af nf cf kn wt pu dr pi cm lst fl) 199),(kn,.pr (MU K))] (fun x:bV×Nat×Nat=>RunsP x.1∧x.1.length≤nf+1∧∀ m,bR x.1 m↔bR l m∨m=n) (fun _=>.returned (.tuple #[])) (fun x=>[(p,.cl (bM d r g (pA x.2.1) x.1.length x.2.2 kn wt pu dr pi cm lst fl) 199),(kn,.pr (MU (del K n)))]) (fun x=>[(x.2.1,.fa (bN (pA x.2.1) x.1.length x.2.2 x.1))]):=by
 refine iE func106<|bj [1]<|cE (Dr nf cf a n Af l e f h b c) [0] [] fun ⟨x,x1,x2⟩ ⟨hx,hx1,hx2⟩=>?_
 try dsimp only at hx hx1 hx2
 exact bj [1,1]<|xE (sx (kt:=37) (et:=474) (T:=195) (κ:=.u32) underlying195 underlying37 kn K n 0) [] [2] fun _ _=>zE<|rT ((x,x1,x2)) 9999 [3]
theorem CU (c:Nat) (h:lst<c) (hc:c<18446744073709551616) :
 TT 303 #[bi p,u64 c] [] [(p,.cl (bM d r g Af nf cf kn wt pu dr pi 0 lst fl) 199)] (fun _:Nat×Nat=>True) (fun _=>.returned (i64 0)) (fun x=>[(p,.cl (bM d r g Af nf cf kn wt (some x.1) (some x.2) pi c c false) 199)]) (fun x=>[(x.1,.pr (MU [])),(x.2,.pr (MU []))]):=by
 refine iE func303<|zE<|bv (iJ p d r g Af nf cf kn wt pu dr pi 0 lst fl) [0] []<|fe [0,0,0,0,0,2,0,0,0,0,0,0] 2 _ (br (show (decide ((↑c:Int)≤(↑lst:Int)))=false by (simp;omega)) bt) fun nm=>⟨by kernel_rfl,?_⟩
 exact lE 1 (nm 0) (.ob (Obj.map #[] 0)) (.pr (MU [])) (dL (eK .u32) 0)<|lE 2 (nm 1) (.ob (Obj.map #[] 0)) (.pr (MU [])) (dL (eK .u32) 0)<|rT ((nm 0,nm 1)) 9999 [1,2]
end
end Go.Proofs.YtlkeemedalncoaaGreat.En
