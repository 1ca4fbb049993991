/- TopHandles, part 23: no condition. -/
import Derived.Test.YtlkeemedalncoaaGreatP22
import Derived.Test.YtlkeemedalncoaaGreatP21
set_option linter.all false
set_option maxHeartbeats 16000000
set_option maxRecDepth 100000
namespace Go.Proofs.YtlkeemedalncoaaGreat.En
open Go Go.RowKit Go.Proofs.YtlkeemedalncoaaGreat Go.Proofs.Tryz
abbrev xI (LS:Loop):Loop:={LS with state:=.done,pending:=some .ret}
theorem FG (cb ca cct:Nat) (A:List (Nat×Vl)) (hA:lw A) (j:ku A) (g d l c f:Nat) (a:Loop) (h n r b:Nat) (k:lk A n=some (hV r b)) (h0:0<h)
 (m:∀ u:Nat,u≠h→jL prog l #[u64 u] [(f,.cl [u64 h] 25)] [(c,.cl [.bool false] 4),(l,.ob (.loop a))] uT (fun _=>.bool true) (fun _=>[(c,.cl [.bool false] 4),(l,.ob (.loop a))]) (fun _=>[]))
 (o:jL prog l #[u64 h] [(f,.cl [u64 h] 25)] [(c,.cl [.bool false] 4),(l,.ob (.loop a))] uT (fun _=>.bool false) (fun _=>[(c,.cl [.bool true] 4),(l,.ob (.loop (xI a)))]) (fun _=>[])) (e:gJ A h (n+1) n=true) :
 TT 382 #[.func (.yield l) #[] #[],bi g,bi d] [(g,.cl [bi cb] 110),(cb,.cl (cL ca cct) 212),cH ca A,(f,.cl [u64 h] 25)] [(d,.cl [u64 n] 25),(c,.cl [.bool false] 4),(l,.ob (.loop a))] (fun _:Nat=>True) (fun _=>.returned (.tuple #[]))
  (fun x=>[(d,.cl [u64 x] 25),(c,.cl [.bool true] 4),(l,.ob (.loop (xI a)))]) (fun _=>[]):=by
 have i:=D9 cb ca cct A hA j g d l c f a (xI a) h n r b k h0 m o
 rw [e,if_pos rfl] at i
 exact i
theorem Hd (cb ca cct:Nat) (A:List (Nat×Vl)) (hA:lw A) (j:ku A) (g d l c f:Nat) (a:Loop) (h n r b:Nat) (k:lk A n=some (hV r b)) (h0:0<h)
 (m:∀ u:Nat,u≠h→jL prog l #[u64 u] [(f,.cl [u64 h] 25)] [(c,.cl [.bool false] 4),(l,.ob (.loop a))] uT (fun _=>.bool true) (fun _=>[(c,.cl [.bool false] 4),(l,.ob (.loop a))]) (fun _=>[]))
 (o:jL prog l #[u64 h] [(f,.cl [u64 h] 25)] [(c,.cl [.bool false] 4),(l,.ob (.loop a))] uT (fun _=>.bool false) (fun _=>[(c,.cl [.bool true] 4),(l,.ob (.loop (xI a)))]) (fun _=>[])) (e:gJ A h (n+1) n=false) :
 TT 382 #[.func (.yield l) #[] #[],bi g,bi d] [(g,.cl [bi cb] 110),(cb,.cl (cL ca cct) 212),cH ca A,(f,.cl [u64 h] 25)] [(d,.cl [u64 n] 25),(c,.cl [.bool false] 4),(l,.ob (.loop a))] (fun _:Nat=>True) (fun _=>.returned (.tuple #[]))
  (fun x=>[(d,.cl [u64 x] 25),(c,.cl [.bool false] 4),(l,.ob (.loop a))]) (fun _=>[]):=by
 have i:=D9 cb ca cct A hA j g d l c f a (xI a) h n r b k h0 m o
 rw [e,if_neg Bool.false_ne_true] at i
 exact i
theorem tX (cb ca cct:Nat) (A:List (Nat×Vl)) (hA:lw A) (a:ku A) (h n r b c d:Nat) (g:lk A h=some (hV c d)) (f:lk A n=some (hV r b)) (h0:0<h) :
 Same 210 #[bi cb,u64 h,u64 n] [(cb,.cl (cL ca cct) 212),cH ca A] (.bool (gJ A h (n+1) n)):=by
 refine nA func210 fun w0 ho=>bu [9999,2] 2 fun nm=>bv (hE cb ca cct h c d A g) [0,1] []<|bu [4,0,0] 1 fun nm1=>cE (Bc cb n) [] [] fun ⟨x,x1⟩ _=>zE ?_
 rcases e:gJ A h (n+1) n with _ | _
 · refine kQ (gf:=382) (lb:=#[bi x,bi x1]) (HR:=[(x,.cl [bi cb] 110),(cb,.cl (cL ca cct) 212),cH ca A,(nm 0,.cl [u64 h] 25)]) (HWo:=[(x1,.cl [u64 n] 25),(nm 1,.cl [.bool false] 4)]) (X:=Nat) (φ:=fun _=>True) (v:=fun _=>.tuple #[]) (HWo':=fun y=>[(x1,.cl [u64 y] 25),(nm 1,.cl [.bool false] 4)]) (HN:=fun y=>[]) (stt:=fun _=>.ready) (pd:=fun _=>none) [5,0,1,2] [6,3] (by kernel_rfl) (fun _ _=>rfl) (Views.of_map (by kernel_rfl)) (fun fn D l=>Hd cb ca cct A hA a x x1 l (nm 1) (nm 0) _ h n r b f h0 (fun u hu=>?_) ?_ e) (fun _=>(bD (bD bH (fun _=>rfl)) (fun _=>rfl))) (fun _ _=>by intro e;cases e) ?_ (fun _ _ _ _=>by kernel_rfl) rfl (fun _=>by kernel_rfl)
   · exact pw 2 fun w1 ho1=>vE 21 (#[u64 u][0]) (u64 u) (by rfl)<|zE<|ov 2<|bK [0,2,0] (br (tF ((↑u:Int)==(↑h:Int))) bt)<|n7 () 2 none []
   · exact pw 2 fun w1 ho1=>vE 21 (#[u64 h][0]) (u64 h) (by rfl)<|zE<|ov 2<|bK [0,1,0,1] (br (tT ((↑h:Int)==(↑h:Int))) bt)<|n7 () 2 (some .ret) []
   · intro fn D l y _
     exact bj [3]<|ma 7 D<|fS () (.bool false) [] (fN _ 3)
 · refine kQ (gf:=382) (lb:=#[bi x,bi x1]) (HR:=[(x,.cl [bi cb] 110),(cb,.cl (cL ca cct) 212),cH ca A,(nm 0,.cl [u64 h] 25)]) (HWo:=[(x1,.cl [u64 n] 25),(nm 1,.cl [.bool false] 4)]) (X:=Nat) (φ:=fun _=>True) (v:=fun _=>.tuple #[]) (HWo':=fun y=>[(x1,.cl [u64 y] 25),(nm 1,.cl [.bool true] 4)]) (HN:=fun y=>[]) (stt:=fun _=>.done) (pd:=fun _=>some .ret) [5,0,1,2] [6,3] (by kernel_rfl) (fun _ _=>rfl) (Views.of_map (by kernel_rfl)) (fun fn D l=>FG cb ca cct A hA a x x1 l (nm 1) (nm 0) _ h n r b f h0 (fun u hu=>?_) ?_ e) (fun _=>(bD (bD bH (fun _=>rfl)) (fun _=>rfl))) (fun _ _=>by intro e;cases e) ?_ (fun _ _ _ _=>by kernel_rfl) rfl (fun _=>by kernel_rfl)
   · exact pw 2 fun w1 ho1=>vE 21 (#[u64 u][0]) (u64 u) (by rfl)<|zE<|ov 2<|bK [0,2,0] (br (tF ((↑u:Int)==(↑h:Int))) bt)<|n7 () 2 none []
   · exact pw 2 fun w1 ho1=>vE 21 (#[u64 h][0]) (u64 h) (by rfl)<|zE<|ov 2<|bK [0,1,0,1] (br (tT ((↑h:Int)==(↑h:Int))) bt)<|n7 () 2 (some .ret) []
   · intro fn D l y _
     exact ma 7 D<|fS () (.bool true) [] (fN _ 3)
theorem zu (c:Nat) (A:List (Nat×Vl)):RunTri prog (callFunc 313 #[.iface 210 (.map (some c))]) [(c,.pr (MV A))] [] (fun _:Nat=>True) (fun x=>.iface 210 (.map (some x))) (fun _=>[]) (fun x=>[(x,.pr (MV A))]):=by
 intro w ho
 obtain ⟨o,hb,a⟩:=ho.at_ 0 c _ rfl rfl
 have a:MV A o:=a
 obtain ⟨es,clock,rfl,h1,h2,h3⟩:=id a
 have hr:(Extern.MapsClone.clone #[.iface 210 (.map (some c))]).run prog w = .ok (.iface 210 (.map (some w.heap.size))) (w.alloc (.map es clock)):=by
  show Sem.run prog (getObj c >>= _) w=_
  simp only [getObj,Sem.run_bind,Sem.run,hb,Result.andThen,newObj]
  rfl
 have d:(callFunc 313 #[.iface 210 (.map (some c))]).run prog w=((Extern.MapsClone.clone #[.iface 210 (.map (some c))]) >>= fun v=>pure (.value v)).run prog w:=by kernel_rfl
 rw [d,Sem.run_bind,hr]
 refine ⟨_,_,⟨w.heap.size,trivial,.inl rfl,iG (w1:=w) (s:=.pr (MV A)) (o:=.map es clock) ho rfl a [] bH (fun k b s hk hs=>by simp at hk),jw (w1:=w) (w:=w) rfl ⟨rfl,rfl,rfl⟩ _,fun b hb=>?_⟩,rfl⟩
 simp [lv,SB.live] at hb
 exact .inl (by omega)
theorem uM (a:Nat) (A:List (Nat×Vl)):TT 211 #[.map (some a)] [(a,.pr (MV A))] [] (fun _:Nat=>True) (fun x=>.returned (.map (some x))) (fun _=>[]) (fun x=>[(x,.pr (MV A))]):=iE func211<|bj [0,0]<|xE (zu a A) [0] [] fun x _=>zE<|rT x 9999 [1]
def jk (A:List (Nat×Vl)) (vic n:Nat):Bool:=n==vic||gJ A vic (n+1) n
theorem wW {K:Type} [DecidableEq K] {l:List (K×Vl)} (h:UN l) {p:K×Vl} (a:p∈l):lk l p.1=some p.2:=by
 induction l with
 | nil=>cases a
 | cons q l ih=>
  obtain ⟨m,u⟩:=q
  have h1:m∉l.map (·.1)∧(l.map (·.1)).Nodup:=List.nodup_cons.1 h
  rw [cp]
  rcases List.mem_cons.1 a with rfl | a
  · rw [if_pos rfl]
  · rw [if_neg,ih h1.2 a]
    intro e
    exact h1.1 (by rw [← e];exact List.mem_map_of_mem (f:=(·.1)) a)
theorem Bj {K:Type} [DecidableEq K] (l:List (K×Vl)) (k:K):(del l k).length≤l.length:=by
 have:=congrArg List.length (oD l k)
 rw [List.length_map] at this
 have h2:=List.length_erase_le (a:=k) (l:=l.map (·.1))
 rw [List.length_map] at h2
 omega
theorem xc {A L:List (Nat×Vl)} {a k:Nat} {ks:List Nat} (b:UN L) (h:∀ n,lk L n=if n∈ks∧jk A a n=true then none else lk A n) (hb:jk A a k=true):∀ n,lk (del L k) n=if n∈ks++[k]∧jk A a n=true then none else lk A n:=by
 intro n
 rw [oN b,h n]
 by_cases e:n=k
 · subst e;simp [hb]
 · simp [e]
theorem Ch {A L:List (Nat×Vl)} {a k:Nat} {ks:List Nat} (h:∀ n,lk L n=if n∈ks∧jk A a n=true then none else lk A n) (hb:jk A a k=false):∀ n,lk L n=if n∈ks++[k]∧jk A a n=true then none else lk A n:=by
 intro n
 rw [h n]
 by_cases e:n=k
 · subst e;simp [hb]
 · simp [e]
abbrev Jt:Type:=List MapEntry×List (Nat×Vl)
theorem yJ (cb ca cct:Nat) (A:List (Nat×Vl)) (I:UN A) (hA:lw A) (K:ku A) (h a q B r b:Nat) (D:lk A h=some (hV q B)) (C:lk A a=some (hV r b)) (h0:0<h) (E:0<a) (Q:¬ bits .and .u8 q 8=0) (F:h=a∨gJ A h (a+1) a=true) :
 TT 143 #[bi cb,u64 h,u64 a] [] [(cb,.cl (cL ca cct) 212),cH ca A] (fun x:Nat×List (Nat×Vl)=>UN x.2∧x.2.length≤A.length∧∀ n,lk x.2 n=if jk A a n=true then none else lk A n) (fun _=>.returned (i64 0)) (fun x=>[(cb,.cl (cL x.1 cct) 212),cH ca A]) (fun x=>[cH x.1 x.2]):=by
 refine cJ func143 (by kernel_rfl) fun w0 ho=>?_
 rcases Classical.em (h=a) with hne | hne
 rotate_left
 have M:=F.resolve_left hne
 refine zE<|bv (hE cb ca cct h q B A D) [0,1] []<|bu [2,0,0] 1 fun nm=>bv (hE cb ca cct a r b A C) [0,1] []<|fe [3,0,0,1,2,2] 1 _ (br (show (bits .and .u8 q 8==0)=false by (simp;omega)) (br (show ((↑h:Int) != (↑a:Int))=true by (simp;omega)) bt)) fun nm1=>⟨by kernel_rfl,?_⟩
 refine bv (tX cb ca cct A hA K h a r b q B D C h0) [0,1] []<|bK [2,0] (br (tF (!gJ A h (a+1) a)) bt)<|cE (uM ca A) [1] [] fun x _=>bj [0] ?_
 rotate_left
 refine zE<|bv (hE cb ca cct h q B A D) [0,1] []<|bu [2,0,0] 1 fun nm=>bv (hE cb ca cct a r b A C) [0,1] []<|fe [3,0,0,2,0,0] 1 _ (br (show ((↑h:Int) != (↑a:Int))=false by (simp;omega)) bt) fun nm1=>⟨by kernel_rfl,?_⟩
 refine cE (uM ca A) [1] [] fun x _=>bj [0] ?_
 all_goals
  refine wE [0,1,4] 0 [(cb,.cl (cL ca cct) 212),cH ca A,cH x A]<|iT 1 ca (MV A) (by kernel_rfl) fun o hm=>?_
  obtain ⟨es,clock,rfl,hes,hnd,hck⟩:=hm
  refine xE (fj (t:=210) (kt:=25) (et:=320) underlying210 ca es clock hck) [1] [] fun x1 _=>zE<|cY (X:=Jt) (fun y=>Gone es.toList y.1∧UN y.2∧y.2.length≤A.length∧∀ n,lk y.2 n=if n∈y.1.map (fun e=>gY e.key)∧jk A a n=true then none else lk A n) (fun y=>gM es.toList y.1) 76 (fun y=>[(0,bi cb),(1,u64 h),(2,u64 a),(11,.map (some x)),(56,bi x1)]) (fun y=>[(cb,.cl (cL ca cct) 212),(ca,.ob (.map es clock)),cH x y.2,(x1,.pr (fW ca es clock y.1))]) ([],A) (by kernel_rfl) ⟨Gone.nil _,I,Nat.le_refl _,fun n=>by simp⟩ fun ⟨vs,L⟩ u J hpre back=>?_
  have G:Gone es.toList vs:=hpre.1
  have d:UN L:=hpre.2.1
  have s:L.length≤A.length:=hpre.2.2.1
  have f:∀ n,lk L n=if n∈vs.map (fun e=>gY e.key)∧jk A a n=true then none else lk A n:=hpre.2.2.2
  clear hpre
  refine zE<|xE (el 0 x1 ca es clock vs) [1] [3] fun x2 ⟨hx,hx1⟩=>?_
  rcases x2 with _ | e
  · simp only [Option.toList_none,List.append_nil]
    have w:=G.all hnd (hx rfl)
    have N:∀ n,lk L n=if jk A a n=true then none else lk A n:=by
     intro n
     rw [f n]
     by_cases hbn:jk A a n=true
     · rcases hn:lk A n with _ | v
       · simp [hn]
       · have O:n∈vs.map (fun e=>gY e.key):=by
          have z:n∈A.map (·.1):=by
           by_cases hc:n∈A.map (·.1)
           · exact hc
           · rw [pU.2 hc] at hn;cases hn
          have h1:es.toList.map (fun e=>gY e.key)=A.map (·.1):=by
           have:=congrArg (List.map fun p:Value×Value=>gY p.1) hes
           simpa [Function.comp_def,gY] using this
          exact ((w.map (fun e=>gY e.key)).mem_iff).2 (by rw [h1];exact z)
         simp [O,hbn]
     · simp [hbn]
    have c:∀ o,(SB.ob (.map es clock)).ok o→(SB.pr (MV A)).ok o:=fun o ho=>⟨es,clock,ho,hes,hnd,hck⟩
    clear back w G hx hx1
    exact lE 1 ca (.ob (.map es clock)) (.pr (MV A)) c<|bj [0,0]<|rT ((x,L)) 9999 [2]
  · simp only [Option.toList_some]
    obtain ⟨he,hnb⟩:=hx1 e rfl
    have i:=jC he hnb
    have j:=G.add he hnb
    obtain ⟨ek,ev,eb⟩:=e
    obtain ⟨p,hp,hpk,hpv⟩:=o8 hes he
    obtain ⟨k,kv⟩:=p
    have H:ek=u64 k:=hpk
    subst H
    have l:=wW I hp
    dsimp only at l
    obtain ⟨rk,bk,rfl,-,-⟩:=hA k kv l
    have c:∀ o,(SB.ob (.map es clock)).ok o→(SB.pr (MV A)).ok o:=fun o ho=>⟨es,clock,ho,hes,hnd,hck⟩
    have m:(vs++[(⟨u64 k,ev,eb⟩:MapEntry)]).map (fun e:MapEntry=>gY e.key)=vs.map (fun e:MapEntry=>gY e.key)++[k]:=by simp [gY]
    have P:=Bj L k
    by_cases hkv:k=a
    · subst hkv
      exact bj [0]<|rE (eH x1 ca es clock vs ({key:=u64 k,val:=ev,born:=eb}) he hnd) [1,3]<|bK [1,0] (br (tT ((↑k:Int)==(↑k:Int))) bt)<|xE (sx (kt:=25) (et:=320) (T:=210) (κ:=.u64) underlying210 underlying25 x L k 0) [] [2] fun _ _=>zE<|back _ (vs++[⟨u64 k,ev,eb⟩],del L k) ⟨j,d.del k,by dsimp only;omega,by dsimp only;rw [m];exact xc d f (by simp [jk])⟩ i (by kernel_rfl)
    · have g:=tX cb ca cct A hA K a k rk bk r b C l E
      rcases eU:gJ A a (k+1) k with _ | _
      · rw [eU] at g
        exact bj [0]<|rE (eH x1 ca es clock vs ({key:=u64 k,val:=ev,born:=eb}) he hnd) [1,3]<|bK [2] (br (tF ((↑k:Int)==(↑a:Int))) bt)<|cV g [0,1] [] (Views.same (by kernel_rfl) (Views.less (.ob (.map es clock)) c Views.nil)) fun _ _=>bj [0]<|back _ (vs++[⟨u64 k,ev,eb⟩],L) ⟨j,d,s,by dsimp only;rw [m];exact Ch f (by simp [jk,eU,hkv])⟩ i (by kernel_rfl)
      · rw [eU] at g
        exact bj [0]<|rE (eH x1 ca es clock vs ({key:=u64 k,val:=ev,born:=eb}) he hnd) [1,3]<|bK [2] (br (tF ((↑k:Int)==(↑a:Int))) bt)<|cV g [0,1] [] (Views.same (by kernel_rfl) (Views.less (.ob (.map es clock)) c Views.nil)) fun _ _=>bj [0]<|xE (sx (kt:=25) (et:=320) (T:=210) (κ:=.u64) underlying210 underlying25 x L k 0) [] [2] fun _ _=>zE<|back _ (vs++[⟨u64 k,ev,eb⟩],del L k) ⟨j,d.del k,by dsimp only;omega,by dsimp only;rw [m];exact xc d f (by simp [jk,eU])⟩ i (by kernel_rfl)
section
variable (v N lim:Nat) (key:Vl) (d rs lg:Nat) (op:Bool) (r p c pp rc rg gn n al:Nat)
variable (k t:Nat) (sec:Vl) (q1 n1:Int) (h o s rt:Nat) (ops ky fr too:Vl) (bk:Bool)
variable (tt q mb mc rp rc2 rg2 ch hb hc cb sh made ca cm tn:Nat) (T A:List (Nat×Vl))
theorem Bh (h64:h<18446744073709551616) (y:o<18446744073709551616) (b:o/4294967296=h/4294967296) (hT:lk T (h/4294967296)=some (bi tn)) (a e u w:Nat) (z:UN A) (f:lw A) (g:ku A) (hA:lk A (h%4294967296)=some (hV a e)) (B:lk A (o%4294967296)=some (hV u w)) (i:(cM 0 a != 0)=false) (h0:0<h%4294967296) (j:0<o%4294967296) (C:¬ bits .and .u8 a 8=0) (l:h%4294967296=o%4294967296∨gJ A (h%4294967296) (o%4294967296+1) (o%4294967296)=true) :
 TT 71 #[bi v,cR k t sec q1 n1 h o s rt ops ky fr too bk] [(v,.cl (bU N lim key d rs lg op r p c pp rc rg gn n al) 90),(al,.pr (MU T)),(tn,.cl (b9 tt q mb mc rp rc2 rg2 ch hb hc cb sh made) 113)] [(cb,.cl (cL ca cm) 212),cH ca A] (fun x:Nat×List (Nat×Vl)=>UN x.2∧x.2.length≤A.length∧∀ n,lk x.2 n=if jk A (o%4294967296) n=true then none else lk A n) (fun _=>.returned (cP 0 0 0 (.slice none 0 0) (.slice none 0 0) 0 (.slice none 0 0))) (fun x=>[(cb,.cl (cL x.1 cm) 212),cH ca A]) (fun x=>[cH x.1 x.2]):=by
 refine cJ func71 (by kernel_rfl) fun w0 ho=>?_
 have m:((o:Int).fdiv (2^min (Int.toNat 32) IntKind.u64.bits) != (h:Int).fdiv (2^min (Int.toNat 32) IntKind.u64.bits))=false:=by rw [p9 rfl,p9 rfl,b];simp
 refine bu [9999,5] 2 fun nm=>bv (k6 v N lim key d rs lg op r p c pp rc rg gn n al k t sec q1 n1 h o s rt ops ky fr too bk tt q mb mc rp rc2 rg2 ch hb hc cb sh made ca cm tn T A 0 h64 hT a e hA i) [0,1,2,3,4] []<|bK [5,5,2,0] (br m bt)<|bj [9999,24,2,5]<|vC 29 u64 (show (bits .and .u64 o 4294967295:Int)=(↑(o%4294967296):Int) from (sF))<|cE (yJ cb ca cm A z f g (h%4294967296) (o%4294967296) a e u w hA B h0 j C l) [] [3,4] fun ⟨x,x1⟩ ⟨hx,hx1,hx2⟩=>?_
 try dsimp only at hx hx1 hx2
 exact bj [0,0,6,6]<|rT ((x,x1)) 6 [7]
theorem BK (h64:h<18446744073709551616) (b:o<18446744073709551616) (e:o/4294967296=h/4294967296) (hT:lk T (h/4294967296)=some (bi tn)) (a l m u:Nat) (w:UN A) (f:lw A) (g:ku A) (hA:lk A (h%4294967296)=some (hV a l)) (y:lk A (o%4294967296)=some (hV m u)) (i:(cM 0 a != 0)=false) (h0:0<h%4294967296) (j:0<o%4294967296) (z:¬ bits .and .u8 a 8=0) (k:h%4294967296=o%4294967296∨gJ A (h%4294967296) (o%4294967296+1) (o%4294967296)=true) :
 TT 10 #[bi v,cR 10 t sec q1 n1 h o s rt ops ky fr too bk] [(v,.cl (bU N lim key d rs lg true r p c pp rc rg gn n al) 90),(al,.pr (MU T)),(tn,.cl (b9 tt q mb mc rp rc2 rg2 ch hb hc cb sh made) 113)] [(cb,.cl (cL ca cm) 212),cH ca A] (fun x:Nat×List (Nat×Vl)=>UN x.2∧x.2.length≤A.length∧∀ n,lk x.2 n=if jk A (o%4294967296) n=true then none else lk A n) (fun _=>.returned (cP 0 0 0 (.slice none 0 0) (.slice none 0 0) 0 (.slice none 0 0))) (fun x=>[(cb,.cl (cL x.1 cm) 212),cH ca A]) (fun x=>[cH x.1 x.2]):=by
 refine dE func10 fun w0 ho=>bu [9999] 2 fun nm=>bv (ea v N lim key d rs lg true r p c pp rc rg gn n al) [0] []<|bu [0,0,0,7] 1 fun nm1=>cS ⟨.fn (.func 25) #[bi (nm1 0),bi (nm 1)],#[]⟩<|zE<|cS ⟨.fn (.func 26) #[],#[bi v,bi (nm1 0)]⟩<|bj [5]<|bv (EB v) [] []<|bj [0,0,5]<|cE (Bh v N lim key d rs lg true r p c pp rc rg gn n al 10 t sec q1 n1 h o s rt ops ky fr too bk tt q mb mc rp rc2 rg2 ch hb hc cb sh made ca cm tn T A h64 b e hT a l m u w f g hA y i h0 j z k) [0,1,2] [3,4] ?_
 rintro ⟨x,x1⟩ ⟨hx,hx1,hx2⟩
 try dsimp only at hx hx1 hx2
 exact bj [6]<|fV<|dG #[] #[bi v,bi (nm1 0)] [⟨.fn (.func 25) #[bi (nm1 0),bi (nm 1)],#[]⟩] (gx v (nm1 0)) [] [] fun _ _=>dG #[bi (nm1 0),bi (nm 1)] #[] [] (kZ (nm1 0) (nm 1) .returning) [7] [] fun _ _=>fS (x,x1) (cP 0 0 0 (.slice none 0 0) (.slice none 0 0) 0 (.slice none 0 0)) [8] (fN _ 6) rfl (by first | assumption | exact ⟨by assumption,by assumption,by assumption⟩)
end
def ia (v:Vl):Option Nat:=
 match v with
 | .agg a=>match a.toList with
  | [.int _ n,_,_,_,_,.slice (some _) _ _]=>some n.toNat
  | _=>none
 | _=>none
theorem tl (ch:Nat):ia (fR 0 0 0 ch none 0 0)=none:=by simp [ia]
theorem m7 (rp rc rg ch:Nat) (a:Addr) (n c:Nat):ia (fR rp rc rg ch (some a) n c)=some rp:=by simp [ia]
def go (SH:List (Nat×Vl)):List Nat:=SH.filterMap fun p=>ia p.2
def ShP (N:Nat) (SH:List (Nat×Vl)):Prop:=∀ p∈SH,(∃ ch,p.2=fR 0 0 0 ch none 0 0)∨∃ rp rc rg ch lb lc,p.2=fR rp rc rg ch (pA lb) 1 lc∧2≤rp∧rp<N
def ShF (t:Nat) (SH:List (Nat×Vl)):World→Prop:=fun w=>∀ p∈SH,∀ rp rc rg ch lb lc,p.2=fR rp rc rg ch (pA lb) 1 lc→CF lb 0 (ga t rp rc rg) w
theorem ShP.shots {N:Nat} {SH:List (Nat×Vl)} (h:ShP N SH):kA SH:=fun p hp=>by
 rcases h p hp with ⟨ch,e⟩ | ⟨rp,rc,rg,ch,lb,lc,e,-⟩
 · exact ⟨0,0,0,ch,none,0,0,e⟩
 · exact ⟨rp,rc,rg,ch,_,1,lc,e⟩
theorem Gone.left {a vs:List MapEntry} (h:Gone a vs):∃ r,a.Perm (vs++r):=by
 classical
 induction vs generalizing a with
 | nil=>exact ⟨a,List.Perm.refl _⟩
 | cons v vs ih=>
  have d:=h.sub v (List.mem_cons_self)
  have b:v.born∉vs.map (·.born)∧(vs.map (·.born)).Nodup:=List.nodup_cons.1 h.nd
  have h1:Gone (a.erase v) vs:=⟨fun e he=>by
   have c:e≠v:=fun hh=>b.1 (by rw [← hh];exact List.mem_map_of_mem (f:=fun e:MapEntry=>e.born) he)
   exact (List.mem_erase_of_ne c).2 (h.sub e (List.mem_cons_of_mem _ he)),b.2⟩
  obtain ⟨r,hr⟩:=ih h1
  exact ⟨r,(List.perm_cons_erase d).trans (List.Perm.cons v hr)⟩
theorem Gone.count {a vs:List MapEntry} (h:Gone a vs) (f:MapEntry→Option Nat) (m:Nat):(vs.filterMap f).count m≤(a.filterMap f).count m:=by
 obtain ⟨r,hr⟩:=h.left
 have:=(hr.filterMap f).count_eq m
 rw [List.filterMap_append,List.count_append] at this
 omega
section
variable (v N lim:Nat) (key:Vl) (d rs lg:Nat) (op:Bool) (r p c pp rc rg gn n al:Nat)
variable (nf cf kn wt:Nat) (Af:Option Addr) (pu dr:Option Nat) (pi cm lst:Nat) (fl:Bool)
theorem uz (ch:Nat):Same 122 #[bi v,fR 0 0 0 ch none 0 0] [] (.tuple #[]):=iE func122<|bu [9999,0,3,0,0] 1 fun nm=>rT ()
theorem ur (na nfm:Nat) (e:Vl) (steps:Int) (tt rp rc2 rg2 ch lb f a:Nat) (I:List (Nat×Vl)) (pin:Nat→Nat) (g:PinI I pin) (h:pin rp<1000000) (h0:0<pin rp) (h2:2≤rp) (i:rp<N) (b:rp<4294967296) :
 TT 122 #[bi v,fR rp rc2 rg2 ch (pA lb) 1 f] [(v,.cl (bU N lim key d rs lg op r p c pp rc rg gn n al) 90),(p,.cl (bM d r lg Af nf cf kn wt pu dr pi cm lst fl) 199),(d,.cl (bQ na nfm N e steps) bT),(a,.fa (CF lb 0 (ga tt rp rc2 rg2)))] [(pi,.pr (MU I))] (fun x:List (Nat×Vl)=>PinI x (qM pin rp)) (fun _=>.returned (.tuple #[])) (fun x=>[(pi,.pr (MU x))]) (fun _=>[]):=by
 refine iE func122<|bu [9999,5,3,0,0,9999] 1 fun nm=>rE (gh (T:=72) underlying72 a lb 0 6 (ga tt rp rc2 rg2) (by (simp;done))) [3]<|bu [] 1 fun nm1=>vE 12 (.agg ⟨List.take 6 (List.drop 0 (ga tt rp rc2 rg2))⟩) (.agg ⟨[u32 tt,u8 1,u8 0,u32 rp,u64 rc2,u16 rg2]⟩) (by rfl)<|bj [6]<|bj [9999,16,0,6]<|cE (BR p d r lg Af nf cf kn wt pu dr pi cm lst fl na nfm N e steps rp rc2 rg2 I pin g h h0 h2 i b) [1,2] [4] fun x hx=>zE<|bv dx [] []<|bj [0,0] ?_
 exact rT x
end
def PinV (pin:Nat→Nat) (vs:List MapEntry) (I:List (Nat×Vl)):Prop:=∃ pin',PinI I pin'∧∀ m,pin' m+(vs.filterMap fun e=>ia e.val).count m=pin m
theorem PinV.nil {pin:Nat→Nat} {I:List (Nat×Vl)} (h:PinI I pin):PinV pin [] I:=⟨pin,h,fun m=>by simp⟩
theorem PinV.skip {pin:Nat→Nat} {vs:List MapEntry} {I:List (Nat×Vl)} {e:MapEntry} (h:PinV pin vs I) (a:ia e.val=none):PinV pin (vs++[e]) I:=by
 obtain ⟨q,h1,h2⟩:=h
 refine ⟨q,h1,fun m=>?_⟩
 rw [List.filterMap_append]
 simpa [a] using h2 m
theorem PinV.step {pin q:Nat→Nat} {vs:List MapEntry} {I:List (Nat×Vl)} {e:MapEntry} {n:Nat} (h2:∀ m,q m+(vs.filterMap fun e=>ia e.val).count m=pin m) (a:ia e.val=some n) (h0:0<q n) (b:PinI I (qM q n)):PinV pin (vs++[e]) I:=by
 refine ⟨_,b,fun m=>?_⟩
 have:=h2 m
 rw [List.filterMap_append,List.count_append]
 simp only [List.filterMap_cons,a,List.filterMap_nil,List.count_cons,List.count_nil,beq_iff_eq,qM]
 split <;> split <;> (try subst_vars) <;> omega
theorem oT {a:List MapEntry} {SH:List (Nat×Vl)} (h:a.map (fun e=>(e.key,e.val))=SH.map (fun p=>(eK .u64 p.1,p.2))):(a.filterMap fun e=>ia e.val)=go SH:=by
 have:=congrArg (List.filterMap fun p:Value×Value=>ia p.2) h
 simpa [List.filterMap_map,Function.comp_def,go] using this
section
variable (v N lim:Nat) (key:Vl) (d rs lg:Nat) (op:Bool) (r p c pp rc rg gn n al:Nat)
variable (k t:Nat) (sec:Vl) (q1 n1:Int) (h o s rt:Nat) (ops ky fr too:Vl) (bk:Bool)
variable (tt q mb mc rp rc2 rg2 ch hb hc cb sh made tn:Nat)
variable (nf cf kn wt:Nat) (Af:Option Addr) (pi cm lst:Nat) (b1 b2 b3:Nat)
theorem Hy (T SH:List (Nat×Vl)) (aq:T.length=1) (af:ShP N SH) (j:t<4294967296) (na nfm:Nat) (B:Vl) (steps:Int) (nn a H O i f:Nat) (kk val b:Bs) (K:List (Nat×Vl)) (M:Nat→Option Pg) (C:KM K M) (hM:M rp=some ⟨t,1,0,rc2,rg2,bw kk val⟩) (k1:1≤kk.length) (k2:kk.length≤32) (v0:1≤val.length) (v3:val.length≤64)
 (P:M pp=some ⟨0,1,0,rc,rg,bw (be t 4) b⟩) (z0:1≤b.length) (z3:b.length≤64) (L:bV) (hL:RunsP L) (hn:nf≤50000) (ai:¬ bR L rp) (l:¬ bR L pp) (W U D:List Nat) (hW:rp∉W) (hU:rp∉U) (hD:rp∉D) (Q:pp∉W++[rp]) (R:pp∉U) (S:pp∉D++[rp]) (h2:2≤rp) (hN:rp<N) (aj:rp<4294967296) (V:2≤pp) (Y:pp<N) (z:pp<4294967296) (aB:N≤4096) (g:0<cm)
 (I:List (Nat×Vl)) (pin:Nat→Nat) (hI:PinI I pin) (Z:∀ m,pin m<1000000) (aa:∀ m,pin m=(go SH).count m) :
 TT 119 #[u64 nn,bi b1,bi b2,bi b3] [(b1,.cl [bi v] 32),(b2,.cl (eO k t sec q1 n1 h o s rt ops ky fr too bk) 41),(b3,.cl [bi tn] 106),(v,.cl (bU N lim key d rs lg op r p c pp rc rg gn n al) 90),(al,.pr (MU T)),(tn,.cl (b9 tt q mb mc rp rc2 rg2 ch hb hc cb sh made) 113),(p,.cl (bM d r lg Af nf cf kn wt (some i) (some f) pi cm lst false) 199),(d,.cl (bQ na nfm N B steps) bT),(kn,.pr (MU K)),(a,.fa (PgsF K M)),(H,.fa (bN Af nf cf L)),(i,.pr (MU (bF U))),(sh,.pr (MV SH)),(O,.fa (ShF t SH))]
  [(wt,.pr (MU (bF W))),(f,.pr (MU (bF D))),(pi,.pr (MU I))] (fun x:List (Nat×Vl)=>PinI x fun _=>0) (fun _=>.returned (.agg #[u32 0,u64 0,u16 0,u8 0,u16 gn,i64 ((T.length-1:Nat):Int)]))
  (fun x=>[(wt,.pr (MU (bF (W++[rp]++[pp])))),(f,.pr (MU (bF (D++[rp]++[pp])))),(pi,.pr (MU x))]) (fun _=>[]):=by
 refine cJ func119 (by kernel_rfl) fun w0 ho=>iT 12 sh (MV SH) (by kernel_rfl) fun o hm=>?_
 obtain ⟨es,clock,rfl,hes,hnd,hck⟩:=hm
 refine bu [] 1 fun nm=>bj [9999,49152,0,3,1,2,5]<|bv (DO p d r lg Af nf cf kn wt pi cm lst na nfm N B steps t rp rc2 rg2 a H i f kk val K M C hM k1 k2 v0 v3 L hL hn ai W U D hW hU hD h2 hN aj g) [6,7,8,9,10,11] [14,15]<|zE<|bv dx [] []<|zE<|bj [9999,49152,0,3,0,3,1]<|ef Nat (fun nm1q=>True) 64 (fun nm1q=>[(1,bi b1),(3,bi b3),(5,bi (nm 0)),(6,bi nm1q)]) [.code (cZ f119 6)] (fun nm1q=>[(b1,.cl [bi v] 32),(b2,.cl (eO k t sec q1 n1 h o s rt ops ky fr too bk) 41),(b3,.cl [bi tn] 106),(v,.cl (bU N lim key d rs lg op r p c pp rc rg gn n al) 90),(al,.pr (MU T)),(tn,.cl (b9 tt q mb mc rp rc2 rg2 ch hb hc cb sh made) 113),(p,.cl (bM d r lg Af nf cf kn wt (some i) (some f) pi cm lst false) 199),(d,.cl (bQ na nfm N B steps) 123),(kn,.pr (MU K)),(a,.fa (PgsF K M)),(H,.fa (bN Af nf cf L)),(i,.pr (MU (bF U))),(sh,.ob (Obj.map es clock)),(O,.fa (ShF t SH)),(wt,.pr (MU (bF (W++[rp]++[pp])))),(f,.pr (MU (bF (D++[rp]++[pp])))),(pi,.pr (MU I)),(nm 0,.cl [u32 0,u64 0,u16 0,u8 0,u16 0,i64 0] 222),(nm1q,.cl [u32 0,u64 0,u16 0,u8 0] 85)]) ([]) 14 (fun key1=>?_) ?_
 · refine dq 12 16 ?_ ?_
   · refine bv (lu p d r lg Af nf cf kn wt pi cm lst t j na nfm N B steps pp rc rg a H i f b K M C P z0 z3 L hL hn l (W++[rp]) U (D++[rp]) Q R S V Y z g) [6,7,8,9,10,11] [14,15]<|zE<|dq 15 16 ?_ ?_
     · refine bv (gk 0 0 0) [] []<|ib 5 [18,2,5] 1 _ bt fun nm1=>⟨by kernel_rfl,?_⟩
       exact jT [0,1,2,3,4,5,6,7,8,9,10,11,12,13,14,15,16,17,18] (fun u=>key1 (nm1 0) u trivial)
     · refine bu [] 1 fun nm1=>bv (gk 0 0 0) [] []<|ib 3 [18,2,5] 0 _ bt fun _=>⟨by kernel_rfl,?_⟩
       exact jT [0,1,2,3,4,5,6,7,8,9,10,11,12,13,14,15,16,17,18] (fun u=>key1 (nm1 0) u trivial)
   · refine bu [] 1 fun nm1=>bv (lu p d r lg Af nf cf kn wt pi cm lst t j na nfm N B steps pp rc rg a H i f b K M C P z0 z3 L hL hn l (W++[rp]) U (D++[rp]) Q R S V Y z g) [6,7,8,9,10,11] [14,15]<|zE<|bv (gk 0 0 0) [] []<|ib 3 [18,2,5] 0 _ bt fun _=>⟨by kernel_rfl,?_⟩
     exact jT [0,1,2,3,4,5,6,7,8,9,10,11,12,13,14,15,16,17,18] (fun u=>key1 (nm1 0) u trivial)
 rintro nm1q u _
 refine bj [2,5]<|xE (fj (t:=111) (kt:=25) (et:=119) underlying111 sh es clock hck) [12] [] fun x _=>zE<|kq (X:=List MapEntry×List (Nat×Vl)) (fun y=>Gone es.toList y.1∧PinV pin y.1 y.2) (fun y=>gM es.toList y.1) 64 (fun y=>[(1,bi b1),(5,bi (nm 0)),(6,bi nm1q),(43,bi x)]) (fun y=>[(b1,.cl [bi v] 32),(b2,.cl (eO k t sec q1 n1 h o s rt ops ky fr too bk) 41),(b3,.cl [bi tn] 106),(v,.cl (bU N lim key d rs lg op r p c pp rc rg gn n al) 90),(al,.pr (MU T)),(tn,.cl (b9 tt q mb mc rp rc2 rg2 ch hb hc cb sh made) 113),(p,.cl (bM d r lg Af nf cf kn wt (some i) (some f) pi cm lst false) 199),(d,.cl (bQ na nfm N B steps) bT),(kn,.pr (MU K)),(a,.fa (PgsF K M)),(H,.fa (bN Af nf cf L)),(i,.pr (MU (bF U))),(sh,.ob (.map es clock)),(O,.fa (ShF t SH)),(wt,.pr (MU (bF (W++[rp]++[pp])))),(f,.pr (MU (bF (D++[rp]++[pp])))),(pi,.pr (MU y.2)),(nm 0,.cl [u32 0,u64 0,u16 0,u8 0,u16 0,i64 0] 222),(nm1q,.cl [u32 0,u64 0,u16 0,u8 0] 85),(x,.pr (fW sh es clock y.1))]) ([],I) ⟨Gone.nil _,PinV.nil hI⟩ fun ⟨vs,J1⟩ u J hpre back=>?_
 have hg:Gone es.toList vs:=hpre.1
 have hv:PinV pin vs J1:=hpre.2
 clear hpre
 refine zE<|xE (el 0 x sh es clock vs) [12] [19] fun x1 ⟨hx,hx1⟩=>?_
 rcases x1 with _ | e
 · simp only [Option.toList_none,List.append_nil]
   have ab:=hg.all hnd (hx rfl)
   have aD:PinI J1 fun _=>0:=by
    obtain ⟨q0,hq1,hq2⟩:=hv
    have:q0=fun _=>0:=by
     funext m
     have h1:=hq2 m
     have h2:=(ab.filterMap fun e=>ia e.val).count_eq m
     rw [oT hes] at h2
     have h3:=aa m
     omega
    rw [← this]
    exact hq1
   have E:∀ o,(SB.ob (.map es clock)).ok o→(SB.pr (MV SH)).ok o:=fun o ho=>⟨es,clock,ho,hes,hnd,hck⟩
   clear back ab hg hx hx1
   exact lE 12 sh (.ob (.map es clock)) (.pr (MV SH)) E<|bj [0]<|bj [9999,131072,18,0,3,0,3]<|tE (i64 ↑T.length) [4] [(al,.pr (MU T))] (tf (kt:=37) (et:=106) (T:=88) underlying88 (K:=Nat) (enc:=eK .u32) al T 3)<|bj [9999,17]<|qC 17 (nm 0) (fun z9:Int=>(.cl [u32 0,u64 0,u16 0,u8 0,u16 gn,i64 z9] 222)) (wI ((↑T.length:Int)-1) (List.length T-1))<|rT J1 17
 · simp only [Option.toList_some]
   obtain ⟨he,hnb⟩:=hx1 e rfl
   have ac:=jC he hnb
   have F:=hg.add he hnb
   have A:=F.count (fun e=>ia e.val)
   rw [oT hes] at A
   obtain ⟨ek,ev,eb⟩:=e
   obtain ⟨pr,hp,-,hpk⟩:=o8 hes he
   dsimp only at hpk
   rcases af pr hp with ⟨sch,hsv⟩ | ⟨srp,src,srg,sch,sb,sc,hsv,s2,sN⟩
   · have G:=hpk.trans hsv
     subst G
     exact bj [0]<|rE (eH x sh es clock vs ({key:=ek,val:=fR 0 0 0 sch none 0 0,born:=eb}) he hnd) [12,19]<|bu [20,0,20] 1 fun nm2=>bv (uz v sch) [] []<|zE<|back _ (vs++[_],J1) (List.range 20) ⟨F,hv.skip (tl sch)⟩ ac (by kernel_rfl)
   · have G:=hpk.trans hsv
     subst G
     obtain ⟨q0,hq1,hq2⟩:=hv
     have ad:0<q0 srp:=by
      have h1:=A srp
      have h2:=hq2 srp
      have h3:=aa srp
      rw [List.filterMap_append,List.count_append] at h1
      simp only [List.filterMap_cons,m7,List.filterMap_nil,List.count_cons,List.count_nil,beq_self_eq_true,if_true] at h1
      omega
     have an:q0 srp<1000000:=by have:=hq2 srp;have:=Z srp;omega
     have ae:srp<4294967296:=by omega
     exact bj [0]<|rE (eH x sh es clock vs ({key:=ek,val:=fR srp src srg sch (pA sb) 1 sc,born:=eb}) he hnd) [12,19]<|bu [20,0,20] 1 fun nm2=>cV (ur v N lim key d rs lg op r p c pp rc rg gn n al nf cf kn wt Af (some i) (some f) pi cm lst false na nfm B steps t srp src srg sch sb sc O J1 q0 hq1 an ad s2 sN ae) [3,6,7,13] [16] (Views.same (by kernel_rfl) (Views.same (by kernel_rfl) (Views.same (by kernel_rfl) (Views.fact (a:=O) (ShF t SH) (by kernel_rfl) (fun w hw=>hw pr hp srp src srg sch sb sc hsv) Views.nil)))) fun J2 hJ2=>zE<|back _ (vs++[_],J2) (List.range 20) ⟨F,PinV.step hq2 (m7 srp src srg sch _ 1 sc) ad hJ2⟩ ac (by kernel_rfl)
end
theorem uu (r m t g:Nat) (l:List ((Nat×Nat)×Vl)) (a:l.length≤1000) (c:cg t (l.map (·.1))=[g]) :
 TT 48 #[bi r,u32 t] [(r,.cl [.map (some m)] 182),(m,.pr (bB eW l))] [] (fun _:Nat×Nat=>True) (fun x=>.returned (sA x.1 1 x.2)) (fun _=>[]) (fun x=>[(x.1,.pr (bn 68 1 1 x.2 [mV g]))]):=
 (rM r m t l a [g] c (Nat.le_refl _)).fw rfl (fun _ h=>h) fun ⟨v,b,sb⟩ hx=>by
  obtain ⟨cap,h1,h2⟩:=SlE.one hx
  dsimp only at h1 h2 ⊢
  subst h1 h2
  exact ⟨(b,cap),trivial,rfl,rfl,rfl,fun _ _ h=>h⟩
theorem Cr (r m t:Nat) (l:List ((Nat×Nat)×Vl)) (d:l.length≤1000) (e:cg t (l.map (·.1))=[]) :
 TT 48 #[bi r,u32 t] [(r,.cl [.map (some m)] 182),(m,.pr (bB eW l))] [] (fun _:Option Addr×Nat=>True) (fun x=>.returned (.slice x.1 0 x.2)) (fun _=>[]) (fun _=>[]):=
 (rM r m t l d [] e (Nat.zero_le _)).lift [0,1] [] rfl (fun _=>bH) fun ⟨v,b,sb⟩ hx=>by
  obtain ⟨a,c,h1⟩:=hx.form
  dsimp only at h1
  subst h1
  exact ⟨(a,c),trivial,rfl,[],rfl⟩
theorem BV (r m t:Nat) (v:Vl) (l:List ((Nat×Nat)×Vl)) (h:lk l (t,1)=some v) :
 TT 53 #[bi r,u32 t,u16 1] [(r,.cl [.map (some m)] 182)] [(m,.pr (bB eW l))] uT (fun _=>.returned (i64 0)) (fun _=>[(m,.pr (bB eW (del l (t,1))))]) (fun _=>[]):=D5 r m t 1 v l h
section
variable (v N lim:Nat) (key:Vl) (d rs lg:Nat) (op:Bool) (r p c pp rc rg gn n al:Nat)
variable (k t:Nat) (sec:Vl) (q1 n1:Int) (h o s rt:Nat) (ops ky fr too:Vl) (bk:Bool) (b1 b2:Nat)
theorem EY (T:List (Nat×Vl)) (g:t<4294967296) (m:Nat) (G:List ((Nat×Nat)×Vl)) (b:G.length≤1000) (f:cg t (G.map (·.1))=[1]) (gv:Vl) (a:lk G (t,1)=some gv) :
 TT 123 #[bi b1,bi b2] [(b1,.cl [bi v] 32),(b2,.cl (eO k t sec q1 n1 h o s rt ops ky fr too bk) 41),(v,.cl (bU N lim key d rs lg op r p c pp rc rg gn n al) 90),(r,.cl [.map (some m)] 182)] [(m,.pr (bB eW G)),(al,.pr (MU T))] uT (fun _=>.returned (.tuple #[])) (fun _=>[(m,.pr (bB eW (del G (t,1)))),(al,.pr (MU (del T t)))]) (fun _=>[]):=by
 refine iE func123<|zE<|bj [9999,0,0,2,1]<|cE (uu r m t 1 G b f) [3,4] [] fun ⟨x,x1⟩ _=>bj [3,0,0,9999]<|rE (cx (T:=68) (e:=68) x 0 1 1 x1 ([mV 1]) (mV 1) (fun w=>by kernel_rfl) (by kernel_rfl)) [6]<|zE<|bj [9999,16,0,2,1]<|bv (BV r m t gv G a) [3] [4]<|zE<|cE dx [] [] ?_
 intro _ _
 exact bj [0,0]<|bj [9999,32,0,2,1]<|xE (sx (kt:=37) (et:=106) (T:=88) (κ:=.u32) underlying88 underlying37 al T t 0) [] [5] fun _ _=>zE<|rT ()
end
section
variable (v N lim:Nat) (key:Vl) (d rs lg:Nat) (op:Bool) (r p c pp rc rg gn n al:Nat)
variable (k t:Nat) (sec:Vl) (q1 n1:Int) (h o s rt:Nat) (ops ky fr too:Vl) (bk:Bool)
variable (tt q mb mc rp rc2 rg2 ch hb hc cb sh made tn:Nat)
variable (nf cf kn wt:Nat) (Af:Option Addr) (pi cm lst:Nat)
theorem FR (u w R:Nat) (T SH:List (Nat×Vl)) (S:T.length=1) (hT:lk T t=some (bi tn)) (U:ShP N SH) (f:t<4294967296) (na nfm:Nat) (steps:Int) (a V a3 a4 m:Nat) (b:Bs) (K:List (Nat×Vl)) (M:Nat→Option Pg) (y:KM K M) (L:bV) (hL:RunsP L) (W:List Nat) (kk val:Bs) (hM:M rp=some ⟨t,1,0,rc2,rg2,bw kk val⟩) (k1:1≤kk.length) (k2:kk.length≤32) (v0:1≤val.length) (v3:val.length≤64) (X:¬ bR L rp) (hW:rp∉W) (h2:2≤rp) (hN:rp<N) (Y:rp<4294967296) (Z:nf≤50000)
 (aa:M pp=some ⟨0,1,0,rc,rg,bw (be t 4) b⟩) (z0:1≤b.length) (z3:b.length≤64) (z:¬ bR L pp) (A:pp∉W++[rp]) (ab:2≤pp) (ac:pp<N) (B:pp<4294967296) (C:N≤4096) (h8:8≤N)
 (I:List (Nat×Vl)) (pin:Nat→Nat) (hI:PinI I pin) (D:∀ m,pin m<1000000) (ad:∀ m,pin m=(go SH).count m)
 (now firm:List Bs) (ae:now.length=N) (af:firm.length=N) (E:bP now) (f256:bP firm) (lb Mg:Nat) (lsb:SB) (lv:Vl) (xs:List Vl) (ag:SlE 502 9 Mg xs lv (lb,lsb)) (ah:Mg≤800000) (G:List ((Nat×Nat)×Vl)) (Kf:Nat×Nat→Option Bs) (ai:RG G Kf) (hG:G.length≤1000) (hg:cg t (G.map (·.1))=[1]) (gv:Vl) (aj:lk G (t,1)=some gv) (e:Bs) (F:Kf (0,gn)=some e) (ak:32=e.length) (i:gn<65536)
 (am:∀ m,bR L m→m<N) (an:(W++[rp]++[pp]).length≤12) (ao:(W++[rp]++[pp]).Nodup) (ap:∀ n∈W++[rp]++[pp],2≤n∧n<N∧¬ bR L n) (dv:Vl) (fl:Bool) (pu dr:Option Nat) (H:lst≤cm) (aA:cm+1<128) (J:cm<lim) (j:lim<4294967296) :
 TT 110 #[bi v,.func (.func 119) #[] #[bi u,bi w,bi R],.func (.func 123) #[] #[bi u,bi w]] [(u,.cl [bi v] 32),(w,.cl (eO k t sec q1 n1 h o s rt ops ky fr too bk) 41),(R,.cl [bi tn] 106),(r,.cl [.map (some m)] 182),(tn,.cl (b9 tt q mb mc rp rc2 rg2 ch hb hc cb sh made) 113),(sh,.pr (MV SH)),(a,.fa (bN Af nf cf L)),(V,.fa (PgsF K M)),(a3,.fa (dw G Kf)),(a4,.fa (ShF t SH))] [(v,.cl (bU N lim key d rs lg op r p c pp rc rg gn n al) 90),(al,.pr (MU T)),(m,.pr (bB eW G)),(p,.cl (bM d r lg Af nf cf kn wt pu dr pi 0 lst fl) 199),(kn,.pr (MU K)),(wt,.pr (MU (bF W))),(pi,.pr (MU I)),(rs,.cl (dc d (lim:Int) (cm:Int) (cm:Int) dv) df),(lg,.cl [lv] 128),(lb,lsb),(d,.cl (bQ na nfm N (.slice none 0 0) steps) bT),(na,.cl (bE now) 166),(nfm,.cl (bE firm) 166)] uT (fun _=>.returned (.tuple #[])) (fun _=>deadL [(v,.cl (bU N lim key d rs lg op r p c pp rc rg gn n al) 90),(al,.pr (MU T)),(m,.pr (bB eW G)),(p,.cl (bM d r lg Af nf cf kn wt pu dr pi 0 lst fl) 199),(kn,.pr (MU K)),(wt,.pr (MU (bF W))),(pi,.pr (MU I)),(rs,.cl (dc d (lim:Int) (cm:Int) (cm:Int) dv) df),(lg,.cl [lv] 128),(lb,lsb),(d,.cl (bQ na nfm N (.slice none 0 0) steps) bT),(na,.cl (bE now) 166),(nfm,.cl (bE firm) 166)]) (fun _=>[(v,.cl (bU N lim key d rs lg op r p (cm+1) 0 0 0 gn (T.length-1) al) 90),(al,.pr (MU (del T t)))]):=by
 have O:([]:List Nat).length≤12:=by simp
 have aq:pp∉([]:List Nat):=by simp
 have P:rp∉([]:List Nat):=by simp
 have ar:pp∉([]:List Nat)++[rp]:=fun hm=>A (List.mem_append_right _ (by simpa using hm))
 have Q:T.length-1<4294967296:=by omega
 have au:∀ m:Nat,(fun _:Nat=>0) m<1000000:=fun m=>by simp
 have av:∀ n∈([]:List Nat),2≤n∧n<N∧∃ qq,M n=some qq∧∃ l,Kf (qq.t,qq.g)=some l:=fun n Z=>by simp at Z
 have aw:0<cm+1:=by omega
 refine dE func110 fun w0 ho=>bu [9999] 1 fun nm=>bj [9999,1187840,23,10,23,10]<|cE (lR p d r rs lg Af nf cf kn wt pu dr pi lst fl na nfm N (.slice none 0 0) steps cm lim dv H J j) [] [13,17,20] fun ⟨x,x1,x2⟩ _=>zE<|bv (mR (u64 ↑(cm+1))) [] []<|bu [26] 1 fun nm1=>cS ⟨.fn (.func 194) #[bi (nm1 0),bi (nm 0)],#[]⟩<|zE<|cE (Hy v N lim key d rs lg op r p c pp rc rg gn n al k t sec q1 n1 h o s rt ops ky fr too bk tt q mb mc rp rc2 rg2 ch hb hc cb sh made tn nf cf kn wt Af pi (cm+1) (cm+1) u w R T SH S U f na nfm (.slice none 0 0) x (cm+1) V a a4 x1 x2 kk val b K M y hM k1 k2 v0 v3 aa z0 z3 L hL Z X z W ([]) ([]) hW P P A aq ar h2 hN Y ab ac B C aw I pin hI D ad) [0,1,2,10,11,4,13,20,14,7,6,24,5,9] [15,25,16] fun x3 hx=>bu [27,26,27,27,27,9999,9999,28] 2 fun nm2=>?_
 refine bj [9999,8314880,23,10,23,10,28]<|vC 43 (fun z9:Int=>(.agg ⟨[u64 ↑(cm+1),u32 0,u64 0,u16 0,u8 0,u16 gn,u32 z9]⟩)) (kd (List.length T-1))<|cE (lM p d r lg rs Af nf cf kn wt (some x2) pi (cm+1) na nfm N x now firm ae af E f256 C h8 m x1 a3 V a Mg lb lsb lv xs ag ah G Kf ai e gn F ak K M y ([]) O av x3 (fun x ↦ 0) hx au L hL am (W++[rp]++[pp]) an ao ap lim (cm+1) cm 0 0 0 (List.length T-1) dv (by omega) (by omega) (by omega) (by omega) (by omega) i Q) [3,12,8,24,16,6,7] [13,17,15,14,18,19,20,21,22] fun ⟨⟨x4,x5,x6,x7,x8,x9,x10,x11⟩,x12,x13,x14,x15⟩ ⟨⟨hx1,hx2,hx3,hx4,hx5,hx6⟩,⟨hx7,hx8⟩,hx9⟩=>?_
 try dsimp only at hx1 hx2 hx3 hx4 hx5 hx6 hx7 hx8 hx9
 exact zE<|bv dx [] []<|bj [23,28,10]<|qC 10 v (fun z9:Int=>(.cl [i64 N,u64 lim,.slice none 0 0,key,bi d,bi rs,bi lg,.bool op,bi r,bi p,u64 ↑(cm+1),u32 0,u64 0,u16 0,u8 0,u16 gn,u32 z9,.map (some al)] 90)) (kd (List.length T-1))<|qC 28 (nm2 1) (fun z9:Int=>(.cl [u64 ↑(cm+1),u32 0,u64 0,u16 0,u8 0,u16 gn,u32 z9] 87)) (kd (List.length T-1))<|bv (EY v N lim key d rs lg op r p (cm+1) 0 0 0 gn (List.length T-1) al k t sec q1 n1 h o s rt ops ky fr too bk u w T f m G hG hg gv aj) [0,1,10,3] [12,11]<|zE<|fV<|dG #[bi (nm1 0),bi (nm 0)] #[] [] (o7 (nm1 0) (nm 0)) [26] [] fun _ _=>wu () (.tuple #[]) [10,11] (fN _ 9999)
theorem He (T SH:List (Nat×Vl)) (A:T.length=1) (hT:lk T t=some (bi tn)) (B:ShP N SH) (i:t<4294967296) (na nfm:Nat) (steps:Int) (a a2 a3 a4 m:Nat) (b:Bs) (K:List (Nat×Vl)) (M:Nat→Option Pg) (C:KM K M) (L:bV) (hL:RunsP L) (W:List Nat) (kk val:Bs) (hM:M rp=some ⟨t,1,0,rc2,rg2,bw kk val⟩) (k1:1≤kk.length) (k2:kk.length≤32) (v0:1≤val.length) (v3:val.length≤64) (D:¬ bR L rp) (hW:rp∉W) (h2:2≤rp) (hN:rp<N) (E:rp<4294967296) (hn:nf≤50000)
 (F:M pp=some ⟨0,1,0,rc,rg,bw (be t 4) b⟩) (z0:1≤b.length) (z3:b.length≤64) (j:¬ bR L pp) (H:pp∉W++[rp]) (J:2≤pp) (O:pp<N) (k:pp<4294967296) (P:N≤4096) (h8:8≤N)
 (I:List (Nat×Vl)) (pin:Nat→Nat) (hI:PinI I pin) (l:∀ m,pin m<1000000) (Q:∀ m,pin m=(go SH).count m)
 (now firm:List Bs) (R:now.length=N) (S:firm.length=N) (u:bP now) (f256:bP firm) (lb Mg:Nat) (lsb:SB) (lv:Vl) (xs:List Vl) (U:SlE 502 9 Mg xs lv (lb,lsb)) (V:Mg≤800000) (G:List ((Nat×Nat)×Vl)) (Kf:Nat×Nat→Option Bs) (X:RG G Kf) (hG:G.length≤1000) (hg:cg t (G.map (·.1))=[1]) (gv:Vl) (Y:lk G (t,1)=some gv) (e:Bs) (w:Kf (0,gn)=some e) (Z:32=e.length) (f:gn<65536)
 (aa:∀ m,bR L m→m<N) (ab:(W++[rp]++[pp]).length≤12) (ac:(W++[rp]++[pp]).Nodup) (ad:∀ n∈W++[rp]++[pp],2≤n∧n<N∧¬ bR L n) (dv:Vl) (fl:Bool) (pu dr:Option Nat) (x:lst≤cm) (y:cm+1<128) (z:cm<lim) (g:lim<4294967296) :
 TT 10 #[bi v,cR 2 t sec q1 n1 h o s rt ops ky fr too bk] [(r,.cl [.map (some m)] 182),(tn,.cl (b9 tt q mb mc rp rc2 rg2 ch hb hc cb sh made) 113),(sh,.pr (MV SH)),(a,.fa (bN Af nf cf L)),(a2,.fa (PgsF K M)),(a3,.fa (dw G Kf)),(a4,.fa (ShF t SH))] [(v,.cl (bU N lim key d rs lg true r p c pp rc rg gn n al) 90),(al,.pr (MU T)),(m,.pr (bB eW G)),(p,.cl (bM d r lg Af nf cf kn wt pu dr pi 0 lst fl) 199),(kn,.pr (MU K)),(wt,.pr (MU (bF W))),(pi,.pr (MU I)),(rs,.cl (dc d (lim:Int) (cm:Int) (cm:Int) dv) df),(lg,.cl [lv] 128),(lb,lsb),(d,.cl (bQ na nfm N (.slice none 0 0) steps) bT),(na,.cl (bE now) 166),(nfm,.cl (bE firm) 166)] uT (fun _=>.returned (cP 0 0 0 bp bp 0 bp)) (fun _=>deadL [(v,.cl (bU N lim key d rs lg true r p c pp rc rg gn n al) 90),(al,.pr (MU T)),(m,.pr (bB eW G)),(p,.cl (bM d r lg Af nf cf kn wt pu dr pi 0 lst fl) 199),(kn,.pr (MU K)),(wt,.pr (MU (bF W))),(pi,.pr (MU I)),(rs,.cl (dc d (lim:Int) (cm:Int) (cm:Int) dv) df),(lg,.cl [lv] 128),(lb,lsb),(d,.cl (bQ na nfm N (.slice none 0 0) steps) bT),(na,.cl (bE now) 166),(nfm,.cl (bE firm) 166)]) (fun _=>[(v,.cl (bU N lim key d rs lg true r p (cm+1) 0 0 0 gn (T.length-1) al) 90),(al,.pr (MU (del T t)))]):=by
 refine dE func10 fun w0 ho=>bu [9999] 2 fun nm=>bv (ea v N lim key d rs lg true r p c pp rc rg gn n al) [7] []<|bu [0,7,0,22] 1 fun nm1=>cS ⟨.fn (.func 25) #[bi (nm1 0),bi (nm 1)],#[]⟩<|zE<|cS ⟨.fn (.func 26) #[],#[bi v,bi (nm1 0)]⟩<|bj [20]<|bv (Ah v) [] []<|bj [0,0,20]<|eA (args:=#[bi v,.agg ⟨(eO 2 t sec q1 n1 h o s rt ops ky fr too bk)⟩]) func63 ?_
 exact bu [9999,9999,23,24] 3 fun nm2=>bv (ry v N lim key d rs lg true r p c pp rc rg gn n al 2 t sec q1 n1 h o s rt ops ky fr too bk tn T hT) [7,8] []<|bu [26,23] 1 fun nm3=>bv (FR v N lim key d rs lg true r p c pp rc rg gn n al 2 t sec q1 n1 h o s rt ops ky fr too bk tt q mb mc rp rc2 rg2 ch hb hc cb sh made tn nf cf kn wt Af pi cm lst (nm2 0) (nm2 1) (nm3 0) T SH A hT B i na nfm steps a a2 a3 a4 m b K M C L hL W kk val hM k1 k2 v0 v3 D hW h2 hN E hn F z0 z3 j H J O k P h8 I pin hI l Q now firm R S u f256 lb Mg lsb lv xs U V G Kf X hG hg gv Y e w Z f aa ab ac ad dv fl pu dr x y z g) [23,24,26,0,1,2,3,4,5,6] [7,8,9,10,11,12,13,14,15,16,17,18,19]<|bj [25,25]<|eC (.agg #[i64 0,u64 0,u64 0,.slice none 0 0,.slice none 0 0,i64 0,.slice none 0 0]) 25<|bj [21]<|fV<|dG #[] #[bi v,bi (nm1 0)] [⟨.fn (.func 25) #[bi (nm1 0),bi (nm 1)],#[]⟩] (gx v (nm1 0)) [] [] fun _ _=>dG #[bi (nm1 0),bi (nm 1)] #[] [] (kZ (nm1 0) (nm 1) .returning) [22] [] fun _ _=>wu () (cP 0 0 0 bp bp 0 bp) [27,28] (fN _ 21)
end
end Go.Proofs.YtlkeemedalncoaaGreat.En
