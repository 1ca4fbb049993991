/- TopHandles, part 28: no condition. -/
import Derived.Test.YtlkeemedalncoaaGreatP27
set_option linter.all false
set_option maxHeartbeats 16000000
set_option maxRecDepth 100000
namespace Go.Proofs.YtlkeemedalncoaaGreat.En
open Go Go.RowKit Go.Proofs.YtlkeemedalncoaaGreat Go.Proofs.Tryz
theorem il (l:List Bs) (i j:Nat) (v:Bs) (h:j<l.length):(l.set i v).getD j []=if j=i then v else l.getD j []:=by
 rw [List.getD_eq_getElem?_getD,List.getElem?_set]
 by_cases e:i=j
 · subst e;rw [if_pos rfl,if_pos h,if_pos rfl];rfl
 · rw [if_neg e,if_neg (fun h=>e h.symm),← List.getD_eq_getElem?_getD]
theorem uj (Kf:Nat×Nat→Option Bs) (M:Nat→Option Pg) (n:Nat):∀ (L:List Nat) (now:List Bs),n<now.length→(dJ Kf M now L).getD n []=if n∈L then n2 Kf n (j4 M n) else now.getD n []
 | [],now,h=>by rw [if_neg List.not_mem_nil];rfl
 | a::L,now,h=>by
  show (dJ Kf M (now.set a (n2 Kf a (j4 M a))) L).getD n []=_
  rw [uj Kf M n L _ (by rw [List.length_set];exact h),il _ _ _ _ h]
  by_cases e:n∈L
  · rw [if_pos e,if_pos (List.mem_cons_of_mem _ e)]
  · rw [if_neg e]
    by_cases e2:n=a
    · subst e2;rw [if_pos rfl,if_pos List.mem_cons_self]
    · rw [if_neg e2,if_neg (fun h=>(List.mem_cons.1 h).elim e2 e)]
theorem uN (n:Nat):∀ (L:List Nat) (now:List Bs),n<now.length→(dp now L).getD n []=if n∈L then zB else now.getD n []
 | [],now,h=>by rw [if_neg List.not_mem_nil];rfl
 | a::L,now,h=>by
  show (dp (now.set a zB) L).getD n []=_
  rw [uN n L _ (by rw [List.length_set];exact h),il _ _ _ _ h]
  by_cases e:n∈L
  · rw [if_pos e,if_pos (List.mem_cons_of_mem _ e)]
  · rw [if_neg e]
    by_cases e2:n=a
    · subst e2;rw [if_pos rfl,if_pos List.mem_cons_self]
    · rw [if_neg e2,if_neg (fun h=>(List.mem_cons.1 h).elim e2 e)]
theorem Br {c:VC} {s:VS} {kk new:Bs} {ff b:Nat} {y:tN} (hc:c.Ok) (o:8≤c.N) (hs:s.Ok c) (hd:E0 c s) (hcm:s.cm=1) (f:s.W=[]) (i:∀ m,s.pin m=0) (hb:HM s ff b (s.W++[s.pp]) y) :
 ff=3∧b=4∧(mH c s 1 3 4 kk new y).getD 0 []=bI c.rkey 0 4 0 0 2 1 (bO 2 4 2 1 0 1 1)∧(mH c s 1 3 4 kk new y).getD 1 []=bI c.rkey 0 4 0 1 1 1 (bO 1 2 1 1 0 1 1) ∧
 (mH c s 1 3 4 kk new y).getD 4 []=bI c.rkey 0 1 0 4 2 1 (tR c s 1 3).pl∧(mH c s 1 3 4 kk new y).getD 3 []=bI c.tkey c.tt 1 0 3 2 1 (bw kk new)∧∀ m,2≤m→m<c.N→m∉[4,3]→(mH c s 1 3 4 kk new y).getD m []=List.replicate 256 0:=by
 obtain ⟨d1,d2,d3,d4,d5⟩:=hd
 obtain ⟨b1,b2,b3,b4,b5,b6,b7⟩:=hb
 rw [f,d1] at b2 b3 b4
 simp only [List.nil_append,List.length_singleton] at b2 b3 b4
 have p:=d3 _ b5
 have q:=d3 _ b6
 have j:ff=3:=by omega
 have e2:b=4:=by omega
 subst j e2
 have k:List.filter (cN s.pin) [2]=[2]:=by simp [cN,i]
 rw [k] at b2
 have d:=List.perm_singleton.1 b2
 have a:s.now.length=c.N:=hs.now
 have l:∀ m,m∈y.1.2.1↔m=3∨m=4:=fun m=>by rw [b1.mem_iff];simp
 have g:∀ m,m<c.N→(mH c s 1 3 4 kk new y).getD m []=if m=2 then zB else if m=0 then bI c.rkey 0 4 0 0 2 1 (bO 2 4 2 1 0 1 1) else if m=3∨m=4 then n2 c.Kf m (j4 (lh c s 1 3 4 kk new) m) else s.now.getD m []:=fun m h=>by
  show (dp ((dJ c.Kf (lh c s 1 3 4 kk new) s.now y.1.2.1).set ((s.cm+1)%2) (bI c.rkey 0 4 0 ((s.cm+1)%2) (s.cm+1) 1 (bO (s.cm+1) 4 (s.cm+1) 1 0 1 1))) y.1.1.2.2.2.2.2.2.1).getD m []=_
  rw [d,uN _ _ _ (by rw [List.length_set,jJ,a];exact h),il _ _ _ _ (by rw [jJ,a];exact h),uj _ _ _ _ _ (by rw [a];exact h),hcm]
  simp only [List.mem_singleton,l]
 have z:∀ m,m<c.N→s.now.getD m []=if m=1 then bI c.rkey 0 4 0 1 1 1 (bO 1 2 1 1 0 1 1) else if m=2 then bI c.rkey 0 1 0 2 1 1 (qZ c s).pl else List.replicate 256 0:=fun m h=>by
  rw [d5,il _ _ _ _ (by simp;exact h),il _ _ _ _ (by simp;exact h),List.getD_eq_getElem?_getD,List.getElem?_replicate,if_pos h]
  rfl
 have n:n2 c.Kf 4 (j4 (lh c s 1 3 4 kk new) 4)=bI c.rkey 0 1 0 4 2 1 (tR c s 1 3).pl:=by
  have e:j4 (lh c s 1 3 4 kk new) 4=tR c s 1 3:=rfl
  rw [e]
  show bI ((c.Kf (0,1)).getD []) 0 1 0 4 (s.cm+1) 1 _=_
  rw [hc.kf0,hcm]
  rfl
 have k3:n2 c.Kf 3 (j4 (lh c s 1 3 4 kk new) 3)=bI c.tkey c.tt 1 0 3 2 1 (bw kk new):=by
  have e:j4 (lh c s 1 3 4 kk new) 3=AB c s kk new:=rfl
  rw [e]
  show bI ((c.Kf (c.tt,1)).getD []) c.tt 1 0 3 (s.cm+1) 1 _=_
  rw [hc.kft,hcm]
  rfl
 refine ⟨rfl,rfl,?_,?_,?_,?_,fun m h1 h2 h3=>?_⟩
 · rw [g 0 (by omega)];rfl
 · rw [g 1 (by omega)]
   exact (z 1 (by omega)).trans rfl
 · rw [g 4 (by omega)];exact n
 · rw [g 3 (by omega)];exact k3
 · simp only [List.mem_cons,List.not_mem_nil,or_false,not_or] at h3
   rw [g m h2]
   by_cases e:m=2
   · rw [if_pos e];rfl
   · rw [if_neg e,if_neg (by omega),if_neg (by omega),z m h2,if_neg (by omega),if_neg e]
section
variable (v N lim:Nat) (key:Vl) (d rs lg:Nat) (op:Bool) (r p c pp rc rg gn n al:Nat)
variable (k t:Nat) (sec:Vl) (q1 n1:Int) (h o rt:Nat) (ops fr too:Vl) (bk:Bool)
variable (tt q mb mc rp rc2 rg2 ch hb hc cb sh made ca cm tn:Nat) (T A:List (Nat×Vl))
variable (qb qo qc:Nat)
theorem Ho (h64:h<18446744073709551616) (hT:lk T (h/4294967296)=some (bi tn)) (f j:Nat) (hA:lk A (h%4294967296)=some (hV f j)) (hr:(cM 1 f != 0)=false) (Af:Option Addr) (nf cf kn wt:Nat) (pu dr:Option Nat) (pi e lst:Nat) (fl:Bool) (na nfm:Nat) (l:Vl) (steps:Int) (a m:Nat) (b:Nat) (kk val:Bs) (s:b=kk.length) (K:List (Nat×Vl)) (M:Nat→Option Pg) (g:KM K M) (u:M rp=some ⟨tt,1,0,rc2,rg2,bw kk val⟩) (h2:2≤rp) (w:rp<N) (i:rp<4294967296) (k1:1≤kk.length) (y:kk.length≤32) (z:1≤val.length) (B:val.length≤64):TT 73 #[bi v,cR k t sec q1 n1 h o 0 rt ops (cB qb qo b qc) fr too bk] [(v,.cl (bU N lim key d rs lg op r p c pp rc rg gn n al) 90),(al,.pr (MU T)),(tn,.cl (b9 tt q mb mc rp rc2 rg2 ch hb hc cb sh made) 113),(cb,.cl (cL ca cm) 212),cH ca A,(p,.cl (bM d r lg Af nf cf kn wt pu dr pi e lst fl) 199),(d,.cl (bQ na nfm N l steps) bT),(kn,.pr (MU K)),(a,.fa (PgsF K M)),(m,.fa (BF (pO qb qo) b qc kk))] [] (fun _:Nat×Nat=>True) (fun x=>.returned (cP 0 0 0 (ck x.1 val.length x.2) bp 0 bp)) (fun _=>[]) (fun x=>[(x.1,.fa (BF (pA x.1) val.length x.2 val))]):=by
 refine iE func73<|bu [9999,10] 2 fun nm=>bv (pI v N lim key d rs lg op r p c pp rc rg gn n al k t sec q1 n1 h o 0 rt ops (sO qb qo b qc) fr too bk tt q mb mc rp rc2 rg2 ch hb hc cb sh made ca cm tn T A h64 hT f j hA hr) [0,1,2,3,4] []<|bK [10,2,10,2,0] (br (dF ((↑b:Int)>32)) (br (tF ((↑b:Int)==0)) bt))<|bj [9999,0,0,2,10,10]<|bv (xU k t sec q1 n1 h o rt ops fr too bk tt q mb mc rp rc2 rg2 ch hb hc cb sh made tn (sO qb qo b qc)) [2] []<|zE<|cE (uR b p d r lg Af nf cf kn wt pu dr pi e lst fl na nfm N l steps tt rp rc2 rg2 a qb qo qc m kk val s K M g u h2 w i k1 y z B) [5,6,7,8,9] [] fun ⟨x,x1⟩ _=>bj [0,0]<|bv dx [] []<|bj [9999,11] ?_
 exact rT ((x,x1)) 11 [12]
theorem Hi (h64:h<18446744073709551616) (hT:lk T (h/4294967296)=some (bi tn)) (f j:Nat) (hA:lk A (h%4294967296)=some (hV f j)) (hr:(cM 1 f != 0)=false) (Af:Option Addr) (nf cf kn wt:Nat) (pu dr:Option Nat) (pi b lst:Nat) (fl:Bool) (na nfm:Nat) (k:Vl) (steps:Int) (a l:Nat) (e:Nat) (kk val:Bs) (m:e=kk.length) (K:List (Nat×Vl)) (M:Nat→Option Pg) (g:KM K M) (s:M rp=some ⟨tt,1,0,rc2,rg2,bw kk val⟩) (h2:2≤rp) (u:rp<N) (i:rp<4294967296) (k1:1≤kk.length) (w:kk.length≤32) (y:1≤val.length) (z:val.length≤64):TT 10 #[bi v,cR 12 t sec q1 n1 h o 0 rt ops (cB qb qo e qc) fr too bk] [(v,.cl (bU N lim key d rs lg true r p c pp rc rg gn n al) 90),(al,.pr (MU T)),(tn,.cl (b9 tt q mb mc rp rc2 rg2 ch hb hc cb sh made) 113),(cb,.cl (cL ca cm) 212),cH ca A,(p,.cl (bM d r lg Af nf cf kn wt pu dr pi b lst fl) 199),(d,.cl (bQ na nfm N k steps) bT),(kn,.pr (MU K)),(a,.fa (PgsF K M)),(l,.fa (BF (pO qb qo) e qc kk))] [] (fun _:Nat×Nat=>True) (fun x=>.returned (cP 0 0 0 (ck x.1 val.length x.2) bp 0 bp)) (fun _=>[]) (fun x=>[(x.1,.fa (BF (pA x.1) val.length x.2 val))]):=by
 refine dE func10 fun w0 ho=>bu [9999] 2 fun nm=>bv (ea v N lim key d rs lg true r p c pp rc rg gn n al) [0] []<|bu [0,0,0,12] 1 fun nm1=>cS ⟨.fn (.func 25) #[bi (nm1 0),bi (nm 1)],#[]⟩<|zE<|cS ⟨.fn (.func 26) #[],#[bi v,bi (nm1 0)]⟩<|bj [10]<|bv (nj v) [] []<|bj [0,0,10]<|cE (Ho v N lim key d rs lg true r p c pp rc rg gn n al 12 t sec q1 n1 h o rt ops fr too bk tt q mb mc rp rc2 rg2 ch hb hc cb sh made ca cm tn T A qb qo qc h64 hT f j hA hr Af nf cf kn wt pu dr pi b lst fl na nfm k steps a l e kk val m K M g s h2 u i k1 w y z) [0,1,2,3,4,5,6,7,8,9] [] ?_
 rintro ⟨x,x1⟩ _
 exact bj [11]<|fV<|dG #[] #[bi v,bi (nm1 0)] [⟨.fn (.func 25) #[bi (nm1 0),bi (nm 1)],#[]⟩] (gx v (nm1 0)) [] [] fun _ _=>dG #[bi (nm1 0),bi (nm 1)] #[] [] (kZ (nm1 0) (nm 1) .returning) [12] [] fun _ _=>fS (x,x1) (cP 0 0 0 (ck x val.length x1) bp 0 bp) [13] (fN _ 11)
end
theorem Jb (mb:Nat):TT 37 #[.map (some mb)] [] [] (fun _:Nat=>True) (fun x=>.returned (.func (.func 82) #[] #[bi x])) (fun _=>[]) (fun x=>[(x,.cl [.map (some mb)] 88)]):=iE func37<|bu [9999] 1 fun nm=>rT (nm 0) 9999 [0]
theorem FE (cb mb l sb:Nat) (r:Loop) (k:Nat) (v:Vl) (b:jL prog l #[u32 k] [] [(sb,.cl [bp] 45),(l,.ob (.loop r))] (fun _:Nat×Nat=>True) (fun _=>.bool true) (fun x=>[(sb,.cl [ck x.1 1 x.2] 45),(l,.ob (.loop {r with state:=.ready,pending:=none}))]) (fun x=>[(x.1,.pr (bn 37 1 1 x.2 [u32 k]))])) :
 TT 82 #[.func (.yield l) #[] #[],bi cb] [(cb,.cl [.map (some mb)] 88),(mb,.pr (MU [(k,v)]))] [(sb,.cl [bp] 45),(l,.ob (.loop r))] (fun _:Nat×Nat=>True) (fun _=>.returned (.tuple #[])) (fun x=>[(sb,.cl [ck x.1 1 x.2] 45),(l,.ob (.loop {r with state:=.ready,pending:=none}))]) (fun x=>[(x.1,.pr (bn 37 1 1 x.2 [u32 k]))]):=by
 refine cJ func82 (by kernel_rfl) fun w0 ho=>iT 1 mb (MU [(k,v)]) (by kernel_rfl) fun o hm=>?_
 obtain ⟨es,clock,rfl,hes,hnd,hck⟩:=hm
 obtain ⟨⟨ek,ev,eb⟩,he,hek,hev⟩:=xG hes
 dsimp only at hek hev
 subst hek hev
 refine bj [0]<|xE (fj (t:=88) (kt:=37) (et:=106) underlying88 mb es clock hck) [1] [] fun x _=>bj [2]<|xE (el 0 x mb es clock ([])) [1] [4] fun x1 ⟨hx,hx1⟩=>?_
 rcases x1 with _ | e1
 · exact absurd (hx rfl _ (by rw [he];exact List.mem_singleton.2 rfl)) (by simp)
 obtain ⟨h1,h2⟩:=hx1 e1 rfl
 obtain rfl:e1=⟨eK .u32 k,ev,eb⟩:=by rw [he] at h1;simpa using h1
 clear hx hx1 h1 h2
 simp only [Option.toList_some]
 refine bj [0]<|rE (eH x mb es clock ([]) ({key:=eK .u32 k,val:=ev,born:=eb}) (by (simp_all;done)) hnd) [1,4]<|zE<|mP b [] [2,3] Views.nil (fun _=>bD (bD bH (fun _=>rfl)) (fun _=>rfl)) fun ⟨a,c⟩ _=>bj [0]<|xE (el 0 x mb es clock ([]++[{key:=eK .u32 k,val:=ev,born:=eb}])) [1] [4] fun x1 ⟨hx,hx1⟩=>?_
 rcases x1 with _ | e2
 · exact lE 1 mb (.ob (.map es clock)) (.pr (MU [(k,ev)])) (fun o ho=>⟨es,clock,ho,hes,hnd,hck⟩)<|bj [0]<|rT ((a,c)) 9999 [5]
 · obtain ⟨h1,h2⟩:=hx1 e2 rfl
   rw [he] at h1
   rw [List.mem_singleton.1 h1] at h2
   exact absurd (by simp) h2
theorem Jh (cb mb:Nat) (k:Nat) (v:Vl):TT 161 #[bp,.func (.func 82) #[] #[bi cb]] [(cb,.cl [.map (some mb)] 88),(mb,.pr (MU [(k,v)]))] [] (fun _:Nat×Nat=>True) (fun x=>.returned (ck x.1 1 x.2)) (fun _=>[]) (fun x=>[(x.1,.pr (bn 37 1 1 x.2 [u32 k]))]):=by
 refine nA func161 fun w0 ho=>bu [9999] 1 fun nm=>kQ (gf:=82) (lb:=#[bi cb]) (HR:=[(cb,.cl [.map (some mb)] 88),(mb,.pr (MU [(k,v)]))]) (HWo:=[(nm 0,.cl [bp] 45)]) (X:=Nat×Nat) (φ:=fun _=>True) (v:=fun _=>.tuple #[]) (HWo':=fun x=>[(nm 0,.cl [ck x.1 1 x.2] 45)]) (HN:=fun x=>[(x.1,.pr (bn 37 1 1 x.2 [u32 k]))]) (stt:=fun _=>.ready) (pd:=fun _=>none) [0,1] [2] (by kernel_rfl) (fun _ _=>rfl) (Views.of_map (by kernel_rfl)) (fun fn D l=>FE cb mb l (nm 0) _ k v ?_) (fun _=>bD bH (fun _=>rfl)) (fun _ _=>by intro e;cases e) ?_ (fun _ _ _ _=>by kernel_rfl) rfl (fun _=>by kernel_rfl)
 · exact vf 1 [bp,.func (.func 82) #[] #[bi cb],bi (nm 0),undef,bp,undef,.func (.func 82) #[] #[bi cb],u32 k,undef,undef,undef,undef,undef] (by kernel_rfl) fun w1 ho1=>zE<|ov 1<|bu [0,9999] 1 fun nm1=>xV (gZ (t:=45) (e:=37) (ty:=45) (k:=1) (by_:=4) (z:=u32 0) underlying45 (nm1 0) 0 1 1 ([u32 k])) [2] [] (Views.less (.cl [u32 k] 37) bA Views.nil) fun ⟨x,x1⟩ _=>fE 3 x (bn 37 1 1 x1 [u32 k]) bx fun hc=>bj [0]<|n7 (x,x1) 1 none [3]
 · intro fn D l x _
   exact bj [2]<|ma 3 D<|fS x (ck x.1 1 x.2) [5] (fN _ 9999)
theorem Ji (cb mb:Nat) (k:Nat) (v:Vl):TT 80 #[.func (.func 82) #[] #[bi cb]] [(cb,.cl [.map (some mb)] 88),(mb,.pr (MU [(k,v)]))] [] (fun _:Nat×Nat=>True) (fun x=>.returned (ck x.1 1 x.2)) (fun _=>[]) (fun x=>[(x.1,.pr (bn 37 1 1 x.2 [u32 k]))]):=iE func80<|zE<|cE (Jh cb mb k v) [0,1] [] fun ⟨x,x1⟩ _=>fE 2 x (bn 37 1 1 x1 [u32 k]) bx fun hc=>zE<|rT ((x,x1)) 9999 [2]
theorem G2 (b c k:Nat):TT 81 #[sA b 1 c] [] [(b,.pr (bn 37 1 1 c [u32 k]))] uT (fun _=>.returned (.tuple #[])) (fun _=>[(b,.pr (bn 37 1 1 c [u32 k]))]) (fun _=>[]):=
 (EA b 1 c [k] rfl (by omega)).fw rfl (fun _ h=>h) fun L hL=>⟨(),trivial,rfl,by rw [List.perm_singleton.1 hL.1];rfl,rfl,fun _ _ h=>h⟩
theorem Js (cb mb:Nat) (k:Nat) (v:Vl):TT 36 #[.func (.func 82) #[] #[bi cb]] [(cb,.cl [.map (some mb)] 88),(mb,.pr (MU [(k,v)]))] [] (fun _:Nat×Nat=>True) (fun x=>.returned (ck x.1 1 x.2)) (fun _=>[]) (fun x=>[(x.1,.pr (bn 37 1 1 x.2 [u32 k]))]):=iE func36<|zE<|cE (Ji cb mb k v) [0,1] [] fun ⟨x,x1⟩ _=>fE 2 x (bn 37 1 1 x1 [u32 k]) bx fun hc=>zE<|bv (G2 x x1 k) [] [2]<|zE<|rT ((x,x1)) 9999 [2]
theorem Jp (mb:Nat):TT 39 #[.map (some mb)] [] [] (fun _:Nat=>True) (fun x=>.returned (.func (.func 85) #[] #[bi x])) (fun _=>[]) (fun x=>[(x,.cl [.map (some mb)] 111)]):=iE func39<|bu [9999] 1 fun nm=>rT (nm 0) 9999 [0]
theorem Hk (cb mb l sb:Nat) (r:Loop):TT 85 #[.func (.yield l) #[] #[],bi cb] [(cb,.cl [.map (some mb)] 111),(mb,.pr (MV []))] [(sb,.cl [bp] 56),(l,.ob (.loop r))] uT (fun _=>.returned (.tuple #[])) (fun _=>[(sb,.cl [bp] 56),(l,.ob (.loop r))]) (fun _=>[]):=by
 refine cJ func85 (by kernel_rfl) fun w0 ho=>iT 1 mb (MV []) (by kernel_rfl) fun o hm=>?_
 obtain ⟨es,clock,rfl,hes,hnd,hck⟩:=hm
 have a:es.toList=[]:=by simpa using hes
 refine bj [0]<|xE (fj (t:=111) (kt:=25) (et:=119) underlying111 mb es clock hck) [1] [] fun x _=>bj [2]<|xE (el 0 x mb es clock ([])) [1] [4] fun x1 ⟨hx,hx1⟩=>?_
 rcases x1 with _ | e
 · simp only [Option.toList_none,List.append_nil]
   exact lE 1 mb (.ob (.map es clock)) (.pr (MV [])) (fun o ho=>⟨es,clock,ho,hes,hnd,hck⟩)<|bj [0]<|rT ()
 · have:=(hx1 e rfl).1
   rw [a] at this
   cases this
theorem Jj (cb mb:Nat):Same 164 #[bp,.func (.func 85) #[] #[bi cb]] [(cb,.cl [.map (some mb)] 111),(mb,.pr (MV []))] bp:=by
 refine nA func164 fun w0 ho=>bu [9999] 1 fun nm=>kQ (gf:=85) (lb:=#[bi cb]) (HR:=[(cb,.cl [.map (some mb)] 111),(mb,.pr (MV []))]) (HWo:=[(nm 0,.cl [bp] 56)]) (X:=Unit) (φ:=fun _=>True) (v:=fun _=>.tuple #[]) (HWo':=fun x=>[(nm 0,.cl [bp] 56)]) (HN:=fun x=>[]) (stt:=fun _=>.ready) (pd:=fun _=>none) [0,1] [2] (by kernel_rfl) (fun _ _=>rfl) (Views.of_map (by kernel_rfl)) (fun fn D l=>Hk cb mb l (nm 0) _) (fun _=>bD bH (fun _=>rfl)) (fun _ _=>by intro e;cases e) ?_ (fun _ _ _ _=>by kernel_rfl) rfl (fun _=>by kernel_rfl)
 intro fn D l x _
 exact bj [2]<|ma 3 D<|fS () bp [] (fN _ 9999)
theorem Jg (cb mb:Nat):Same 83 #[.func (.func 85) #[] #[bi cb]] [(cb,.cl [.map (some mb)] 111),(mb,.pr (MV []))] bp:=iE func83<|zE<|bv (Jj cb mb) [0,1] []<|zE<|rT ()
theorem Jx (cb mb:Nat):Same 38 #[.func (.func 85) #[] #[bi cb]] [(cb,.cl [.map (some mb)] 111),(mb,.pr (MV []))] bp:=iE func38<|zE<|bv (Jg cb mb) [0,1] []<|zE<|bv (F9 none 0) [] []<|zE<|rT ()
theorem Ep:KeyLaw prog 70 eR:=zO (by kernel_rfl) (by kernel_rfl) (by kernel_rfl) (by kernel_rfl) (fun e k w=>by kernel_rfl)
theorem CR (r n c:Nat) (l:List ((Nat×Nat×Nat)×Vl)) (h:lk l (n,c,1)=none) :
 RunTri prog (vS (Instr.lookup 98 (.map (some r)) (.agg #[u32 n,u64 c,u16 1]) false)) [(r,.pr (bB eR l))] [] uT (fun _=>.bool false) (fun _=>[]) (fun _=>[]):=by
 have:=wj (P:=prog) (t:=98) (et:=4) Ep (by kernel_rfl) (z:=.bool false) (fun w=>by kernel_rfl) r l (n,c,1) false
 simp only [h] at this
 exact this
theorem E9 (r n c:Nat) (l:List ((Nat×Nat×Nat)×Vl)) (v:Vl) :
 RunTri prog (uS (Instr.mapUpdate 98 (.map (some r)) (.agg #[u32 n,u64 c,u16 1]) v)) [] [(r,.pr (bB eR l))] uT (fun _=>undef) (fun _=>[(r,.pr (bB eR (up l (n,c,1) v)))]) (fun _=>[]):=
 l5 (P:=prog) (t:=98) (et:=4) Ep (by kernel_rfl) r l (n,c,1) v
theorem HS (b d sb a lb n c:Nat) (t:Int):TT 33 #[ck b 1 d,bi sb,bi lb] [(b,.pr (bn 72 6 1 d [u32 t,u8 1,u8 0,u32 n,u64 c,u16 1])),(sb,.cl [.map (some a)] 98)] [(a,.pr (bB eR [])),(lb,.cl [bp] 64)] (fun _:Nat×Nat=>True) (fun _=>.returned (.tuple #[])) (fun x=>[(a,.pr (bB eR (up [] (n,c,1) (.bool true)))),(lb,.cl [ck x.1 1 x.2] 64)]) (fun x=>[(x.1,.pr (bn 72 6 1 x.2 [u32 t,u8 1,u8 0,u32 n,u64 c,u16 1]))]):=by
 refine cJ func33 (by kernel_rfl) fun w0 ho=>?_
 have f:lk ([]:List ((Nat×Nat×Nat)×Vl)) (n,c,1)=none:=rfl
 refine bj [3,0,0,9999]<|rE (er (T:=72) underlying72 (e:=72) b 0 6 1 d 6 ([u32 t,u8 1,u8 0,u32 n,u64 c,u16 1]) (by (simp;done))) [0]<|bu [] 1 fun nm=>vE 11 (.agg ⟨List.take 6 (List.drop 0 [u32 t,u8 1,u8 0,u32 n,u64 c,u16 1])⟩) (.agg ⟨[u32 t,u8 1,u8 0,u32 n,u64 c,u16 1]⟩) (by rfl)<|bj [4,1,4]<|xE (CR a n c ([]) f) [2] [] fun _ _=>bj [0,1,4]<|xE (E9 a n c ([]) (.bool true)) [] [2] fun _ _=>bu [3,4,9999] 1 fun nm1=>xV (gZ (t:=64) (e:=72) (ty:=64) (k:=6) (by_:=32) (z:=.agg #[u32 0,u8 0,u8 0,u32 0,u64 0,u16 0]) underlying64 (nm1 0) 0 1 1 ([u32 t,u8 1,u8 0,u32 n,u64 c,u16 1])) [5] [] (Views.less (.cl [u32 t,u8 1,u8 0,u32 n,u64 c,u16 1] 72) bA Views.nil) fun ⟨x,x1⟩ _=>fE 6 x (bn 72 6 1 x1 [u32 t,u8 1,u8 0,u32 n,u64 c,u16 1]) bx fun hc=>?_
 exact bj [3,0,0]<|rT ((x,x1)) 9999 [6]
theorem I0 (b j sb g lb n c d f a l:Nat) (t i:Int) (m:n≠d):TT 33 #[ck b 1 j,bi sb,bi lb] [(b,.pr (bn 72 6 1 j [u32 t,u8 1,u8 0,u32 n,u64 c,u16 1])),(sb,.cl [.map (some g)] 98)] [(g,.pr (bB eR (up [] (d,f,1) (.bool true)))),(lb,.cl [ck a 1 l] 64),(a,.pr (bn 72 6 1 l [u32 i,u8 1,u8 0,u32 d,u64 f,u16 1]))] (fun _:Nat×Nat=>True) (fun _=>.returned (.tuple #[])) (fun x=>[(g,.pr (bB eR (up (up [] (d,f,1) (.bool true)) (n,c,1) (.bool true)))),(lb,.cl [ck x.1 2 x.2] 64),(a,.dead)]) (fun x=>[(x.1,.pr (bn 72 6 2 x.2 [u32 i,u8 1,u8 0,u32 d,u64 f,u16 1,u32 t,u8 1,u8 0,u32 n,u64 c,u16 1]))]):=by
 refine cJ func33 (by kernel_rfl) fun w0 ho=>?_
 have o:lk (up ([]:List ((Nat×Nat×Nat)×Vl)) (d,f,1) (.bool true)) (n,c,1)=none:=by rw [lr,if_neg (by simp;intro h;exact absurd h m)];rfl
 refine bj [3,0,0,9999]<|rE (er (T:=72) underlying72 (e:=72) b 0 6 1 j 6 ([u32 t,u8 1,u8 0,u32 n,u64 c,u16 1]) (by (simp;done))) [0]<|bu [] 1 fun nm=>vE 11 (.agg ⟨List.take 6 (List.drop 0 [u32 t,u8 1,u8 0,u32 n,u64 c,u16 1])⟩) (.agg ⟨[u32 t,u8 1,u8 0,u32 n,u64 c,u16 1]⟩) (by rfl)<|bj [5,1,5]<|xE (CR g n c (up [] (d,f,1) (.bool true)) o) [2] [] fun _ _=>bj [0,1,5]<|xE (E9 g n c (up [] (d,f,1) (.bool true)) (.bool true)) [] [2] fun _ _=>bu [3,5,9999] 1 fun nm1=>xV (gH (t:=64) (e:=72) (ty:=64) (k:=6) (by_:=32) (z:=.agg #[u32 0,u8 0,u8 0,u32 0,u64 0,u16 0]) underlying64 a 1 l ([u32 i,u8 1,u8 0,u32 d,u64 f,u16 1]) (nm1 0) 1 1 ([u32 t,u8 1,u8 0,u32 n,u64 c,u16 1])) [6] [4] (Views.less (.cl [u32 t,u8 1,u8 0,u32 n,u64 c,u16 1] 72) bA Views.nil) fun ⟨x,x1⟩ _=>fE 7 x (bn 72 6 (1+1) x1 ([u32 i,u8 1,u8 0,u32 d,u64 f,u16 1]++[u32 t,u8 1,u8 0,u32 n,u64 c,u16 1])) bx fun hc=>?_
 exact bj [3,0,0]<|rT (x,x1) 9999 [7]
abbrev yu (N lim:Nat) (key:Vl) (d rs lg:Nat) (op:Bool) (r p c pp rc al:Nat):List Vl:=[i64 (N:Int),u64 (lim:Int),.slice none 0 0,key,bi d,bi rs,bi lg,.bool op,bi r,bi p,u64 (c:Int),u32 (pp:Int),u64 (rc:Int),u16 1,u8 0,u16 1,u32 1,.map (some al)]
abbrev yG (t q mb mc rp rc ch hb hc cb sh made:Nat):List Vl:=[u32 (t:Int),i64 (q:Int),sA mb 16 mc,u32 (rp:Int),u64 (rc:Int),u16 1,u8 0,i64 (ch:Int),sA hb 1 hc,bi cb,.map (some sh),u64 (made:Int)]
section
variable (p d r g:Nat) (Af:Option Addr) (nf cf kn wt:Nat) (pu dr:Option Nat) (pi cm lst:Nat) (fl:Bool)
theorem CN (na nfm N:Nat) (f:Vl) (steps:Int) (t n c a:Nat) (key val:Bs) (K:List (Nat×Vl)) (M:Nat→Option Pg) (b:KM K M) (h:M n=some ⟨t,1,0,c,1,bw key val⟩) (h2:2≤n) (i:n<N) (e:n<4294967296) (k1:1≤key.length) (j:key.length≤32) (k:1≤val.length) (l:val.length≤64) :
 TT 35 #[dN p,u32 t,sp n c] [(p,.cl (bM d r g Af nf cf kn wt pu dr pi cm lst fl) 199),(d,.cl (bQ na nfm N f steps) bT),(kn,.pr (MU K)),(a,.fa (PgsF K M))] [] (fun _:Nat×Nat=>True) (fun x=>.returned (.tuple #[ck x.1 1 x.2,i64 0])) (fun _=>[]) (fun x=>[(x.1,.pr (bn 72 6 1 x.2 (k8 t n c)))]):=
 m4 p d r g Af nf cf kn wt pu dr pi cm lst fl na nfm N f steps t n c 1 a key val K M b h h2 i e k1 j k l
theorem Ci (na nfm N:Nat) (f:Vl) (steps:Int) (n c a:Nat) (key val:Bs) (K:List (Nat×Vl)) (M:Nat→Option Pg) (b:KM K M) (h:M n=some ⟨0,1,0,c,1,bw key val⟩) (h2:2≤n) (i:n<N) (e:n<4294967296) (k1:1≤key.length) (j:key.length≤32) (k:1≤val.length) (l:val.length≤64) :
 TT 35 #[dN p,u32 0,sp n c] [(p,.cl (bM d r g Af nf cf kn wt pu dr pi cm lst fl) 199),(d,.cl (bQ na nfm N f steps) bT),(kn,.pr (MU K)),(a,.fa (PgsF K M))] [] (fun _:Nat×Nat=>True) (fun x=>.returned (.tuple #[ck x.1 1 x.2,i64 0])) (fun _=>[]) (fun x=>[(x.1,.pr (bn 72 6 1 x.2 [u32 0,u8 1,u8 0,u32 n,u64 c,u16 1]))]):=
 m4 p d r g Af nf cf kn wt pu dr pi cm lst fl na nfm N f steps 0 n c 1 a key val K M b h h2 i e k1 j k l
end
theorem Jc (a lb:Nat) (u:FrameMode):jZ prog 32 #[bi a,bi lb] u u [(a,.cl [i64 0] 33)] [] uT (fun _=>.tuple #[]) (fun _=>[]) (fun _=>[]):=qL func32 fun w0 ho=>bj [0,0,0]<|rT ()
section
variable (v N lim:Nat) (key:Vl) (d rs lg r p c pp rc al:Nat)
variable (t q mb mc rp rc2 ch hb hc cb sh made tn:Nat)
theorem yE (Af:Option Addr) (nf cf kn wt:Nat) (pu dr:Option Nat) (pi cm lst:Nat) (fl:Bool) (na nfm:Nat) (h:Vl) (steps:Int) (a:Nat) (kk val b:Bs) (K:List (Nat×Vl)) (M:Nat→Option Pg) (f:KM K M) (o:M rp=some ⟨t,1,0,rc2,1,bw kk val⟩) (i:M pp=some ⟨0,1,0,rc,1,bw (be t 4) b⟩) (h2:2≤rp) (s:rp<N) (j:rp<4294967296) (k:2≤pp) (l:pp<N) (g:pp<4294967296) (m:rp≠pp) (k1:1≤kk.length) (u:kk.length≤32) (w:1≤val.length) (y:val.length≤64) (z:1≤b.length) (A:b.length≤64) (B:1≤(be t 4).length) (C:(be t 4).length≤32) :
 TT 17 #[bi v] [(v,.cl (yu N lim key d rs lg true r p c pp rc al) 90),(al,.pr (MU [(t,bi tn)])),(tn,.cl (yG t q mb mc rp rc2 ch hb hc cb sh made) 113),(sh,.pr (MV [])),(p,.cl (bM d r lg Af nf cf kn wt pu dr pi cm lst fl) 199),(d,.cl (bQ na nfm N h steps) bT),(kn,.pr (MU K)),(a,.fa (PgsF K M))] [] (fun _:Nat×Nat=>True) (fun x=>.returned (.tuple #[ck x.1 2 x.2,i64 0])) (fun _=>[]) (fun x=>[(x.1,.pr (bn 72 6 2 x.2 [u32 0,u8 1,u8 0,u32 pp,u64 rc,u16 1,u32 t,u8 1,u8 0,u32 rp,u64 rc2,u16 1]))]):=by
 refine dE func17 fun w0 ho=>?_
 have n:lk ([(t,bi tn)]:List (Nat×Vl)) t=some (bi tn):=by rw [cp,if_pos rfl]
 refine bu [] 2 fun nm=>bv (ea v N lim key d rs lg true r p c pp rc 1 1 1 al) [0] []<|bj [0,0,0]<|cS ⟨.fn (.func 32) #[bi (nm 1),bi (nm 0)],#[]⟩<|zE<|cS ⟨.fn (.func 26) #[],#[bi v,bi (nm 1)]⟩<|bu [11] 2 fun nm1=>lE 10 (nm1 0) (.ob (.map #[] 0)) (.pr (bB eR [])) (dL eR 0)<|bj [9999,1280,0,0]<|cE (Ci p d r lg Af nf cf kn wt pu dr pi cm lst fl na nfm N h steps pp rc a (be t 4) b K M f i k l g B C z A) [4,5,6,7] [] fun ⟨x,x1⟩ _=>zE ?_
 refine bv (g8 (sA x 1 x1)) [] []<|zE<|cE (HS x x1 (nm1 1) (nm1 0) (nm 0) pp rc 0) [12,11] [10,8] fun ⟨x2,x3⟩ _=>bj [0]<|cE (Jb al) [] [] fun x4 _=>cE (Js x4 al t (bi tn)) [14,1] [] fun ⟨x5,x6⟩ _=>fE 15 x5 (bn 37 1 1 x6 [u32 t]) bx fun hc1=>bj [4,0,0,9999]<|rE (cx (T:=37) (e:=37) x5 0 1 1 x6 ([u32 t]) (u32 t)) [15]<|bj [0]<|rE (eI (kt:=37) (et:=106) (T:=88) (κ:=.u32) underlying88 underlying37 al ([(t,bi tn)]) t (bi tn) n) [1] ?_
 refine zE<|bj [9999,9472,0,2]<|cE (CN p d r lg Af nf cf kn wt pu dr pi cm lst fl na nfm N h steps t rp rc2 a kk val K M f o h2 s j k1 u w y) [4,5,6,7] [] fun ⟨x7,x8⟩ _=>zE<|bv (g8 (sA x7 1 x8)) [] []<|zE<|cE (I0 x7 x8 (nm1 1) (nm1 0) (nm 0) rp rc2 pp rc x2 x3 ((↑t:Int)) 0 m) [16,11] [10,8,13] fun ⟨x9,x10⟩ _=>bj [2]<|cE (Jp sh) [] [] fun x11 _=>bv (Jx x11 sh) [18,3] []<|bj [4,0,0,0,0,8,8,9] ?_
 exact fV<|dG #[] #[bi v,bi (nm 1)] [⟨.fn (.func 32) #[bi (nm 1),bi (nm 0)],#[]⟩] (gx v (nm 1)) [] [] fun _ _=>dG #[bi (nm 1),bi (nm 0)] #[] [] (Jc (nm 1) (nm 0) .returning) [9] [] fun _ _=>fS (x9,x10) (.tuple #[ck x9 2 x10,i64 0]) [17] (vr 8 9 (nm 0) (nm 1) 2 3 64 33 64 33)
end
theorem yP {P:Program} {g:Nat→Prop} {w0:World} {M:List Nat} {st:ES} {j:Func} {R:Ending→World→Prop} {f:FuncId} {args:Array Vl} {b:HP} {c:List PanicEntry}
 (d:Tri P f args b [] uT (fun _=>.panicked c) (fun _=>[]) (fun _=>[])) (a:List Nat) (k:Nat) (u:Vl)
 (l:(fu P st,a.map (fun i=>st.H[i]?),decide a.Nodup,lF st,(kO st).toList.all (fun o=>!(o.dst==some k)),st.ts[k]?)=(some (f,args),b.map some,true,true,true,some u))
 (h:∀ ts':List Vl,ts'[k]?=some u→LW P j R (.panicking c) g w0 M ⟨[],ts',st.ds,st.H,st.nr⟩):GW P (bodyPostD P j R) g w0 M st:=by
 simp only [Prod.mk.injEq] at l
 obtain ⟨h1,h2,h3,h4,h5,h6⟩:=l
 refine CE d a (by rw [h1,h2,h3,h4]) fun ts' hts=>h ts' ((hts k fun o ho e=>?_).trans h6)
 have:=List.all_eq_true.1 h5 o ho
 simp [e] at this
theorem IA {c:Func} {ts:List Vl} {H:HP} (j b a:Nat) (T t:TypeId) {v:Vl} (d:c.results = #[.cell a T]) (e:ts[a]?=some (.pointer (pA b))) (f:H[j]?=some (b,.cl [v] t)) (ha:∀ w,(isAgg T).run prog w = .ok false w) :
 ∀ w,Own H w→(results c ts.toArray).run prog w = .ok v w:=by
 intro w ho
 obtain ⟨o,h1,h2⟩:=ho.at_ j b _ f rfl
 have hc:=dU h1 (bA o h2) 0 v rfl
 rw [Addr.add_lit,Nat.add_zero] at hc
 have g:(loadVar T ⟨b,0,none⟩).run prog w = .ok v w:=by
  unfold loadVar
  simp [Sem.run_bind,ha,Result.andThen,Go.load,Sem.run,hc]
 unfold results
 rw [d]
 simp [Sem.run_bind,e,asAddr,Result.andThen,g,Sem.run]
section
variable (p d r g:Nat) (kn wt:Nat) (pu dr:Option Nat) (pi cm lst:Nat) (fl:Bool)
theorem AW (s:Vl) (na nfm N:Nat) (l:Vl) (steps:Int) (now:List Bs) (e:now.length=N) (b:bP now) (t n c m o kb kc:Nat) (key:Bs) (h:16=key.length) (i:16≤kc) (K:List (Nat×Vl)) (q:lk K n=none) (a:Nat) (h2:2≤n) (u:n<N) (j:n<4294967296) (v:t<4294967296) (hc:c<18446744073709551616) (k:(now.getD n []).take 16=eo 1 0 1 c) (f:¬ ee key (cK n c) (d9 t 1 0 1) (List.take (240-16) (List.take 240 (List.drop 16 (now.getD n []))))=List.drop (240-16) (List.take 240 (List.drop 16 (now.getD n [])))) :
 Same 35 #[dN p,u32 t,sp n c] [(p,.cl (bM d r g none 0 0 kn wt pu dr pi cm lst fl) 199),(a,.fa (bN none 0 0 [])),(d,.cl (bQ na nfm N l steps) bT),(na,.cl (bE now) 166),(r,.cl [.map (some m)] 182),(m,.pr (bB eW (up (up [] (0,1) s) (t,1) (sA kb 16 kc)))),(o,.fa (BF (pA kb) 16 kc key)),(kn,.pr (MU K))] (.tuple #[bp,i64 210]):=
 Ea p d r g kn wt pu dr pi cm lst fl na nfm N l steps now e b t n c 1 m o kb 0 16 kc key h (.inl rfl) i _ (by rw [lr,if_pos rfl]) K q a h2 u j v hc (by omega) (iu b).symm k f RunsP.nil (by simp [bR])
end
section
variable (v N lim d rs lg vk vc ak na nfm:Nat) (r0 p0 c0 pp0 rc0 rg0 gn0 n0 al0:Nat)
theorem GX (vkey tkey mark r s:Bs) (B:32=vkey.length) (C:32≤vc) (h8:8≤N) (aD:N≤128) (steps:Int) (i a:Int) (dv:Vl) (now firm:List Bs) (f:now.length=N) (hF:firm.length=N) (b:bP now) (f256:bP firm)
 (t q ch pp rc rp rc2 hcm cm s0 y s1 z:Nat) (V:224=r.length) (W:224=s.length) (D:y<18446744073709551616) (E:z<18446744073709551616) (X:now.getD 0 []=bI (bW vkey 1 1) 0 4 0 s0 y 1 r) (Y:now.getD 1 []=bI (bW vkey 1 1) 0 4 0 s1 z 1 s)
 (F:0<cm) (G:cm<4294967296) (Z:now.getD (cm%2) []=bI (bW vkey 1 1) 0 4 0 (cm%2) cm 1 (bO cm pp rc 1 0 1 1)) (aa:256=(bI (bW vkey 1 1) 0 4 0 (cm%2) cm 1 (bO cm pp rc 1 0 1 1)).length)
 (ab:16=mark.length) (A:16=tkey.length) (ht:0<t) (j:t<4294967296) (hq:1≤q) (ac:q<128) (ad:ch≤q) (ae:0<ch) (H:rp<128) (I:rc2<128) (af:hcm<128) (o:2≤pp) (p:pp<N) (J:2≤rp) (K:rp<N) (ag:pp≠rp) (L:rc<18446744073709551616)
 (ah:now.getD pp []=bI (bW vkey 1 1) 0 1 0 pp rc 1 (bw (be t 4) (bJ q ch mark rp rc2 1 0 1 hcm (bZ (bW vkey 1 1) t 1 hcm tkey)))) (ai:(now.getD rp []).take 16=eo 1 0 1 rc2) (M:¬ ee tkey (cK rp rc2) (d9 t 1 0 1) (List.take (240-16) (List.take 240 (List.drop 16 (now.getD rp []))))=List.drop (240-16) (List.take 240 (List.drop 16 (now.getD rp []))))
 (aB:(bJ q ch mark rp rc2 1 0 1 hcm (bZ (bW vkey 1 1) t 1 hcm tkey)).length=59) (aj:224=(bw (be t 4) (bJ q ch mark rp rc2 1 0 1 hcm (bZ (bW vkey 1 1) t 1 hcm tkey))).length) :
 TT 23 #[bi v,.bool true] [(ak,.fa (BF (pA vk) 32 vc vkey)),(rs,.cl (dc d i a (cm:Int) dv) df),(na,.cl (bE now) 166)] [(v,.cl (bU N lim (sA vk 32 vc) d rs lg false r0 p0 c0 pp0 rc0 rg0 gn0 n0 al0) 90),(d,.cl (bQ na nfm N (.slice none 0 0) steps) bT),(nfm,.cl (bE firm) 166)] uT (fun _=>.returned (i64 210)) (fun _=>deadL [(v,.cl (bU N lim (sA vk 32 vc) d rs lg false r0 p0 c0 pp0 rc0 rg0 gn0 n0 al0) 90),(d,.cl (bQ na nfm N (.slice none 0 0) steps) bT),(nfm,.cl (bE firm) 166)]) (fun _=>[]):=by
 have al:0<N:=by omega
 have am:1<N:=by omega
 have O:256=(now.getD 0 []).length:=(iu b).symm
 have P:256=(now.getD 1 []).length:=(iu b).symm
 have m:32=(bW vkey 1 1).length:=(fg vkey 1 1).symm
 have n:pp<4294967296:=by omega
 have Q:rp<4294967296:=by omega
 have an:1≤(be t 4).length:=by rw [cc];omega
 have ao:(be t 4).length≤32:=by rw [cc];omega
 have ap:1≤(bJ q ch mark rp rc2 1 0 1 hcm (bZ (bW vkey 1 1) t 1 hcm tkey)).length:=by omega
 have aq:(bJ q ch mark rp rc2 1 0 1 hcm (bZ (bW vkey 1 1) t 1 hcm tkey)).length≤64:=by omega
 have ar:32=(bZ (bW vkey 1 1) t 1 hcm tkey).length:=(ii _ _ _ _ _ A.symm).symm
 have R:0<rp:=by omega
 have au:cm<18446744073709551616:=by omega
 have S:rc2<18446744073709551616:=by omega
 have U:hcm<18446744073709551616:=by omega
 have av:bX (fun _=>none) pp ⟨0,1,0,rc,1,bw (be t 4) (bJ q ch mark rp rc2 1 0 1 hcm (bZ (bW vkey 1 1) t 1 hcm tkey))⟩ pp=some ⟨0,1,0,rc,1,bw (be t 4) (bJ q ch mark rp rc2 1 0 1 hcm (bZ (bW vkey 1 1) t 1 hcm tkey))⟩:=by simp [bX]
 have aw:bX (fun _=>none) pp ⟨0,1,0,rc,1,bw (be t 4) (bJ q ch mark rp rc2 1 0 1 hcm (bZ (bW vkey 1 1) t 1 hcm tkey))⟩ rp=none:=by simp only [bX];rw [if_neg (fun h=>ag h.symm)]
 have aG:(bW vkey 1 1).length=32:=fg _ _ _
 refine dE func23 fun w0 ho=>bu [] 1 fun nm=>cE vD [] [] fun ⟨x,x1⟩ _=>bu [3,3,3,3] 1 fun nm1=>cS ⟨.fn (.func 26) #[],#[bi v,bi (nm 0)]⟩<|lE 9 (nm1 0) (.ob (.map #[] 0)) (.pr (MU [])) (dL _ _)<|bj [0,3]<|cE (nL d na nfm N (.slice none 0 0) steps now firm f hF b f256) [2] [4,5] fun x2 _=>bv dx [] []<|bj [4,0,0,3]<|cE (jh d na nfm N (.slice none 0 0) x2 now f b 0 al) [4,2] [] ?_
 rintro x3 _
 refine zE<|bv (ew (sA x3 256 256)) [] []<|gW (t:=166) (l:=List.getD now 0 []) 10 x3 256 O (by first | decide | (simp only [maxLen];omega))<|bv (nF x3 0 x3 s0 y (bW vkey 1 1) r (List.getD now 0 []) V D X) [10] []<|bj [0,3]<|cE (l7 x x1 ([]) (by decide) (by kernel_rfl)) [7,8] [] fun ⟨x4,x5⟩ _=>zE<|bv (As x4 x5) [] []<|bj [0]<|bj [15,0,3]<|ef (Nat×Nat×Nat×Nat) (fun ⟨x6,x7,x8,x9⟩=>True) 336 (fun ⟨x6,x7,x8,x9⟩=>[(0,bi v),(4,bi (nm 0)),(45,i64 1),(46,.bool (decide (1<2)))]) [.code (cZ f23 20),.code (cZ f23 23),.rnd 2 (cZ f23 17),.blk 0,.code (cZ f23 35)] (fun ⟨x6,x7,x8,x9⟩=>[(ak,.fa (BF (pA vk) 32 vc vkey)),(rs,.cl [bi d,u64 i,u64 a,u64 cm,dv] 125),(na,.cl (bE now) 166),(v,.cl [i64 N,u64 lim,.slice none 0 0,sA vk 32 vc,bi d,bi rs,bi lg,.bool false,bi x,.pointer none,u64 c0,u32 pp0,u64 rc0,u16 rg0,u8 0,u16 gn0,u32 n0,.map (some (nm1 0))] 90),(d,.cl (bQ na nfm N (.slice none 0 0) x2) 123),(nfm,.cl (bE now) 166),(nm 0,.cl [i64 0] 33),(x,.cl [.map (some x1)] 182),(x1,.pr (bB eW (up [] (0,1) (sA x8 32 x9)))),(nm1 0,.pr (MU [])),(x3,.fa (BF (pA x3) 256 256 (List.getD now 0 []))),(x6,.fa (BF (pA x6) 32 x7 (bW vkey 1 1))),(x8,.fa (BF (pA x8) 32 x9 (bW vkey 1 1)))]) [⟨.fn (.func 26) #[],#[bi v,bi (nm 0)]⟩] 3 (fun key=>?_) ?_
 · refine dq 9 10 ?_ ?_
   · exact rE (dM (T:=27) v 3 ([i64 N,u64 lim,.slice none 0 0,sA vk 32 vc,bi d,bi rs,bi lg,.bool false,bi x,.pointer none,u64 c0,u32 pp0,u64 rc0,u16 rg0,u8 0,u16 gn0,u32 n0,.map (some (nm1 0))]) 90 (sA vk 32 vc)) [3]<|zE<|cE (o5 vk 0 vc ak vkey B C) [0] [] fun ⟨x6,x7⟩ _=>zE<|bv (ew (sA x6 32 x7)) [] []<|zE<|cE (mZ x x1 ([]) x6 0 x7 x6 (bW vkey 1 1) (by kernel_rfl) m) [7,11] [8] fun ⟨x8,x9⟩ _=>zE<|bv dx [] []<|bj [0]<|jT [0,1,2,3,4,5,6,7,8,9,10,11,12] (fun u=>key (x6,x7,x8,x9) u trivial)
   · refine zE<|rE (dM (T:=27) v 3 ([i64 N,u64 lim,.slice none 0 0,sA vk 32 vc,bi d,bi rs,bi lg,.bool false,bi x,.pointer none,u64 c0,u32 pp0,u64 rc0,u16 rg0,u8 0,u16 gn0,u32 n0,.map (some (nm1 0))]) 90 (sA vk 32 vc)) [3]<|zE<|cE (o5 vk 0 vc ak vkey B C) [0] [] fun ⟨x6,x7⟩ _=>zE<|bv (ew (sA x6 32 x7)) [] []<|zE<|cE (mZ x x1 ([]) x6 0 x7 x6 (bW vkey 1 1) (by kernel_rfl) m) [7,11] [8] fun ⟨x8,x9⟩ _=>zE<|bv dx [] []<|bj [0] ?_
     exact jT [0,1,2,3,4,5,6,7,8,9,10,11,12] (fun u=>key (x6,x7,x8,x9) u trivial)
 rintro ⟨x6,x7,x8,x9⟩ u _
 refine bj [0,3]<|cE (jh d na nfm N (.slice none 0 0) x2 now f b 1 am) [4,2] [] fun x10 _=>zE<|bv (ew (sA x10 256 256)) [] []<|gW (t:=166) (l:=List.getD now 1 []) 13 x10 256 P (by first | decide | (simp only [maxLen];omega))<|bv (nF x10 0 x10 s1 z (bW vkey 1 1) s (List.getD now 1 []) W E Y) [13] []<|bj [0,3]<|cE (kJ x x1 (sA x8 32 x9)) [7,8] [] fun ⟨x11,x12⟩ _=>fE 14 x11 (bn 68 1 1 x12 [u16 1]) bx fun hc=>zE<|cE (zW x11 x12) [14] [] ?_
 intro _ _
 refine bj [0,0,0]<|bj [19,0,3,3,3]<|bv (tp d rs x i a dv na nfm N (.slice none 0 0) x2 now f b h8 x1 x8 cm pp rc x8 0 x9 (bW vkey 1 1) (up [] (0,1) (sA x8 32 x9)) rfl m F G n L Z aa) [1,4,2,7,8,12] []<|zE<|bv (re ((↑cm:Int)) ((↑pp:Int)) ((↑rc:Int)) 1 0 1 1) [] []<|bK [3,3,2,0,3] (br (tF ((↑cm:Int)==0)) bt)<|cE (kJ x x1 (sA x8 32 x9)) [7,8] [] fun ⟨x13,x14⟩ _=>fE 15 x13 (bn 68 1 1 x14 [u16 1]) bx fun hc1=>zE<|bj [4,0,0,9999]<|rE (cx (T:=68) (e:=68) x13 0 1 1 x14 ([u16 1]) (u16 1) (fun w=>by kernel_rfl) (by kernel_rfl)) [15] ?_
 refine bj [3,0,0,0,0,3]<|cE (kJ x x1 (sA x8 32 x9)) [7,8] [] fun ⟨x15,x16⟩ _=>fE 16 x15 (bn 68 1 1 x16 [u16 1]) bx fun hc2=>bj [0,0]<|bj [19,0,3,3,3]<|cE (vW d x lg) [] [] fun ⟨x17,x18,x19,x20⟩ _=>zE<|bv (sH (bi x17)) [] []<|bj [3]<|bj [9999,262144,3,3]<|cE (uW x17 d x lg x18 x19 none none x20 0 0 false na nfm N (.slice none 0 0) x2 now f b pp rc x1 x8 x8 0 x9 (be t 4) (bJ q ch mark rp rc2 1 0 1 hcm (bZ (bW vkey 1 1) t 1 hcm tkey)) (bW vkey 1 1) (up [] (0,1) (sA x8 32 x9)) m rfl o p n L aj ah an ao ap aq) [17,4,2,7,8,12] [18] ?_
 rintro ⟨x21,x22,x23⟩ hx
 try dsimp only at hx
 refine zE<|bv (g8 (sA x22 1 x23)) [] []<|zE<|bj [9999,0,3,3]<|cE (uA x17 d x lg x18 x19 none none x20 0 0 false t q ch rp rc2 hcm mark (bZ (bW vkey 1 1) t 1 hcm tkey) ab ar ht j hq ac ad ae R H I af na nfm N (.slice none 0 0) x2 pp rc 0 x21 (bX (fun x ↦ none) pp {t:=0,k:=1,l:=0,c:=rc,g:=1,pl:=bw (be t 4) (bJ q ch mark rp rc2 1 0 1 hcm (bZ (bW vkey 1 1) t 1 hcm tkey))}) hx av o p n) [17,4,18,21] [] fun ⟨⟨⟨x24,x25⟩,⟨x26,x27⟩,x28,x29⟩,x30,x31⟩ _=>zE<|bv (r8 (sA x30 1 x31)) [] []<|bj [3,9999,0,0]<|bj [9999,0,3,3]<|cE (sk x x1 (up [] (0,1) (sA x8 32 x9)) x8 0 x9 x8 (bW vkey 1 1) rfl m) [7,8,12] [] fun ⟨x32,x33⟩ _=>zE ?_
 refine bv (ew (sA x32 32 x33)) [] []<|zE<|bj [4,0,0,9999]<|rE (er (T:=109) underlying109 (e:=109) x30 0 9 1 x31 9 ([u32 t,i64 q,sA x24 16 x25,u32 rp,u64 rc2,u16 1,u8 0,i64 ch,sA x26 1 x27]) (by (simp;done))) [23]<|bu [] 1 fun nm2=>vE 256 (.agg ⟨List.take 9 (List.drop 0 [u32 t,i64 q,sA x24 16 x25,u32 rp,u64 rc2,u16 1,u8 0,i64 ch,sA x26 1 x27])⟩) (.agg ⟨[u32 t,i64 q,sA x24 16 x25,u32 rp,u64 rc2,u16 1,u8 0,i64 ch,sA x26 1 x27]⟩) (by rfl)<|bj [28,28,4,0,0,9999]<|rE (gh (T:=155) underlying155 x26 x26 0 3 ([u16 1,u64 hcm,sA x28 32 x29]) (by (simp;done))) [25]<|bu [] 1 fun nm3=>vE 263 (.agg ⟨List.take 3 (List.drop 0 [u16 1,u64 hcm,sA x28 32 x29])⟩) (.agg ⟨[u16 1,u64 hcm,sA x28 32 x29]⟩) (by rfl)<|bj [29] ?_
 refine bj [9999,256,3,28,29,28,29]<|fP 27 x32 (BF (pA x32) 32 x33 (bW vkey 1 1)) db fun ⟨fl,fc,fm⟩=>fP 26 x28 (BF (pA x28) 32 x29 (bZ (bW vkey 1 1) t 1 hcm tkey)) db fun ⟨fl1,fc1,fm1⟩=>cE (Ay x32 0 x33 x32 x28 0 x28 t hcm (bW vkey 1 1) tkey fl fc A j U x29 fc1) [27,26] [] fun x34 _=>zE<|bv (ew (sA x34 16 16)) [] []<|zE<|cE (wl x x1 t x34 0 16 x34 tkey (sA x8 32 x9) ht A) [7,30] [8] fun ⟨x35,x36⟩ _=>zE<|bv dx [] []<|bj [0,0] ?_
 have ax:lk x21 rp=none:=hx.no rp aw
 exact fq [] [] (bN none 0 0 []) (fun w _=>uf w)<|fP 31 x35 (BF (pA x35) 16 x36 tkey) db fun ⟨_,hk36,_⟩=>bj [9999,0,3,28,28]<|bv (AW x17 d x lg x18 x19 none none x20 0 0 false (sA x8 32 x9) na nfm N (.slice none 0 0) x2 now f b t rp rc2 x1 x35 x35 x36 tkey (by with_reducible assumption) hk36 x21 ax 0 J K Q j S ai M) [17,32,4,2,7,8,31,18] []<|zE<|yP (Cs bp) [] 4 (bi (nm 0)) (by kernel_rfl) fun ts' hts=>dG #[] #[bi v,bi (nm 0)] [] (Dh v (nm 0)) [] [6] fun _ _=>wu () (i64 210) [] (IA 6 (nm 0) 4 33 33 rfl hts (by kernel_rfl) (fun w=>by kernel_rfl))
end
end Go.Proofs.YtlkeemedalncoaaGreat.En
