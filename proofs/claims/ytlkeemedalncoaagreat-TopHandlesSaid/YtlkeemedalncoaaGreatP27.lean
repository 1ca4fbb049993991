/- TopHandles, part 27: no condition. -/
import Derived.Test.YtlkeemedalncoaaGreatP26
set_option linter.all false
set_option maxHeartbeats 16000000
set_option maxRecDepth 100000
namespace Go.Proofs.YtlkeemedalncoaaGreat.En
open Go Go.RowKit Go.Proofs.YtlkeemedalncoaaGreat Go.Proofs.Tryz
theorem wY:∀ (n lo:Nat) (X:List Nat),X.length=n→∃ m,lo≤m∧m≤lo+n∧m∉X
 | 0,lo,X,h=>⟨lo,Nat.le_refl _,Nat.le_refl _,by rw [List.length_eq_zero_iff.1 h];exact List.not_mem_nil⟩
 | n+1,lo,X,h=>by
  by_cases hm:lo+(n+1)∈X
  · have a:(X.erase (lo+(n+1))).length=n:=by rw [List.length_erase_of_mem hm,h];rfl
    obtain ⟨m,h1,h2,h3⟩:=wY n lo (X.erase (lo+(n+1))) a
    exact ⟨m,h1,by omega,fun hx=>h3 ((List.mem_erase_of_ne (by omega)).2 hx)⟩
  · exact ⟨lo+(n+1),by omega,Nat.le_refl _,hm⟩
theorem Hq {ff a:Nat} {R:bV} (h:RunsP ((ff,a)::R)) {m:Nat} (b:bR ((ff,a)::R) m):ff≤m:=by
 obtain ⟨r,hr,h1,h2⟩:=b
 rcases List.mem_cons.1 hr with e | e
 · rw [e] at h1;exact h1
 · have:=(List.pairwise_cons.1 h.gap).1 r e
   have h3:=h.pos _ List.mem_cons_self
   simp only at h3 this
   omega
theorem Cq {m:Nat} (h:bR [] m):False:=by
 obtain ⟨r,hr,-⟩:=h
 exact absurd hr List.not_mem_nil
theorem tv {N:Nat} {L:bV} (a:RunsP L) (X:List Nat) (hc:∀ m,2≤m→m<N→bR L m∨m∈X) (b:X.length+2<N):∃ ff ft R,L=(ff,ft)::R∧ff≤2+X.length∧bR L ff:=by
 obtain ⟨m,h1,h2,h3⟩:=wY X.length 2 X rfl
 have h4:bR L m:=(hc m h1 (by omega)).resolve_right h3
 match L,a,h4 with
 | [],_,h4=>exact (Cq h4).elim
 | (ff,ft)::R,a,h4=>
  exact ⟨ff,ft,R,rfl,by have:=Hq a h4;omega,⟨(ff,ft),List.mem_cons_self,Nat.le_refl _,a.pos _ List.mem_cons_self⟩⟩
theorem qB {N:Nat} {L:bV} (c:RunsP L) (X:List Nat) (hc:∀ m,2≤m→m<N→bR L m∨m∈X) (d:X.length+2<N):∃ ff ft R,L=(ff,ft)::R∧ff≤2+X.length∧bR L ff∧RunsP (bS L)∧(∀ m,bR (bS L) m↔bR L m∧m≠ff)∧(∀ m,2≤m→m<N→bR (bS L) m∨m∈ff::X)∧(bS L≠[]→ff+1<ft∨0<R.length):=by
 obtain ⟨ff,ft,R,e,h1,h2⟩:=tv c X hc d
 subst e
 obtain ⟨k1,k2,k3⟩:=sw c
 refine ⟨ff,ft,R,rfl,h1,h2,k1,k3,fun m a b=>?_,fun hn=>?_⟩
 · by_cases e:m=ff
   · exact .inr (by rw [e];exact List.mem_cons_self)
   · rcases hc m a b with h | h
     · exact .inl ((k3 m).2 ⟨h,e⟩)
     · exact .inr (List.mem_cons_of_mem _ h)
 · by_cases hf:ff+1<ft
   · exact .inl hf
   · refine .inr ?_
     cases R with
     | nil=>exact absurd (by simp [bS,hf]) hn
     | cons r R=>simp
theorem om {N:Nat} {L:bV} (a:RunsP L) (X:List Nat) (hc:∀ m,2≤m→m<N→bR L m∨m∈X) (c:X.length+4<N):∃ ff ft R f2 t2 R2,L=(ff,ft)::R∧bS ((ff,ft)::R)=(f2,t2)::R2∧RunsP ((ff,ft)::R)∧RunsP ((f2,t2)::R2)∧RunsP (bS ((f2,t2)::R2))∧(ff+1<ft∨0<R.length)∧(f2+1<t2∨0<R2.length)∧ff≤2+X.length∧f2≤3+X.length∧bR L ff∧bR L f2∧ff≠f2∧(R2.length+1≤L.length+1)∧(∀ m,bR ((f2,t2)::R2) m↔bR L m∧m≠ff)∧(∀ m,bR (bS ((f2,t2)::R2)) m↔bR L m∧m≠ff∧m≠f2):=by
 obtain ⟨ff,ft,R,e,h1,h2,h3,h4,h5,h6⟩:=qB a X hc (by omega)
 obtain ⟨f2,t2,R2,e',i1,i2,i3,i4,i5,i6⟩:=qB h3 (ff::X) h5 (by simp;omega)
 obtain ⟨f3,t3,R3,e'',-⟩:=tv i3 (f2::ff::X) i5 (by simp;omega)
 subst e
 have k:=(sw a).2.1
 rw [e'] at h3 i2 i3 i4 i6 k e''
 have d:=(h4 ff).1
 have b:=(h4 f2).1 (by rw [e'];exact i2)
 refine ⟨ff,ft,R,f2,t2,R2,rfl,e',a,h3,i3,h6 (by rw [e'];simp),i6 (by rw [e''];simp),h1,by simp at i1;omega,h2,b.1,fun h=>b.2 h.symm,by simp at k ⊢;omega,fun m=>by rw [← e'];exact h4 m,fun m=>?_⟩
 rw [i4 m,← e',h4 m,and_assoc]
abbrev tN:Type:=(nZ×List Nat×Vl×Nat×SB)×(Nat×Nat)
abbrev AB (c:VC) (s:VS) (kk new:Bs):Pg:=⟨c.tt,1,0,s.cm+1,1,bw kk new⟩
abbrev tR (c:VC) (s:VS) (ch2 ff:Nat):Pg:=⟨0,1,0,s.cm+1,1,bw (be c.tt 4) (bJ c.q ch2 c.mark ff (s.cm+1) 1 0 1 c.hcm c.wr)⟩
abbrev lh (c:VC) (s:VS) (ch2 ff f2:Nat) (kk new:Bs):Nat→Option Pg:=bX (bX s.M ff (AB c s kk new)) f2 (tR c s ch2 ff)
abbrev mH (c:VC) (s:VS) (ch2 ff f2:Nat) (kk new:Bs) (x:tN):List Bs:=dp ((dJ c.Kf (lh c s ch2 ff f2 kk new) s.now x.1.2.1).set ((s.cm+1)%2) (bI c.rkey 0 4 0 ((s.cm+1)%2) (s.cm+1) 1 (bO (s.cm+1) f2 (s.cm+1) 1 0 1 1))) x.1.1.2.2.2.2.2.2.1
abbrev VS.bat (c:VC) (s:VS) (ch2 ff f2:Nat) (kk new:Bs) (X:List Nat) (x:tN) (ys:List Vl):VS:=
 {s with cm:=s.cm+1,pp:=f2,rc:=s.cm+1,rp:=ff,rc2:=s.cm+1,rg2:=1,ch:=ch2,L:=x.1.1.1,Af:=x.1.1.2.1,nf:=x.1.1.2.2.1,cf:=x.1.1.2.2.2.1,K:=x.1.1.2.2.2.2.1,M:=dA (lh c s ch2 ff f2 kk new) (X.filter (cN s.pin)),W:=x.1.1.2.2.2.2.2.1,steps:=x.1.1.2.2.2.2.2.2.2,now:=mH c s ch2 ff f2 kk new x,firm:=mH c s ch2 ff f2 kk new x,lv:=x.1.2.2.1,lb:=x.1.2.2.2.1,lsb:=x.1.2.2.2.2,Mg:=s.Mg+3,xs:=ys,pu:=some x.2.1,dr:=some x.2.2,lst:=s.cm+1,fl:=true,kk:=kk,val:=new}
def HM (s:VS) (ff f2:Nat) (X:List Nat) (x:tN):Prop:=x.1.2.1.Perm ([]++[ff]++[f2])∧x.1.1.2.2.2.2.2.2.1.Perm (X.filter (cN s.pin))∧ff≤2+X.length∧f2≤3+X.length∧bR s.L ff∧bR s.L f2∧ff≠f2
theorem VS.Ok.bat {c:VC} {s:VS} (h:s.Ok c) (hc:c.Ok) {ff d:Nat} {kk new:Bs} {X:List Nat} {x:tN} {ys:List Vl} {t:bV} {g:Nat} (j:g=1) (u:s.cm+1<128)
 (k1:1≤kk.length) (v:kk.length≤32) (H:1≤new.length) (w:new.length≤64)
 (i:∀ m∈X,2≤m∧m<c.N∧¬ bR s.L m) (k:∀ m,2≤m→m<c.N→bR s.L m∨m∈X)
 (y:bR s.L ff) (A:bR s.L d) (B:ff≠d) (hT:∀ m,bR t m↔bR s.L m∧m≠ff∧m≠d)
 (h1:RunsP x.1.1.1) (h2:∀ m,bR x.1.1.1 m↔bR t m∨(m∈X∧s.pin m=0)) (h3:KM x.1.1.2.2.2.2.1 (dA (lh c s g ff d kk new) (X.filter (cN s.pin)))) (h4:x.1.1.2.2.2.2.2.1.Nodup) (h5:∀ n,n∈x.1.1.2.2.2.2.2.1↔n∈X∧s.pin n≠0)
 (I:x.1.2.1.Perm ([]++[ff]++[d])) (J:SlE 502 9 (s.Mg+3) ys x.1.2.2.1 (x.1.2.2.2.1,x.1.2.2.2.2)):(VS.bat c s g ff d kk new X x ys).Ok c:=by
 subst j
 have C:=h.rng ff y
 have D:=h.rng d A
 have l:ff∉X:=fun e=>(i _ e).2.2 y
 have o:d∉X:=fun e=>(i _ e).2.2 A
 have E:lh c s 1 ff d kk new d=some (tR c s 1 ff):=if_pos rfl
 have F:lh c s 1 ff d kk new ff=some (AB c s kk new):=(if_neg B).trans (if_pos rfl)
 have K:dA (lh c s 1 ff d kk new) (X.filter (cN s.pin)) d=some (tR c s 1 ff):=(if_neg fun e=>o (List.mem_filter.1 e).1).trans E
 have M:dA (lh c s 1 ff d kk new) (X.filter (cN s.pin)) ff=some (AB c s kk new):=(if_neg fun e=>l (List.mem_filter.1 e).1).trans F
 have O:¬ bR x.1.1.1 d:=fun e=>((h2 _).1 e).elim (fun e=>((hT _).1 e).2.2 rfl) fun e=>o e.1
 have P:¬ bR x.1.1.1 ff:=fun e=>((h2 _).1 e).elim (fun e=>((hT _).1 e).2.1 rfl) fun e=>l e.1
 have Q:d∉x.1.1.2.2.2.2.2.1:=fun e=>o ((h5 _).1 e).1
 have w1:ff∉x.1.1.2.2.2.2.2.1:=fun e=>l ((h5 _).1 e).1
 have z:(bJ c.q 1 c.mark ff (s.cm+1) 1 0 1 c.hcm c.wr).length=59:=ml hc _ _ _ _
 have p:∀ n∈x.1.2.1,∃ q,lh c s 1 ff d kk new n=some q∧q.Ok:=fun n hn=>by
  have f:=I.mem_iff.1 hn
  simp only [List.nil_append,List.mem_append,List.mem_singleton] at f
  rcases f with rfl | rfl
  · exact ⟨_,F,hc.tt,Nat.le_refl 1,(by decide:1≤3),(by decide:0<256),(by omega:s.cm+1<18446744073709551616),(by decide:1<65536),ge _ _ v w⟩
  · exact ⟨_,E,(by decide:0<4294967296),Nat.le_refl 1,(by decide:1≤3),(by decide:0<256),(by omega:s.cm+1<18446744073709551616),(by decide:1<65536),ge _ _ (by rw [cc];decide) (by omega)⟩
 have G:(mH c s 1 ff d kk new x).length=c.N:=by
  show (dp _ _).length=_
  rw [nv,List.length_set,jJ];exact h.now
 have na:bP (mH c s 1 ff d kk new x):=nD _ _ (lZ (nK _ _ _ _ h.n256 p) _ (fi _ _ _ _ _ _ _ _ (fd _ _ _ _ _ _ _)))
 exact {
  km:=h3
  rg:=h.rg
  gt:=h.gt
  g0:=h.g0
  runs:=h1
  cover:=fun m a b=>by
   show bR x.1.1.1 m∨m=d∨m=ff∨m∈x.1.1.2.2.2.2.2.1
   rw [h2,h5,hT]
   by_cases e1:m=d
   · exact .inr (.inl e1)
   by_cases e2:m=ff
   · exact .inr (.inr (.inl e2))
   rcases k m a b with q | q
   · exact .inl (.inl ⟨q,e2,e1⟩)
   · by_cases e3:s.pin m=0
     · exact .inl (.inr ⟨q,e3⟩)
     · exact .inr (.inr (.inr ⟨q,e3⟩))
  rng:=fun m e=>((h2 m).1 e).elim (fun e=>h.rng m ((hT m).1 e).1) fun e=>⟨(i m e.1).1,(i m e.1).2.1⟩
  roll:=K
  pp2:=D.1
  ppN:=D.2
  ppL:=O
  ppW:=Q
  root:=.inr ⟨rfl,rfl,C.1,C.2,B,P,w1,M,k1,v,H,w⟩
  wnd:=h4
  wp:=fun n hn=>by
   have f:=(h5 n).1 hn
   have r:=i n f.1
   exact ⟨r.1,r.2.1,fun e=>((h2 n).1 e).elim (fun e=>r.2.2 ((hT n).1 e).1) fun e=>f.2 e.2,f.2⟩
  pins:=h.pins
  pinc:=h.pinc
  shp:=h.shp
  now:=G
  firm:=G
  n256:=na
  f256:=na
  log:=J
  lst:=Nat.le_refl _
  vc:=h.vc}
section
variable (c:VC) (s:VS) (h:Nat) (hs:s.Ok c) (hc:c.Ok) (h64:h<18446744073709551616) (hT:h/4294967296=c.tt)
include hs hc h64 hT in
theorem Ag (e1:s.rp=0) (e2:s.rc2=0) (e3:s.rg2=0) (e4:s.ch=0) (qb qo qc a1 ub uo uc a2 a5 ob oc:Nat) (kk:Bs) (new:Bs) (k1:1≤kk.length) (k2:kk.length≤32) (v0:1≤new.length) (v3:new.length≤64) (r1 b1:Nat) (hA:lk s.A (h%4294967296)=some (hV r1 b1)) (hr:(cM 2 r1 != 0)=false) (hN16:16≤c.N) (hW8:s.W.length≤8) (hS20:s.SH.length≤20) (hMg:s.Mg≤800000) (hcm7:s.cm+1<128) (hlim:s.cm<c.lim) (hOv:s.ch+1+dV s.SH≤c.q) :
 TT 10 #[bi s.v,.agg #[i64 11,u32 0,bp,i64 0,i64 0,u64 h,u64 0,u64 0,u8 0,sA ob 1 oc,bp,bp,bp,.bool false]] [(a1,.fa (BF (pO qb qo) kk.length qc kk)),(a2,.fa (BF (pO ub uo) new.length uc new)),(a5,.fa (CF ob 0 (dS qb qo kk.length qc (cB ub uo new.length uc) false)))] (vH c s) (fun x:VS=>x.Ok c∧∃ ff f2 y ys,x=VS.bat c s (s.ch+1) ff f2 kk new (s.W++[s.pp]) y ys∧HM s ff f2 (s.W++[s.pp]) y) (fun _=>.returned (cP 0 0 0 bp bp 0 bp)) (fun _=>deadL (vH c s)) (fun x=>vH c x):=by
 have hlen:=hs.len
 refine Tri.facW (q:=s.nf=s.L.length) 18 0 _ rfl (fun w h=>h.1) fun hnf=>?_
 have hN4:=hc.N4
 have hq1:=hc.q1
 have hpin:∀ m,s.pin m<1000000:=fun m=>by have:=hs.pin m;omega
 have z:(bJ c.q s.ch c.mark s.rp s.rc2 s.rg2 0 1 c.hcm c.wr).length=59:=ml hc _ _ _ _
 have z0:1≤(bJ c.q s.ch c.mark s.rp s.rc2 s.rg2 0 1 c.hcm c.wr).length:=by omega
 have z3:(bJ c.q s.ch c.mark s.rp s.rc2 s.rg2 0 1 c.hcm c.wr).length≤64:=by omega
 have hXl:(s.W++[s.pp]).length≤10:=by simp;omega
 have hWu:(s.W++[s.pp]).Nodup:=by
  rw [List.nodup_append]
  exact ⟨hs.wnd,by simp,fun a ha b hb e=>hs.ppW (by rw [← List.mem_singleton.1 hb,← e];exact ha)⟩
 have hX:∀ n∈(s.W++[s.pp]),2≤n∧n<c.N∧¬ bR s.L n:=fun n hn=>by
  rcases List.mem_append.1 hn with hn | hn
  · exact ⟨(hs.wp n hn).1,(hs.wp n hn).2.1,(hs.wp n hn).2.2.1⟩
  · rw [List.mem_singleton.1 hn];exact ⟨hs.pp2,hs.ppN,hs.ppL⟩
 have hcv:∀ m,2≤m→m<c.N→bR s.L m∨m∈(s.W++[s.pp]):=fun m a b=>by
  rcases hs.cover m a b with q | q | q | q
  · exact .inl q
  · exact .inr (by simp [q])
  · omega
  · exact .inr (by simp [q])
 obtain ⟨ff,ft,R,f2,t2,R2,eL,hTk,hL,hL2,hL3,hlong,hlong2,b1',b2',i1,i2,i3,hR2,hM2,hT3⟩:=om hs.runs (s.W++[s.pp]) hcv (by omega)
 have hf0:0<ff:=by have:=(hs.rng ff i1).1;omega
 have D:=IV s.v c.N c.lim (sA s.vk 32 s.vc) s.d s.rs s.lg s.r s.p s.cm s.pp s.rc 1 1 1 s.al 0 bp 0 0 h 0 0 0 bp bp bp false c.tt c.q s.mb s.mc s.ch s.hb s.hc s.cb s.sh s.made s.tn s.nf s.cf s.kn s.wt s.Af s.pi s.cm s.lst [(c.tt,bi s.tn)] s.A s.SH (by simp) 0 0 0 1 c.hcm s.wb s.wc ff 1 c.mark c.wr (bJ c.q s.ch c.mark s.rp s.rc2 s.rg2 0 1 c.hcm c.wr) z0 z3 hc.mark hc.wr hc.tt0 hc.q1 hc.q2 (by omega) (by omega) (by omega) hf0 (by omega) hcm7 (by decide) (by decide) hc.hcm s.na s.nfm s.steps s.m 1 0 qb qo qc a1 ub uo uc a2 0 a5 ob oc ft f2 t2 kk new k1 k2 v0 v3 R R2 hTk hL hL2 hL3 hlong hlong2 (by omega) (by omega) (by omega) s.G hs.rg.len hs.gt hs.g0 (by decide) s.K s.M hs.km s.W (by rw [hs.roll]) (fun e=>hs.ppL (by rw [e];exact i1)) (fun e=>hs.ppL (by rw [e];exact i2)) i3 (fun e=>hs.ppL ((hM2 _).1 e).1) hs.ppW hs.pp2 hs.ppN (by have:=hs.ppN;omega) hc.tt s.now s.firm hs.now hs.firm hs.n256 hs.f256 hN4 hc.N8 0 s.lb s.Mg s.lsb s.lv s.xs hs.log hMg c.Kf hs.rg c.rkey c.tkey c.rkey hc.kf0 hc.rkey hc.kft hc.kf0 (by decide) s.I s.pin hs.pins hpin (fun m e=>(hs.rng m ((hT3 m).1 e).1).2) (by omega) hWu (fun n hn=>⟨(hX n hn).1,(hX n hn).2.1,fun e=>(hX n hn).2.2 ((hT3 n).1 e).1⟩) (hs.rng ff i1) (hs.rng f2 i2) s.dv s.fl s.pu s.dr hs.lst hlim hc.lim s.cct s.ca r1 b1 (by rw [hT,cp,if_pos rfl]) hA hr hS20 hs.shp.shots h64 (by omega)
 have E:b9 c.tt c.q s.mb s.mc 0 0 0 s.ch s.hb s.hc s.cb s.sh s.made=b9 c.tt c.q s.mb s.mc s.rp s.rc2 s.rg2 s.ch s.hb s.hc s.cb s.sh s.made:=by rw [e1,e2,e3]
 rw [E,← eL] at D
 exact D.lift [4,9,10,21,0,1,22,2,24,25,26,14,23,6,7,8] [3,5,11,12,13,15,16,17,18,19,20] (by kernel_rfl) (fun _=>bD (bD (bD (bD (bD (bD (bD (bD (bD (bD (bD bH (fun _=>rfl)) (fun _=>rfl)) (fun _=>rfl)) (fun hd=>absurd hd Bool.noConfusion)) (fun _=>rfl)) (fun _=>rfl)) (fun _=>rfl)) (fun _=>rfl)) (fun _=>rfl)) (fun _=>rfl)) (fun _=>rfl)) fun x hx=>by
  obtain ⟨⟨p1,p2,p3,p4,p5,p6⟩,⟨p7,-⟩,ys,p8⟩:=hx
  exact ⟨VS.bat c s (s.ch+1) ff f2 kk new (s.W++[s.pp]) x ys,⟨hs.bat hc (by omega) hcm7 k1 k2 v0 v3 hX hcv i1 i2 i3 hT3 p1 p2 p3 p4 p5 p7 p8,ff,f2,x,ys,rfl,p7,p6,b1',b2',i1,i2,i3⟩,rfl,[3,4,5,6,7,8,9,10,11,12,13,14,15,16,29,18,19,20,30,31,23,24,25,26,27,28],by kernel_rfl⟩
include hs hc h64 hT in
theorem FH (hr0:oL c s) (qb qo qc a1 ub uo uc a2 a5 ob oc:Nat) (new:Bs) (v0:1≤new.length) (v3:new.length≤64) (r1 b1:Nat) (hA:lk s.A (h%4294967296)=some (hV r1 b1)) (hr:(cM 2 r1 != 0)=false) (hN16:16≤c.N) (hW8:s.W.length≤8) (hS20:s.SH.length≤20) (hMg:s.Mg≤800000) (hcm7:s.cm+1<128) (hlim:s.cm<c.lim) (hOv:s.ch+dV s.SH≤c.q) :
 TT 10 #[bi s.v,.agg #[i64 11,u32 0,bp,i64 0,i64 0,u64 h,u64 0,u64 0,u8 0,sA ob 1 oc,bp,bp,bp,.bool false]] [(a1,.fa (BF (pO qb qo) s.kk.length qc s.kk)),(a2,.fa (BF (pO ub uo) new.length uc new)),(a5,.fa (CF ob 0 (dS qb qo s.kk.length qc (cB ub uo new.length uc) false)))] (vH c s) (fun x:VS=>x.Ok c∧∃ ff f2 X y ys,x=VS.bat c s s.ch ff f2 s.kk new X y ys) (fun _=>.returned (cP 0 0 0 bp bp 0 bp)) (fun _=>deadL (vH c s)) (fun x=>vH c x):=by
 have hlen:=hs.len
 refine Tri.facW (q:=s.nf=s.L.length) 18 0 _ rfl (fun w h=>h.1) fun hnf=>?_
 have hN4:=hc.N4
 have hq1:=hc.q1
 have hpin:∀ m,s.pin m<1000000:=fun m=>by have:=hs.pin m;omega
 have z:(bJ c.q s.ch c.mark s.rp s.rc2 s.rg2 0 1 c.hcm c.wr).length=59:=ml hc _ _ _ _
 have z0:1≤(bJ c.q s.ch c.mark s.rp s.rc2 s.rg2 0 1 c.hcm c.wr).length:=by omega
 have z3:(bJ c.q s.ch c.mark s.rp s.rc2 s.rg2 0 1 c.hcm c.wr).length≤64:=by omega
 obtain ⟨e1,ec,e2,e3,e5,g5,g6,e4,k1,k2,u0,u3⟩:=hr0
 have hXl:(s.W++[s.rp]++[s.pp]).length≤10:=by simp;omega
 have hWu:(s.W++[s.rp]++[s.pp]).Nodup:=by
  rw [List.nodup_append,List.nodup_append]
  refine ⟨⟨hs.wnd,by simp,fun a ha b hb e=>g6 (by rw [← List.mem_singleton.1 hb,← e];exact ha)⟩,by simp,fun a ha b hb e=>?_⟩
  rw [List.mem_singleton.1 hb] at e
  subst e
  rcases List.mem_append.1 ha with ha | ha
  · exact hs.ppW ha
  · exact e5 (List.mem_singleton.1 ha).symm
 have hX:∀ n∈(s.W++[s.rp]++[s.pp]),2≤n∧n<c.N∧¬ bR s.L n:=fun n hn=>by
  rcases List.mem_append.1 hn with hn | hn
  · rcases List.mem_append.1 hn with hn | hn
    · exact ⟨(hs.wp n hn).1,(hs.wp n hn).2.1,(hs.wp n hn).2.2.1⟩
    · rw [List.mem_singleton.1 hn];exact ⟨e2,e3,g5⟩
  · rw [List.mem_singleton.1 hn];exact ⟨hs.pp2,hs.ppN,hs.ppL⟩
 have hcv:∀ m,2≤m→m<c.N→bR s.L m∨m∈(s.W++[s.rp]++[s.pp]):=fun m a b=>by
  rcases hs.cover m a b with q | q | q | q
  · exact .inl q
  · exact .inr (by simp [q])
  · exact .inr (by simp [q])
  · exact .inr (by simp [q])
 obtain ⟨ff,ft,R,f2,t2,R2,eL,hTk,hL,hL2,hL3,hlong,hlong2,b1',b2',i1,i2,i3,hR2,hM2,hT3⟩:=om hs.runs (s.W++[s.rp]++[s.pp]) hcv (by omega)
 have hf0:0<ff:=by have:=(hs.rng ff i1).1;omega
 have D:=H8 s.v c.N c.lim (sA s.vk 32 s.vc) s.d s.rs s.lg s.r s.p s.cm s.pp s.rc 1 1 1 s.al 0 bp 0 0 h 0 0 0 bp bp bp false c.tt c.q s.mb s.mc s.ch s.hb s.hc s.cb s.sh s.made s.tn s.nf s.cf s.kn s.wt s.Af s.pi s.cm s.lst [(c.tt,bi s.tn)] s.A s.SH (by simp) 0 0 0 1 c.hcm s.wb s.wc ff 1 c.mark c.wr (bJ c.q s.ch c.mark s.rp s.rc2 s.rg2 0 1 c.hcm c.wr) z0 z3 hc.mark hc.wr hc.tt0 hc.q1 hc.q2 (by omega) (by omega) (by omega) hf0 (by omega) hcm7 (by decide) (by decide) hc.hcm s.na s.nfm s.steps s.rp s.rc2 s.rg2 s.m 1 0 qb qo qc a1 ub uo uc a2 0 a5 ob oc ft f2 t2 s.kk s.val new k1 k2 u0 u3 v0 v3 R R2 hTk hL hL2 hL3 hlong hlong2 (by omega) (by omega) (by omega) s.G hs.rg.len hs.gt hs.g0 (by decide) s.K s.M hs.km s.W (by rw [e4,e1]) (by rw [← eL];exact g5) g6 (fun h=>e5 h.symm) e2 e3 (by omega) (by rw [hs.roll]) (fun e=>hs.ppL (by rw [e];exact i1)) (fun e=>hs.ppL (by rw [e];exact i2)) i3 (fun e=>hs.ppL ((hM2 _).1 e).1) (by simp;exact ⟨hs.ppW,fun h=>e5 h.symm⟩) hs.pp2 hs.ppN (by have:=hs.ppN;omega) hc.tt s.now s.firm hs.now hs.firm hs.n256 hs.f256 hN4 hc.N8 0 s.lb s.Mg s.lsb s.lv s.xs hs.log hMg c.Kf hs.rg c.rkey c.tkey c.rkey hc.kf0 hc.rkey hc.kft hc.kf0 (by decide) s.I s.pin hs.pins hpin (fun m e=>(hs.rng m ((hT3 m).1 e).1).2) (by omega) hWu (fun n hn=>⟨(hX n hn).1,(hX n hn).2.1,fun e=>(hX n hn).2.2 ((hT3 n).1 e).1⟩) (hs.rng ff i1) (hs.rng f2 i2) s.dv s.fl s.pu s.dr hs.lst hlim hc.lim s.cct s.ca r1 b1 (by rw [hT,cp,if_pos rfl]) hA hr hS20 hs.shp.shots h64 (by omega)
 rw [← eL] at D
 exact D.lift [4,9,10,21,0,1,22,2,24,25,26,14,23,6,7,8] [3,5,11,12,13,15,16,17,18,19,20] (by kernel_rfl) (fun _=>bD (bD (bD (bD (bD (bD (bD (bD (bD (bD (bD bH (fun _=>rfl)) (fun _=>rfl)) (fun _=>rfl)) (fun hd=>absurd hd Bool.noConfusion)) (fun _=>rfl)) (fun _=>rfl)) (fun _=>rfl)) (fun _=>rfl)) (fun _=>rfl)) (fun _=>rfl)) (fun _=>rfl)) fun x hx=>by
  obtain ⟨⟨p1,p2,p3,p4,p5,p6⟩,⟨p7,-⟩,ys,p8⟩:=hx
  exact ⟨VS.bat c s s.ch ff f2 s.kk new (s.W++[s.rp]++[s.pp]) x ys,⟨hs.bat hc (by omega) hcm7 k1 k2 v0 v3 hX hcv i1 i2 i3 hT3 p1 p2 p3 p4 p5 p7 p8,ff,f2,_,x,ys,rfl⟩,rfl,[3,4,5,6,7,8,9,10,11,12,13,14,15,16,29,18,19,20,30,31,23,24,25,26,27,28],by kernel_rfl⟩
end
section
variable (v N lim:Nat) (key:Vl) (d rs lg:Nat) (op:Bool) (r p c gn n al:Nat)
variable (k tt:Nat) (sec:Vl) (n1:Int) (h o s rt:Nat) (ops ky fr too:Vl) (bk:Bool)
variable (q mb mc:Nat) (nf cf kn wt:Nat) (Af:Option Addr) (pi cm lst:Nat) (c1 c2 c3 c4:Nat)
theorem Iz (T:List (Nat×Vl)) (Q:T.length<1000000) (S:lk T tt=none) (mark rkey tkey:Bs) (U:16=mark.length) (z:32=rkey.length) (A:16=tkey.length) (V:0<tt) (ht:tt<4294967296) (X:1≤q) (Y:q<128) (B:cm+1<128) (m g0 a a1 Z a3 a4 kb ko kc tb tk ff e:Nat) (ab:32≤kc) (ac:16≤tk) (R:bV) (hL:RunsP ((ff,e)::R)) (ad:RunsP (bS ((ff,e)::R))) (u:ff+1<e∨0<R.length) (P:nf≤50000) (hf:ff<4294967295) (G:List ((Nat×Nat)×Vl)) (hG:G.length≤1000) (ae:lk G (tt,1)=none) (af:cg 0 (G.map (·.1))=[g0]) (b:g0<65536) (hk:lk G (0,gn)=some (sO kb ko 32 kc))
 (K:List (Nat×Vl)) (M:Nat→Option Pg) (ag:KM K M) (W:List Nat) (na nfm:Nat) (steps:Int)
 (now firm:List Bs) (ah:now.length=N) (ai:firm.length=N) (C:bP now) (f256:bP firm) (aj:N≤4096) (h8:8≤N) (a5 lb Mg:Nat) (lsb:SB) (lv:Vl) (xs:List Vl) (ak:SlE 502 9 Mg xs lv (lb,lsb)) (am:Mg≤800000) (Kf:Nat×Nat→Option Bs) (an:RG G Kf) (D:Kf (0,gn)=some rkey) (E:Bs) (ao:Kf (0,g0)=some E) (w:gn<65536)
 (I:List (Nat×Vl)) (pin:Nat→Nat) (hI:PinI I pin) (F:∀ n,pin n<1000000) (ap:∀ m,bR (bS ((ff,e)::R)) m→m<N) (aq:W.length≤12) (ar:W.Nodup) (au:∀ n∈W,2≤n∧n<N∧¬ bR (bS ((ff,e)::R)) n) (f:2≤ff∧ff<N) (dv:Vl) (fl:Bool) (pu dr:Option Nat) (H:lst≤cm) (J:cm<lim) (y:lim<4294967296) :
 TT 110 #[bi v,.func (.func 111) #[] #[bi c1,bi c2,bi c3,bi c4],.func (.func 117) #[] #[bi c1,bi c2,bi c3,bi c4]] [(c1,.cl [bi v] 32),(c2,.cl (eO k tt sec (q:Int) n1 h o s rt ops ky fr too bk) 41),(c3,.cl [sA tb 16 tk] 27),(r,.cl [.map (some m)] 182),(a,.fa (bN Af nf cf ((ff,e)::R))),(a1,.fa (BF (pO kb ko) 32 kc rkey)),(Z,.fa (BF (pA tb) 16 tk tkey)),(a3,.fa (BF (pA mb) 16 mc mark)),(a4,.fa (PgsF K M)),(pi,.pr (MU I)),(a5,.fa (dw G Kf))] [(c4,.cl [u32 tt,i64 q,bY mb 16 mc,u32 0,u64 0,u16 0,u8 0,i64 0,bp] 109),(v,.cl (bU N lim key d rs lg op r p c 0 0 0 gn n al) 90),(al,.pr (MU T)),(m,.pr (bB eW G)),(p,.cl (bM d r lg Af nf cf kn wt pu dr pi 0 lst fl) 199),(kn,.pr (MU K)),(wt,.pr (MU (bF W))),(rs,.cl (dc d (lim:Int) (cm:Int) (cm:Int) dv) df),(lg,.cl [lv] 128),(lb,lsb),(d,.cl (bQ na nfm N (.slice none 0 0) steps) bT),(na,.cl (bE now) 166),(nfm,.cl (bE firm) 166)]
  (fun x:((nZ×List Nat×Vl×Nat×SB)×(Nat×Nat))×((Nat×Nat)×(Nat×Nat))×((Nat×Nat)×Nat×Nat×Nat)=>(RunsP x.1.1.1.1∧(∀ m,bR x.1.1.1.1 m↔bR (bS ((ff,e)::R)) m∨(m∈W∧pin m=0))∧KM x.1.1.1.2.2.2.2.1 (dA (bX M ff ⟨0,1,0,cm+1,g0,bw (be tt 4) (bJ q 0 mark 0 0 0 0 1 (cm+1) (bZ rkey tt 1 (cm+1) tkey))⟩) (W.filter (cN pin)))∧x.1.1.1.2.2.2.2.2.1.Nodup∧(∀ n,n∈x.1.1.1.2.2.2.2.2.1↔n∈W∧pin n≠0)∧x.1.1.1.2.2.2.2.2.2.1.Perm (W.filter (cN pin)))∧(x.1.1.2.1.Perm ([]++[ff])∧(∀ i j,i<j→j<x.1.1.2.1.length→x.1.1.2.1.getD i 0≤x.1.1.2.1.getD j 0))∧∃ ys,SlE 502 9 (Mg+([]++[ff]).length+1) ys x.1.1.2.2.1 (x.1.1.2.2.2.1,x.1.1.2.2.2.2)) (fun _=>.returned (.tuple #[]))
  (fun x=>[(c4,.cl (jN tt q mb mc 0 0 0 0 0 x.2.1.1.1 x.2.1.1.2) 109),(v,.cl (bU N lim key d rs lg op r p (cm+1) ff (cm+1) g0 gn (T.length+1) al) 90),(al,.pr (MU (up T tt (bi x.2.2.2.1)))),(m,.pr (bB eW (up G (tt,1) (sA x.2.2.1.1 16 x.2.2.1.2)))),(p,.cl (bM d r lg x.1.1.1.2.1 x.1.1.1.2.2.1 x.1.1.1.2.2.2.1 kn wt (some x.1.2.1) (some x.1.2.2) pi 0 (cm+1) true) 199),(kn,.pr (MU x.1.1.1.2.2.2.2.1)),(wt,.pr (MU (bF x.1.1.1.2.2.2.2.2.1))),(rs,.cl (dc d (lim:Int) ((cm+1:Nat):Int) ((cm+1:Nat):Int) dv) df),(lg,.cl [x.1.1.2.2.1] 128),(lb,.dead),(d,.cl (bQ na nfm N (.slice none 0 0) x.1.1.1.2.2.2.2.2.2.2) bT),(na,.cl (bE (dp ((dJ Kf (bX M ff ⟨0,1,0,cm+1,g0,bw (be tt 4) (bJ q 0 mark 0 0 0 0 1 (cm+1) (bZ rkey tt 1 (cm+1) tkey))⟩) now x.1.1.2.1).set ((cm+1)%2) (bI rkey 0 4 0 ((cm+1)%2) (cm+1) gn (bO (cm+1) ff (cm+1) g0 0 gn (T.length+1)))) x.1.1.1.2.2.2.2.2.2.1)) 166),(nfm,.cl (bE (dp ((dJ Kf (bX M ff ⟨0,1,0,cm+1,g0,bw (be tt 4) (bJ q 0 mark 0 0 0 0 1 (cm+1) (bZ rkey tt 1 (cm+1) tkey))⟩) now x.1.1.2.1).set ((cm+1)%2) (bI rkey 0 4 0 ((cm+1)%2) (cm+1) gn (bO (cm+1) ff (cm+1) g0 0 gn (T.length+1)))) x.1.1.1.2.2.2.2.2.2.1)) 166)])
  (fun x=>[(x.1.1.2.2.2.1,x.1.1.2.2.2.2),(0,.fa (bN x.1.1.1.2.1 x.1.1.1.2.2.1 x.1.1.1.2.2.2.1 x.1.1.1.1)),(0,.fa (PgsF x.1.1.1.2.2.2.2.1 (dA (bX M ff ⟨0,1,0,cm+1,g0,bw (be tt 4) (bJ q 0 mark 0 0 0 0 1 (cm+1) (bZ rkey tt 1 (cm+1) tkey))⟩) (W.filter (cN pin))))),(x.2.1.1.1,.fa (CF x.2.1.1.1 0 (cX 1 (cm+1) x.2.1.2.1 x.2.1.2.2))),(x.2.1.2.1,.fa (BF (pA x.2.1.2.1) 32 x.2.1.2.2 (bZ rkey tt 1 (cm+1) tkey))),(x.2.2.1.1,.fa (BF (pA x.2.2.1.1) 16 x.2.2.1.2 tkey)),(x.2.2.2.1,.cl (b9 tt q mb mc 0 0 0 0 x.2.1.1.1 x.2.1.1.2 x.2.2.2.2.1 x.2.2.2.2.2 0) 113),(x.2.2.2.2.1,.cl [.map none,u64 0] 212),(x.2.2.2.2.2,.pr (MV []))]):=by
 have av:ff∉([]:List Nat):=by simp
 have L:(([]:List Nat)++[ff]).length≤12:=by simp
 have O:T.length+1<4294967296:=by omega
 have aw:∀ n∈([]:List Nat)++[ff],2≤n∧n<N∧∃ qq,(bX M ff ⟨0,1,0,cm+1,g0,bw (be tt 4) (bJ q 0 mark 0 0 0 0 1 (cm+1) (bZ rkey tt 1 (cm+1) tkey))⟩) n=some qq∧∃ l,Kf (qq.t,qq.g)=some l:=by
  intro n P
  simp only [List.nil_append,List.mem_singleton] at P
  subst P
  exact ⟨f.1,f.2,_,by simp only [bX,if_pos];rfl,_,ao⟩
 have ax:0<cm+1:=by omega
 refine dE func110 fun w0 ho=>bu [9999] 1 fun nm=>bj [9999,2392064,24,12,24,12]<|cE (lR p d r rs lg Af nf cf kn wt pu dr pi lst fl na nfm N (.slice none 0 0) steps cm lim dv H J y) [] [15,18,21] fun ⟨x,x1,x2⟩ _=>zE<|bv (mR (u64 ↑(cm+1))) [] []<|bu [27] 1 fun nm1=>cS ⟨.fn (.func 194) #[bi (nm1 0),bi (nm 0)],#[]⟩<|zE<|cE (Ik v N lim key d rs lg op r p c gn n al k tt sec n1 h o s rt ops ky fr too bk q mb mc nf cf kn wt Af pi (cm+1) (cm+1) c1 c2 c3 c4 T Q mark rkey tkey U z A V ht X Y B (some x2) m g0 a a1 Z a3 a4 kb ko kc tb tk ff e x1 ab ac R hL u P hf G hG af b hk K M ag ([]) av ax) [0,1,2,12,13,3,14,4,5,6,7,8] [11,15,16,25] fun ⟨⟨⟨x3,x4⟩,x5⟩,⟨x6,x7⟩,x8,x9⟩ hx=>?_
 try dsimp only at hx
 refine bu [32,27,32,32,32,9999,9999,33] 2 fun nm2=>bj [9999,16744448,24,12,24,12,33]<|vC 43 (fun z9:Int=>(.agg ⟨[u64 ↑(cm+1),u32 ff,u64 ↑(cm+1),u16 g0,u8 0,u16 gn,u32 z9]⟩)) (kd (List.length T+1))<|cE (lM p d r lg rs (pA x3) (List.length (bS ((ff,e)::R))) x4 kn wt (some x2) pi (cm+1) na nfm N x now firm ah ai C f256 aj h8 m x1 a5 0 0 Mg lb lsb lv xs ak am G Kf an rkey gn D z x5 (bX M ff {t:=0,k:=1,l:=0,c:=cm+1,g:=g0,pl:=bw (be tt 4) (bJ q 0 mark 0 0 0 0 1 (cm+1) (bZ rkey tt 1 (cm+1) tkey))}) hx ([]++[ff]) L aw I pin hI F (bS ((ff,e)::R)) ad ap W aq ar au lim (cm+1) cm ff (cm+1) g0 (List.length T+1) dv (by omega) (by omega) (by omega) (by omega) b w O) [3,14,10,25,9,28,29] [15,18,17,16,19,20,21,22,23] fun ⟨⟨x10,x11,x12,x13,x14,x15,x16,x17⟩,x18,x19,x20,x21⟩ ⟨⟨hx1,hx2,hx3,hx4,hx5,hx6⟩,⟨hx7,hx8⟩,hx9⟩=>?_
 try dsimp only at hx1 hx2 hx3 hx4 hx5 hx6 hx7 hx8 hx9
 exact zE<|bv dx [] []<|bj [24,33,12]<|qC 12 v (fun z9:Int=>(.cl [i64 N,u64 lim,.slice none 0 0,key,bi d,bi rs,bi lg,.bool op,bi r,bi p,u64 ↑(cm+1),u32 ff,u64 ↑(cm+1),u16 g0,u8 0,u16 gn,u32 z9,.map (some al)] 90)) (kd (List.length T+1))<|qC 33 (nm2 1) (fun z9:Int=>(.cl [u64 ↑(cm+1),u32 ff,u64 ↑(cm+1),u16 g0,u8 0,u16 gn,u32 z9] 87)) (kd (List.length T+1))<|cE (IL v N lim key d rs lg op r p (cm+1) ff (cm+1) g0 gn (List.length T+1) al k tt sec ((↑q:Int)) n1 h o s rt ops ky fr too bk c1 c2 c3 c4 q mb mc x6 x7 T tkey A m Z tb tk G ae S) [0,1,2,12,3,6,11] [14,13] fun ⟨⟨x22,x23⟩,x24,x25,x26⟩ _=>zE<|fV<|dG #[bi (nm1 0),bi (nm 0)] #[] [] (o7 (nm1 0) (nm 0)) [27] [] fun _ _=>fS ((((x10,x11,x12,x13,x14,x15,x16,x17),x18,x19,x20,x21),(x1,x2)),((x6,x7),(x8,x9)),((x22,x23),x24,x25,x26)) (.tuple #[]) [34,35,36,30,31,37,38,39,40] (fN _ 9999) rfl ⟨⟨hx1,hx2,hx3,hx4,hx5,hx6⟩,⟨hx7,hx8⟩,hx9⟩
end
section
variable (v N lim:Nat) (d rs lg:Nat) (op:Bool) (r p c gn n al:Nat)
variable (k tt:Nat) (n1:Int) (h o s rt:Nat) (ops ky fr too:Vl) (bk:Bool)
variable (q:Nat) (nf cf kn wt:Nat) (Af:Option Addr) (pi cm lst:Nat) (vk vo vc sb so sc:Nat)
theorem Iw (b vkey rkey tkey:Bs) (E:32=vkey.length) (F:32≤vc) (l:16=b.length) (H:16≤sc) (af:12+(4*q+2)≤N) (ag:32=rkey.length) (ah:16=tkey.length) (ai:0<tt) (ht:tt<4294967296) (J:1≤q) (aj:q<128) (L:cm+1<128) (m g0 a a1 a2 a4 kb ko kc tb a6 a7 ra nd cd tk ff f:Nat) (ap:32≤kc) (O:16≤tk) (P:1≤nd) (aq:nd≤cd) (R:bV) (hL:RunsP ((ff,f)::R)) (ar:RunsP (bS ((ff,f)::R))) (y:ff+1<f∨0<R.length) (hn:nf≤50000) (hf:ff<4294967295) (G:List ((Nat×Nat)×Vl)) (hG:G.length≤1000) (au:lk G (tt,1)=none) (av:cg 0 (G.map (·.1))=[g0]) (A:g0<65536) (hk:lk G (0,gn)=some (sO kb ko 32 kc))
 (K:List (Nat×Vl)) (M:Nat→Option Pg) (aw:KM K M) (W:List Nat) (na nfm:Nat) (steps:Int)
 (now firm:List Bs) (ax:now.length=N) (ay:firm.length=N) (Q:bP now) (f256:bP firm) (S:N≤4096) (h8:8≤N) (a5 lb Mg:Nat) (lsb:SB) (lv:Vl) (xs:List Vl) (aA:SlE 502 9 Mg xs lv (lb,lsb)) (aB:Mg≤800000) (Kf:Nat×Nat→Option Bs) (aC:RG G Kf) (U:Kf (0,gn)=some rkey) (g:Bs) (aD:Kf (0,g0)=some g) (B:gn<65536)
 (I:List (Nat×Vl)) (pin:Nat→Nat) (hI:PinI I pin) (V:∀ n,pin n<1000000) (aE:∀ m,bR (bS ((ff,f)::R)) m→m<N) (aF:W.length≤12) (aG:W.Nodup) (aH:∀ n∈W,2≤n∧n<N∧¬ bR (bS ((ff,f)::R)) n) (X:2≤ff∧ff<N) (fl:Bool) (pu dr:Option Nat) (Y:lst≤cm) (Z:cm<lim) (C:lim<4294967296) :
 TT 62 #[bi v,cR k tt (sO sb so 16 sc) (q:Int) n1 h o s rt ops ky fr too bk] [(r,.cl [.map (some m)] 182),(a,.fa (bN Af nf cf ((ff,f)::R))),(a1,.fa (BF (pO kb ko) 32 kc rkey)),(a2,.fa (BF (pA tb) 16 16 tkey)),(a4,.fa (PgsF K M)),(pi,.pr (MU I)),(a5,.fa (dw G Kf)),(a6,.fa (BF (pO vk vo) 32 vc vkey)),(a7,.fa (BF (pO sb so) 16 sc b)),(ra,.pr (bG 0 [sA tb 16 tk]))] [(v,.cl (bU N lim (sO vk vo 32 vc) d rs lg op r p c 0 0 0 gn n al) 90),(al,.pr (MU [])),(m,.pr (bB eW G)),(p,.cl (bM d r lg Af nf cf kn wt pu dr pi 0 lst fl) 199),(kn,.pr (MU K)),(wt,.pr (MU (bF W))),(rs,.cl (dc d (lim:Int) (cm:Int) (cm:Int) (sA ra nd cd)) df),(lg,.cl [lv] 128),(lb,lsb),(d,.cl (bQ na nfm N (.slice none 0 0) steps) bT),(na,.cl (bE now) 166),(nfm,.cl (bE firm) 166)]
  (fun x:((nZ×List Nat×Vl×Nat×SB)×(Nat×Nat))×((Nat×Nat)×(Nat×Nat))×((Nat×Nat)×Nat×Nat×Nat×Nat×Nat×Nat×Nat)=>(RunsP x.1.1.1.1∧(∀ m,bR x.1.1.1.1 m↔bR (bS ((ff,f)::R)) m∨(m∈W∧pin m=0))∧KM x.1.1.1.2.2.2.2.1 (dA (bX M ff ⟨0,1,0,cm+1,g0,bw (be tt 4) (bJ q 0 (dC vkey b) 0 0 0 0 1 (cm+1) (bZ rkey tt 1 (cm+1) tkey))⟩) (W.filter (cN pin)))∧x.1.1.1.2.2.2.2.2.1.Nodup∧(∀ n,n∈x.1.1.1.2.2.2.2.2.1↔n∈W∧pin n≠0)∧x.1.1.1.2.2.2.2.2.2.1.Perm (W.filter (cN pin)))∧(x.1.1.2.1.Perm ([]++[ff])∧(∀ i j,i<j→j<x.1.1.2.1.length→x.1.1.2.1.getD i 0≤x.1.1.2.1.getD j 0))∧∃ ys,SlE 502 9 (Mg+([]++[ff]).length+1) ys x.1.1.2.2.1 (x.1.1.2.2.2.1,x.1.1.2.2.2.2)) (fun _=>.returned (cP 0 0 0 bp bp 0 bp))
  (fun x=>[(v,.cl (bU N lim (sO vk vo 32 vc) d rs lg op r p (cm+1) ff (cm+1) g0 gn 1 al) 90),(al,.pr (MU (up [] tt (bi x.2.2.2.1)))),(m,.pr (bB eW (up G (tt,1) (sA x.2.2.1.1 16 x.2.2.1.2)))),(p,.cl (bM d r lg x.1.1.1.2.1 x.1.1.1.2.2.1 x.1.1.1.2.2.2.1 kn wt (some x.1.2.1) (some x.1.2.2) pi 0 (cm+1) true) 199),(kn,.pr (MU x.1.1.1.2.2.2.2.1)),(wt,.pr (MU (bF x.1.1.1.2.2.2.2.2.1))),(rs,.cl (dc d (lim:Int) ((cm+1:Nat):Int) ((cm+1:Nat):Int) (sO ra x.2.2.2.2.2.2.2.1 x.2.2.2.2.2.2.2.2.1 x.2.2.2.2.2.2.2.2.2)) df),(lg,.cl [x.1.1.2.2.1] 128),(lb,.dead),(d,.cl (bQ na nfm N (.slice none 0 0) x.1.1.1.2.2.2.2.2.2.2) bT),(na,.cl (bE (dp ((dJ Kf (bX M ff ⟨0,1,0,cm+1,g0,bw (be tt 4) (bJ q 0 (dC vkey b) 0 0 0 0 1 (cm+1) (bZ rkey tt 1 (cm+1) tkey))⟩) now x.1.1.2.1).set ((cm+1)%2) (bI rkey 0 4 0 ((cm+1)%2) (cm+1) gn (bO (cm+1) ff (cm+1) g0 0 gn 1))) x.1.1.1.2.2.2.2.2.2.1)) 166),(nfm,.cl (bE (dp ((dJ Kf (bX M ff ⟨0,1,0,cm+1,g0,bw (be tt 4) (bJ q 0 (dC vkey b) 0 0 0 0 1 (cm+1) (bZ rkey tt 1 (cm+1) tkey))⟩) now x.1.1.2.1).set ((cm+1)%2) (bI rkey 0 4 0 ((cm+1)%2) (cm+1) gn (bO (cm+1) ff (cm+1) g0 0 gn 1))) x.1.1.1.2.2.2.2.2.2.1)) 166)])
  (fun x=>[(x.1.1.2.2.2.1,x.1.1.2.2.2.2),(0,.fa (bN x.1.1.1.2.1 x.1.1.1.2.2.1 x.1.1.1.2.2.2.1 x.1.1.1.1)),(0,.fa (PgsF x.1.1.1.2.2.2.2.1 (dA (bX M ff ⟨0,1,0,cm+1,g0,bw (be tt 4) (bJ q 0 (dC vkey b) 0 0 0 0 1 (cm+1) (bZ rkey tt 1 (cm+1) tkey))⟩) (W.filter (cN pin))))),(x.2.1.1.1,.fa (CF x.2.1.1.1 0 (cX 1 (cm+1) x.2.1.2.1 x.2.1.2.2))),(x.2.1.2.1,.fa (BF (pA x.2.1.2.1) 32 x.2.1.2.2 (bZ rkey tt 1 (cm+1) tkey))),(x.2.2.1.1,.fa (BF (pA x.2.2.1.1) 16 x.2.2.1.2 tkey)),(x.2.2.2.1,.cl (b9 tt q x.2.2.2.2.2.2.1 16 0 0 0 0 x.2.1.1.1 x.2.1.1.2 x.2.2.2.2.1 x.2.2.2.2.2.1 0) 113),(x.2.2.2.2.1,.cl [.map none,u64 0] 212),(x.2.2.2.2.2.1,.pr (MV [])),(x.2.2.2.2.2.2.1,.fa (BF (pA x.2.2.2.2.2.2.1) 16 16 (dC vkey b)))]):=by
 have aI:16=(dC vkey b).length:=(mQ vkey b l.symm).symm
 have aa:lk ([]:List (Nat×Vl)) tt=none:=rfl
 refine cJ func62 (by kernel_rfl) fun w0 ho=>fe [9999,9999,23,2,23,0,23,2,23,2,0] 3 _ (br (show (decide ((↑q:Int)>1000))=false by (simp;omega)) (br (show (decide ((↑q:Int)<1))=false by (simp;omega)) (br (show ((↑tt:Int)==0)=false by (simp;omega)) bt))) fun nm=>⟨by kernel_rfl,?_⟩
 refine bj [9999,0,22,10,23]<|rE (i8 (kt:=37) (et:=106) (T:=88) (κ:=.u32) underlying88 underlying37 (z:=.pointer none) (fun w=>by kernel_rfl) al ([]) tt aa) [11]<|bu [0,0,23,9999,22,10] 1 fun nm1=>iT 11 al (MU []) (by kernel_rfl) fun oo hm=>?_
 obtain ⟨es,clock,rfl,hes,P,hck⟩:=hm
 refine xE (fj (t:=88) (kt:=37) (et:=106) underlying88 al es clock hck) [11] [] fun x _=>bj [2]<|xE (el 0 x al es clock ([])) [11] [26] fun x1 ⟨hx,hx1⟩=>?_
 have ab:es.toList=[]:=by simpa using hes
 obtain rfl:x1=none:=by
  rcases x1 with _ | e
  · rfl
  · have:=(hx1 e rfl).1
    rw [ab] at this
    cases this
 simp only [Option.toList_none,List.append_nil]
 have D:∀ o,(SB.ob (.map es clock)).ok o→(SB.pr (MU [])).ok o:=fun o ho=>⟨es,clock,ho,hes,P,hck⟩
 refine lE 11 al (.ob (.map es clock)) (.pr (MU [])) D<|bj [0,22,10]<|bv (DA (nm1 0) 1 q N J (by omega) af S) [25] []<|bj [0,0,22,10]<|cE (Gi rs d ((↑lim:Int)) ((↑cm:Int)) ((↑cm:Int)) ra nd cd tb tk (by with_reducible assumption) aq O) [9] [16] fun ⟨x1,x2,x3⟩ _=>zE<|bv (ew (sA tb 16 16)) [] []<|bu [27] 1 fun nm2=>bj [9999,0,23,23,22,10,23]<|ef (Nat×Nat) (fun ⟨x4,nm3q⟩=>True) 107 (fun ⟨x4,nm3q⟩=>[(2,bi (nm 0)),(3,bi (nm 1)),(4,bi (nm 2)),(10,bi (nm2 0)),(11,bi nm3q)]) [.code (cZ f62 43)] (fun ⟨x4,nm3q⟩=>[(r,.cl [.map (some m)] 182),(a,.fa (bN Af nf cf ((ff,f)::R))),(a1,.fa (BF (pO kb ko) 32 kc rkey)),(a2,.fa (BF (pA tb) 16 16 tkey)),(a4,.fa (PgsF K M)),(pi,.pr (MU I)),(a5,.fa (dw G Kf)),(a6,.fa (BF (pO vk vo) 32 vc vkey)),(a7,.fa (BF (pO sb so) 16 sc b)),(ra,.pr (bG 0 [sA tb 16 tk])),(v,.cl (bU N lim (sO vk vo 32 vc) d rs lg op r p c 0 0 0 gn n al) 90),(al,.pr (MU [])),(m,.pr (bB eW G)),(p,.cl (bM d r lg Af nf cf kn wt pu dr pi 0 lst fl) 199),(kn,.pr (MU K)),(wt,.pr (MU (bF W))),(rs,.cl [bi d,u64 lim,u64 cm,u64 cm,sO ra x1 x2 x3] 125),(lg,.cl [lv] 128),(lb,lsb),(d,.cl (bQ na nfm N (.slice none 0 0) steps) 123),(na,.cl (bE now) 166),(nfm,.cl (bE firm) 166),(nm 0,.cl [bi v] 32),(nm 1,.cl (eO k tt (sO sb so 16 sc) q n1 h o s rt ops ky fr too bk) 41),(nm 2,.cl [i64 0,u64 0,u64 0,.slice none 0 0,.slice none 0 0,i64 0,.slice none 0 0] 47),(nm1 0,.cl [i64 q] 3),(x,.pr (fW al es clock [])),(nm2 0,.cl [sA tb 16 16] 27),(x4,.fa (BF (pA x4) 16 16 (dC vkey b))),(nm3q,.cl [u32 tt,i64 q,sA x4 16 16,u32 0,u64 0,u16 0,u8 0,i64 0,.slice none 0 0] 109)]) ([]) 10 (fun key=>?_) ?_
 · refine dq 11 16 ?_ ?_
   · refine cE (vA vk vo vc a6 sb so sc a7 vkey b E F l H) [7,8] [] fun x4 _=>zE<|dq 14 16 ?_ ?_
     · refine bv (ew (sA x4 16 16)) [] []<|ib 6 [9999,29,22] 1 _ bt fun nm3=>⟨by kernel_rfl,?_⟩
       exact jT [0,1,2,3,4,5,6,7,8,9,10,11,12,13,14,15,16,17,18,19,20,21,22,23,24,25,26,27,28,29] (fun u=>key (x4,nm3 0) u trivial)
     · refine bu [] 1 fun nm3=>bv (ew (sA x4 16 16)) [] []<|ib 4 [9999,29,22] 0 _ bt fun _=>⟨by kernel_rfl,?_⟩
       exact jT [0,1,2,3,4,5,6,7,8,9,10,11,12,13,14,15,16,17,18,19,20,21,22,23,24,25,26,27,28,29] (fun u=>key (x4,nm3 0) u trivial)
   · refine bu [] 1 fun nm3=>cE (vA vk vo vc a6 sb so sc a7 vkey b E F l H) [7,8] [] fun x4 _=>zE<|bv (ew (sA x4 16 16)) [] []<|ib 4 [9999,28,22] 0 _ bt fun _=>⟨by kernel_rfl,?_⟩
     exact jT [0,1,2,3,4,5,6,7,8,9,10,11,12,13,14,15,16,17,18,19,20,21,22,23,24,25,26,27,29,28] (fun u=>key (x4,nm3 0) u trivial)
 rintro ⟨x4,nm3q⟩ u _
 refine bj [22]<|cE (Iz v N lim (sO vk vo 32 vc) d rs lg op r p c gn n al k tt (sO sb so 16 sc) n1 h o s rt ops ky fr too bk q x4 16 nf cf kn wt Af pi cm lst (nm 0) (nm 1) (nm2 0) nm3q ([]) (by decide) aa (dC vkey b) rkey tkey aI ag ah ai ht J aj L m g0 a a1 a2 x4 a4 kb ko kc tb 16 ff f ap (by omega) R hL ar y hn hf G hG au av A hk K M aw W na nfm steps now firm ax ay Q f256 S h8 a5 lb Mg lsb lv xs aA aB Kf aC U g aD B I pin hI V aE aF aG aH X (sO ra x1 x2 x3) fl pu dr Y Z C) [22,23,27,0,1,2,3,28,4,5,6] [29,10,11,12,13,14,15,16,17,18,19,20,21] fun ⟨⟨⟨⟨x5,x6,x7,x8,x9,x10,x11,x12⟩,x13,x14,x15,x16⟩,x17,x18⟩,⟨⟨x19,x20⟩,x21,x22⟩,⟨x23,x24⟩,x25,x26,x27⟩ ⟨⟨hx2,hx3,hx4,hx5,hx6,hx7⟩,⟨hx8,hx9⟩,hx10⟩=>?_
 try dsimp only at hx2 hx3 hx4 hx5 hx6 hx7 hx8 hx9 hx10
 exact bj [24,24]<|rT (((((x5,x6,x7,x8,x9,x10,x11,x12),x13,x14,x15,x16),x17,x18),((x19,x20),x21,x22),(x23,x24),x25,x26,x27,x4,x1,x2,x3)) 24 [30,31,32,33,34,35,36,37,38,28]
end
section
variable (v N lim:Nat) (d rs lg:Nat) (op:Bool) (r p c gn n al:Nat)
variable (k tt:Nat) (n1:Int) (h o s rt:Nat) (ops ky fr too:Vl) (bk:Bool)
variable (q:Nat) (nf cf kn wt:Nat) (Af:Option Addr) (pi cm lst:Nat) (vk vo vc sb so sc:Nat)
theorem Ib (b vkey rkey tkey:Bs) (E:32=vkey.length) (F:32≤vc) (H:16=b.length) (J:16≤sc) (L:12+(4*q+2)≤N) (O:32=rkey.length) (P:16=tkey.length) (Q:0<tt) (ht:tt<4294967296) (S:1≤q) (T:q<128) (u:cm+1<128) (m g0 a a1 a2 a4 kb U kc tb a6 a7 ra nd V tk ff e:Nat) (X:32≤kc) (w:16≤tk) (Y:1≤nd) (Z:nd≤V) (R:bV) (hL:RunsP ((ff,e)::R)) (aa:RunsP (bS ((ff,e)::R))) (g:ff+1<e∨0<R.length) (hn:nf≤50000) (hf:ff<4294967295) (G:List ((Nat×Nat)×Vl)) (hG:G.length≤1000) (ab:lk G (tt,1)=none) (ac:cg 0 (G.map (·.1))=[g0]) (k:g0<65536) (hk:lk G (0,gn)=some (sO kb U 32 kc))
 (K:List (Nat×Vl)) (M:Nat→Option Pg) (ad:KM K M) (W:List Nat) (na nfm:Nat) (steps:Int)
 (now firm:List Bs) (ae:now.length=N) (af:firm.length=N) (y:bP now) (f256:bP firm) (ag:N≤4096) (h8:8≤N) (a5 lb Mg:Nat) (lsb:SB) (lv:Vl) (xs:List Vl) (ah:SlE 502 9 Mg xs lv (lb,lsb)) (ai:Mg≤800000) (Kf:Nat×Nat→Option Bs) (aj:RG G Kf) (z:Kf (0,gn)=some rkey) (f:Bs) (ak:Kf (0,g0)=some f) (l:gn<65536)
 (I:List (Nat×Vl)) (pin:Nat→Nat) (hI:PinI I pin) (A:∀ n,pin n<1000000) (am:∀ m,bR (bS ((ff,e)::R)) m→m<N) (an:W.length≤12) (ao:W.Nodup) (ap:∀ n∈W,2≤n∧n<N∧¬ bR (bS ((ff,e)::R)) n) (B:2≤ff∧ff<N) (fl:Bool) (pu dr:Option Nat) (C:lst≤cm) (D:cm<lim) (t:lim<4294967296) :
 TT 10 #[bi v,cR 1 tt (sO sb so 16 sc) (q:Int) n1 h o s rt ops ky fr too bk] [(r,.cl [.map (some m)] 182),(a,.fa (bN Af nf cf ((ff,e)::R))),(a1,.fa (BF (pO kb U) 32 kc rkey)),(a2,.fa (BF (pA tb) 16 16 tkey)),(a4,.fa (PgsF K M)),(pi,.pr (MU I)),(a5,.fa (dw G Kf)),(a6,.fa (BF (pO vk vo) 32 vc vkey)),(a7,.fa (BF (pO sb so) 16 sc b)),(ra,.pr (bG 0 [sA tb 16 tk]))] [(v,.cl (bU N lim (sO vk vo 32 vc) d rs lg true r p c 0 0 0 gn n al) 90),(al,.pr (MU [])),(m,.pr (bB eW G)),(p,.cl (bM d r lg Af nf cf kn wt pu dr pi 0 lst fl) 199),(kn,.pr (MU K)),(wt,.pr (MU (bF W))),(rs,.cl (dc d (lim:Int) (cm:Int) (cm:Int) (sA ra nd V)) df),(lg,.cl [lv] 128),(lb,lsb),(d,.cl (bQ na nfm N (.slice none 0 0) steps) bT),(na,.cl (bE now) 166),(nfm,.cl (bE firm) 166)]
  (fun x:((nZ×List Nat×Vl×Nat×SB)×(Nat×Nat))×((Nat×Nat)×(Nat×Nat))×((Nat×Nat)×Nat×Nat×Nat×Nat×Nat×Nat×Nat)=>(RunsP x.1.1.1.1∧(∀ m,bR x.1.1.1.1 m↔bR (bS ((ff,e)::R)) m∨(m∈W∧pin m=0))∧KM x.1.1.1.2.2.2.2.1 (dA (bX M ff ⟨0,1,0,cm+1,g0,bw (be tt 4) (bJ q 0 (dC vkey b) 0 0 0 0 1 (cm+1) (bZ rkey tt 1 (cm+1) tkey))⟩) (W.filter (cN pin)))∧x.1.1.1.2.2.2.2.2.1.Nodup∧(∀ n,n∈x.1.1.1.2.2.2.2.2.1↔n∈W∧pin n≠0)∧x.1.1.1.2.2.2.2.2.2.1.Perm (W.filter (cN pin)))∧(x.1.1.2.1.Perm ([]++[ff])∧(∀ i j,i<j→j<x.1.1.2.1.length→x.1.1.2.1.getD i 0≤x.1.1.2.1.getD j 0))∧∃ ys,SlE 502 9 (Mg+([]++[ff]).length+1) ys x.1.1.2.2.1 (x.1.1.2.2.2.1,x.1.1.2.2.2.2)) (fun _=>.returned (cP 0 0 0 bp bp 0 bp))
  (fun x=>[(v,.cl (bU N lim (sO vk vo 32 vc) d rs lg true r p (cm+1) ff (cm+1) g0 gn 1 al) 90),(al,.pr (MU (up [] tt (bi x.2.2.2.1)))),(m,.pr (bB eW (up G (tt,1) (sA x.2.2.1.1 16 x.2.2.1.2)))),(p,.cl (bM d r lg x.1.1.1.2.1 x.1.1.1.2.2.1 x.1.1.1.2.2.2.1 kn wt (some x.1.2.1) (some x.1.2.2) pi 0 (cm+1) true) 199),(kn,.pr (MU x.1.1.1.2.2.2.2.1)),(wt,.pr (MU (bF x.1.1.1.2.2.2.2.2.1))),(rs,.cl (dc d (lim:Int) ((cm+1:Nat):Int) ((cm+1:Nat):Int) (sO ra x.2.2.2.2.2.2.2.1 x.2.2.2.2.2.2.2.2.1 x.2.2.2.2.2.2.2.2.2)) df),(lg,.cl [x.1.1.2.2.1] 128),(lb,.dead),(d,.cl (bQ na nfm N (.slice none 0 0) x.1.1.1.2.2.2.2.2.2.2) bT),(na,.cl (bE (dp ((dJ Kf (bX M ff ⟨0,1,0,cm+1,g0,bw (be tt 4) (bJ q 0 (dC vkey b) 0 0 0 0 1 (cm+1) (bZ rkey tt 1 (cm+1) tkey))⟩) now x.1.1.2.1).set ((cm+1)%2) (bI rkey 0 4 0 ((cm+1)%2) (cm+1) gn (bO (cm+1) ff (cm+1) g0 0 gn 1))) x.1.1.1.2.2.2.2.2.2.1)) 166),(nfm,.cl (bE (dp ((dJ Kf (bX M ff ⟨0,1,0,cm+1,g0,bw (be tt 4) (bJ q 0 (dC vkey b) 0 0 0 0 1 (cm+1) (bZ rkey tt 1 (cm+1) tkey))⟩) now x.1.1.2.1).set ((cm+1)%2) (bI rkey 0 4 0 ((cm+1)%2) (cm+1) gn (bO (cm+1) ff (cm+1) g0 0 gn 1))) x.1.1.1.2.2.2.2.2.2.1)) 166)])
  (fun x=>[(x.1.1.2.2.2.1,x.1.1.2.2.2.2),(0,.fa (bN x.1.1.1.2.1 x.1.1.1.2.2.1 x.1.1.1.2.2.2.1 x.1.1.1.1)),(0,.fa (PgsF x.1.1.1.2.2.2.2.1 (dA (bX M ff ⟨0,1,0,cm+1,g0,bw (be tt 4) (bJ q 0 (dC vkey b) 0 0 0 0 1 (cm+1) (bZ rkey tt 1 (cm+1) tkey))⟩) (W.filter (cN pin))))),(x.2.1.1.1,.fa (CF x.2.1.1.1 0 (cX 1 (cm+1) x.2.1.2.1 x.2.1.2.2))),(x.2.1.2.1,.fa (BF (pA x.2.1.2.1) 32 x.2.1.2.2 (bZ rkey tt 1 (cm+1) tkey))),(x.2.2.1.1,.fa (BF (pA x.2.2.1.1) 16 x.2.2.1.2 tkey)),(x.2.2.2.1,.cl (b9 tt q x.2.2.2.2.2.2.1 16 0 0 0 0 x.2.1.1.1 x.2.1.1.2 x.2.2.2.2.1 x.2.2.2.2.2.1 0) 113),(x.2.2.2.2.1,.cl [.map none,u64 0] 212),(x.2.2.2.2.2.1,.pr (MV [])),(x.2.2.2.2.2.2.1,.fa (BF (pA x.2.2.2.2.2.2.1) 16 16 (dC vkey b)))]):=by
 refine dE func10 fun w0 ho=>bu [9999] 2 fun nm=>bv (ea v N lim (sO vk vo 32 vc) d rs lg true r p c 0 0 0 gn n al) [10] []<|bu [0,10,0,24] 1 fun nm1=>cS ⟨.fn (.func 25) #[bi (nm1 0),bi (nm 1)],#[]⟩<|zE<|cS ⟨.fn (.func 26) #[],#[bi v,bi (nm1 0)]⟩<|bj [22]<|bv (Gq v) [] []<|bj [0,0,22]<|cE (Iw v N lim d rs lg true r p c gn n al 1 tt n1 h o s rt ops ky fr too bk q nf cf kn wt Af pi cm lst vk vo vc sb so sc b vkey rkey tkey E F H J L O P Q ht S T u m g0 a a1 a2 a4 kb U kc tb a6 a7 ra nd V tk ff e X w Y Z R hL aa g hn hf G hG ab ac k hk K M ad W na nfm steps now firm ae af y f256 ag h8 a5 lb Mg lsb lv xs ah ai Kf aj z f ak l I pin hI A am an ao ap B fl pu dr C D t) [0,1,2,3,4,5,6,7,8,9] [10,11,12,13,14,15,16,17,18,19,20,21] ?_
 rintro ⟨⟨⟨⟨x,x1,x2,x3,x4,x5,x6,x7⟩,x8,x9,x10,x11⟩,x12,x13⟩,⟨⟨x14,x15⟩,x16,x17⟩,⟨x18,x19⟩,x20,x21,x22,x23,x24,x25,x26⟩ ⟨⟨hx,hx1,hx2,hx3,hx4,hx5⟩,⟨hx6,hx7⟩,hx8⟩
 try dsimp only at hx hx1 hx2 hx3 hx4 hx5 hx6 hx7 hx8
 exact bj [23]<|fV<|dG #[] #[bi v,bi (nm1 0)] [⟨.fn (.func 25) #[bi (nm1 0),bi (nm 1)],#[]⟩] (gx v (nm1 0)) [] [] fun _ _=>dG #[bi (nm1 0),bi (nm 1)] #[] [] (kZ (nm1 0) (nm 1) .returning) [24] [] fun _ _=>fS ((((x,x1,x2,x3,x4,x5,x6,x7),x8,x9,x10,x11),(x12,x13)),((x14,x15),(x16,x17)),((x18,x19),x20,x21,x22,x23,x24,x25,x26)) (cP 0 0 0 bp bp 0 bp) [25,26,27,28,29,30,31,32,33,34] (fN _ 23) rfl ⟨⟨hx,hx1,hx2,hx3,hx4,hx5⟩,⟨hx6,hx7⟩,hx8⟩
end
abbrev qw (N lim nn:Nat) (vkey l0:Bs) (x:NwX):HP:=[(x.v,.cl (bU N lim (sA x.vk 32 x.vc) x.d x.rs x.lg true x.o.r x.o.p 0 0 0 0 1 0 x.o.al) 90),(x.d,.cl (bQ x.na x.nfm N (.slice none 0 0) 0) bT),(x.na,.cl (bE (List.replicate N (List.replicate 256 0))) 166),(x.nfm,.cl (bE (List.replicate N (List.replicate 256 0))) 166),(x.rs,.cl (dc x.d (lim:Int) 0 0 (sA x.ra nn x.rc)) df),(x.ra,.pr (bG 0 [sA x.tb 16 x.tk])),(x.tb,.fa (BF (pA x.tb) 16 x.tk l0)),(x.lg,.cl [.slice none 0 0] 128),(x.vk,.fa (BF (pA x.vk) 32 x.vc vkey)),(x.o.r,.cl [.map (some x.o.m)] 182),(x.o.m,.pr (bB eW [((0,1),sA x.o.kb 32 x.o.kc)])),(x.o.kb,.fa (BF (pA x.o.kb) 32 x.o.kc (bW vkey 1 1))),(x.o.p,.cl (bM x.d x.o.r x.lg x.o.Af x.o.L.length x.o.c x.o.kn x.o.wt none none x.o.pi 0 0 false) 199),(x.o.kn,.pr (MU [])),(x.o.wt,.pr (MU (bF []))),(x.o.pi,.pr (MU [])),(x.o.fa,.fa (bN x.o.Af x.o.L.length x.o.c x.o.L)),(x.o.al,.pr (MU []))]
def mD (N lim tt q:Nat) (vkey secret l0:Bs):VC:=⟨N,lim,tt,q,1,dC vkey secret,bZ (bW vkey 1 1) tt 1 1 l0,vkey,bW vkey 1 1,l0,fun k=>if k=(0,1) then some (bW vkey 1 1) else if k=(tt,1) then some l0 else none⟩
abbrev DC (c:VC) (s:VS):HP:=
 [(s.v,.cl (bU c.N c.lim (.slice (some ⟨s.vk,0,none⟩) 32 s.vc) s.d s.rs s.lg true s.r s.p s.cm s.pp s.rc 1 1 1 s.al) 90),
  (s.al,.pr (bB (eK .u32) [(c.tt,bi s.tn)])),
  (s.tn,.cl (b9 c.tt c.q s.mb s.mc s.rp s.rc2 s.rg2 s.ch s.hb s.hc s.cb s.sh s.made) 113),
  (s.cb,.cl [.map none,u64 0] 212),(s.sh,.pr (bB (eK .u64) s.SH)),
  (s.r,.cl [.map (some s.m)] 182),(s.m,.pr (bB eW s.G)),
  (s.p,.cl (bM s.d s.r s.lg s.Af s.nf s.cf s.kn s.wt s.pu s.dr s.pi 0 s.lst s.fl) 199),
  (s.kn,.pr (bB (eK .u32) s.K)),(s.wt,.pr (bB (eK .u32) (bF s.W))),(s.pi,.pr (bB (eK .u32) s.I)),
  (s.rs,.cl (dc s.d (c.lim:Int) (s.cm:Int) (s.cm:Int) s.dv) df),(s.lg,.cl [s.lv] 128),(s.lb,s.lsb),
  (s.d,.cl (bQ s.na s.nfm c.N (.slice none 0 0) s.steps) bT),(s.na,.cl (bE s.now) 166),(s.nfm,.cl (bE s.firm) 166),
  (0,.fa (bN s.Af s.nf s.cf s.L)),(0,.fa (PgsF s.K s.M)),(0,.fa (dw s.G c.Kf)),
  (0,.fa (CF s.hb 0 (cX 1 c.hcm s.wb s.wc))),(0,.fa (BF (some ⟨s.mb,0,none⟩) 16 s.mc c.mark)),(0,.fa (BF (some ⟨s.wb,0,none⟩) 32 s.wc c.wr)),
  (0,.fa (BF (some ⟨s.vk,0,none⟩) 32 s.vc c.vkey)),(0,.fa (ShF c.tt s.SH))]
theorem Gv {tt:Nat} (h:0<tt) (u v:Vl):up [(((0:Nat),(1:Nat)),u)] (tt,1) v=[((0,1),u),((tt,1),v)]:=by
 have e:¬ ((tt,1)=((0:Nat),1)):=fun e=>by have:=congrArg Prod.fst e;simp at this;omega
 simp only [up,if_neg e]
theorem Tri.fx {P:Program} {f:FuncId} {args:Array Vl} {HR HW:HP} {X:Type} {φ:X→Prop} {e:X→Ending} {HW' HN:X→HP} (h:Tri P f args HR HW φ e HW' HN) (HR2:HP) (HN2:X→HP) (c:live HR2=live HR) (b:∀ w,FA HR2 w→FA HR w)
 (a:∀ x,φ x→live (HN2 x)=live (HN x)∧∀ w,FA HR2 w→FA (HN x) w→FA (HN2 x) w):Tri P f args HR2 HW φ e HW' HN2:=
 h.fw c b fun x hx=>⟨x,hx,rfl,rfl,(a x hx).1,(a x hx).2⟩
theorem ShF.nil (t:Nat) (w:World):ShF t [] w:=fun p hp=>absurd hp List.not_mem_nil
theorem EH {b c:Nat} {k:Bs} {w:World} (d:k.length=32) (h:BF (pA b) 32 c k w):dw [((0,1),sA b 32 c)] (fun p=>if p=(0,1) then some k else none) w:=fun p l kb ko kc hp hl=>by
 by_cases e:p=(0,1)
 · subst e
   have a:k=l:=Option.some.inj ((if_pos (c:=((0:Nat),(1:Nat))=(0,1)) rfl).symm.trans hp)
   subst a
   rw [cp,if_pos rfl,d] at hl
   injection hl with hl
   injection hl with e1 e2 e3
   injection e1 with e1
   injection e1 with e4 e5
   subst e4;subst e5;subst e3
   rw [d];exact h
 · simp [e] at hp
theorem EZ {t b c g i:Nat} {k f:Bs} {w:World} (m:0<t) (j:k.length=32) (d:f.length=16) (h:BF (pA b) 32 c k w) (h2:BF (pA g) 16 i f w):dw [((0,1),sA b 32 c),((t,1),sA g 16 i)] (fun p=>if p=(0,1) then some k else if p=(t,1) then some f else none) w:=fun p l kb ko kc hp hl=>by
 by_cases e:p=(0,1)
 · subst e
   have a:k=l:=Option.some.inj ((if_pos (c:=((0:Nat),(1:Nat))=(0,1)) rfl).symm.trans hp)
   subst a
   rw [cp,if_pos rfl,j] at hl
   injection hl with hl
   injection hl with e1 e2 e3
   injection e1 with e1
   injection e1 with e4 e5
   subst e4;subst e5;subst e3
   rw [j];exact h
 · by_cases e2:p=(t,1)
   · have a:f=l:=Option.some.inj ((if_pos e2).symm.trans ((if_neg e).symm.trans hp))
     subst a
     rw [cp,if_neg e,cp,if_pos e2,d] at hl
     injection hl with hl
     injection hl with e1 e2 e3
     injection e1 with e1
     injection e1 with e4 e5
     subst e4;subst e5;subst e3
     rw [d];exact h2
   · simp [e,e2] at hp
def E0 (c:VC) (s:VS):Prop:=s.pp=2∧s.rc=1∧(∀ m,bR s.L m→3≤m)∧(∀ m,s.M m=if m=2 then some (qZ c s) else none)∧s.now=((List.replicate c.N (List.replicate 256 0)).set 2 (bI c.rkey 0 1 0 2 1 1 (qZ c s).pl)).set 1 (bI c.rkey 0 4 0 1 1 1 (bO 1 2 1 1 0 1 1))
section
variable (N lim tt q nn:Nat) (vkey secret l0:Bs)
variable (hN8:8≤N) (hN4:N≤4096) (hl:lim<4294967296) (hl1:0<lim) (t0:0<tt) (t1:tt<4294967296) (q1:1≤q) (q2:q<128) (hv:32=vkey.length) (hs:16=secret.length) (h0:16=l0.length)
include hN8 hN4 hl t0 t1 q1 q2 hv hs h0 in
theorem rU:(mD N lim tt q vkey secret l0).Ok:=
 ⟨hN8,hN4,hl,t0,t1,q1,q2,(by decide:1<128),(mQ _ _ hs.symm).symm,(ii _ _ _ _ _ h0.symm).symm,hv,(fg _ _ _).symm,h0,by simp [mD],by simp [mD];omega⟩
include hN8 hN4 hl hl1 t0 t1 q1 q2 hv hs h0 in
theorem DG (y:NwX) (hvc:32≤y.vc) (hnr:nn≤y.rc) (htk:16≤y.tk) (hn1:1≤nn) (hqN:12+(4*q+2)≤N) (hL:RunsP y.o.L) (hLm:∀ m,bR y.o.L m↔2≤m∧m<N∧m∉([]:List Nat)) (a7 sb so sc:Nat) (hsc:16≤sc) :
 TT 10 #[bi y.v,.agg #[i64 1,u32 tt,sO sb so 16 sc,i64 q,i64 0,u64 0,u64 0,u64 0,u8 0,bp,bp,bp,bp,.bool false]] [(a7,.fa (BF (pO sb so) 16 sc secret))] (qw N lim nn vkey l0 y) (fun s:VS=>s.Ok (mD N lim tt q vkey secret l0)∧s.v=y.v∧s.rp=0∧s.rc2=0∧s.rg2=0∧s.ch=0∧s.cm=1∧s.made=0∧s.SH=[]∧s.W=[]∧s.Mg=2∧E0 (mD N lim tt q vkey secret l0) s) (fun _=>.returned (cP 0 0 0 bp bp 0 bp)) (fun _=>deadL (qw N lim nn vkey l0 y)) (fun s=>DC (mD N lim tt q vkey secret l0) s):=by
 refine Tri.facW (q:=32≤y.o.kc) 11 y.o.kb _ rfl (fun w h=>(db w h).2.1) fun hkc=>?_
 have hlen:y.o.L.length≤N:=by
  rcases nh (N:=N) y.o.L 0 hL.pos hL.gap (fun r _=>Nat.zero_le _) (fun r hr=>((hLm r.1).1 ⟨r,hr,Nat.le_refl _,hL.pos r hr⟩).2.1) with e | e
  · rw [e];exact Nat.zero_le _
  · omega
 have hcv:∀ m,2≤m→m<N→bR y.o.L m∨m∈([]:List Nat):=fun m a b=>.inl ((hLm m).2 ⟨a,b,List.not_mem_nil⟩)
 obtain ⟨ff,ft,R,f2,t2,R2,eL,hTk,hL1,hL2,hL3,hlong,hlong2,b1',b2',i1,i2,i3,hR2,hM2,hT3⟩:=om hL [] hcv (by simp;omega)
 have rff:=(hLm ff).1 i1
 have hc:=rU N lim tt q vkey secret l0 hN8 hN4 hl t0 t1 q1 q2 hv hs h0
 have kf0:(fun k=>if k=(0,1) then some (bW vkey 1 1) else none) (0,1)=some (bW vkey 1 1):=if_pos rfl
 have hRG:RG [((0,1),sA y.o.kb 32 y.o.kc)] (fun k=>if k=(0,1) then some (bW vkey 1 1) else none):=⟨by simp [UN],by simp,fun k hk=>by
  rw [cp]
  split
  · rename_i e;subst e;simp at hk
  · rfl,fun k l hk=>by
  by_cases e:k=(0,1)
  · subst e
    have hk2:bW vkey 1 1=l:=Option.some.inj ((if_pos (c:=((0:Nat),(1:Nat))=(0,1)) rfl).symm.trans hk)
    subst hk2
    exact ⟨.inr (fg _ _ _),y.o.kb,0,y.o.kc,by rw [fg,cp,if_pos rfl]⟩
  · simp [e] at hk⟩
 have D:=Ib y.v N lim y.d y.rs y.lg y.o.r y.o.p 0 1 0 y.o.al tt 0 0 0 0 0 bp bp bp bp false q y.o.L.length y.o.c y.o.kn y.o.wt y.o.Af y.o.pi 0 0 y.vk 0 y.vc sb so sc secret vkey (bW vkey 1 1) l0 hv hvc hs hsc hqN (fg _ _ _).symm h0 t0 t1 q1 q2 (by decide) y.o.m 1 y.o.fa y.o.kb y.tb 0 y.o.kb 0 y.o.kc y.tb y.vk a7 y.ra nn y.rc y.tk ff ft hkc htk hn1 hnr R hL1 (by rw [hTk];exact hL2) hlong (by omega) (by omega) [((0,1),sA y.o.kb 32 y.o.kc)] (by simp) (by rw [cp,if_neg (fun e=>by have:=congrArg Prod.fst e;simp at this;omega)];rfl) (by rfl) (by decide) (by rw [cp,if_pos rfl]) [] (fun _=>none) KM.nil [] y.na y.nfm 0 (List.replicate N (List.replicate 256 0)) (List.replicate N (List.replicate 256 0)) (by simp) (by simp) (fun l hl=>by rw [(List.mem_replicate.1 hl).2,List.length_replicate]) (fun l hl=>by rw [(List.mem_replicate.1 hl).2,List.length_replicate]) hN4 hN8 0 0 0 .dead (.slice none 0 0) [] (SlE.nil 502 9) (by decide) (fun k=>if k=(0,1) then some (bW vkey 1 1) else none) hRG kf0 (bW vkey 1 1) kf0 (by decide) [] (fun _=>0) PinI.nil (fun _=>by omega) (fun m e=>((hLm m).1 ((hM2 m).1 (by rw [← hTk];exact e)).1).2.1) (by simp) List.nodup_nil (fun n h=>absurd h List.not_mem_nil) ⟨rff.1,rff.2.1⟩ false none none (by omega) hl1 hl
 rw [← eL] at D
 simp only [Gv t0] at D
 refine Tri.dd (a:=0) (HW:=(qw N lim nn vkey l0 y)) (HW':=fun _=>deadL (qw N lim nn vkey l0 y)) ?_
 have D2:=D.fx [(y.o.r,.cl [.map (some y.o.m)] 182),(y.o.fa,.fa (bN y.o.Af y.o.L.length y.o.c y.o.L)),(y.o.kb,.fa (BF (some ⟨y.o.kb,0,none⟩) 32 y.o.kc (bW vkey 1 1))),(y.tb,.fa (BF (some ⟨y.tb,0,none⟩) 16 y.tk l0)),(y.o.pi,.pr (bB (eK .u32) [])),(y.vk,.fa (BF (some ⟨y.vk,0,none⟩) 32 y.vc vkey)),(a7,.fa (BF (some ⟨sb,so,none⟩) 16 sc secret)),(y.ra,.pr (bG 0 [.slice (some ⟨y.tb,0,none⟩) 16 y.tk]))] (fun x=>[(x.1.1.2.2.2.1,x.1.1.2.2.2.2),(0,.fa (bN x.1.1.1.2.1 x.1.1.1.2.2.1 x.1.1.1.2.2.2.1 x.1.1.1.1)),(0,.fa (PgsF x.1.1.1.2.2.2.2.1 (dA (bX (fun _=>none) ff ⟨0,1,0,0+1,1,bw (be tt 4) (bJ q 0 (dC vkey secret) 0 0 0 0 1 (0+1) (bZ (bW vkey 1 1) tt 1 (0+1) l0))⟩) (([]:List Nat).filter (cN fun _=>0))))),(0,.fa (dw [((0,1),.slice (some ⟨y.o.kb,0,none⟩) 32 y.o.kc),((tt,1),.slice (some ⟨x.2.2.1.1,0,none⟩) 16 x.2.2.1.2)] (mD N lim tt q vkey secret l0).Kf)),(0,.fa (CF x.2.1.1.1 0 (cX 1 1 x.2.1.2.1 x.2.1.2.2))),(0,.fa (BF (some ⟨x.2.2.2.2.2.2.1,0,none⟩) 16 16 (dC vkey secret))),(0,.fa (BF (some ⟨x.2.1.2.1,0,none⟩) 32 x.2.1.2.2 (bZ (bW vkey 1 1) tt 1 1 l0))),(0,.fa (BF (some ⟨y.vk,0,none⟩) 32 y.vc vkey)),(0,.fa (ShF tt [])),(x.2.2.2.1,.cl (b9 tt q x.2.2.2.2.2.2.1 16 0 0 0 0 x.2.1.1.1 x.2.1.1.2 x.2.2.2.2.1 x.2.2.2.2.2.1 0) 113),(x.2.2.2.2.1,.cl [.map none,u64 0] 212),(x.2.2.2.2.2.1,.pr (bB (eK .u64) []))]) rfl (fun w h=>⟨h.1,h.2.1,⟨h.2.2.1.len,Nat.le_refl _,Nat.le_trans h.2.2.1.cap h.2.2.1.max,h.2.2.1.at_⟩,PgsF.nil w,EH (fg _ _ _) h.2.1,h.2.2.2.1,h.2.2.2.2.1,trivial⟩) fun x _=>⟨rfl,fun w h h1=>by
  have h2:=(FA.app (A:=[(x.1.1.2.2.2.1,x.1.1.2.2.2.2)])).1 h1
  have h3:=h2.2
  exact (FA.app (A:=[(x.1.1.2.2.2.1,x.1.1.2.2.2.2)])).2 ⟨h2.1,h3.1,h3.2.1,EZ t0 (fg _ _ _) h0.symm h.2.1 h3.2.2.2.2.1,h3.2.2.1,h3.2.2.2.2.2.1,h3.2.2.2.1,h.2.2.2.1,ShF.nil _ w,trivial⟩⟩
 exact D2.lift [10,17,12,7,16,9,0,6] [1,18,11,13,14,15,5,8,19,2,3,4] (by kernel_rfl) (fun _=>bD (bD (bD (bD (bD (bD (bD (bD (bD (bD (bD (bD bH (fun _=>rfl)) (fun _=>rfl)) (fun _=>rfl)) (fun hd=>absurd hd Bool.noConfusion)) (fun _=>rfl)) (fun _=>rfl)) (fun _=>rfl)) (fun _=>rfl)) (fun _=>rfl)) (fun _=>rfl)) (fun _=>rfl)) (fun _=>rfl)) fun x hx=>by
  obtain ⟨⟨p1,p2,p3,p4,p5,p6⟩,⟨p7,-⟩,ys,p8⟩:=hx
  have w0:x.1.1.1.2.2.2.2.2.1=[]:=List.eq_nil_iff_forall_not_mem.2 fun n hn=>List.not_mem_nil ((p5 n).1 hn).1
  refine ⟨{v:=y.v,al:=y.o.al,tn:=x.2.2.2.1,cb:=x.2.2.2.2.1,ca:=0,sh:=x.2.2.2.2.2.1,r:=y.o.r,m:=y.o.m,p:=y.o.p,kn:=y.o.kn,wt:=y.o.wt,pi:=y.o.pi,rs:=y.rs,lg:=y.lg,lb:=x.1.1.2.2.2.1,d:=y.d,na:=y.na,nfm:=y.nfm,vk:=y.vk,vc:=y.vc,mb:=x.2.2.2.2.2.2.1,mc:=16,hb:=x.2.1.1.1,hc:=x.2.1.1.2,wb:=x.2.1.2.1,wc:=x.2.1.2.2,cm:=1,pp:=ff,rc:=1,rp:=0,rc2:=0,rg2:=0,ch:=0,made:=0,cct:=0,cf:=x.1.1.1.2.2.2.1,nf:=x.1.1.1.2.2.1,lst:=1,Mg:=2,fl:=true,steps:=x.1.1.1.2.2.2.2.2.2.2,dv:=sO y.ra x.2.2.2.2.2.2.2.1 x.2.2.2.2.2.2.2.2.1 x.2.2.2.2.2.2.2.2.2,lv:=x.1.1.2.2.1,lsb:=x.1.1.2.2.2.2,Af:=x.1.1.1.2.1,pu:=some x.1.2.1,dr:=some x.1.2.2,L:=x.1.1.1.1,xs:=ys,K:=x.1.1.1.2.2.2.2.1,M:=dA (bX (fun _=>none) ff ⟨0,1,0,0+1,1,bw (be tt 4) (bJ q 0 (dC vkey secret) 0 0 0 0 1 (0+1) (bZ (bW vkey 1 1) tt 1 (0+1) l0))⟩) (([]:List Nat).filter (cN fun _=>0)),W:=x.1.1.1.2.2.2.2.2.1,I:=[],pin:=fun _=>0,SH:=[],A:=[],G:=[((0,1),sA y.o.kb 32 y.o.kc),((tt,1),sA x.2.2.1.1 16 x.2.2.1.2)],now:=(dp ((dJ (fun k=>if k=(0,1) then some (bW vkey 1 1) else none) (bX (fun _=>none) ff ⟨0,1,0,0+1,1,bw (be tt 4) (bJ q 0 (dC vkey secret) 0 0 0 0 1 (0+1) (bZ (bW vkey 1 1) tt 1 (0+1) l0))⟩) (List.replicate N (List.replicate 256 0)) x.1.1.2.1).set ((0+1)%2) (bI (bW vkey 1 1) 0 4 0 ((0+1)%2) (0+1) 1 (bO (0+1) ff (0+1) 1 0 1 1))) x.1.1.1.2.2.2.2.2.2.1),firm:=(dp ((dJ (fun k=>if k=(0,1) then some (bW vkey 1 1) else none) (bX (fun _=>none) ff ⟨0,1,0,0+1,1,bw (be tt 4) (bJ q 0 (dC vkey secret) 0 0 0 0 1 (0+1) (bZ (bW vkey 1 1) tt 1 (0+1) l0))⟩) (List.replicate N (List.replicate 256 0)) x.1.1.2.1).set ((0+1)%2) (bI (bW vkey 1 1) 0 4 0 ((0+1)%2) (0+1) 1 (bO (0+1) ff (0+1) 1 0 1 1))) x.1.1.1.2.2.2.2.2.2.1),kk:=[],val:=[]},⟨?_,rfl,rfl,rfl,rfl,rfl,rfl,rfl,rfl,w0,rfl,?_⟩,rfl,[1,18,29,30,31,10,11,13,14,15,16,5,8,20,2,3,4,21,22,23,24,25,26,27,28],by kernel_rfl⟩
  rotate_left
  · have e2:ff=2:=by have:=rff.1;simp at b1';omega
    have q2:=fun m=>(p2 m).1
    rw [show bS y.o.L=(f2,t2)::R2 by rw [eL];exact hTk] at q2
    clear p2 p3
    subst e2
    have f1:x.1.1.2.1=[2]:=List.perm_singleton.1 p7
    have f0:x.1.1.1.2.2.2.2.2.2.1=[]:=List.perm_nil.1 p6
    refine ⟨rfl,rfl,fun m e=>?_,fun m=>?_,?_⟩
    · rcases q2 m e with h | h
      · have h1:=(hM2 m).1 h
        have h2:=(hLm m).1 h1.1
        omega
      · exact absurd h.1 List.not_mem_nil
    · by_cases e:m=2
      · subst e;rfl
      · simp only [dA,bX,List.filter_nil,List.not_mem_nil,if_false,if_neg e]
    · show dp _ _=_
      rw [f1,f0]
      rfl
  have gg:dA (bX (fun _=>none) ff ⟨0,1,0,0+1,1,bw (be tt 4) (bJ q 0 (dC vkey secret) 0 0 0 0 1 (0+1) (bZ (bW vkey 1 1) tt 1 (0+1) l0))⟩) (([]:List Nat).filter (cN fun _=>0)) ff=some ⟨0,1,0,0+1,1,bw (be tt 4) (bJ q 0 (dC vkey secret) 0 0 0 0 1 (0+1) (bZ (bW vkey 1 1) tt 1 (0+1) l0))⟩:=(if_neg List.not_mem_nil).trans (if_pos rfl)
  have hmr:∀ n∈x.1.1.2.1,∃ pg:Pg,(bX (fun _=>none) ff ⟨0,1,0,0+1,1,bw (be tt 4) (bJ q 0 (dC vkey secret) 0 0 0 0 1 (0+1) (bZ (bW vkey 1 1) tt 1 (0+1) l0))⟩) n=some pg∧pg.Ok:=fun n hn=>by
   have hn2:=p7.mem_iff.1 hn
   simp only [List.nil_append,List.mem_singleton] at hn2
   subst hn2
   exact ⟨_,if_pos rfl,(by decide:0<4294967296),Nat.le_refl 1,(by decide:1≤3),(by decide:0<256),(by decide:0+1<18446744073709551616),(by decide:1<65536),ge _ _ (by rw [cc];decide) (by have h9:59=(bJ q 0 (dC vkey secret) 0 0 0 0 1 (0+1) (bZ (bW vkey 1 1) tt 1 (0+1) l0)).length:=io _ _ _ _ _ _ _ _ _ _ (mQ _ _ hs.symm).symm (ii _ _ _ _ _ h0.symm).symm;omega)⟩
  have nl:(dp ((dJ (fun k=>if k=(0,1) then some (bW vkey 1 1) else none) (bX (fun _=>none) ff ⟨0,1,0,0+1,1,bw (be tt 4) (bJ q 0 (dC vkey secret) 0 0 0 0 1 (0+1) (bZ (bW vkey 1 1) tt 1 (0+1) l0))⟩) (List.replicate N (List.replicate 256 0)) x.1.1.2.1).set ((0+1)%2) (bI (bW vkey 1 1) 0 4 0 ((0+1)%2) (0+1) 1 (bO (0+1) ff (0+1) 1 0 1 1))) x.1.1.1.2.2.2.2.2.2.1).length=N:=by rw [nv,List.length_set,jJ,List.length_replicate]
  have na:bP (dp ((dJ (fun k=>if k=(0,1) then some (bW vkey 1 1) else none) (bX (fun _=>none) ff ⟨0,1,0,0+1,1,bw (be tt 4) (bJ q 0 (dC vkey secret) 0 0 0 0 1 (0+1) (bZ (bW vkey 1 1) tt 1 (0+1) l0))⟩) (List.replicate N (List.replicate 256 0)) x.1.1.2.1).set ((0+1)%2) (bI (bW vkey 1 1) 0 4 0 ((0+1)%2) (0+1) 1 (bO (0+1) ff (0+1) 1 0 1 1))) x.1.1.1.2.2.2.2.2.2.1):=nD _ _ (lZ (nK _ _ _ _ (fun l hl=>by rw [(List.mem_replicate.1 hl).2,List.length_replicate]) hmr) _ (fi _ _ _ _ _ _ _ _ (fd _ _ _ _ _ _ _)))
  have mm:∀ m,bR x.1.1.1.1 m↔bR y.o.L m∧m≠ff:=fun m=>by
   rw [p2 m,show bS y.o.L=(f2,t2)::R2 by rw [eL];exact hTk,hM2 m]
   exact ⟨fun h=>h.elim id fun h=>absurd h.1 List.not_mem_nil,.inl⟩
  have lff:¬ bR x.1.1.1.1 ff:=fun e=>((mm ff).1 e).2 rfl
  exact {
   km:=p3
   rg:=⟨by simp [UN];omega,by simp,fun k hk=>by
    rw [cp,cp]
    by_cases e:k=(0,1)
    · simp [mD,e] at hk
    · by_cases e2:k=(tt,1)
      · exact absurd ((if_neg e).symm.trans hk) (by rw [if_pos e2];simp)
      · rw [if_neg e,if_neg e2];rfl,fun k l hk=>by
    by_cases e:k=(0,1)
    · subst e
      have hk2:bW vkey 1 1=l:=Option.some.inj (hc.kf0.symm.trans hk)
      subst hk2
      exact ⟨.inr (fg _ _ _),y.o.kb,0,y.o.kc,by rw [fg,cp,if_pos rfl]⟩
    · by_cases e2:k=(tt,1)
      · have hk2:l0=l:=Option.some.inj (hc.kft.symm.trans ((congrArg (mD N lim tt q vkey secret l0).Kf (show (tt,1)=k from e2.symm)).trans hk))
        subst hk2
        exact ⟨.inl h0.symm,x.2.2.1.1,0,x.2.2.1.2,by rw [cp,if_neg e,cp,if_pos e2,← h0]⟩
      · exact absurd ((if_neg e).symm.trans hk) (by rw [if_neg e2];simp)⟩
   gt:=by
    have e:((0:Nat)==tt)=false:=by simp;omega
    simp [cg,mD,e]
   g0:=by
    have e:(tt==(0:Nat))=false:=by simp;omega
    simp [cg,e]
   runs:=p1
   cover:=fun m a b=>by
    by_cases e:m=ff
    · exact .inr (.inl e)
    · exact .inl ((mm m).2 ⟨(hLm m).2 ⟨a,b,List.not_mem_nil⟩,e⟩)
   rng:=fun m e=>⟨((hLm m).1 ((mm m).1 e).1).1,((hLm m).1 ((mm m).1 e).1).2.1⟩
   roll:=gg
   pp2:=rff.1
   ppN:=rff.2.1
   ppL:=lff
   ppW:=by show ff∉x.1.1.1.2.2.2.2.2.1;rw [w0];exact List.not_mem_nil
   root:=.inl ⟨rfl,rfl,rfl,rfl⟩
   wnd:=p4
   wp:=fun n hn=>absurd ((p5 n).1 hn).1 List.not_mem_nil
   pins:=PinI.nil
   pinc:=fun m=>rfl
   shp:=fun p hp=>absurd hp List.not_mem_nil
   now:=nl
   firm:=nl
   n256:=na
   f256:=na
   log:=p8
   lst:=Nat.le_refl _
   vc:=hvc}
end
abbrev VS.att (s:VS) (x:Nat):VS:={s with ca:=x,cct:=1,A:=[(1,hV 15 0)]}
theorem VS.Ok.att {c:VC} {s:VS} (hs:s.Ok c) (x:Nat):(s.att x).Ok c:=
 ⟨hs.km,hs.rg,hs.gt,hs.g0,hs.runs,hs.cover,hs.rng,hs.roll,hs.pp2,hs.ppN,hs.ppL,hs.ppW,hs.root,hs.wnd,hs.wp,hs.pins,hs.pinc,hs.shp,hs.now,hs.firm,hs.n256,hs.f256,hs.log,hs.lst,hs.vc⟩
section
variable (c:VC) (s:VS) (hs:s.Ok c) (hc:c.Ok)
include hs hc in
theorem Ez (a2 sb so sc:Nat) (secret:Bs) (hm:c.mark=dC c.vkey secret) (hsl:16=secret.length) (hsc:16≤sc) :
 TT 10 #[bi s.v,.agg #[i64 8,u32 c.tt,sO sb so 16 sc,i64 0,i64 0,u64 0,u64 0,u64 0,u8 0,bp,bp,bp,bp,.bool false]] [(a2,.fa (BF (pO sb so) 16 sc secret))] (DC c s) (fun x:VS=>∃ a,x=s.att a) (fun _=>.returned (cP 0 (c.tt*4294967296+1) 0 bp bp 0 bp)) (fun _=>deadL (DC c s)) (fun x=>vH c x):=by
 have D:=AC s.v c.N c.lim s.d s.rs s.lg s.r s.p s.cm s.pp s.rc 1 1 1 s.al c.tt 0 0 0 0 0 0 bp bp bp bp false c.tt c.q s.mb s.mc s.rp s.rc2 s.rg2 s.ch s.hb s.hc s.cb s.sh s.made s.tn [(c.tt,bi s.tn)] s.vk 0 s.vc sb so sc 0 a2 0 c.vkey secret (by rw [cp,if_pos rfl]) hc.tt hc.vkey hs.vc hsl hsc
 rw [← hm] at D
 exact D.lift [1,2,3,24,0,22] [4] (by kernel_rfl) (fun _=>bD bH (fun _=>rfl)) fun x _=>⟨s.att x,⟨x,rfl⟩,rfl,[1,2,3,4,26,5,6,7,8,9,10,11,12,13,14,15,16,17,18,19,20,21,22,23,24,25],by kernel_rfl⟩
end
end Go.Proofs.YtlkeemedalncoaaGreat.En
