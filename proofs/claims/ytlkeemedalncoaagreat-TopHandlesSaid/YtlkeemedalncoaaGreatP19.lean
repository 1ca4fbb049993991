/- TopHandles, part 19: no condition. -/
import Derived.Test.YtlkeemedalncoaaGreatP18
set_option linter.all false
set_option maxHeartbeats 16000000
set_option maxRecDepth 100000
namespace Go.Proofs.YtlkeemedalncoaaGreat.En
open Go Go.RowKit Go.Proofs.YtlkeemedalncoaaGreat Go.Proofs.Tryz
abbrev vF (b1 b2 b3 b4:Nat):Vl:=.func (.func 150) #[] #[bi b1,bi b2,bi b3,bi b4]
abbrev qQ:List Vl:=[u32 0,i64 0,bp,u32 0,u64 0,u16 0,u8 0,i64 0,bp]
theorem xn {M:Nat→Option Pg} {n m:Nat} {q:Pg} {y:Option Pg} (h:m≠n) (e:M m=y):bX M n q m=y:=by simp [bX,h,e]
section
variable (v N lim:Nat) (key:Vl) (d rs lg:Nat) (op:Bool) (r p c pp rc rg gn n al:Nat)
variable (k t:Nat) (sec:Vl) (q1 n1:Int) (h o s rt:Nat) (ky fr too:Vl) (bk:Bool)
variable (tt q mb mc ch hb hc cb sh made tn:Nat)
variable (nf cf kn wt:Nat) (Af:Option Addr) (pi cm lst:Nat)
variable (b1 b2 b3 b4 nch c1 c2 c3:Nat)
theorem Id (T:List (Nat×Vl)) (e1 e2 e3 C hcm wb wc ff f:Nat) (mark wr e:Bs) (z0:1≤e.length) (z3:e.length≤64) (O:16=mark.length) (P:32=wr.length) (Q:0<tt) (U:1≤q) (V:q<128) (X:nch≤q) (E:0<nch) (Y:0<ff) (F:ff<128) (H:cm<128) (Z:f<128) (aa:C<128) (ab:hcm<128)
 (na nfm:Nat) (wv:Vl) (steps:Int) (nn:Nat) (m g0 a qb qo qc a1 ub uo uc a2 a4 a5 ob oc I b j A B:Nat) (kk new:Bs) (k1:1≤kk.length) (k2:kk.length≤32) (v0:1≤new.length) (v3:new.length≤64) (R i:bV) (aj:bS ((ff,I)::R)=(b,j)::i) (hL:RunsP ((ff,I)::R)) (ak:RunsP ((b,j)::i)) (y:ff+1<I∨0<R.length) (w:b+1<j∨0<i.length) (hn:nf≤50000) (am:i.length+1≤50000) (an:b<4294967295) (G:List ((Nat×Nat)×Vl)) (hG:G.length≤1000) (ao:cg tt (G.map (·.1))=[f]) (ap:cg 0 (G.map (·.1))=[g0]) (z:g0<65536)
 (K:List (Nat×Vl)) (M:Nat→Option Pg) (aq:KM K M) (S W D:List Nat) (hS:ff∉S) (ar:b∉S++[ff]) (hM:M pp=some ⟨0,1,0,rc,rg,bw (be tt 4) e⟩) (au:pp≠ff) (av:¬ bR ((b,j)::i) pp) (hW:pp∉W) (hU:pp∉S++[ff]) (hD:pp∉D) (h2:2≤pp) (hN:pp<N) (aw:pp<4294967296) (J:0<cm) (ht:tt<4294967296) :
 TT 201 #[u64 nn,bi c1,bi c2,bi c3] [(c1,.cl [vF b1 b2 b3 b4] 237),(c3,.cl [bi v] 32),(b1,.cl [bi tn] 106),(b2,.cl [bi v] 32),(b3,.cl (eO k t sec q1 n1 h o s rt (sA ob 1 oc) ky fr too bk) 41),(b4,.cl [i64 nch] 3),(v,.cl (bU N lim key d rs lg op r p c pp rc rg gn n al) 90),(al,.pr (MU T)),(tn,.cl (b9 tt q mb mc 0 0 0 ch hb hc cb sh made) 113),(d,.cl (bQ na nfm N wv steps) bT),(r,.cl [.map (some m)] 182),(m,.pr (bB eW G)),(a,.fa (bN Af nf cf ((ff,I)::R))),(a1,.fa (BF (pO qb qo) kk.length qc kk)),(a2,.fa (BF (pO ub uo) new.length uc new)),(a4,.fa (PgsF K M)),(a5,.fa (CF ob 0 (dS qb qo kk.length qc (cB ub uo new.length uc) false))),(e1,.fa (CF hb 0 (cX C hcm wb wc))),(e2,.fa (BF (pA mb) 16 mc mark)),(e3,.fa (BF (pA wb) 32 wc wr))] [(c2,.cl qQ 109),(p,.cl (bM d r lg Af nf cf kn wt (some A) (some B) pi cm lst false) 199),(kn,.pr (MU K)),(A,.pr (MU (bF S))),(wt,.pr (MU (bF W))),(B,.pr (MU (bF D)))]
  (fun x:ij=>KM x.2 (bX (bX M ff ⟨tt,1,0,cm,f,bw kk new⟩) b ⟨0,1,0,cm,g0,bw (be tt 4) (bJ q nch mark ff cm f 0 C hcm wr)⟩)) (fun x=>.returned (vy b cm g0 gn T.length))
  (fun x=>[(c2,.cl (jN tt q mb mc ff cm f 0 nch hb hc) 109),(p,.cl (bM d r lg (pA x.1.1) (bS ((b,j)::i)).length x.1.2 kn wt (some A) (some B) pi cm lst false) 199),(kn,.pr (MU x.2)),(A,.pr (MU (bF (S++[ff]++[b])))),(wt,.pr (MU (bF (W++[pp])))),(B,.pr (MU (bF (D++[pp]))))])
  (fun x=>[(0,.fa (bN (pA x.1.1) (bS ((b,j)::i)).length x.1.2 (bS ((b,j)::i)))),(0,.fa (PgsF x.2 (bX (bX M ff ⟨tt,1,0,cm,f,bw kk new⟩) b ⟨0,1,0,cm,g0,bw (be tt 4) (bJ q nch mark ff cm f 0 C hcm wr)⟩)))]):=by
 refine cJ func201 (by kernel_rfl) fun w0 ho=>?_
 have ax:ff<4294967295:=by omega
 have u:cm<18446744073709551616:=by omega
 have L:f<65536:=by omega
 have ay:((b,j)::i).length≤50000:=by simpa using am
 have az:bX M ff ⟨tt,1,0,cm,f,bw kk new⟩ pp=some ⟨0,1,0,rc,rg,bw (be tt 4) e⟩:=xn au hM
 have aA:(nch=0∧ff=0∧cm=0∧f=0∧0=0)∨(0<nch∧0<ff):=.inr ⟨E,Y⟩
 refine bu [0] 1 fun nm=>cE (FK v N lim key d rs lg op r p c pp rc rg gn n al k t sec q1 n1 h o s rt ky fr too bk tt q mb mc ch hb hc cb sh made tn nf cf kn wt Af pi cm lst b1 b2 b3 b4 nch nn (some B) m f a qb qo qc a1 ub uo uc a2 a4 a5 ob oc ff I b j A kk new k1 k2 v0 v3 R i aj hL y hn ax G hG ao K M aq S hS J ht u L) [2,3,4,5,6,8,10,11,12,13,14,15,16] [21,22,23] fun ⟨⟨x,x1⟩,x2⟩ hx=>?_
 try dsimp only at hx
 refine bj [20]<|bj [9999,132120576,1,1,6,1,6,20]<|cE (tV p d r lg (pA x) (List.length ((b,j)::i)) x1 kn wt pi cm lst tt q mb mc ff cm f 0 nch hb hc C hcm wb wc e1 e2 e3 mark wr e z0 z3 O P Q ht U V X aA F H Z (by omega) aa ab na nfm N wv steps pp rc rg m g0 0 0 b j A B i ak w ay an G hG ap x2 (bX M ff {t:=tt,k:=1,l:=0,c:=cm,g:=f,pl:=bw kk new}) hx (S++[ff]) W D ar az av hW hU hD h2 hN aw J u z) [17,18,19,9,10,11,27,28] [21,22,23,24,25] fun ⟨⟨x3,x4⟩,x5⟩ hx1=>?_
 try dsimp only at hx1
 exact zE<|bv (gk ((↑b:Int)) ((↑cm:Int)) ((↑g0:Int))) [] []<|zE<|bv (Ai v N lim key d rs lg op r p c pp rc rg gn n al T b cm g0) [6,7] []<|bj [26]<|rT (((x3,x4),x5)) 26 [29,30]
end
section
variable (v N lim:Nat) (key:Vl) (d rs lg:Nat) (op:Bool) (r p c pp rc rg gn n al:Nat)
variable (k t:Nat) (sec:Vl) (q1 n1:Int) (h o s rt:Nat) (ky fr too:Vl) (bk:Bool)
variable (tt q mb mc ch hb hc cb sh made tn:Nat)
variable (nf cf kn wt:Nat) (Af:Option Addr) (pi cm lst:Nat)
variable (b1 b2 b3 b4 nch c1 c2 c3:Nat)
theorem H7 (T:List (Nat×Vl)) (e1 e2 e3 E hcm wb wc ff f:Nat) (mark wr e:Bs) (z0:1≤e.length) (z3:e.length≤64) (Q:16=mark.length) (U:32=wr.length) (V:0<tt) (X:1≤q) (Y:q<128) (Z:nch≤q) (F:0<nch) (aa:0<ff) (H:ff<128) (I:cm<128) (ab:f<128) (ac:E<128) (ad:hcm<128)
 (na nfm:Nat) (wv:Vl) (steps:Int) (nn rp rc2 rg2:Nat) (m g0 a qb qo qc a1 ub uo uc a2 a4 a5 ob oc A b j B C:Nat) (kk val new:Bs) (k1:1≤kk.length) (k2:kk.length≤32) (u0:1≤val.length) (u3:val.length≤64) (v0:1≤new.length) (v3:new.length≤64) (R i:bV) (an:bS ((ff,A)::R)=(b,j)::i) (hL:RunsP ((ff,A)::R)) (ao:RunsP ((b,j)::i)) (y:ff+1<A∨0<R.length) (w:b+1<j∨0<i.length) (hn:nf≤50000) (ap:i.length+1≤50000) (aq:b<4294967295) (G:List ((Nat×Nat)×Vl)) (hG:G.length≤1000) (ar:cg tt (G.map (·.1))=[f]) (au:cg 0 (G.map (·.1))=[g0]) (z:g0<65536)
 (K:List (Nat×Vl)) (M:Nat→Option Pg) (av:KM K M) (S W D:List Nat) (hS:ff∉S) (aw:M rp=some ⟨tt,1,0,rc2,rg2,bw kk val⟩) (J:¬ bR ((ff,A)::R) rp) (ax:rp∉W) (ay:rp∉S) (az:rp∉D) (aA:2≤rp) (aB:rp<N) (L:rp<4294967296) (aC:b∉S++[ff]) (hM:M pp=some ⟨0,1,0,rc,rg,bw (be tt 4) e⟩) (aD:pp≠ff) (aE:¬ bR ((b,j)::i) pp) (hW:pp∉W++[rp]) (hU:pp∉S++[ff]) (hD:pp∉D++[rp]) (h2:2≤pp) (hN:pp<N) (aF:pp<4294967296) (O:0<cm) (ht:tt<4294967296) :
 TT 201 #[u64 nn,bi c1,bi c2,bi c3] [(c1,.cl [vF b1 b2 b3 b4] 237),(c3,.cl [bi v] 32),(b1,.cl [bi tn] 106),(b2,.cl [bi v] 32),(b3,.cl (eO k t sec q1 n1 h o s rt (sA ob 1 oc) ky fr too bk) 41),(b4,.cl [i64 nch] 3),(v,.cl (bU N lim key d rs lg op r p c pp rc rg gn n al) 90),(al,.pr (MU T)),(tn,.cl (b9 tt q mb mc rp rc2 rg2 ch hb hc cb sh made) 113),(d,.cl (bQ na nfm N wv steps) bT),(r,.cl [.map (some m)] 182),(m,.pr (bB eW G)),(a,.fa (bN Af nf cf ((ff,A)::R))),(a1,.fa (BF (pO qb qo) kk.length qc kk)),(a2,.fa (BF (pO ub uo) new.length uc new)),(a4,.fa (PgsF K M)),(a5,.fa (CF ob 0 (dS qb qo kk.length qc (cB ub uo new.length uc) false))),(e1,.fa (CF hb 0 (cX E hcm wb wc))),(e2,.fa (BF (pA mb) 16 mc mark)),(e3,.fa (BF (pA wb) 32 wc wr))] [(c2,.cl qQ 109),(p,.cl (bM d r lg Af nf cf kn wt (some B) (some C) pi cm lst false) 199),(kn,.pr (MU K)),(B,.pr (MU (bF S))),(wt,.pr (MU (bF W))),(C,.pr (MU (bF D)))]
  (fun x:ij=>KM x.2 (bX (bX M ff ⟨tt,1,0,cm,f,bw kk new⟩) b ⟨0,1,0,cm,g0,bw (be tt 4) (bJ q nch mark ff cm f 0 E hcm wr)⟩)) (fun x=>.returned (vy b cm g0 gn T.length))
  (fun x=>[(c2,.cl (jN tt q mb mc ff cm f 0 nch hb hc) 109),(p,.cl (bM d r lg (pA x.1.1) (bS ((b,j)::i)).length x.1.2 kn wt (some B) (some C) pi cm lst false) 199),(kn,.pr (MU x.2)),(B,.pr (MU (bF (S++[ff]++[b])))),(wt,.pr (MU (bF (W++[rp]++[pp])))),(C,.pr (MU (bF (D++[rp]++[pp]))))])
  (fun x=>[(0,.fa (bN (pA x.1.1) (bS ((b,j)::i)).length x.1.2 (bS ((b,j)::i)))),(0,.fa (PgsF x.2 (bX (bX M ff ⟨tt,1,0,cm,f,bw kk new⟩) b ⟨0,1,0,cm,g0,bw (be tt 4) (bJ q nch mark ff cm f 0 E hcm wr)⟩)))]):=by
 refine cJ func201 (by kernel_rfl) fun w0 ho=>?_
 have aG:ff<4294967295:=by omega
 have u:cm<18446744073709551616:=by omega
 have P:f<65536:=by omega
 have aH:((b,j)::i).length≤50000:=by simpa using ap
 have aI:bX M ff ⟨tt,1,0,cm,f,bw kk new⟩ pp=some ⟨0,1,0,rc,rg,bw (be tt 4) e⟩:=xn aD hM
 have aJ:(nch=0∧ff=0∧cm=0∧f=0∧0=0)∨(0<nch∧0<ff):=.inr ⟨F,aa⟩
 refine bu [0] 1 fun nm=>cE (Gy v N lim key d rs lg op r p c pp rc rg gn n al k t sec q1 n1 h o s rt ky fr too bk tt q mb mc ch hb hc cb sh made tn nf cf kn wt Af pi cm lst b1 b2 b3 b4 nch na nfm wv steps nn rp rc2 rg2 m f a qb qo qc a1 ub uo uc a2 a4 a5 ob oc ff A b j B C kk val new k1 k2 u0 u3 v0 v3 R i an hL y hn aG G hG ar K M av S W D hS aw J ax ay az aA aB L O ht u P) [2,3,4,5,6,8,9,10,11,12,13,14,15,16] [21,22,23,24,25] fun ⟨⟨x,x1⟩,x2⟩ hx=>?_
 try dsimp only at hx
 refine bj [20]<|bj [9999,132120576,1,1,6,1,6,20]<|cE (tV p d r lg (pA x) (List.length ((b,j)::i)) x1 kn wt pi cm lst tt q mb mc ff cm f 0 nch hb hc E hcm wb wc e1 e2 e3 mark wr e z0 z3 Q U V ht X Y Z aJ H I ab (by omega) ac ad na nfm N wv steps pp rc rg m g0 0 0 b j B C i ao w aH aq G hG au x2 (bX M ff {t:=tt,k:=1,l:=0,c:=cm,g:=f,pl:=bw kk new}) hx (S++[ff]) (W++[rp]) (D++[rp]) aC aI aE hW hU hD h2 hN aF O u z) [17,18,19,9,10,11,27,28] [21,22,23,24,25] fun ⟨⟨x3,x4⟩,x5⟩ hx1=>?_
 try dsimp only at hx1
 exact zE<|bv (gk ((↑b:Int)) ((↑cm:Int)) ((↑g0:Int))) [] []<|zE<|bv (Ai v N lim key d rs lg op r p c pp rc rg gn n al T b cm g0) [6,7] []<|bj [26]<|rT (((x3,x4),x5)) 26 [29,30] rfl (by assumption)
end
theorem o7 (a b:Nat):jZ prog 194 #[bi a,bi b] .returning .returning [(a,.cl [.bool true] 4)] [] uT (fun _=>.tuple #[]) (fun _=>[]) (fun _=>[]):=qL func194 fun w0 ho=>bj [0,0]<|rT ()
theorem sv:Same 132 #[] [] (.tuple #[]):=iE func132<|zE<|rT ()
section
variable (p d r rs:Nat) (g:Nat) (Af:Option Addr) (nf cf kn wt:Nat) (pu dr:Option Nat) (pi lst:Nat) (fl:Bool)
theorem lR (na nfm N:Nat) (e:Vl) (steps:Int) (c a:Nat) (dv:Vl) (f:lst≤c) (hc:c<a) (b:a<4294967296) :
 TT 193 #[bi p,bi rs] [] [(p,.cl (bM d r g Af nf cf kn wt pu dr pi 0 lst fl) 199),(rs,.cl (dc d (a:Int) (c:Int) (c:Int) dv) df),(d,.cl (bQ na nfm N e steps) bT)] (fun _:Int×Nat×Nat=>True) (fun _=>.returned (.tuple #[u64 ((c+1:Nat):Int),i64 0]))
  (fun x=>[(p,.cl (bM d r g Af nf cf kn wt (some x.2.1) (some x.2.2) pi (c+1) (c+1) false) 199),(rs,.cl (dc d (a:Int) ((c+1:Nat):Int) (c:Int) dv) df),(d,.cl (bQ na nfm N e x.1) bT)]) (fun x=>[(x.2.1,.pr (MU (bF []))),(x.2.2,.pr (MU (bF [])))]):=Eh (p:=p) (d:=d) (r:=r) (rs:=rs) (g:=g) (Af:=Af) (nf:=nf) (cf:=cf) (kn:=kn) (wt:=wt) (pu:=pu) (dr:=dr) (pi:=pi) (lst:=lst) (fl:=fl) na nfm N e steps c a dv f hc b
end
section
variable (v N lim:Nat) (key:Vl) (d rs lg:Nat) (op:Bool) (r p c pp rc rg gn n al:Nat)
variable (k t:Nat) (sec:Vl) (q1 n1:Int) (h o s rt:Nat) (ky fr too:Vl) (bk:Bool)
variable (tt q mb mc ch hb hc cb sh made tn:Nat)
variable (nf cf kn wt:Nat) (Af:Option Addr) (pi cm lst:Nat)
variable (b1 b2 b3 b4 nch c1 c2 c3 c4 c5:Nat)
theorem H3 (T:List (Nat×Vl)) (L:T.length<4294967296) (e1 e2 e3 B hcm wb wc ff f:Nat) (mark wr w:Bs) (z0:1≤w.length) (z3:w.length≤64) (ag:16=mark.length) (ah:32=wr.length) (ai:0<tt) (aj:1≤q) (ak:q<128) (am:nch≤q) (O:0<nch) (an:0<ff) (P:ff<128) (Q:cm+1<128) (ao:f<128) (ap:B<128) (aq:hcm<128)
 (na nfm:Nat) (steps:Int) (m g0 a qb qo qc a1 ub uo uc a2 a4 a5 ob oc S b z:Nat) (kk new:Bs) (k1:1≤kk.length) (k2:kk.length≤32) (v0:1≤new.length) (v3:new.length≤64) (R y:bV) (aA:bS ((ff,S)::R)=(b,z)::y) (hL:RunsP ((ff,S)::R)) (aB:RunsP ((b,z)::y)) (aC:RunsP (bS ((b,z)::y))) (F:ff+1<S∨0<R.length) (C:b+1<z∨0<y.length) (hn:nf≤50000) (aD:y.length+1≤50000) (aE:b<4294967295) (G:List ((Nat×Nat)×Vl)) (hG:G.length≤1000) (aF:cg tt (G.map (·.1))=[f]) (aG:cg 0 (G.map (·.1))=[g0]) (A:g0<65536)
 (K:List (Nat×Vl)) (M:Nat→Option Pg) (aH:KM K M) (W:List Nat) (hM:M pp=some ⟨0,1,0,rc,rg,bw (be tt 4) w⟩) (U:pp≠ff) (bo:pp≠b) (V:ff≠b) (aI:¬ bR ((b,z)::y) pp) (hW:pp∉W) (h2:2≤pp) (hN:pp<N) (aJ:pp<4294967296) (ht:tt<4294967296)
 (now firm:List Bs) (aK:now.length=N) (aL:firm.length=N) (X:bP now) (f256:bP firm) (aM:N≤4096) (h8:8≤N) (a3 lb Mg:Nat) (lsb:SB) (lv:Vl) (xs:List Vl) (aN:SlE 502 9 Mg xs lv (lb,lsb)) (aO:Mg≤800000) (Kf:Nat×Nat→Option Bs) (aP:RG G Kf) (u Y Z:Bs) (aa:Kf (0,gn)=some u) (aQ:32=u.length) (aR:Kf (tt,f)=some Y) (aS:Kf (0,g0)=some Z) (H:gn<65536)
 (I:List (Nat×Vl)) (pin:Nat→Nat) (hI:PinI I pin) (ab:∀ n,pin n<1000000) (aT:∀ m,bR (bS ((b,z)::y)) m→m<N) (aU:(W++[pp]).length≤12) (aV:(W++[pp]).Nodup) (aW:∀ n∈W++[pp],2≤n∧n<N∧¬ bR (bS ((b,z)::y)) n) (D:2≤ff∧ff<N) (E:2≤b∧b<N) (dv:Vl) (fl:Bool) (pu dr:Option Nat) (ac:lst≤cm) (ad:cm<lim) (J:lim<4294967296) :
 TT 110 #[bi v,.func (.func 201) #[] #[bi c1,bi c2,bi c3],.func (.func 203) #[] #[bi c2,bi c4,bi c5]] [(c1,.cl [vF b1 b2 b3 b4] 237),(c3,.cl [bi v] 32),(c4,.cl [bi tn] 106),(c5,.cl [.func (.func 132) #[] #[]] 1),(b1,.cl [bi tn] 106),(b2,.cl [bi v] 32),(b3,.cl (eO k t sec q1 n1 h o s rt (sA ob 1 oc) ky fr too bk) 41),(b4,.cl [i64 nch] 3),(al,.pr (MU T)),(r,.cl [.map (some m)] 182),(m,.pr (bB eW G)),(a,.fa (bN Af nf cf ((ff,S)::R))),(a1,.fa (BF (pO qb qo) kk.length qc kk)),(a2,.fa (BF (pO ub uo) new.length uc new)),(a4,.fa (PgsF K M)),(a5,.fa (CF ob 0 (dS qb qo kk.length qc (cB ub uo new.length uc) false))),(e1,.fa (CF hb 0 (cX B hcm wb wc))),(e2,.fa (BF (pA mb) 16 mc mark)),(e3,.fa (BF (pA wb) 32 wc wr)),(pi,.pr (MU I)),(a3,.fa (dw G Kf))] [(v,.cl (bU N lim key d rs lg op r p c pp rc rg gn n al) 90),(tn,.cl (b9 tt q mb mc 0 0 0 ch hb hc cb sh made) 113),(c2,.cl qQ 109),(p,.cl (bM d r lg Af nf cf kn wt pu dr pi 0 lst fl) 199),(kn,.pr (MU K)),(wt,.pr (MU (bF W))),(rs,.cl (dc d (lim:Int) (cm:Int) (cm:Int) dv) df),(lg,.cl [lv] 128),(lb,lsb),(d,.cl (bQ na nfm N (.slice none 0 0) steps) bT),(na,.cl (bE now) 166),(nfm,.cl (bE firm) 166)]
  (fun x:(nZ×List Nat×Vl×Nat×SB)×(Nat×Nat)=>(RunsP x.1.1.1∧(∀ m,bR x.1.1.1 m↔bR (bS ((b,z)::y)) m∨(m∈(W++[pp])∧pin m=0))∧KM x.1.1.2.2.2.2.1 (dA (bX (bX M ff ⟨tt,1,0,cm+1,f,bw kk new⟩) b ⟨0,1,0,cm+1,g0,bw (be tt 4) (bJ q nch mark ff (cm+1) f 0 B hcm wr)⟩) ((W++[pp]).filter (cN pin)))∧x.1.1.2.2.2.2.2.1.Nodup∧(∀ n,n∈x.1.1.2.2.2.2.2.1↔n∈(W++[pp])∧pin n≠0)∧x.1.1.2.2.2.2.2.2.1.Perm ((W++[pp]).filter (cN pin)))∧(x.1.2.1.Perm ([]++[ff]++[b])∧(∀ i j,i<j→j<x.1.2.1.length→x.1.2.1.getD i 0≤x.1.2.1.getD j 0))∧∃ ys,SlE 502 9 (Mg+([]++[ff]++[b]).length+1) ys x.1.2.2.1 (x.1.2.2.2.1,x.1.2.2.2.2)) (fun _=>.returned (.tuple #[]))
  (fun x=>[(v,.cl (bU N lim key d rs lg op r p (cm+1) b (cm+1) g0 gn T.length al) 90),(tn,.cl (b9 tt q mb mc ff (cm+1) f nch hb hc cb sh made) 113),(c2,.cl (jN tt q mb mc ff (cm+1) f 0 nch hb hc) 109),(p,.cl (bM d r lg x.1.1.2.1 x.1.1.2.2.1 x.1.1.2.2.2.1 kn wt (some x.2.1) (some x.2.2) pi 0 (cm+1) true) 199),(kn,.pr (MU x.1.1.2.2.2.2.1)),(wt,.pr (MU (bF x.1.1.2.2.2.2.2.1))),(rs,.cl (dc d (lim:Int) ((cm+1:Nat):Int) ((cm+1:Nat):Int) dv) df),(lg,.cl [x.1.2.2.1] 128),(lb,.dead),(d,.cl (bQ na nfm N (.slice none 0 0) x.1.1.2.2.2.2.2.2.2) bT),(na,.cl (bE (dp ((dJ Kf (bX (bX M ff ⟨tt,1,0,cm+1,f,bw kk new⟩) b ⟨0,1,0,cm+1,g0,bw (be tt 4) (bJ q nch mark ff (cm+1) f 0 B hcm wr)⟩) now x.1.2.1).set ((cm+1)%2) (bI u 0 4 0 ((cm+1)%2) (cm+1) gn (bO (cm+1) b (cm+1) g0 0 gn T.length))) x.1.1.2.2.2.2.2.2.1)) 166),(nfm,.cl (bE (dp ((dJ Kf (bX (bX M ff ⟨tt,1,0,cm+1,f,bw kk new⟩) b ⟨0,1,0,cm+1,g0,bw (be tt 4) (bJ q nch mark ff (cm+1) f 0 B hcm wr)⟩) now x.1.2.1).set ((cm+1)%2) (bI u 0 4 0 ((cm+1)%2) (cm+1) gn (bO (cm+1) b (cm+1) g0 0 gn T.length))) x.1.1.2.2.2.2.2.2.1)) 166)])
  (fun x=>[(x.1.2.2.2.1,x.1.2.2.2.2),(0,.fa (bN x.1.1.2.1 x.1.1.2.2.1 x.1.1.2.2.2.1 x.1.1.1)),(0,.fa (PgsF x.1.1.2.2.2.2.1 (dA (bX (bX M ff ⟨tt,1,0,cm+1,f,bw kk new⟩) b ⟨0,1,0,cm+1,g0,bw (be tt 4) (bJ q nch mark ff (cm+1) f 0 B hcm wr)⟩) ((W++[pp]).filter (cN pin)))))]):=by
 refine dE func110 fun w0 ho=>?_
 have aX:ff∉([]:List Nat):=by simp
 have aY:b∉([]:List Nat)++[ff]:=by simpa using fun e=>V e.symm
 have hU:pp∉([]:List Nat)++[ff]:=by simpa using U
 have hD:pp∉([]:List Nat):=by simp
 have ae:(([]:List Nat)++[ff]++[b]).length≤12:=by simp
 have aZ:∀ n∈([]:List Nat)++[ff]++[b],2≤n∧n<N∧∃ qq,(bX (bX M ff ⟨tt,1,0,cm+1,f,bw kk new⟩) b ⟨0,1,0,cm+1,g0,bw (be tt 4) (bJ q nch mark ff (cm+1) f 0 B hcm wr)⟩) n=some qq∧∃ l,Kf (qq.t,qq.g)=some l:=by
  intro n hn
  simp only [List.nil_append,List.mem_append,List.mem_singleton,List.mem_cons,List.not_mem_nil,or_false] at hn
  rcases hn with rfl | rfl
  · exact ⟨D.1,D.2,_,by simp only [bX,if_neg V,if_pos];rfl,_,aR⟩
  · exact ⟨E.1,E.2,_,by simp only [bX,if_pos];rfl,_,aS⟩
 have a0:0<cm+1:=by omega
 refine bu [9999] 1 fun nm=>bj [9999,1224736768,33,21,33,21]<|cE (lR p d r rs lg Af nf cf kn wt pu dr pi lst fl na nfm N (.slice none 0 0) steps cm lim dv ac ad J) [] [24,27,30] fun ⟨x,x1,x2⟩ _=>zE<|bv (mR (u64 ↑(cm+1))) [] []<|bu [36] 1 fun nm1=>cS ⟨.fn (.func 194) #[bi (nm1 0),bi (nm 0)],#[]⟩<|zE<|cE (Id v N lim key d rs lg op r p c pp rc rg gn n al k t sec q1 n1 h o s rt ky fr too bk tt q mb mc ch hb hc cb sh made tn nf cf kn wt Af pi (cm+1) (cm+1) b1 b2 b3 b4 nch c1 c2 c3 T e1 e2 e3 B hcm wb wc ff f mark wr w z0 z3 ag ah ai aj ak am O an P Q ao ap aq na nfm (.slice none 0 0) x (cm+1) m g0 a qb qo qc a1 ub uo uc a2 a4 a5 ob oc S b z x1 x2 kk new k1 k2 v0 v3 R y aA hL aB F C hn aD aE G hG aF aG A K M aH ([]) W ([]) aX aY hM U aI hW hU hD h2 hN aJ a0 ht) [0,1,4,5,6,7,21,8,22,30,9,10,11,12,13,14,15,16,17,18] [23,24,25,34,26,35] fun ⟨⟨x3,x4⟩,x5⟩ hx=>?_
 try dsimp only at hx
 refine bu [39,36,39,39,39,9999,9999,40] 2 fun nm2=>bj [9999,8573157376,33,21,33,21,40]<|vC 43 (fun z9:Int=>(.agg ⟨[u64 ↑(cm+1),u32 b,u64 ↑(cm+1),u16 g0,u8 0,u16 gn,u32 z9]⟩)) (kd T.length)<|cE (lM p d r lg rs (pA x3) (List.length (bS ((b,z)::y))) x4 kn wt (some x2) pi (cm+1) na nfm N x now firm aK aL X f256 aM h8 m x1 a3 0 0 Mg lb lsb lv xs aN aO G Kf aP u gn aa aQ x5 (bX (bX M ff {t:=tt,k:=1,l:=0,c:=cm+1,g:=f,pl:=bw kk new}) b {t:=0,k:=1,l:=0,c:=cm+1,g:=g0,pl:=bw (be tt 4) (bJ q nch mark ff (cm+1) f 0 B hcm wr)}) hx ([]++[ff]++[b]) ae aZ I pin hI ab (bS ((b,z)::y)) aC aT (W++[pp]) aU aV aW lim (cm+1) cm b (cm+1) g0 T.length dv (by omega) (by omega) (by omega) (by omega) A H L) [9,10,20,34,19,37,38] [24,27,26,25,28,29,30,31,32] fun ⟨⟨x6,x7,x8,x9,x10,x11,x12,x13⟩,x14,x15,x16,x17⟩ ⟨⟨hx1,hx2,hx3,hx4,hx5,hx6⟩,⟨hx7,hx8⟩,hx9⟩=>?_
 try dsimp only at hx1 hx2 hx3 hx4 hx5 hx6 hx7 hx8 hx9
 refine zE<|bv dx [] []<|bj [33,40,21]<|qC 21 v (fun z9:Int=>(.cl [i64 N,u64 lim,.slice none 0 0,key,bi d,bi rs,bi lg,.bool op,bi r,bi p,u64 ↑(cm+1),u32 b,u64 ↑(cm+1),u16 g0,u8 0,u16 gn,u32 z9,.map (some al)] 90)) (kd T.length)<|qC 40 (nm2 1) (fun z9:Int=>(.cl [u64 ↑(cm+1),u32 b,u64 ↑(cm+1),u16 g0,u8 0,u16 gn,u32 z9] 87)) (kd T.length)<|eA (args:=#[bi c2,bi c4,bi c5]) func203<|bj [2,23,22,3]<|bv sv [] []<|zE<|eC (.tuple #[]) 9999<|zE ?_
 exact fV<|dG #[bi (nm1 0),bi (nm 0)] #[] [] (o7 (nm1 0) (nm 0)) [36] [] fun _ _=>fS (((x6,x7,x8,x9,x10,x11,x12,x13),x14,x15,x16,x17),(x1,x2)) (.tuple #[]) [41,42,43] (fN _ 9999) rfl ⟨⟨hx1,hx2,hx3,hx4,hx5,hx6⟩,⟨hx7,hx8⟩,hx9⟩
end
section
variable (v N lim:Nat) (key:Vl) (d rs lg:Nat) (op:Bool) (r p c pp rc rg gn n al:Nat)
variable (k t:Nat) (sec:Vl) (q1 n1:Int) (h o s rt:Nat) (ky fr too:Vl) (bk:Bool)
variable (tt q mb mc ch hb hc cb sh made tn:Nat)
variable (nf cf kn wt:Nat) (Af:Option Addr) (pi cm lst:Nat)
variable (b1 b2 b3 b4 nch c1 c2 c3 c4 c5:Nat)
theorem IJ (T:List (Nat×Vl)) (O:T.length<4294967296) (e1 e2 e3 B hcm wb wc ff f:Nat) (mark wr w:Bs) (z0:1≤w.length) (z3:w.length≤64) (aj:16=mark.length) (ak:32=wr.length) (am:0<tt) (an:1≤q) (ao:q<128) (ap:nch≤q) (P:0<nch) (aq:0<ff) (Q:ff<128) (S:cm+1<128) (ar:f<128) (au:B<128) (av:hcm<128)
 (na nfm:Nat) (steps:Int) (rp rc2 rg2 m g0 a qb qo qc a1 ub uo uc a2 a4 a5 ob oc L b z:Nat) (kk val new:Bs) (k1:1≤kk.length) (k2:kk.length≤32) (u0:1≤val.length) (u3:val.length≤64) (v0:1≤new.length) (v3:new.length≤64) (R y:bV) (aD:bS ((ff,L)::R)=(b,z)::y) (hL:RunsP ((ff,L)::R)) (aE:RunsP ((b,z)::y)) (aF:RunsP (bS ((b,z)::y))) (F:ff+1<L∨0<R.length) (C:b+1<z∨0<y.length) (hn:nf≤50000) (aG:y.length+1≤50000) (aH:b<4294967295) (G:List ((Nat×Nat)×Vl)) (hG:G.length≤1000) (aI:cg tt (G.map (·.1))=[f]) (aJ:cg 0 (G.map (·.1))=[g0]) (A:g0<65536)
 (K:List (Nat×Vl)) (M:Nat→Option Pg) (aK:KM K M) (W:List Nat) (aL:M rp=some ⟨tt,1,0,rc2,rg2,bw kk val⟩) (U:¬ bR ((ff,L)::R) rp) (aM:rp∉W) (aN:pp≠rp) (aO:2≤rp) (aP:rp<N) (V:rp<4294967296) (hM:M pp=some ⟨0,1,0,rc,rg,bw (be tt 4) w⟩) (X:pp≠ff) (bz:pp≠b) (Y:ff≠b) (aQ:¬ bR ((b,z)::y) pp) (hW:pp∉W++[rp]) (h2:2≤pp) (hN:pp<N) (aR:pp<4294967296) (ht:tt<4294967296)
 (now firm:List Bs) (aS:now.length=N) (aT:firm.length=N) (Z:bP now) (f256:bP firm) (aU:N≤4096) (h8:8≤N) (a3 lb Mg:Nat) (lsb:SB) (lv:Vl) (xs:List Vl) (aV:SlE 502 9 Mg xs lv (lb,lsb)) (aW:Mg≤800000) (Kf:Nat×Nat→Option Bs) (aX:RG G Kf) (u aa ab:Bs) (ac:Kf (0,gn)=some u) (aY:32=u.length) (aZ:Kf (tt,f)=some aa) (a0:Kf (0,g0)=some ab) (H:gn<65536)
 (I:List (Nat×Vl)) (pin:Nat→Nat) (hI:PinI I pin) (ad:∀ n,pin n<1000000) (a6:∀ m,bR (bS ((b,z)::y)) m→m<N) (a7:(W++[rp]++[pp]).length≤12) (a8:(W++[rp]++[pp]).Nodup) (a9:∀ n∈W++[rp]++[pp],2≤n∧n<N∧¬ bR (bS ((b,z)::y)) n) (D:2≤ff∧ff<N) (E:2≤b∧b<N) (dv:Vl) (fl:Bool) (pu dr:Option Nat) (ae:lst≤cm) (af:cm<lim) (J:lim<4294967296) :
 TT 110 #[bi v,.func (.func 201) #[] #[bi c1,bi c2,bi c3],.func (.func 203) #[] #[bi c2,bi c4,bi c5]] [(c1,.cl [vF b1 b2 b3 b4] 237),(c3,.cl [bi v] 32),(c4,.cl [bi tn] 106),(c5,.cl [.func (.func 132) #[] #[]] 1),(b1,.cl [bi tn] 106),(b2,.cl [bi v] 32),(b3,.cl (eO k t sec q1 n1 h o s rt (sA ob 1 oc) ky fr too bk) 41),(b4,.cl [i64 nch] 3),(al,.pr (MU T)),(r,.cl [.map (some m)] 182),(m,.pr (bB eW G)),(a,.fa (bN Af nf cf ((ff,L)::R))),(a1,.fa (BF (pO qb qo) kk.length qc kk)),(a2,.fa (BF (pO ub uo) new.length uc new)),(a4,.fa (PgsF K M)),(a5,.fa (CF ob 0 (dS qb qo kk.length qc (cB ub uo new.length uc) false))),(e1,.fa (CF hb 0 (cX B hcm wb wc))),(e2,.fa (BF (pA mb) 16 mc mark)),(e3,.fa (BF (pA wb) 32 wc wr)),(pi,.pr (MU I)),(a3,.fa (dw G Kf))] [(v,.cl (bU N lim key d rs lg op r p c pp rc rg gn n al) 90),(tn,.cl (b9 tt q mb mc rp rc2 rg2 ch hb hc cb sh made) 113),(c2,.cl qQ 109),(p,.cl (bM d r lg Af nf cf kn wt pu dr pi 0 lst fl) 199),(kn,.pr (MU K)),(wt,.pr (MU (bF W))),(rs,.cl (dc d (lim:Int) (cm:Int) (cm:Int) dv) df),(lg,.cl [lv] 128),(lb,lsb),(d,.cl (bQ na nfm N (.slice none 0 0) steps) bT),(na,.cl (bE now) 166),(nfm,.cl (bE firm) 166)]
  (fun x:(nZ×List Nat×Vl×Nat×SB)×(Nat×Nat)=>(RunsP x.1.1.1∧(∀ m,bR x.1.1.1 m↔bR (bS ((b,z)::y)) m∨(m∈(W++[rp]++[pp])∧pin m=0))∧KM x.1.1.2.2.2.2.1 (dA (bX (bX M ff ⟨tt,1,0,cm+1,f,bw kk new⟩) b ⟨0,1,0,cm+1,g0,bw (be tt 4) (bJ q nch mark ff (cm+1) f 0 B hcm wr)⟩) ((W++[rp]++[pp]).filter (cN pin)))∧x.1.1.2.2.2.2.2.1.Nodup∧(∀ n,n∈x.1.1.2.2.2.2.2.1↔n∈(W++[rp]++[pp])∧pin n≠0)∧x.1.1.2.2.2.2.2.2.1.Perm ((W++[rp]++[pp]).filter (cN pin)))∧(x.1.2.1.Perm ([]++[ff]++[b])∧(∀ i j,i<j→j<x.1.2.1.length→x.1.2.1.getD i 0≤x.1.2.1.getD j 0))∧∃ ys,SlE 502 9 (Mg+([]++[ff]++[b]).length+1) ys x.1.2.2.1 (x.1.2.2.2.1,x.1.2.2.2.2)) (fun _=>.returned (.tuple #[]))
  (fun x=>[(v,.cl (bU N lim key d rs lg op r p (cm+1) b (cm+1) g0 gn T.length al) 90),(tn,.cl (b9 tt q mb mc ff (cm+1) f nch hb hc cb sh made) 113),(c2,.cl (jN tt q mb mc ff (cm+1) f 0 nch hb hc) 109),(p,.cl (bM d r lg x.1.1.2.1 x.1.1.2.2.1 x.1.1.2.2.2.1 kn wt (some x.2.1) (some x.2.2) pi 0 (cm+1) true) 199),(kn,.pr (MU x.1.1.2.2.2.2.1)),(wt,.pr (MU (bF x.1.1.2.2.2.2.2.1))),(rs,.cl (dc d (lim:Int) ((cm+1:Nat):Int) ((cm+1:Nat):Int) dv) df),(lg,.cl [x.1.2.2.1] 128),(lb,.dead),(d,.cl (bQ na nfm N (.slice none 0 0) x.1.1.2.2.2.2.2.2.2) bT),(na,.cl (bE (dp ((dJ Kf (bX (bX M ff ⟨tt,1,0,cm+1,f,bw kk new⟩) b ⟨0,1,0,cm+1,g0,bw (be tt 4) (bJ q nch mark ff (cm+1) f 0 B hcm wr)⟩) now x.1.2.1).set ((cm+1)%2) (bI u 0 4 0 ((cm+1)%2) (cm+1) gn (bO (cm+1) b (cm+1) g0 0 gn T.length))) x.1.1.2.2.2.2.2.2.1)) 166),(nfm,.cl (bE (dp ((dJ Kf (bX (bX M ff ⟨tt,1,0,cm+1,f,bw kk new⟩) b ⟨0,1,0,cm+1,g0,bw (be tt 4) (bJ q nch mark ff (cm+1) f 0 B hcm wr)⟩) now x.1.2.1).set ((cm+1)%2) (bI u 0 4 0 ((cm+1)%2) (cm+1) gn (bO (cm+1) b (cm+1) g0 0 gn T.length))) x.1.1.2.2.2.2.2.2.1)) 166)])
  (fun x=>[(x.1.2.2.2.1,x.1.2.2.2.2),(0,.fa (bN x.1.1.2.1 x.1.1.2.2.1 x.1.1.2.2.2.1 x.1.1.1)),(0,.fa (PgsF x.1.1.2.2.2.2.1 (dA (bX (bX M ff ⟨tt,1,0,cm+1,f,bw kk new⟩) b ⟨0,1,0,cm+1,g0,bw (be tt 4) (bJ q nch mark ff (cm+1) f 0 B hcm wr)⟩) ((W++[rp]++[pp]).filter (cN pin)))))]):=by
 refine dE func110 fun w0 ho=>?_
 have ba:ff∉([]:List Nat):=by simp
 have bb:b∉([]:List Nat)++[ff]:=by simpa using fun e=>Y e.symm
 have hU:pp∉([]:List Nat)++[ff]:=by simpa using X
 have hD:pp∉([]:List Nat)++[rp]:=by simpa using aN
 have ag:rp∉([]:List Nat):=by simp
 have ah:(([]:List Nat)++[ff]++[b]).length≤12:=by simp
 have bc:∀ n∈([]:List Nat)++[ff]++[b],2≤n∧n<N∧∃ qq,(bX (bX M ff ⟨tt,1,0,cm+1,f,bw kk new⟩) b ⟨0,1,0,cm+1,g0,bw (be tt 4) (bJ q nch mark ff (cm+1) f 0 B hcm wr)⟩) n=some qq∧∃ l,Kf (qq.t,qq.g)=some l:=by
  intro n hn
  simp only [List.nil_append,List.mem_append,List.mem_singleton,List.mem_cons,List.not_mem_nil,or_false] at hn
  rcases hn with rfl | rfl
  · exact ⟨D.1,D.2,_,by simp only [bX,if_neg Y,if_pos];rfl,_,aZ⟩
  · exact ⟨E.1,E.2,_,by simp only [bX,if_pos];rfl,_,a0⟩
 have bd:0<cm+1:=by omega
 refine bu [9999] 1 fun nm=>bj [9999,1224736768,33,21,33,21]<|cE (lR p d r rs lg Af nf cf kn wt pu dr pi lst fl na nfm N (.slice none 0 0) steps cm lim dv ae af J) [] [24,27,30] fun ⟨x,x1,x2⟩ _=>zE<|bv (mR (u64 ↑(cm+1))) [] []<|bu [36] 1 fun nm1=>cS ⟨.fn (.func 194) #[bi (nm1 0),bi (nm 0)],#[]⟩<|zE<|cE (H7 v N lim key d rs lg op r p c pp rc rg gn n al k t sec q1 n1 h o s rt ky fr too bk tt q mb mc ch hb hc cb sh made tn nf cf kn wt Af pi (cm+1) (cm+1) b1 b2 b3 b4 nch c1 c2 c3 T e1 e2 e3 B hcm wb wc ff f mark wr w z0 z3 aj ak am an ao ap P aq Q S ar au av na nfm (.slice none 0 0) x (cm+1) rp rc2 rg2 m g0 a qb qo qc a1 ub uo uc a2 a4 a5 ob oc L b z x1 x2 kk val new k1 k2 u0 u3 v0 v3 R y aD hL aE F C hn aG aH G hG aI aJ A K M aK ([]) W ([]) ba aL U aM ag ag aO aP V bb hM X aQ hW hU hD h2 hN aR bd ht) [0,1,4,5,6,7,21,8,22,30,9,10,11,12,13,14,15,16,17,18] [23,24,25,34,26,35] fun ⟨⟨x3,x4⟩,x5⟩ hx=>?_
 try dsimp only at hx
 refine bu [39,36,39,39,39,9999,9999,40] 2 fun nm2=>bj [9999,8573157376,33,21,33,21,40]<|vC 43 (fun z9:Int=>(.agg ⟨[u64 ↑(cm+1),u32 b,u64 ↑(cm+1),u16 g0,u8 0,u16 gn,u32 z9]⟩)) (kd T.length)<|cE (lM p d r lg rs (pA x3) (List.length (bS ((b,z)::y))) x4 kn wt (some x2) pi (cm+1) na nfm N x now firm aS aT Z f256 aU h8 m x1 a3 0 0 Mg lb lsb lv xs aV aW G Kf aX u gn ac aY x5 (bX (bX M ff {t:=tt,k:=1,l:=0,c:=cm+1,g:=f,pl:=bw kk new}) b {t:=0,k:=1,l:=0,c:=cm+1,g:=g0,pl:=bw (be tt 4) (bJ q nch mark ff (cm+1) f 0 B hcm wr)}) hx ([]++[ff]++[b]) ah bc I pin hI ad (bS ((b,z)::y)) aF a6 (W++[rp]++[pp]) a7 a8 a9 lim (cm+1) cm b (cm+1) g0 T.length dv (by omega) (by omega) (by omega) (by omega) A H O) [9,10,20,34,19,37,38] [24,27,26,25,28,29,30,31,32] fun ⟨⟨x6,x7,x8,x9,x10,x11,x12,x13⟩,x14,x15,x16,x17⟩ ⟨⟨hx1,hx2,hx3,hx4,hx5,hx6⟩,⟨hx7,hx8⟩,hx9⟩=>?_
 try dsimp only at hx1 hx2 hx3 hx4 hx5 hx6 hx7 hx8 hx9
 refine zE<|bv dx [] []<|bj [33,40,21]<|qC 21 v (fun z9:Int=>(.cl [i64 N,u64 lim,.slice none 0 0,key,bi d,bi rs,bi lg,.bool op,bi r,bi p,u64 ↑(cm+1),u32 b,u64 ↑(cm+1),u16 g0,u8 0,u16 gn,u32 z9,.map (some al)] 90)) (kd T.length)<|qC 40 (nm2 1) (fun z9:Int=>(.cl [u64 ↑(cm+1),u32 b,u64 ↑(cm+1),u16 g0,u8 0,u16 gn,u32 z9] 87)) (kd T.length)<|eA (args:=#[bi c2,bi c4,bi c5]) func203<|bj [2,23,22,3]<|bv sv [] []<|zE<|eC (.tuple #[]) 9999<|zE ?_
 exact fV<|dG #[bi (nm1 0),bi (nm 0)] #[] [] (o7 (nm1 0) (nm 0)) [36] [] fun _ _=>fS (((x6,x7,x8,x9,x10,x11,x12,x13),x14,x15,x16,x17),(x1,x2)) (.tuple #[]) [41,42,43] (fN _ 9999) rfl ⟨⟨hx1,hx2,hx3,hx4,hx5,hx6⟩,⟨hx7,hx8⟩,hx9⟩
end
theorem Je (b c a d e f un g:Nat) (h1:1≤a) (h2:a≤32) (h3:un≤64):Same 146 #[eX b c a d (cB e f un g) false] [] (.bool true):=by
 refine iE func146<|fe [9999,0,1,0,1,0,1,0] 1 _ (br (show (decide ((↑un:Int)≤1024))=true by (simp;omega)) (br (show (decide ((↑a:Int)≤32))=true by (simp;omega)) (br (show (decide ((↑a:Int)≥1))=true by (simp;omega)) bt))) fun nm=>⟨by kernel_rfl,?_⟩
 exact rT ()
theorem H9 (b c a d e f un g:Nat) (h1:1≤a) (h2:a≤32) (h3:un≤64):Same 145 #[eX b c a d (cB e f un g) false] [] (.bool false):=iE func145<|bu [9999,0] 1 fun nm=>bv (Je b c a d e f un g h1 h2 h3) [] []<|zE<|rT ()
theorem I4 (i h j b c a d e f un g:Nat) (h1:1≤a) (h2:a≤32) (h3:un≤64):Same 212 #[sA h 1 j,.func (.func 145) #[] #[]] [(i,.fa (CF h 0 (dS b c a d (cB e f un g) false)))] (i64 (-1)):=iE func212<|bj [2,0,0,9999]<|rE (gh (T:=58) underlying58 i h 0 3 (dS b c a d (cB e f un g) false) (by (simp;done))) [0]<|vE 15 (.agg ⟨List.take 3 (List.drop 0 (dS b c a d (cB e f un g) false))⟩) (.agg ⟨[sO b c a d,sO e f un g,.bool false]⟩) (by rfl)<|bv (H9 b c a d e f un g h1 h2 h3) [] []<|bj [0,0,0]<|rT ()
theorem DJ (c b d e f a g h i un j:Nat) (h1:1≤a) (h2:a≤32) (h3:un≤64):Same 144 #[sA b 1 d,.func (.func 145) #[] #[]] [(c,.fa (CF b 0 (dS e f a g (cB h i un j) false)))] (.bool false):=iE func144<|zE<|bv (I4 c b d e f a g h i un j h1 h2 h3) [0] []<|bj [0]<|rT ()
section
variable (v N lim:Nat) (key:Vl) (d rs lg:Nat) (op:Bool) (r p c pp rc rg gn n al:Nat)
variable (k t:Nat) (sec:Vl) (q1 n1:Int) (h o s rt:Nat) (ops ky fr too:Vl) (bk:Bool)
variable (tt q mb mc rp rc2 rg2 ch hb hc cb sh made ca cm tn:Nat) (T A:List (Nat×Vl)) (h64:h<18446744073709551616)
include h64 in
theorem pI (hT:lk T (h/4294967296)=some (bi tn)) (r1 b1:Nat) (hA:lk A (h%4294967296)=some (hV r1 b1)) (hr:(cM 1 r1 != 0)=false):Same 141 #[bi v,cR k t sec q1 n1 h o s rt ops ky fr too bk,u8 1] [(v,.cl (bU N lim key d rs lg op r p c pp rc rg gn n al) 90),(al,.pr (MU T)),(tn,.cl (b9 tt q mb mc rp rc2 rg2 ch hb hc cb sh made) 113),(cb,.cl (cL ca cm) 212),cH ca A] (.tuple #[bi tn,u64 ((h%4294967296:Nat):Int)]):=
 by apply k6 (need:=1) (h64:=h64) (hT:=hT) (hA:=hA) (hr:=hr)
include h64 in
theorem Cf (hT:lk T (h/4294967296)=some (bi tn)) (hA:lk A (h%4294967296)=none):eG 141 #[bi v,cR k t sec q1 n1 h o s rt ops ky fr too bk,u8 1] [(v,.cl (bU N lim key d rs lg op r p c pp rc rg gn n al) 90),(al,.pr (MU T)),(tn,.cl (b9 tt q mb mc rp rc2 rg2 ch hb hc cb sh made) 113),(cb,.cl (cL ca cm) 212),cH ca A] (fz 7):=
 by apply sY (need:=1) (h64:=h64) (hT:=hT) (hA:=hA)
include h64 in
theorem BB (hT:lk T (h/4294967296)=some (bi tn)) (r1 b1:Nat) (hA:lk A (h%4294967296)=some (hV r1 b1)) (hr:(cM 1 r1 != 0)=true):eG 141 #[bi v,cR k t sec q1 n1 h o s rt ops ky fr too bk,u8 1] [(v,.cl (bU N lim key d rs lg op r p c pp rc rg gn n al) 90),(al,.pr (MU T)),(tn,.cl (b9 tt q mb mc rp rc2 rg2 ch hb hc cb sh made) 113),(cb,.cl (cL ca cm) 212),cH ca A] (fz 250):=
 by apply sJ (need:=1) (h64:=h64) (hT:=hT) (hA:=hA) (hr:=hr)
include h64 in
theorem Ca (hT:lk T (h/4294967296)=none):eG 141 #[bi v,cR k t sec q1 n1 h o s rt ops ky fr too bk,u8 1] [(v,.cl (bU N lim key d rs lg op r p c pp rc rg gn n al) 90),(al,.pr (MU T))] (fz 7):=
 by apply De (need:=1) (h64:=h64) (hT:=hT)
include h64 in
theorem uK (hT:lk T (h/4294967296)=some (bi tn)) (r1 b1:Nat) (hA:lk A (h%4294967296)=some (hV r1 b1)) (hr:(cM 2 r1 != 0)=false):Same 141 #[bi v,cR k t sec q1 n1 h o s rt ops ky fr too bk,u8 2] [(v,.cl (bU N lim key d rs lg op r p c pp rc rg gn n al) 90),(al,.pr (MU T)),(tn,.cl (b9 tt q mb mc rp rc2 rg2 ch hb hc cb sh made) 113),(cb,.cl (cL ca cm) 212),cH ca A] (.tuple #[bi tn,u64 ((h%4294967296:Nat):Int)]):=
 by apply k6 (need:=2) (h64:=h64) (hT:=hT) (hA:=hA) (hr:=hr)
include h64 in
theorem Bp (hT:lk T (h/4294967296)=some (bi tn)) (hA:lk A (h%4294967296)=none):eG 141 #[bi v,cR k t sec q1 n1 h o s rt ops ky fr too bk,u8 2] [(v,.cl (bU N lim key d rs lg op r p c pp rc rg gn n al) 90),(al,.pr (MU T)),(tn,.cl (b9 tt q mb mc rp rc2 rg2 ch hb hc cb sh made) 113),(cb,.cl (cL ca cm) 212),cH ca A] (fz 7):=
 by apply sY (need:=2) (h64:=h64) (hT:=hT) (hA:=hA)
include h64 in
theorem BD (hT:lk T (h/4294967296)=some (bi tn)) (r1 b1:Nat) (hA:lk A (h%4294967296)=some (hV r1 b1)) (hr:(cM 2 r1 != 0)=true):eG 141 #[bi v,cR k t sec q1 n1 h o s rt ops ky fr too bk,u8 2] [(v,.cl (bU N lim key d rs lg op r p c pp rc rg gn n al) 90),(al,.pr (MU T)),(tn,.cl (b9 tt q mb mc rp rc2 rg2 ch hb hc cb sh made) 113),(cb,.cl (cL ca cm) 212),cH ca A] (fz 250):=
 by apply sJ (need:=2) (h64:=h64) (hT:=hT) (hA:=hA) (hr:=hr)
include h64 in
theorem uL (hT:lk T (h/4294967296)=some (bi tn)) (r1 b1:Nat) (hA:lk A (h%4294967296)=some (hV r1 b1)) (hr:(cM 4 r1 != 0)=false):Same 141 #[bi v,cR k t sec q1 n1 h o s rt ops ky fr too bk,u8 4] [(v,.cl (bU N lim key d rs lg op r p c pp rc rg gn n al) 90),(al,.pr (MU T)),(tn,.cl (b9 tt q mb mc rp rc2 rg2 ch hb hc cb sh made) 113),(cb,.cl (cL ca cm) 212),cH ca A] (.tuple #[bi tn,u64 ((h%4294967296:Nat):Int)]):=
 by apply k6 (need:=4) (h64:=h64) (hT:=hT) (hA:=hA) (hr:=hr)
include h64 in
theorem Cj (hT:lk T (h/4294967296)=some (bi tn)) (hA:lk A (h%4294967296)=none):eG 141 #[bi v,cR k t sec q1 n1 h o s rt ops ky fr too bk,u8 4] [(v,.cl (bU N lim key d rs lg op r p c pp rc rg gn n al) 90),(al,.pr (MU T)),(tn,.cl (b9 tt q mb mc rp rc2 rg2 ch hb hc cb sh made) 113),(cb,.cl (cL ca cm) 212),cH ca A] (fz 7):=
 by apply sY (need:=4) (h64:=h64) (hT:=hT) (hA:=hA)
include h64 in
theorem A5 (hT:lk T (h/4294967296)=some (bi tn)) (r1 b1:Nat) (hA:lk A (h%4294967296)=some (hV r1 b1)) (hr:(cM 4 r1 != 0)=true):eG 141 #[bi v,cR k t sec q1 n1 h o s rt ops ky fr too bk,u8 4] [(v,.cl (bU N lim key d rs lg op r p c pp rc rg gn n al) 90),(al,.pr (MU T)),(tn,.cl (b9 tt q mb mc rp rc2 rg2 ch hb hc cb sh made) 113),(cb,.cl (cL ca cm) 212),cH ca A] (fz 250):=
 by apply sJ (need:=4) (h64:=h64) (hT:=hT) (hA:=hA) (hr:=hr)
end
end Go.Proofs.YtlkeemedalncoaaGreat.En
