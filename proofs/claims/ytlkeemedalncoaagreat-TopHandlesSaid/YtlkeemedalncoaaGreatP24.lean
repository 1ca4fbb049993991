/- TopHandles, part 24: no condition. -/
import Derived.Test.YtlkeemedalncoaaGreatP23
set_option linter.all false
set_option maxHeartbeats 16000000
set_option maxRecDepth 100000
namespace Go.Proofs.YtlkeemedalncoaaGreat.En
open Go Go.RowKit Go.Proofs.YtlkeemedalncoaaGreat Go.Proofs.Tryz
section
variable (v N lim:Nat) (key:Vl) (d rs lg:Nat) (op:Bool) (r p c pp rc rg gn n al:Nat)
variable (k t:Nat) (sec:Vl) (q1 n1:Int) (h o s rt:Nat) (ops ky fr too:Vl) (bk:Bool)
variable (tt q mb mc ch hb hc cb sh made tn:Nat)
variable (nf cf kn wt:Nat) (Af:Option Addr) (pi cm lst:Nat) (b1 b2 b3:Nat)
theorem GY (T SH:List (Nat×Vl)) (ao:T.length=1) (af:ShP N SH) (i:t<4294967296) (na nfm:Nat) (F:Vl) (steps:Int) (nn a G H g f:Nat) (b:Bs) (K:List (Nat×Vl)) (M:Nat→Option Pg) (O:KM K M)
 (P:M pp=some ⟨0,1,0,rc,rg,bw (be t 4) b⟩) (z0:1≤b.length) (z3:b.length≤64) (L:bV) (hL:RunsP L) (hn:nf≤50000) (j:¬ bR L pp) (W U D:List Nat) (Q:pp∉W) (R:pp∉U) (S:pp∉D) (V:2≤pp) (Y:pp<N) (l:pp<4294967296) (ap:N≤4096) (z:0<cm)
 (I:List (Nat×Vl)) (pin:Nat→Nat) (hI:PinI I pin) (Z:∀ m,pin m<1000000) (aa:∀ m,pin m=(go SH).count m) :
 TT 119 #[u64 nn,bi b1,bi b2,bi b3] [(b1,.cl [bi v] 32),(b2,.cl (eO k t sec q1 n1 h o s rt ops ky fr too bk) 41),(b3,.cl [bi tn] 106),(v,.cl (bU N lim key d rs lg op r p c pp rc rg gn n al) 90),(al,.pr (MU T)),(tn,.cl (b9 tt q mb mc 0 0 0 ch hb hc cb sh made) 113),(p,.cl (bM d r lg Af nf cf kn wt (some g) (some f) pi cm lst false) 199),(d,.cl (bQ na nfm N F steps) bT),(kn,.pr (MU K)),(a,.fa (PgsF K M)),(G,.fa (bN Af nf cf L)),(g,.pr (MU (bF U))),(sh,.pr (MV SH)),(H,.fa (ShF t SH))]
  [(wt,.pr (MU (bF W))),(f,.pr (MU (bF D))),(pi,.pr (MU I))] (fun x:List (Nat×Vl)=>PinI x fun _=>0) (fun _=>.returned (.agg #[u32 0,u64 0,u16 0,u8 0,u16 gn,i64 ((T.length-1:Nat):Int)]))
  (fun x=>[(wt,.pr (MU (bF (W++[pp])))),(f,.pr (MU (bF (D++[pp])))),(pi,.pr (MU x))]) (fun _=>[]):=by
 refine cJ func119 (by kernel_rfl) fun w0 ho=>iT 12 sh (MV SH) (by kernel_rfl) fun o hm=>?_
 obtain ⟨es,clock,rfl,hes,hnd,hck⟩:=hm
 refine bu [] 1 fun nm=>bj [9999,0,0,3,1,2,5]<|bv (EJ p t) [] []<|zE<|bv dx [] []<|zE<|bj [9999,49152,0,3,0,3,1]<|ef Nat (fun nm1q=>True) 64 (fun nm1q=>[(1,bi b1),(3,bi b3),(5,bi (nm 0)),(6,bi nm1q)]) [.code (cZ f119 6)] (fun nm1q=>[(b1,.cl [bi v] 32),(b2,.cl (eO k t sec q1 n1 h o s rt ops ky fr too bk) 41),(b3,.cl [bi tn] 106),(v,.cl (bU N lim key d rs lg op r p c pp rc rg gn n al) 90),(al,.pr (MU T)),(tn,.cl (b9 tt q mb mc 0 0 0 ch hb hc cb sh made) 113),(p,.cl (bM d r lg Af nf cf kn wt (some g) (some f) pi cm lst false) 199),(d,.cl (bQ na nfm N F steps) 123),(kn,.pr (MU K)),(a,.fa (PgsF K M)),(G,.fa (bN Af nf cf L)),(g,.pr (MU (bF U))),(sh,.ob (Obj.map es clock)),(H,.fa (ShF t SH)),(wt,.pr (MU (bF (W++[pp])))),(f,.pr (MU (bF (D++[pp])))),(pi,.pr (MU I)),(nm 0,.cl [u32 0,u64 0,u16 0,u8 0,u16 0,i64 0] 222),(nm1q,.cl [u32 0,u64 0,u16 0,u8 0] 85)]) ([]) 14 (fun key1=>?_) ?_
 · refine dq 12 16 ?_ ?_
   · refine bv (lu p d r lg Af nf cf kn wt pi cm lst t i na nfm N F steps pp rc rg a G g f b K M O P z0 z3 L hL hn j W U D Q R S V Y l z) [6,7,8,9,10,11] [14,15]<|zE<|dq 15 16 ?_ ?_
     · refine bv (gk 0 0 0) [] []<|ib 5 [18,2,5] 1 _ bt fun nm1=>⟨by kernel_rfl,?_⟩
       exact jT [0,1,2,3,4,5,6,7,8,9,10,11,12,13,14,15,16,17,18] (fun u=>key1 (nm1 0) u trivial)
     · refine bu [] 1 fun nm1=>bv (gk 0 0 0) [] []<|ib 3 [18,2,5] 0 _ bt fun _=>⟨by kernel_rfl,?_⟩
       exact jT [0,1,2,3,4,5,6,7,8,9,10,11,12,13,14,15,16,17,18] (fun u=>key1 (nm1 0) u trivial)
   · refine bu [] 1 fun nm1=>bv (lu p d r lg Af nf cf kn wt pi cm lst t i na nfm N F steps pp rc rg a G g f b K M O P z0 z3 L hL hn j W U D Q R S V Y l z) [6,7,8,9,10,11] [14,15]<|zE<|bv (gk 0 0 0) [] []<|ib 3 [18,2,5] 0 _ bt fun _=>⟨by kernel_rfl,?_⟩
     exact jT [0,1,2,3,4,5,6,7,8,9,10,11,12,13,14,15,16,17,18] (fun u=>key1 (nm1 0) u trivial)
 rintro nm1q u _
 refine bj [2,5]<|xE (fj (t:=111) (kt:=25) (et:=119) underlying111 sh es clock hck) [12] [] fun x _=>zE<|kq (X:=List MapEntry×List (Nat×Vl)) (fun y=>Gone es.toList y.1∧PinV pin y.1 y.2) (fun y=>gM es.toList y.1) 64 (fun y=>[(1,bi b1),(5,bi (nm 0)),(6,bi nm1q),(43,bi x)]) (fun y=>[(b1,.cl [bi v] 32),(b2,.cl (eO k t sec q1 n1 h o s rt ops ky fr too bk) 41),(b3,.cl [bi tn] 106),(v,.cl (bU N lim key d rs lg op r p c pp rc rg gn n al) 90),(al,.pr (MU T)),(tn,.cl (b9 tt q mb mc 0 0 0 ch hb hc cb sh made) 113),(p,.cl (bM d r lg Af nf cf kn wt (some g) (some f) pi cm lst false) 199),(d,.cl (bQ na nfm N F steps) bT),(kn,.pr (MU K)),(a,.fa (PgsF K M)),(G,.fa (bN Af nf cf L)),(g,.pr (MU (bF U))),(sh,.ob (.map es clock)),(H,.fa (ShF t SH)),(wt,.pr (MU (bF (W++[pp])))),(f,.pr (MU (bF (D++[pp])))),(pi,.pr (MU y.2)),(nm 0,.cl [u32 0,u64 0,u16 0,u8 0,u16 0,i64 0] 222),(nm1q,.cl [u32 0,u64 0,u16 0,u8 0] 85),(x,.pr (fW sh es clock y.1))]) ([],I) ⟨Gone.nil _,PinV.nil hI⟩ fun ⟨vs,J1⟩ u J hpre back=>?_
 have hg:Gone es.toList vs:=hpre.1
 have hv:PinV pin vs J1:=hpre.2
 clear hpre
 refine zE<|xE (el 0 x sh es clock vs) [12] [19] fun x1 ⟨hx,hx1⟩=>?_
 rcases x1 with _ | e
 · simp only [Option.toList_none,List.append_nil]
   have ab:=hg.all hnd (hx rfl)
   have ar:PinI J1 fun _=>0:=by
    obtain ⟨q0,hq1,hq2⟩:=hv
    have:q0=fun _=>0:=by
     funext m
     have h1:=hq2 m
     have h2:=(ab.filterMap fun e=>ia e.val).count_eq m
     rw [oT hes] at h2
     have h3:=aa m
     omega
    rw [← this]
    exact hq1
   have B:∀ o,(SB.ob (.map es clock)).ok o→(SB.pr (MV SH)).ok o:=fun o ho=>⟨es,clock,ho,hes,hnd,hck⟩
   clear back ab hg hx hx1
   exact lE 12 sh (.ob (.map es clock)) (.pr (MV SH)) B<|bj [0]<|bj [9999,131072,18,0,3,0,3]<|tE (i64 ↑T.length) [4] [(al,.pr (MU T))] (tf (kt:=37) (et:=106) (T:=88) underlying88 (K:=Nat) (enc:=eK .u32) al T 3)<|bj [9999,17]<|qC 17 (nm 0) (fun z9:Int=>(.cl [u32 0,u64 0,u16 0,u8 0,u16 gn,i64 z9] 222)) (wI ((↑T.length:Int)-1) (List.length T-1))<|rT J1 17
 · simp only [Option.toList_some]
   obtain ⟨he,hnb⟩:=hx1 e rfl
   have ac:=jC he hnb
   have C:=hg.add he hnb
   have A:=C.count (fun e=>ia e.val)
   rw [oT hes] at A
   obtain ⟨ek,ev,eb⟩:=e
   obtain ⟨pr,hp,-,hpk⟩:=o8 hes he
   dsimp only at hpk
   rcases af pr hp with ⟨sch,hsv⟩ | ⟨srp,src,srg,sch,sb,sc,hsv,s2,sN⟩
   · have E:=hpk.trans hsv
     subst E
     exact bj [0]<|rE (eH x sh es clock vs ({key:=ek,val:=fR 0 0 0 sch none 0 0,born:=eb}) he hnd) [12,19]<|bu [20,0,20] 1 fun nm2=>bv (uz v sch) [] []<|zE<|back _ (vs++[_],J1) (List.range 20) ⟨C,hv.skip (tl sch)⟩ ac (by kernel_rfl)
   · have E:=hpk.trans hsv
     subst E
     obtain ⟨q0,hq1,hq2⟩:=hv
     have ad:0<q0 srp:=by
      have h1:=A srp
      have h2:=hq2 srp
      have h3:=aa srp
      rw [List.filterMap_append,List.count_append] at h1
      simp only [List.filterMap_cons,m7,List.filterMap_nil,List.count_cons,List.count_nil,beq_self_eq_true,if_true] at h1
      omega
     have ai:q0 srp<1000000:=by have:=hq2 srp;have:=Z srp;omega
     have ae:srp<4294967296:=by omega
     exact bj [0]<|rE (eH x sh es clock vs ({key:=ek,val:=fR srp src srg sch (pA sb) 1 sc,born:=eb}) he hnd) [12,19]<|bu [20,0,20] 1 fun nm2=>cV (ur v N lim key d rs lg op r p c pp rc rg gn n al nf cf kn wt Af (some g) (some f) pi cm lst false na nfm F steps t srp src srg sch sb sc H J1 q0 hq1 ai ad s2 sN ae) [3,6,7,13] [16] (Views.same (by kernel_rfl) (Views.same (by kernel_rfl) (Views.same (by kernel_rfl) (Views.fact (a:=H) (ShF t SH) (by kernel_rfl) (fun w hw=>hw pr hp srp src srg sch sb sc hsv) Views.nil)))) fun J2 hJ2=>zE<|back _ (vs++[_],J2) (List.range 20) ⟨C,PinV.step hq2 (m7 srp src srg sch _ 1 sc) ad hJ2⟩ ac (by kernel_rfl)
end
section
variable (v N lim:Nat) (key:Vl) (d rs lg:Nat) (op:Bool) (r p c pp rc rg gn n al:Nat)
variable (k t:Nat) (sec:Vl) (q1 n1:Int) (h o s rt:Nat) (ops ky fr too:Vl) (bk:Bool)
variable (tt q mb mc ch hb hc cb sh made tn:Nat)
variable (nf cf kn wt:Nat) (Af:Option Addr) (pi cm lst:Nat)
theorem Gz (u w Q:Nat) (T SH:List (Nat×Vl)) (R:T.length=1) (hT:lk T t=some (bi tn)) (S:ShP N SH) (f:t<4294967296) (na nfm:Nat) (steps:Int) (a U a3 a4 m:Nat) (b:Bs) (K:List (Nat×Vl)) (M:Nat→Option Pg) (y:KM K M) (L:bV) (hL:RunsP L) (W:List Nat) (V:nf≤50000)
 (X:M pp=some ⟨0,1,0,rc,rg,bw (be t 4) b⟩) (z0:1≤b.length) (z3:b.length≤64) (z:¬ bR L pp) (Y:pp∉W) (Z:2≤pp) (aa:pp<N) (A:pp<4294967296) (B:N≤4096) (h8:8≤N)
 (I:List (Nat×Vl)) (pin:Nat→Nat) (hI:PinI I pin) (C:∀ m,pin m<1000000) (ab:∀ m,pin m=(go SH).count m)
 (now firm:List Bs) (ac:now.length=N) (ad:firm.length=N) (D:bP now) (f256:bP firm) (lb Mg:Nat) (lsb:SB) (lv:Vl) (xs:List Vl) (ae:SlE 502 9 Mg xs lv (lb,lsb)) (af:Mg≤800000) (G:List ((Nat×Nat)×Vl)) (Kf:Nat×Nat→Option Bs) (ag:RG G Kf) (hG:G.length≤1000) (hg:cg t (G.map (·.1))=[1]) (gv:Vl) (ah:lk G (t,1)=some gv) (e:Bs) (E:Kf (0,gn)=some e) (ai:32=e.length) (i:gn<65536)
 (aj:∀ m,bR L m→m<N) (ak:(W++[pp]).length≤12) (am:(W++[pp]).Nodup) (an:∀ n∈W++[pp],2≤n∧n<N∧¬ bR L n) (dv:Vl) (fl:Bool) (pu dr:Option Nat) (F:lst≤cm) (aw:cm+1<128) (H:cm<lim) (j:lim<4294967296) :
 TT 110 #[bi v,.func (.func 119) #[] #[bi u,bi w,bi Q],.func (.func 123) #[] #[bi u,bi w]] [(u,.cl [bi v] 32),(w,.cl (eO k t sec q1 n1 h o s rt ops ky fr too bk) 41),(Q,.cl [bi tn] 106),(r,.cl [.map (some m)] 182),(tn,.cl (b9 tt q mb mc 0 0 0 ch hb hc cb sh made) 113),(sh,.pr (MV SH)),(a,.fa (bN Af nf cf L)),(U,.fa (PgsF K M)),(a3,.fa (dw G Kf)),(a4,.fa (ShF t SH))] [(v,.cl (bU N lim key d rs lg op r p c pp rc rg gn n al) 90),(al,.pr (MU T)),(m,.pr (bB eW G)),(p,.cl (bM d r lg Af nf cf kn wt pu dr pi 0 lst fl) 199),(kn,.pr (MU K)),(wt,.pr (MU (bF W))),(pi,.pr (MU I)),(rs,.cl (dc d (lim:Int) (cm:Int) (cm:Int) dv) df),(lg,.cl [lv] 128),(lb,lsb),(d,.cl (bQ na nfm N (.slice none 0 0) steps) bT),(na,.cl (bE now) 166),(nfm,.cl (bE firm) 166)] uT (fun _=>.returned (.tuple #[])) (fun _=>deadL [(v,.cl (bU N lim key d rs lg op r p c pp rc rg gn n al) 90),(al,.pr (MU T)),(m,.pr (bB eW G)),(p,.cl (bM d r lg Af nf cf kn wt pu dr pi 0 lst fl) 199),(kn,.pr (MU K)),(wt,.pr (MU (bF W))),(pi,.pr (MU I)),(rs,.cl (dc d (lim:Int) (cm:Int) (cm:Int) dv) df),(lg,.cl [lv] 128),(lb,lsb),(d,.cl (bQ na nfm N (.slice none 0 0) steps) bT),(na,.cl (bE now) 166),(nfm,.cl (bE firm) 166)]) (fun _=>[(v,.cl (bU N lim key d rs lg op r p (cm+1) 0 0 0 gn (T.length-1) al) 90),(al,.pr (MU (del T t)))]):=by
 have J:([]:List Nat).length≤12:=by simp
 have O:pp∉([]:List Nat):=by simp
 have P:T.length-1<4294967296:=by omega
 have ao:∀ m:Nat,(fun _:Nat=>0) m<1000000:=fun m=>by simp
 have ap:∀ n∈([]:List Nat),2≤n∧n<N∧∃ qq,M n=some qq∧∃ l,Kf (qq.t,qq.g)=some l:=fun n V=>by simp at V
 have aq:0<cm+1:=by omega
 refine dE func110 fun w0 ho=>bu [9999] 1 fun nm=>bj [9999,1187840,23,10,23,10]<|cE (lR p d r rs lg Af nf cf kn wt pu dr pi lst fl na nfm N (.slice none 0 0) steps cm lim dv F H j) [] [13,17,20] fun ⟨x,x1,x2⟩ _=>zE<|bv (mR (u64 ↑(cm+1))) [] []<|bu [26] 1 fun nm1=>cS ⟨.fn (.func 194) #[bi (nm1 0),bi (nm 0)],#[]⟩<|zE<|cE (GY v N lim key d rs lg op r p c pp rc rg gn n al k t sec q1 n1 h o s rt ops ky fr too bk tt q mb mc ch hb hc cb sh made tn nf cf kn wt Af pi (cm+1) (cm+1) u w Q T SH R S f na nfm (.slice none 0 0) x (cm+1) U a a4 x1 x2 b K M y X z0 z3 L hL V z W ([]) ([]) Y O O Z aa A B aq I pin hI C ab) [0,1,2,10,11,4,13,20,14,7,6,24,5,9] [15,25,16] fun x3 hx=>bu [27,26,27,27,27,9999,9999,28] 2 fun nm2=>?_
 refine bj [9999,8314880,23,10,23,10,28]<|vC 43 (fun z9:Int=>(.agg ⟨[u64 ↑(cm+1),u32 0,u64 0,u16 0,u8 0,u16 gn,u32 z9]⟩)) (kd (List.length T-1))<|cE (lM p d r lg rs Af nf cf kn wt (some x2) pi (cm+1) na nfm N x now firm ac ad D f256 B h8 m x1 a3 U a Mg lb lsb lv xs ae af G Kf ag e gn E ai K M y ([]) J ap x3 (fun x ↦ 0) hx ao L hL aj (W++[pp]) ak am an lim (cm+1) cm 0 0 0 (List.length T-1) dv (by omega) (by omega) (by omega) (by omega) (by omega) i P) [3,12,8,24,16,6,7] [13,17,15,14,18,19,20,21,22] fun ⟨⟨x4,x5,x6,x7,x8,x9,x10,x11⟩,x12,x13,x14,x15⟩ ⟨⟨hx1,hx2,hx3,hx4,hx5,hx6⟩,⟨hx7,hx8⟩,hx9⟩=>?_
 try dsimp only at hx1 hx2 hx3 hx4 hx5 hx6 hx7 hx8 hx9
 exact zE<|bv dx [] []<|bj [23,28,10]<|qC 10 v (fun z9:Int=>(.cl [i64 N,u64 lim,.slice none 0 0,key,bi d,bi rs,bi lg,.bool op,bi r,bi p,u64 ↑(cm+1),u32 0,u64 0,u16 0,u8 0,u16 gn,u32 z9,.map (some al)] 90)) (kd (List.length T-1))<|qC 28 (nm2 1) (fun z9:Int=>(.cl [u64 ↑(cm+1),u32 0,u64 0,u16 0,u8 0,u16 gn,u32 z9] 87)) (kd (List.length T-1))<|bv (EY v N lim key d rs lg op r p (cm+1) 0 0 0 gn (List.length T-1) al k t sec q1 n1 h o s rt ops ky fr too bk u w T f m G hG hg gv ah) [0,1,10,3] [12,11]<|zE<|fV<|dG #[bi (nm1 0),bi (nm 0)] #[] [] (o7 (nm1 0) (nm 0)) [26] [] fun _ _=>wu () (.tuple #[]) [10,11] (fN _ 9999)
theorem Fw (T SH:List (Nat×Vl)) (A:T.length=1) (hT:lk T t=some (bi tn)) (B:ShP N SH) (i:t<4294967296) (na nfm:Nat) (steps:Int) (a a2 a3 a4 m:Nat) (b:Bs) (K:List (Nat×Vl)) (M:Nat→Option Pg) (C:KM K M) (L:bV) (hL:RunsP L) (W:List Nat) (hn:nf≤50000)
 (D:M pp=some ⟨0,1,0,rc,rg,bw (be t 4) b⟩) (z0:1≤b.length) (z3:b.length≤64) (j:¬ bR L pp) (E:pp∉W) (F:2≤pp) (H:pp<N) (k:pp<4294967296) (J:N≤4096) (h8:8≤N)
 (I:List (Nat×Vl)) (pin:Nat→Nat) (hI:PinI I pin) (l:∀ m,pin m<1000000) (O:∀ m,pin m=(go SH).count m)
 (now firm:List Bs) (P:now.length=N) (Q:firm.length=N) (u:bP now) (f256:bP firm) (lb Mg:Nat) (lsb:SB) (lv:Vl) (xs:List Vl) (R:SlE 502 9 Mg xs lv (lb,lsb)) (S:Mg≤800000) (G:List ((Nat×Nat)×Vl)) (Kf:Nat×Nat→Option Bs) (U:RG G Kf) (hG:G.length≤1000) (hg:cg t (G.map (·.1))=[1]) (gv:Vl) (V:lk G (t,1)=some gv) (e:Bs) (w:Kf (0,gn)=some e) (X:32=e.length) (f:gn<65536)
 (Y:∀ m,bR L m→m<N) (Z:(W++[pp]).length≤12) (aa:(W++[pp]).Nodup) (ab:∀ n∈W++[pp],2≤n∧n<N∧¬ bR L n) (dv:Vl) (fl:Bool) (pu dr:Option Nat) (x:lst≤cm) (y:cm+1<128) (z:cm<lim) (g:lim<4294967296) :
 TT 10 #[bi v,cR 2 t sec q1 n1 h o s rt ops ky fr too bk] [(r,.cl [.map (some m)] 182),(tn,.cl (b9 tt q mb mc 0 0 0 ch hb hc cb sh made) 113),(sh,.pr (MV SH)),(a,.fa (bN Af nf cf L)),(a2,.fa (PgsF K M)),(a3,.fa (dw G Kf)),(a4,.fa (ShF t SH))] [(v,.cl (bU N lim key d rs lg true r p c pp rc rg gn n al) 90),(al,.pr (MU T)),(m,.pr (bB eW G)),(p,.cl (bM d r lg Af nf cf kn wt pu dr pi 0 lst fl) 199),(kn,.pr (MU K)),(wt,.pr (MU (bF W))),(pi,.pr (MU I)),(rs,.cl (dc d (lim:Int) (cm:Int) (cm:Int) dv) df),(lg,.cl [lv] 128),(lb,lsb),(d,.cl (bQ na nfm N (.slice none 0 0) steps) bT),(na,.cl (bE now) 166),(nfm,.cl (bE firm) 166)] uT (fun _=>.returned (cP 0 0 0 bp bp 0 bp)) (fun _=>deadL [(v,.cl (bU N lim key d rs lg true r p c pp rc rg gn n al) 90),(al,.pr (MU T)),(m,.pr (bB eW G)),(p,.cl (bM d r lg Af nf cf kn wt pu dr pi 0 lst fl) 199),(kn,.pr (MU K)),(wt,.pr (MU (bF W))),(pi,.pr (MU I)),(rs,.cl (dc d (lim:Int) (cm:Int) (cm:Int) dv) df),(lg,.cl [lv] 128),(lb,lsb),(d,.cl (bQ na nfm N (.slice none 0 0) steps) bT),(na,.cl (bE now) 166),(nfm,.cl (bE firm) 166)]) (fun _=>[(v,.cl (bU N lim key d rs lg true r p (cm+1) 0 0 0 gn (T.length-1) al) 90),(al,.pr (MU (del T t)))]):=by
 refine dE func10 fun w0 ho=>bu [9999] 2 fun nm=>bv (ea v N lim key d rs lg true r p c pp rc rg gn n al) [7] []<|bu [0,7,0,22] 1 fun nm1=>cS ⟨.fn (.func 25) #[bi (nm1 0),bi (nm 1)],#[]⟩<|zE<|cS ⟨.fn (.func 26) #[],#[bi v,bi (nm1 0)]⟩<|bj [20]<|bv (Ah v) [] []<|bj [0,0,20]<|eA (args:=#[bi v,.agg ⟨(eO 2 t sec q1 n1 h o s rt ops ky fr too bk)⟩]) func63 ?_
 exact bu [9999,9999,23,24] 3 fun nm2=>bv (ry v N lim key d rs lg true r p c pp rc rg gn n al 2 t sec q1 n1 h o s rt ops ky fr too bk tn T hT) [7,8] []<|bu [26,23] 1 fun nm3=>bv (Gz v N lim key d rs lg true r p c pp rc rg gn n al 2 t sec q1 n1 h o s rt ops ky fr too bk tt q mb mc ch hb hc cb sh made tn nf cf kn wt Af pi cm lst (nm2 0) (nm2 1) (nm3 0) T SH A hT B i na nfm steps a a2 a3 a4 m b K M C L hL W hn D z0 z3 j E F H k J h8 I pin hI l O now firm P Q u f256 lb Mg lsb lv xs R S G Kf U hG hg gv V e w X f Y Z aa ab dv fl pu dr x y z g) [23,24,26,0,1,2,3,4,5,6] [7,8,9,10,11,12,13,14,15,16,17,18,19]<|bj [25,25]<|eC (.agg #[i64 0,u64 0,u64 0,.slice none 0 0,.slice none 0 0,i64 0,.slice none 0 0]) 25<|bj [21]<|fV<|dG #[] #[bi v,bi (nm1 0)] [⟨.fn (.func 25) #[bi (nm1 0),bi (nm 1)],#[]⟩] (gx v (nm1 0)) [] [] fun _ _=>dG #[bi (nm1 0),bi (nm 1)] #[] [] (kZ (nm1 0) (nm 1) .returning) [22] [] fun _ _=>wu () (cP 0 0 0 bp bp 0 bp) [27,28] (fN _ 21)
end
structure VC where
 N:Nat
 lim:Nat
 tt:Nat
 q:Nat
 hcm:Nat
 mark:Bs
 wr:Bs
 vkey:Bs
 rkey:Bs
 tkey:Bs
 Kf:Nat×Nat→Option Bs
structure VC.Ok (c:VC):Prop where
 N8:8≤c.N
 N4:c.N≤4096
 lim:c.lim<4294967296
 tt0:0<c.tt
 tt:c.tt<4294967296
 q1:1≤c.q
 q2:c.q<128
 hcm:c.hcm<128
 mark:16=c.mark.length
 wr:32=c.wr.length
 vkey:32=c.vkey.length
 rkey:32=c.rkey.length
 tkey:16=c.tkey.length
 kf0:c.Kf (0,1)=some c.rkey
 kft:c.Kf (c.tt,1)=some c.tkey
structure VS where
 v:Nat
 al:Nat
 tn:Nat
 cb:Nat
 ca:Nat
 sh:Nat
 r:Nat
 m:Nat
 p:Nat
 kn:Nat
 wt:Nat
 pi:Nat
 rs:Nat
 lg:Nat
 lb:Nat
 d:Nat
 na:Nat
 nfm:Nat
 vk:Nat
 vc:Nat
 mb:Nat
 mc:Nat
 hb:Nat
 hc:Nat
 wb:Nat
 wc:Nat
 cm:Nat
 pp:Nat
 rc:Nat
 rp:Nat
 rc2:Nat
 rg2:Nat
 ch:Nat
 made:Nat
 cct:Nat
 cf:Nat
 nf:Nat
 lst:Nat
 Mg:Nat
 fl:Bool
 steps:Int
 dv:Vl
 lv:Vl
 lsb:SB
 Af:Option Addr
 pu:Option Nat
 dr:Option Nat
 L:bV
 xs:List Vl
 K:List (Nat×Vl)
 M:Nat→Option Pg
 W:List Nat
 I:List (Nat×Vl)
 pin:Nat→Nat
 SH:List (Nat×Vl)
 A:List (Nat×Vl)
 G:List ((Nat×Nat)×Vl)
 now:List Bs
 firm:List Bs
 kk:Bs
 val:Bs
abbrev vH (c:VC) (s:VS):HP:=
 [(s.v,.cl (bU c.N c.lim (.slice (some ⟨s.vk,0,none⟩) 32 s.vc) s.d s.rs s.lg true s.r s.p s.cm s.pp s.rc 1 1 1 s.al) 90),
  (s.al,.pr (bB (eK .u32) [(c.tt,bi s.tn)])),
  (s.tn,.cl (b9 c.tt c.q s.mb s.mc s.rp s.rc2 s.rg2 s.ch s.hb s.hc s.cb s.sh s.made) 113),
  (s.cb,.cl (cL s.ca s.cct) 212),cH s.ca s.A,(s.sh,.pr (bB (eK .u64) s.SH)),
  (s.r,.cl [.map (some s.m)] 182),(s.m,.pr (bB eW s.G)),
  (s.p,.cl (bM s.d s.r s.lg s.Af s.nf s.cf s.kn s.wt s.pu s.dr s.pi 0 s.lst s.fl) 199),
  (s.kn,.pr (bB (eK .u32) s.K)),(s.wt,.pr (bB (eK .u32) (bF s.W))),(s.pi,.pr (bB (eK .u32) s.I)),
  (s.rs,.cl (dc s.d (c.lim:Int) (s.cm:Int) (s.cm:Int) s.dv) df),(s.lg,.cl [s.lv] 128),(s.lb,s.lsb),
  (s.d,.cl (bQ s.na s.nfm c.N (.slice none 0 0) s.steps) bT),(s.na,.cl (bE s.now) 166),(s.nfm,.cl (bE s.firm) 166),
  (0,.fa (bN s.Af s.nf s.cf s.L)),(0,.fa (PgsF s.K s.M)),(0,.fa (dw s.G c.Kf)),
  (0,.fa (CF s.hb 0 (cX 1 c.hcm s.wb s.wc))),(0,.fa (BF (some ⟨s.mb,0,none⟩) 16 s.mc c.mark)),(0,.fa (BF (some ⟨s.wb,0,none⟩) 32 s.wc c.wr)),
  (0,.fa (BF (some ⟨s.vk,0,none⟩) 32 s.vc c.vkey)),(0,.fa (ShF c.tt s.SH))]
theorem Tri.facW {P:Program} {f:FuncId} {args:Array Vl} {HR HW:HP} {X:Type} {φ:X→Prop} {e:X→Ending} {HW' HN:X→HP} {q:Prop} (j a:Nat) (p:World→Prop) (b:HW[j]?=some (a,.fa p)) (c:∀ w,p w→q) (h:q→Tri P f args HR HW φ e HW' HN):Tri P f args HR HW φ e HW' HN:=fun K w ho hk=>
 h (c w (hk.fac (HR.length+j) a p (by rw [List.getElem?_append_right (by omega),Nat.add_sub_cancel_left];exact b)).now) K w ho hk
abbrev qZ (c:VC) (s:VS):Pg:=⟨0,1,0,s.rc,1,bw (be c.tt 4) (bJ c.q s.ch c.mark s.rp s.rc2 s.rg2 0 1 c.hcm c.wr)⟩
def oL (c:VC) (s:VS):Prop:=s.rg2=1∧s.ch=1∧2≤s.rp∧s.rp<c.N∧s.rp≠s.pp∧¬ bR s.L s.rp∧s.rp∉s.W∧s.M s.rp=some ⟨c.tt,1,0,s.rc2,1,bw s.kk s.val⟩∧1≤s.kk.length∧s.kk.length≤32∧1≤s.val.length∧s.val.length≤64
structure VS.Ok (c:VC) (s:VS):Prop where
 km:KM s.K s.M
 rg:RG s.G c.Kf
 gt:cg c.tt (s.G.map (·.1))=[1]
 g0:cg 0 (s.G.map (·.1))=[1]
 runs:RunsP s.L
 cover:∀ m,2≤m→m<c.N→bR s.L m∨m=s.pp∨m=s.rp∨m∈s.W
 rng:∀ m,bR s.L m→2≤m∧m<c.N
 roll:s.M s.pp=some (qZ c s)
 pp2:2≤s.pp
 ppN:s.pp<c.N
 ppL:¬ bR s.L s.pp
 ppW:s.pp∉s.W
 root:(s.rp=0∧s.rc2=0∧s.rg2=0∧s.ch=0)∨oL c s
 wnd:s.W.Nodup
 wp:∀ n∈s.W,2≤n∧n<c.N∧¬ bR s.L n∧s.pin n≠0
 pins:PinI s.I s.pin
 pinc:∀ m,s.pin m=(go s.SH).count m
 shp:ShP c.N s.SH
 now:s.now.length=c.N
 firm:s.firm.length=c.N
 n256:bP s.now
 f256:bP s.firm
 log:SlE 502 9 s.Mg s.xs s.lv (s.lb,s.lsb)
 lst:s.lst≤s.cm
 vc:32≤s.vc
section
variable (c:VC) (s:VS) (h:Nat) (hs:s.Ok c) (hc:c.Ok) (h64:h<18446744073709551616) (hT:h/4294967296=c.tt)
include h64 hT in
theorem F3 (key:Vl) (hA:lk s.A (h%4294967296)=none) :
 TT 10 #[bi s.v,.agg #[i64 12,u32 0,bp,i64 0,i64 0,u64 h,u64 0,u64 0,u8 0,bp,key,bp,bp,.bool false]] [] (vH c s) (fun x:VS=>x=s) (fun _=>.returned (dt 7)) (fun _=>deadL (vH c s)) (fun x=>vH c x):=
 (FL s.v c.N c.lim (.slice (some ⟨s.vk,0,none⟩) 32 s.vc) s.d s.rs s.lg s.r s.p s.cm s.pp s.rc 1 1 1 s.al 0 bp 0 0 h 0 0 0 bp key bp bp false c.tt c.q s.mb s.mc s.rp s.rc2 s.rg2 s.ch s.hb s.hc s.cb s.sh s.made s.ca s.cct s.tn [(c.tt,bi s.tn)] s.A h64 (by rw [hT,cp,if_pos rfl]) hA).lift [0,1,2,3,4] [] (by kernel_rfl) (fun _=>bH) fun _ _=>⟨s,rfl,rfl,List.range 26,by kernel_rfl⟩
include h64 hT in
theorem Ha (key:Vl) (r1 b1:Nat) (hA:lk s.A (h%4294967296)=some (hV r1 b1)) (hr:(cM 1 r1 != 0)=true) :
 TT 10 #[bi s.v,.agg #[i64 12,u32 0,bp,i64 0,i64 0,u64 h,u64 0,u64 0,u8 0,bp,key,bp,bp,.bool false]] [] (vH c s) (fun x:VS=>x=s) (fun _=>.returned (dt 250)) (fun _=>deadL (vH c s)) (fun x=>vH c x):=
 (Hx s.v c.N c.lim (.slice (some ⟨s.vk,0,none⟩) 32 s.vc) s.d s.rs s.lg s.r s.p s.cm s.pp s.rc 1 1 1 s.al 0 bp 0 0 h 0 0 0 bp key bp bp false c.tt c.q s.mb s.mc s.rp s.rc2 s.rg2 s.ch s.hb s.hc s.cb s.sh s.made s.ca s.cct s.tn [(c.tt,bi s.tn)] s.A h64 (by rw [hT,cp,if_pos rfl]) r1 b1 hA hr).lift [0,1,2,3,4] [] (by kernel_rfl) (fun _=>bH) fun _ _=>⟨s,rfl,rfl,List.range 26,by kernel_rfl⟩
include h64 hT in
theorem G1 (ops:Vl) (hA:lk s.A (h%4294967296)=none) :
 TT 10 #[bi s.v,.agg #[i64 11,u32 0,bp,i64 0,i64 0,u64 h,u64 0,u64 0,u8 0,ops,bp,bp,bp,.bool false]] [] (vH c s) (fun x:VS=>x=s) (fun _=>.returned (dt 7)) (fun _=>deadL (vH c s)) (fun x=>vH c x):=
 (Hv s.v c.N c.lim (.slice (some ⟨s.vk,0,none⟩) 32 s.vc) s.d s.rs s.lg s.r s.p s.cm s.pp s.rc 1 1 1 s.al 0 bp 0 0 h 0 0 0 ops bp bp bp false c.tt c.q s.mb s.mc s.rp s.rc2 s.rg2 s.ch s.hb s.hc s.cb s.sh s.made s.ca s.cct s.tn [(c.tt,bi s.tn)] s.A h64 (by rw [hT,cp,if_pos rfl]) hA).lift [0,1,2,3,4] [] (by kernel_rfl) (fun _=>bH) fun _ _=>⟨s,rfl,rfl,List.range 26,by kernel_rfl⟩
include h64 hT in
theorem FC (ops:Vl) (r1 b1:Nat) (hA:lk s.A (h%4294967296)=some (hV r1 b1)) (hr:(cM 2 r1 != 0)=true) :
 TT 10 #[bi s.v,.agg #[i64 11,u32 0,bp,i64 0,i64 0,u64 h,u64 0,u64 0,u8 0,ops,bp,bp,bp,.bool false]] [] (vH c s) (fun x:VS=>x=s) (fun _=>.returned (dt 250)) (fun _=>deadL (vH c s)) (fun x=>vH c x):=
 (Fz s.v c.N c.lim (.slice (some ⟨s.vk,0,none⟩) 32 s.vc) s.d s.rs s.lg s.r s.p s.cm s.pp s.rc 1 1 1 s.al 0 bp 0 0 h 0 0 0 ops bp bp bp false c.tt c.q s.mb s.mc s.rp s.rc2 s.rg2 s.ch s.hb s.hc s.cb s.sh s.made s.ca s.cct s.tn [(c.tt,bi s.tn)] s.A h64 (by rw [hT,cp,if_pos rfl]) r1 b1 hA hr).lift [0,1,2,3,4] [] (by kernel_rfl) (fun _=>bH) fun _ _=>⟨s,rfl,rfl,List.range 26,by kernel_rfl⟩
include h64 hT in
theorem Eo (hA:lk s.A (h%4294967296)=none) :
 TT 10 #[bi s.v,.agg #[i64 14,u32 0,bp,i64 0,i64 0,u64 h,u64 0,u64 0,u8 0,bp,bp,bp,bp,.bool false]] [] (vH c s) (fun x:VS=>x=s) (fun _=>.returned (dt 7)) (fun _=>deadL (vH c s)) (fun x=>vH c x):=
 (EN s.v c.N c.lim (.slice (some ⟨s.vk,0,none⟩) 32 s.vc) s.d s.rs s.lg s.r s.p s.cm s.pp s.rc 1 1 1 s.al 0 bp 0 0 h 0 0 0 bp bp bp bp false c.tt c.q s.mb s.mc s.rp s.rc2 s.rg2 s.ch s.hb s.hc s.cb s.sh s.made s.ca s.cct s.tn [(c.tt,bi s.tn)] s.A h64 (by rw [hT,cp,if_pos rfl]) hA).lift [0,1,2,3,4] [] (by kernel_rfl) (fun _=>bH) fun _ _=>⟨s,rfl,rfl,List.range 26,by kernel_rfl⟩
include h64 hT in
theorem CP (r1 b1:Nat) (hA:lk s.A (h%4294967296)=some (hV r1 b1)) (hr:(cM 4 r1 != 0)=true) :
 TT 10 #[bi s.v,.agg #[i64 14,u32 0,bp,i64 0,i64 0,u64 h,u64 0,u64 0,u8 0,bp,bp,bp,bp,.bool false]] [] (vH c s) (fun x:VS=>x=s) (fun _=>.returned (dt 250)) (fun _=>deadL (vH c s)) (fun x=>vH c x):=
 (Ev s.v c.N c.lim (.slice (some ⟨s.vk,0,none⟩) 32 s.vc) s.d s.rs s.lg s.r s.p s.cm s.pp s.rc 1 1 1 s.al 0 bp 0 0 h 0 0 0 bp bp bp bp false c.tt c.q s.mb s.mc s.rp s.rc2 s.rg2 s.ch s.hb s.hc s.cb s.sh s.made s.ca s.cct s.tn [(c.tt,bi s.tn)] s.A h64 (by rw [hT,cp,if_pos rfl]) r1 b1 hA hr).lift [0,1,2,3,4] [] (by kernel_rfl) (fun _=>bH) fun _ _=>⟨s,rfl,rfl,List.range 26,by kernel_rfl⟩
include hs h64 hT in
theorem ER (a2 qb qo qn qc:Nat) (qq:Bs) (qe:qn=qq.length) (j1:1≤qq.length) (j2:qq.length≤32) (hcmp:s.rp≠0→Lib.compareBytes s.kk qq=1) (r1 b1:Nat) (hA:lk s.A (h%4294967296)=some (hV r1 b1)) (hr:(cM 1 r1 != 0)=false) (hN32:c.N≤4096) :
 TT 10 #[bi s.v,.agg #[i64 12,u32 0,bp,i64 0,i64 0,u64 h,u64 0,u64 0,u8 0,bp,cB qb qo qn qc,bp,bp,.bool false]] [(a2,.fa (BF (pO qb qo) qn qc qq))] (vH c s) (fun x:VS=>x=s) (fun _=>.returned (dt 7)) (fun _=>deadL (vH c s)) (fun x=>vH c x):=by
 rcases hs.root with ⟨e1,e2,e3,-⟩ | ⟨e1,-,e2,e3,-,-,-,e4,k1,k2,v0,v3⟩
 · have D:=Hz s.v c.N c.lim (.slice (some ⟨s.vk,0,none⟩) 32 s.vc) s.d s.rs s.lg s.r s.p s.cm s.pp s.rc 1 1 1 s.al 0 bp 0 0 h 0 0 bp bp bp false c.tt c.q s.mb s.mc s.ch s.hb s.hc s.cb s.sh s.made s.ca s.cct s.tn [(c.tt,bi s.tn)] s.A qb qo qc h64 (by rw [hT,cp,if_pos rfl]) r1 b1 hA hr qn (by omega) (by omega)
   have E:b9 c.tt c.q s.mb s.mc 0 0 0 s.ch s.hb s.hc s.cb s.sh s.made=b9 c.tt c.q s.mb s.mc s.rp s.rc2 s.rg2 s.ch s.hb s.hc s.cb s.sh s.made:=by rw [e1,e2,e3]
   rw [E] at D
   exact D.lift [1,2,3,4,5] [] (by kernel_rfl) (fun _=>bH) fun _ _=>⟨s,rfl,rfl,(List.range 26).map (·+1),by kernel_rfl⟩
 · exact (FJ s.v c.N c.lim (sA s.vk 32 s.vc) s.d s.rs s.lg s.r s.p s.cm s.pp s.rc 1 1 1 s.al 0 bp 0 0 h 0 0 bp bp bp false c.tt c.q s.mb s.mc s.rp s.rc2 s.rg2 s.ch s.hb s.hc s.cb s.sh s.made s.ca s.cct s.tn [(c.tt,bi s.tn)] s.A qb qo qc h64 (by rw [hT,cp,if_pos rfl]) r1 b1 hA hr s.Af s.nf s.cf s.kn s.wt s.pu s.dr s.pi 0 s.lst s.fl s.na s.nfm (.slice none 0 0) s.steps 0 a2 qn s.kk s.val qq qe (hcmp (by omega)) s.K s.M hs.km (by rw [e4,e1]) e2 e3 (by omega) k1 k2 v0 v3 j1 j2).lift [1,2,3,4,5,9,16,10,20,0] [] (by kernel_rfl) (fun _=>bH) fun _ _=>⟨s,rfl,rfl,(List.range 26).map (·+1),by kernel_rfl⟩
end
abbrev VS.setA (s:VS) (ca cct:Nat) (A:List (Nat×Vl)):VS:={s with ca:=ca,cct:=cct,A:=A}
theorem VS.Ok.setA {c:VC} {s:VS} (h:s.Ok c) (ca cct:Nat) (A:List (Nat×Vl)):(s.setA ca cct A).Ok c:=
 ⟨h.km,h.rg,h.gt,h.g0,h.runs,h.cover,h.rng,h.roll,h.pp2,h.ppN,h.ppL,h.ppW,h.root,h.wnd,h.wp,h.pins,h.pinc,h.shp,h.now,h.firm,h.n256,h.f256,h.log,h.lst,h.vc⟩
section
variable (c:VC) (s:VS) (h rt:Nat) (hs:s.Ok c) (hc:c.Ok) (h64:h<18446744073709551616) (hT:h/4294967296=c.tt)
include hc h64 hT in
theorem Fj (r1 b1:Nat) (hA:lk s.A (h%4294967296)=some (hV r1 b1)) (h0:(cM 0 r1 != 0)=false) (h8:¬ bits .and .u8 r1 8=0) (hr:(cM rt r1 != 0)=false) (hl:s.A.length<64) (hm:s.cct<1000000) :
 TT 10 #[bi s.v,.agg #[i64 9,u32 0,bp,i64 0,i64 0,u64 h,u64 0,u64 0,u8 rt,bp,bp,bp,bp,.bool false]] [] (vH c s) (fun x:VS=>x=s.setA s.ca (s.cct+1) (up s.A (s.cct+1) (hV rt (h%4294967296)))) (fun _=>.returned (cP 0 (c.tt*4294967296+(s.cct+1)) 0 bp bp 0 bp)) (fun _=>deadL (vH c s)) (fun x=>vH c x):=
 (DN s.v c.N c.lim (.slice (some ⟨s.vk,0,none⟩) 32 s.vc) s.d s.rs s.lg s.r s.p s.cm s.pp s.rc 1 1 1 s.al 0 bp 0 0 h 0 0 rt bp bp bp bp false c.tt c.q s.mb s.mc s.rp s.rc2 s.rg2 s.ch s.hb s.hc s.cb s.sh s.made s.ca s.cct s.tn [(c.tt,bi s.tn)] s.A h64 (by rw [hT,cp,if_pos rfl]) r1 b1 hA h0 h8 hr hl hm hc.tt).lift [0,1,2] [3,4] (by kernel_rfl) (fun _=>bD (bD bH (fun _=>rfl)) (fun _=>rfl)) fun _ _=>⟨_,rfl,rfl,List.range 26,by kernel_rfl⟩
include h64 hT in
theorem Ew (r1 b1:Nat) (hA:lk s.A (h%4294967296)=some (hV r1 b1)) (h0:(cM 0 r1 != 0)=false) (h8:bits .and .u8 r1 8=0) :
 TT 10 #[bi s.v,.agg #[i64 9,u32 0,bp,i64 0,i64 0,u64 h,u64 0,u64 0,u8 rt,bp,bp,bp,bp,.bool false]] [] (vH c s) (fun x:VS=>x=s) (fun _=>.returned (dt 250)) (fun _=>deadL (vH c s)) (fun x=>vH c x):=
 (Ee s.v c.N c.lim (.slice (some ⟨s.vk,0,none⟩) 32 s.vc) s.d s.rs s.lg s.r s.p s.cm s.pp s.rc 1 1 1 s.al 0 bp 0 0 h 0 0 rt bp bp bp bp false c.tt c.q s.mb s.mc s.rp s.rc2 s.rg2 s.ch s.hb s.hc s.cb s.sh s.made s.ca s.cct s.tn [(c.tt,bi s.tn)] s.A h64 (by rw [hT,cp,if_pos rfl]) r1 b1 hA h0 h8).lift [0,1,2,3,4] [] (by kernel_rfl) (fun _=>bH) fun _ _=>⟨s,rfl,rfl,List.range 26,by kernel_rfl⟩
include hc h64 hT in
theorem Bl (o:Nat) (o64:o<18446744073709551616) (hoh:o/4294967296=h/4294967296) (r0 b0 r1 b1:Nat) (hU:UN s.A) (hHA:lw s.A) (hHB:ku s.A) (hA:lk s.A (h%4294967296)=some (hV r0 b0)) (hv:lk s.A (o%4294967296)=some (hV r1 b1)) (hr0:(cM 0 r0 != 0)=false) (h0:0<h%4294967296) (hv0:0<o%4294967296) (h8:¬ bits .and .u8 r0 8=0) (hbe:h%4294967296=o%4294967296∨gJ s.A (h%4294967296) (o%4294967296+1) (o%4294967296)=true) :
 TT 10 #[bi s.v,.agg #[i64 10,u32 0,bp,i64 0,i64 0,u64 h,u64 o,u64 0,u8 0,bp,bp,bp,bp,.bool false]] [] (vH c s) (fun x:VS=>∃ ca B,x=s.setA ca s.cct B∧UN B∧B.length≤s.A.length∧∀ n,lk B n=if jk s.A (o%4294967296) n=true then none else lk s.A n) (fun _=>.returned (cP 0 0 0 bp bp 0 bp)) (fun _=>deadL (vH c s)) (fun x=>vH c x):=
 (BK s.v c.N c.lim (.slice (some ⟨s.vk,0,none⟩) 32 s.vc) s.d s.rs s.lg s.r s.p s.cm s.pp s.rc 1 1 1 s.al 0 bp 0 0 h o 0 0 bp bp bp bp false c.tt c.q s.mb s.mc s.rp s.rc2 s.rg2 s.ch s.hb s.hc s.cb s.sh s.made s.ca s.cct s.tn [(c.tt,bi s.tn)] s.A h64 o64 hoh (by rw [hT,cp,if_pos rfl]) r0 b0 r1 b1 hU hHA hHB hA hv hr0 h0 hv0 h8 hbe).lift [0,1,2] [3,4] (by kernel_rfl) (fun _=>bD (bD bH (fun _=>rfl)) (fun _=>rfl)) fun x hx=>⟨_,⟨x.1,x.2,rfl,hx⟩,rfl,[0,1,2,3,26]++(List.range 21).map (·+5),by kernel_rfl⟩
end
section
variable (p d r g:Nat) (kn wt:Nat) (pu dr:Option Nat) (pi cm lst:Nat) (fl:Bool)
theorem uf (w:World):bN none 0 0 [] w:=⟨rfl,Nat.le_refl _,Nat.zero_le _,fun h=>absurd h (by decide)⟩
theorem EP (na nfm N:Nat) (u:Vl) (steps:Int) (now:List Bs) (f:now.length=N) (i:bP now) (t n c b a m v kb o e kc:Nat) (pl key:Bs) (j:224=pl.length) (G:List ((Nat×Nat)×Vl)) (q:e=key.length) (z:e=16∨e=32) (A:lk G (t,b)=some (sO kb o e kc)) (K:List (Nat×Vl)) (M:Nat→Option Pg) (k:KM K M) (B:M n=none) (h2:2≤n) (C:n<N) (s:n<4294967296) (y:t<4294967296) (hc:c<18446744073709551616) (l:b<65536) (D:now.getD n []=bI key t 1 0 n c b pl) :
 TT 456 #[bi p,.int .u32 t,u8 1,u8 0,pT n c b] [(p,.cl (bM d r g none 0 0 kn wt pu dr pi cm lst fl) 199),(d,.cl (bQ na nfm N u steps) bT),(na,.cl (bE now) 166),(r,.cl [.map (some m)] 182),(m,.pr (bB eW G)),(v,.fa (BF (pO kb o) e kc key)),(a,.fa (PgsF K M))] [(kn,.pr (MU K))] (fun x:List (Nat×Vl)×Nat×Nat=>KM x.1 (bX M n ⟨t,1,0,c,b,pl⟩)) (fun x=>.returned (.tuple #[sA x.2.1 224 x.2.2,i64 0])) (fun x=>[(kn,.pr (MU x.1))]) (fun x=>[(0,.fa (PgsF x.1 (bX M n ⟨t,1,0,c,b,pl⟩))),(x.2.1,.fa (BF (pA x.2.1) 224 x.2.2 pl))]):=by
 refine (G9 p d r g none 0 0 kn wt pu dr pi cm lst fl na nfm N u steps now f i t 1 0 n c b a m kb o e kc v pl key j q z K (k.no n B) G A [] RunsP.nil (by omega) (by simp [bR]) h2 C s y (by omega) (by omega) (by omega) hc l D).fw rfl (fun w h=>⟨uf w,h.1,trivial⟩) fun x _=>⟨(up K n (tu ⟨t,1,0,c,b,pl⟩ n x.1 224),x.2.1,x.2.2),?_,rfl,rfl,rfl,fun w h h1=>⟨?_,h1.2.1,trivial⟩⟩
 · exact k.up n ⟨t,1,0,c,b,pl⟩ ⟨y,Nat.le_refl 1,by show 1≤3;omega,by show 0<256;omega,hc,l,j⟩ _ _
 · exact h.2.1.up n ⟨t,1,0,c,b,pl⟩ _ _ h1.1
theorem B2 (na nfm N:Nat) (o:Vl) (steps:Int) (now:List Bs) (f:now.length=N) (h:bP now) (t n c e m s kb q b kc:Nat) (key:Bs) (v:b=key.length) (H:b=16∨b=32) (I:b≤kc) (G:List ((Nat×Nat)×Vl)) (J:lk G (t,e)=some (sO kb q b kc)) (K:List (Nat×Vl)) (E:lk K n=none) (a:Nat) (h2:2≤n) (F:n<N) (i:n<4294967296) (L:t<4294967296) (hc:c<18446744073709551616) (y:e<65536) (j:256=(now.getD n []).length) (A:(now.getD n []).take 16=eo 1 0 e c) (k:¬ ee key (cK n c) (d9 t 1 0 e) (List.take (240-16) (List.take 240 (List.drop 16 (now.getD n []))))=List.drop (240-16) (List.take 240 (List.drop 16 (now.getD n [])))) (M:RunsP []) (B:¬ bR [] n) :
 Same 456 #[bi p,.int .u32 t,u8 1,u8 0,pT n c e] [(p,.cl (bM d r g none 0 0 kn wt pu dr pi cm lst fl) 199),(a,.fa (bN none 0 0 [])),(d,.cl (bQ na nfm N o steps) bT),(na,.cl (bE now) 166),(r,.cl [.map (some m)] 182),(m,.pr (bB eW G)),(s,.fa (BF (pO kb q) b kc key)),(kn,.pr (MU K))] (.tuple #[bp,i64 210]):=by
 refine cJ func456 (by kernel_rfl) fun w0 ho=>?_
 have C:0<b:=by omega
 have D:b≤65536:=by omega
 refine bu [9999] 1 fun nm=>bv (iJ p d r g none 0 0 kn wt pu dr pi cm lst fl) [0] []<|bj [0,0,0,0,8]<|bv (jA p d r g none 0 0 kn wt pu dr pi cm lst fl na nfm N o steps n h2 F i) [0,2] []<|bu [0,8,9999,9] 1 fun nm1=>bj [9999,0,0,8]<|ef Nat (fun nm2q=>True) 113 (fun nm2q=>[(0,bi p),(1,u32 t),(9,bi (nm 0)),(10,.slice none 0 0),(11,i64 0),(13,bi (nm1 0)),(14,bi nm2q),(54,.bool !false)]) [.code (cZ f456 27),.code (cZ f456 70)] (fun nm2q=>[(p,.cl (bM d r g none 0 0 kn wt pu dr pi cm lst fl) 199),(a,.fa (bN none 0 0 [])),(d,.cl (bQ na nfm N o steps) 123),(na,.cl (bE now) 166),(r,.cl [.map (some m)] 182),(m,.pr (bB eW G)),(s,.fa (BF (pO kb q) b kc key)),(kn,.pr (MU K)),(nm 0,.cl [u32 n,u64 c,u16 e] 70),(nm1 0,.cl [u32 t,u8 1,u8 0,u32 n,u64 c,u16 e] 72),(nm2q,.cl [u32 0,u8 0,u8 0,u32 0,u64 0,u16 0,.slice none 0 0] 474)]) ([]) 8 (fun key1=>?_) ?_
 · refine dq 6 10 ?_ ?_
   · exact rE (nu (kt:=37) (et:=474) (T:=195) (κ:=.u32) underlying195 underlying37 (z:=.agg #[u32 0,u8 0,u8 0,u32 0,u64 0,u16 0,.slice none 0 0]) (fun w=>by kernel_rfl) kn K n E) [7]<|bu [10] 1 fun nm2=>jT [0,1,2,3,4,5,6,7,8,9,10] (fun u=>key1 (nm2 0) u trivial)
   · exact bu [] 1 fun nm2=>rE (nu (kt:=37) (et:=474) (T:=195) (κ:=.u32) underlying195 underlying37 (z:=.agg #[u32 0,u8 0,u8 0,u32 0,u64 0,u16 0,.slice none 0 0]) (fun w=>by kernel_rfl) kn K n E) [7]<|bj [10]<|jT [0,1,2,3,4,5,6,7,8,9,10] (fun u=>key1 (nm2 0) u trivial)
 rintro nm2q u _
 refine bj [0,8]<|bv (ne p d r g none 0 0 kn wt pu dr pi cm lst fl n a ([]) M (by omega) B) [0,1] []<|bj [0]<|bj [9999,0,0,8,9999]<|vC 66 i64 (nI n)<|cE (jh d na nfm N o steps now f h n F) [2,3] [] fun x _=>bj [0,0]<|bj [9999,0,0,8]<|cE (mn r m t e kb q b kc s key G J v C D) [4,5,6] [] fun ⟨x1,x2⟩ _=>bj [0,0,9]<|gW (t:=166) (l:=List.getD now n []) 11 x 256 j (by first | decide | (simp only [maxLen];omega)) ?_
 exact fP 12 x1 (BF (pA x1) b x2 key) db fun ⟨fl1,fc,fm⟩=>bv (xY x1 0 b x2 x 0 x1 x t 1 0 n c e key (List.getD now n []) H fl1 fc j L (by omega) (by omega) (by omega) i hc y A k) [12,11] []<|bj [0,0]<|rT ()
theorem BJ (na nfm N:Nat) (u:Vl) (steps:Int) (now:List Bs) (f:now.length=N) (h:bP now) (t n c b a m v kb j e kc:Nat) (key val i:Bs) (G:List ((Nat×Nat)×Vl)) (k:e=i.length) (w:e=16∨e=32) (y:lk G (t,b)=some (sO kb j e kc)) (K:List (Nat×Vl)) (M:Nat→Option Pg) (l:KM K M) (z:M n=none) (h2:2≤n) (A:n<N) (o:n<4294967296) (B:t<4294967296) (hc:c<18446744073709551616) (q:b<65536) (s:224=(bw key val).length) (C:now.getD n []=bI i t 1 0 n c b (bw key val)) (k1:1≤key.length) (D:key.length≤32) (E:1≤val.length) (F:val.length≤64) :
 TT 157 #[gV p t,cu n c b] [(p,.cl (bM d r g none 0 0 kn wt pu dr pi cm lst fl) 199),(d,.cl (bQ na nfm N u steps) bT),(na,.cl (bE now) 166),(r,.cl [.map (some m)] 182),(m,.pr (bB eW G)),(v,.fa (BF (pO kb j) e kc i)),(a,.fa (PgsF K M))] [(kn,.pr (MU K))] (fun x:List (Nat×Vl)×o6=>KM x.1 (bX M n ⟨t,1,0,c,b,bw key val⟩)) (fun x=>.returned (.tuple #[jj x.2.1.1 x.2.1.2,i64 0])) (fun x=>[(kn,.pr (MU x.1))])
  (fun x=>[(0,.fa (PgsF x.1 (bX M n ⟨t,1,0,c,b,bw key val⟩))),(x.2.1.1,.pr (bn 265 9 1 x.2.1.2 (cq x.2.2.1.1 key.length x.2.2.1.2 x.2.2.2.1 val.length x.2.2.2.2))),(x.2.2.1.1,.fa (BF (pA x.2.2.1.1) key.length x.2.2.1.2 key)),(x.2.2.2.1,.fa (BF (pA x.2.2.2.1) val.length x.2.2.2.2 val))]):=by
 refine iE func157<|bu [9999,9999,9,0,0,8,8,9,9] 3 fun nm=>cE (EP p d r g kn wt pu dr pi cm lst fl na nfm N u steps now f h t n c b a m v kb j e kc (bw key val) i s G k w y K M l z h2 A o B hc q C) [0,1,2,3,4,5,6] [7] fun ⟨x,x1,x2⟩ hx=>?_
 try dsimp only at hx
 exact bj [0,0]<|fP 12 x1 (BF (pA x1) 224 x2 (bw key val)) db fun ⟨fl1,fc,fm⟩=>cE (mT x1 0 x2 x1 key val fc k1 D E F) [12] [] fun ⟨⟨x3,x4⟩,⟨x5,x6⟩,x7,x8⟩ _=>fE 13 x3 (bn 265 9 1 x4 (cq x5 key.length x6 x7 val.length x8)) bx fun hc1=>bu [16,0,0,16,0,16,9,0,16,0,0,16,10] 1 fun nm1=>rT ((x,(x3,x4),(x5,x6),x7,x8)) 10 [11,13,14,15]
theorem BQ (j:Nat) (na nfm N:Nat) (w:Vl) (steps:Int) (now:List Bs) (h:now.length=N) (i:bP now) (t n c b a m y kb l f kc:Nat) (key val k:Bs) (G:List ((Nat×Nat)×Vl)) (o:f=k.length) (z:f=16∨f=32) (A:lk G (t,b)=some (sO kb l f kc)) (K:List (Nat×Vl)) (M:Nat→Option Pg) (q:KM K M) (B:M n=none) (h2:2≤n) (C:n<N) (s:n<4294967296) (D:t<4294967296) (hc:c<18446744073709551616) (u:b<65536) (v:224=(bw key val).length) (E:now.getD n []=bI k t 1 0 n c b (bw key val)) (k1:1≤key.length) (F:key.length≤32) (H:1≤val.length) (I:val.length≤64) :
 TT 78 #[gV p t,cu n c b,.func (.func 79) #[] #[bi j]] [(p,.cl (bM d r g none 0 0 kn wt pu dr pi cm lst fl) 199),(d,.cl (bQ na nfm N w steps) bT),(na,.cl (bE now) 166),(r,.cl [.map (some m)] 182),(m,.pr (bB eW G)),(y,.fa (BF (pO kb l) f kc k)),(a,.fa (PgsF K M))] [(kn,.pr (MU K)),(j,.cl [bp] 64)] (fun x:List (Nat×Vl)×Nat×Nat=>KM x.1 (bX M n ⟨t,1,0,c,b,bw key val⟩)) (fun _=>.returned (i64 0)) (fun x=>[(kn,.pr (MU x.1)),(j,.cl [ck x.2.1 1 x.2.2] 64)]) (fun x=>[(0,.fa (PgsF x.1 (bX M n ⟨t,1,0,c,b,bw key val⟩))),(x.2.1,.pr (bn 72 6 1 x.2.2 (ga t n c b)))]):=by
 refine iE func78<|bu [9999,9999,9999,10,9999] 3 fun nm=>rE (gS (Operand.tmp 11) (Operand.tmp 12) ((↑n:Int)) ((↑c:Int)) ((↑b:Int)) 0 0 0 0 0 (by omega)) []<|bj [0,9,10]<|cE (BJ p d r g kn wt pu dr pi cm lst fl na nfm N w steps now h i t n c b a m y kb l f kc key val k G o z A K M q B h2 C s D hc u v E k1 F H I) [0,1,2,3,4,5,6] [7] fun ⟨x,⟨x1,x2⟩,⟨x3,x4⟩,x5,x6⟩ hx=>?_
 try dsimp only at hx
 refine fE 13 x1 (bn 265 9 1 x2 (cq x3 key.length x4 x5 val.length x6)) bx fun hc1=>bu [16,0,0,11,9,16,10,10,9999] 1 fun nm1=>cE (zS t n c b j) [] [8] fun ⟨x7,x8⟩ _=>fE 17 x7 (bn 72 6 1 x8 (ga t n c b)) bx fun hc2=>bj [16,3,0,0,9999]<|rE (er (T:=265) underlying265 (e:=265) x1 0 9 1 x2 9 (cq x3 key.length x4 x5 val.length x6) (by (simp;done))) [13]<|bu [] 1 fun nm2=>vE 41 (.agg ⟨List.take 9 (List.drop 0 (cq x3 key.length x4 x5 val.length x6))⟩) (.agg ⟨[sA x3 key.length x4,sA x5 val.length x6,i64 0,u32 0,u64 0,u16 0,u32 0,u64 0,u16 0]⟩) (by rfl)<|bj [18,10,0,0,9,18]<|bv (ou p t (.func (Fn.func 160) ⟨[]⟩ ⟨[bi (nm 2),bi (nm 0)]⟩)) [] []<|bj [0,0,0,0] ?_
 exact rT ((x,x7,x8)) 9999 [12,17]
theorem Fp (na nfm N:Nat) (u:Vl) (steps:Int) (now:List Bs) (f:now.length=N) (h:bP now) (t n c b a m v kb j e kc:Nat) (key val i:Bs) (G:List ((Nat×Nat)×Vl)) (k:e=i.length) (w:e=16∨e=32) (y:lk G (t,b)=some (sO kb j e kc)) (K:List (Nat×Vl)) (M:Nat→Option Pg) (l:KM K M) (z:M n=none) (h2:2≤n) (A:n<N) (o:n<4294967296) (B:t<4294967296) (hc:c<18446744073709551616) (q:b<65536) (s:224=(bw key val).length) (C:now.getD n []=bI i t 1 0 n c b (bw key val)) (k1:1≤key.length) (D:key.length≤32) (E:1≤val.length) (F:val.length≤64) :
 TT 35 #[dN p,.int .u32 t,cu n c b] [(p,.cl (bM d r g none 0 0 kn wt pu dr pi cm lst fl) 199),(d,.cl (bQ na nfm N u steps) bT),(na,.cl (bE now) 166),(r,.cl [.map (some m)] 182),(m,.pr (bB eW G)),(v,.fa (BF (pO kb j) e kc i)),(a,.fa (PgsF K M))] [(kn,.pr (MU K))] (fun x:List (Nat×Vl)×Nat×Nat=>KM x.1 (bX M n ⟨t,1,0,c,b,bw key val⟩)) (fun x=>.returned (.tuple #[ck x.2.1 1 x.2.2,i64 0])) (fun x=>[(kn,.pr (MU x.1))]) (fun x=>[(0,.fa (PgsF x.1 (bX M n ⟨t,1,0,c,b,bw key val⟩))),(x.2.1,.pr (bn 72 6 1 x.2.2 (ga t n c b)))]):=by
 refine iE func35<|bu [9999,0,0,9999,8] 2 fun nm=>cE (BQ p d r g kn wt pu dr pi cm lst fl (nm 1) na nfm N u steps now f h t n c b a m v kb j e kc key val i G k w y K M l z h2 A o B hc q s C k1 D E F) [0,1,2,3,4,5,6] [7,9] fun ⟨x,x1,x2⟩ hx=>?_
 try dsimp only at hx
 exact fE 11 x1 (bn 72 6 1 x2 (ga t n c b)) bx fun hc1=>bj [0,0,9]<|rT ((x,x1,x2)) 9999 [10,11]
theorem Bw (na nfm N:Nat) (w:Vl) (steps:Int) (now:List Bs) (f:now.length=N) (h:bP now) (t n c e m x kb j b kc:Nat) (key:Bs) (k:b=key.length) (y:b=16∨b=32) (l:b≤kc) (G:List ((Nat×Nat)×Vl)) (z:lk G (t,e)=some (sO kb j b kc)) (K:List (Nat×Vl)) (A:lk K n=none) (a:Nat) (h2:2≤n) (B:n<N) (o:n<4294967296) (C:t<4294967296) (hc:c<18446744073709551616) (q:e<65536) (s:256=(now.getD n []).length) (u:(now.getD n []).take 16=eo 1 0 e c) (i:¬ ee key (cK n c) (d9 t 1 0 e) (List.take (240-16) (List.take 240 (List.drop 16 (now.getD n []))))=List.drop (240-16) (List.take 240 (List.drop 16 (now.getD n [])))) (D:RunsP []) (v:¬ bR [] n):Same 157 #[gV p t,cu n c e] [(p,.cl (bM d r g none 0 0 kn wt pu dr pi cm lst fl) 199),(a,.fa (bN none 0 0 [])),(d,.cl (bQ na nfm N w steps) bT),(na,.cl (bE now) 166),(r,.cl [.map (some m)] 182),(m,.pr (bB eW G)),(x,.fa (BF (pO kb j) b kc key)),(kn,.pr (MU K))] (.tuple #[.agg #[u8 0,u8 0,bp],i64 210]):=iE func157<|bu [9999,9999,9,0,0,8,8,9,9] 3 fun nm=>bv (B2 p d r g kn wt pu dr pi cm lst fl na nfm N w steps now f h t n c e m x kb j b kc key k y l G z K A a h2 B o C hc q s u i D v) [0,1,2,3,4,5,6,7] []<|bj [0,0,9999,10]<|rT () 10
theorem CB (y:Nat) (na nfm N:Nat) (w:Vl) (steps:Int) (now:List Bs) (f:now.length=N) (h:bP now) (t n c b m x kb j e kc:Nat) (key:Bs) (k:e=key.length) (z:e=16∨e=32) (l:e≤kc) (G:List ((Nat×Nat)×Vl)) (A:lk G (t,b)=some (sO kb j e kc)) (K:List (Nat×Vl)) (B:lk K n=none) (a:Nat) (h2:2≤n) (C:n<N) (o:n<4294967296) (D:t<4294967296) (hc:c<18446744073709551616) (q:b<65536) (s:256=(now.getD n []).length) (u:(now.getD n []).take 16=eo 1 0 b c) (i:¬ ee key (cK n c) (d9 t 1 0 b) (List.take (240-16) (List.take 240 (List.drop 16 (now.getD n []))))=List.drop (240-16) (List.take 240 (List.drop 16 (now.getD n [])))) (E:RunsP []) (v:¬ bR [] n):Same 78 #[gV p t,cu n c b,.func (.func 79) #[] #[bi y]] [(p,.cl (bM d r g none 0 0 kn wt pu dr pi cm lst fl) 199),(a,.fa (bN none 0 0 [])),(d,.cl (bQ na nfm N w steps) bT),(na,.cl (bE now) 166),(r,.cl [.map (some m)] 182),(m,.pr (bB eW G)),(x,.fa (BF (pO kb j) e kc key)),(kn,.pr (MU K))] (i64 210):=iE func78<|bu [9999,9999,9999,9,9999] 3 fun nm=>rE (gS (Operand.tmp 11) (Operand.tmp 12) ((↑n:Int)) ((↑c:Int)) ((↑b:Int)) 0 0 0 0 0 (by omega)) []<|bj [0,8,9]<|bv (Bw p d r g kn wt pu dr pi cm lst fl na nfm N w steps now f h t n c b m x kb j e kc key k z l G A K B a h2 C o D hc q s u i E v) [0,1,2,3,4,5,6,7] []<|bu [11,0,0] 1 fun nm1=>rT ()
theorem Ea (na nfm N:Nat) (w:Vl) (steps:Int) (now:List Bs) (f:now.length=N) (h:bP now) (t n c e m x kb j b kc:Nat) (key:Bs) (k:b=key.length) (y:b=16∨b=32) (l:b≤kc) (G:List ((Nat×Nat)×Vl)) (z:lk G (t,e)=some (sO kb j b kc)) (K:List (Nat×Vl)) (A:lk K n=none) (a:Nat) (h2:2≤n) (B:n<N) (o:n<4294967296) (C:t<4294967296) (hc:c<18446744073709551616) (q:e<65536) (s:256=(now.getD n []).length) (u:(now.getD n []).take 16=eo 1 0 e c) (i:¬ ee key (cK n c) (d9 t 1 0 e) (List.take (240-16) (List.take 240 (List.drop 16 (now.getD n []))))=List.drop (240-16) (List.take 240 (List.drop 16 (now.getD n [])))) (D:RunsP []) (v:¬ bR [] n):Same 35 #[dN p,.int .u32 t,cu n c e] [(p,.cl (bM d r g none 0 0 kn wt pu dr pi cm lst fl) 199),(a,.fa (bN none 0 0 [])),(d,.cl (bQ na nfm N w steps) bT),(na,.cl (bE now) 166),(r,.cl [.map (some m)] 182),(m,.pr (bB eW G)),(x,.fa (BF (pO kb j) b kc key)),(kn,.pr (MU K))] (.tuple #[bp,i64 210]):=iE func35<|bu [9999,0,0,9999,8] 2 fun nm=>bv (CB p d r g kn wt pu dr pi cm lst fl (nm 1) na nfm N w steps now f h t n c e m x kb j b kc key k y l G z K A a h2 B o C hc q s u i D v) [0,1,2,3,4,5,6,7] []<|bj [0,0]<|rT ()
end
theorem Dz:RunTri prog (vS (Instr.makeSlice 158 (i64 0) (i64 0))) [] [] (fun _:Nat=>True) (fun b=>sA b 0 0) (fun _=>[]) (fun b=>[(b,.cl ([]:List Vl) 70)]):=by
 intro w ho
 have hr:(Instr.makeSlice 158 (i64 0) (i64 0)).run prog w = .ok (sA w.heap.size 0 0) (w.alloc (.cells ([]:List Vl).toArray 70 (0,0))):=by kernel_rfl
 refine ⟨_,_,⟨w.heap.size,trivial,.inl rfl,iG (w1:=w) (s:=.cl ([]:List Vl) 70) (o:=.cells ([]:List Vl).toArray 70 (0,0)) ho rfl rfl [] bH (fun k b s hk hs=>by simp at hk),jw (w1:=w) (w:=w) rfl ⟨rfl,rfl,rfl⟩ _,fun b hb=>?_⟩,ce hr⟩
 simp [lv,SB.live] at hb
 exact .inl (by omega)
theorem E8:RunTri prog (vS (Instr.makeSlice 158 (i64 2) (i64 2))) [] [] (fun _:Nat=>True) (fun b=>sA b 2 2) (fun _=>[]) (fun b=>[(b,.cl [u32 0,u64 0,u16 0,u32 0,u64 0,u16 0] 70)]):=by
 intro w ho
 have hr:(Instr.makeSlice 158 (i64 2) (i64 2)).run prog w = .ok (sA w.heap.size 2 2) (w.alloc (.cells [u32 0,u64 0,u16 0,u32 0,u64 0,u16 0].toArray 70 (0,0))):=by kernel_rfl
 refine ⟨_,_,⟨w.heap.size,trivial,.inl rfl,iG (w1:=w) (s:=.cl [u32 0,u64 0,u16 0,u32 0,u64 0,u16 0] 70) (o:=.cells [u32 0,u64 0,u16 0,u32 0,u64 0,u16 0].toArray 70 (0,0)) ho rfl rfl [] bH (fun k b s hk hs=>by simp at hk),jw (w1:=w) (w:=w) rfl ⟨rfl,rfl,rfl⟩ _,fun b hb=>?_⟩,ce hr⟩
 simp [lv,SB.live] at hb
 exact .inl (by omega)
section
variable (d rs r:Nat)
theorem A9 (b a:Int) (dv:Vl):Same 52 #[bi d,bi rs,bi r] [(rs,.cl (dc d b a 0 dv) df)] (.tuple #[.agg #[u64 0,u32 0,u64 0,u16 0,u8 0,u16 0,u32 0],i64 0]):=iE func52<|bu [0,0,0,0] 1 fun nm=>bv (my rs d b a 0 dv) [0] []<|bj [0,0,9999,1]<|rT () 1
theorem Cp (b a:Int) (dv:Vl) (na nfm N:Nat) (s:Vl) (steps:Int) (now:List Bs) (f:now.length=N) (h:bP now) (A:8≤N) (m u c pp rc rg g n kb j kc:Nat) (key:Bs) (l:List ((Nat×Nat)×Vl)) (i:lk l (0,g)=some (sO kb j 32 kc)) (k:32=key.length) (h0:0<c) (hc:c<4294967296) (v:pp<4294967296) (o:rc<18446744073709551616) (p:rg<65536) (w:g<65536) (y:n<4294967296) (z:now.getD (c%2) []=bI key 0 4 0 (c%2) c g (bO c pp rc rg 0 g n)) (e:256=(bI key 0 4 0 (c%2) c g (bO c pp rc rg 0 g n)).length) :
 Same 52 #[bi d,bi rs,bi r] [(rs,.cl (dc d b a (c:Int) dv) df),(d,.cl (bQ na nfm N s steps) bT),(na,.cl (bE now) 166),(r,.cl [.map (some m)] 182),(m,.pr (bB eW l)),(u,.fa (BF (pO kb j) 32 kc key))] (.tuple #[kX c pp rc rg 0 g n,i64 0]):=by
 refine cJ func52 (by kernel_rfl) fun w0 ho=>?_
 have q:c%2<N:=by omega
 refine bu [0,0,0,0] 1 fun nm=>bv (my rs d b a ((↑c:Int)) dv) [0] []<|bK [2,0,9999] (br (tF ((↑c:Int)==0)) bt)<|vC 34 i64 (show IntKind.wrap .i64 (Int.tmod (↑c:Int) 2)=(↑(c%2):Int) from (di (ox)))<|cE (jh d na nfm N s steps now f h (c%2) q) [1,2] [] fun x _=>bj [0,0]<|vC 44 i64 (show IntKind.wrap .i64 (Int.tmod (↑c:Int) 2)=(↑(c%2):Int) from (di (ox)))<|qE 7 x (.cl (List.map B8 (List.getD now (c%2) [])) 166) (.cl (List.map B8 (bI key 0 4 0 (c%2) c g (bO c pp rc rg 0 g n))) 166) (by rw [z];try rfl)<|gW (t:=166) (l:=bI key 0 4 0 (c%2) c g (bO c pp rc rg 0 g n)) 7 x 256 e (by first | decide | (simp only [maxLen];omega))<|bv (FP r m x 0 u x c pp rc rg g n kb j kc key l i k h0 hc v o p w y) [3,4,5,7] []<|fe [8,0,8,2,0,8,6] 1 _ (br (show ((↑c:Int) != (↑c:Int))=false by (simp;done)) bt) fun nm1=>⟨by kernel_rfl,?_⟩
 exact rT () 6
theorem zg (a:Int) (dv:Vl):Same 52 #[bi d,bi rs,bi r] [(rs,.cl (dc d a 0 0 dv) df)] (.tuple #[.agg #[u64 0,u32 0,u64 0,u16 0,u8 0,u16 0,u32 0],i64 0]):=A9 d rs r a 0 dv
end
section
variable (r m:Nat) (l:List ((Nat×Nat)×Vl))
theorem l7 (a:l.length≤1000) (b:cg 0 (l.map (·.1))=[]) :
 TT 48 #[bi r,u32 0] [(r,.cl [.map (some m)] 182),(m,.pr (bB eW l))] [] (fun _:Option Addr×Nat=>True) (fun x=>.returned (.slice x.1 0 x.2)) (fun _=>[]) (fun _=>[]):=Cr r m 0 l a b
theorem zw (a:l.length≤1000) (b:cg 0 (l.map (·.1))=[1]) :
 TT 48 #[bi r,u32 0] [(r,.cl [.map (some m)] 182),(m,.pr (bB eW l))] [] (fun _:Nat×Nat=>True) (fun x=>.returned (sA x.1 1 x.2)) (fun _=>[]) (fun x=>[(x.1,.pr (bn 68 1 1 x.2 [u16 1]))]):=uu r m 0 1 l a b
theorem mZ (kb b kc a:Nat) (key:Bs) (h:lk l (0,1)=none) (c:32=key.length) :
 TT 49 #[bi r,u32 0,u16 1,sO kb b 32 kc] [(r,.cl [.map (some m)] 182),(a,.fa (BF (pO kb b) 32 kc key))] [(m,.pr (bB eW l))] (fun _:Nat×Nat=>True) (fun x=>.returned (i64 0)) (fun x=>[(m,.pr (bB eW (up l (0,1) (sA x.1 32 x.2))))]) (fun x=>[(x.1,.fa (BF (pA x.1) 32 x.2 key))]):=
 Ar r m 0 1 kb b 32 kc a key l h c (.inr rfl)
theorem sk (kb b kc a:Nat) (key:Bs) (h:lk l (0,1)=some (sO kb b 32 kc)) (c:32=key.length) :
 TT 58 #[bi r,u32 0,u16 1] [(r,.cl [.map (some m)] 182),(m,.pr (bB eW l)),(a,.fa (BF (pO kb b) 32 kc key))] [] (fun _:Nat×Nat=>True) (fun x=>.returned (.tuple #[sA x.1 32 x.2,i64 0])) (fun _=>[]) (fun x=>[(x.1,.fa (BF (pA x.1) 32 x.2 key))]):=
 mn r m 0 1 kb b 32 kc a key l h c
theorem Cl (p:Nat):Same 35 #[dN p,u32 0,cu 0 0 0] [] (.tuple #[bp,i64 0]):=pe p 0
end
end Go.Proofs.YtlkeemedalncoaaGreat.En
