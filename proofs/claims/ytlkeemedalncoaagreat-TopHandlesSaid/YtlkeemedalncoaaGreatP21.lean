/- TopHandles, part 21: no condition. -/
import Derived.Test.YtlkeemedalncoaaGreatP20
set_option linter.all false
set_option maxHeartbeats 16000000
set_option maxRecDepth 100000
namespace Go.Proofs.YtlkeemedalncoaaGreat.En
open Go Go.RowKit Go.Proofs.YtlkeemedalncoaaGreat Go.Proofs.Tryz
theorem FD (p d r g:Nat) (Af:Option Addr) (nf cf kn wt:Nat) (pu dr:Option Nat) (pi cm lst:Nat) (fl:Bool) (na nfm N:Nat) (b:Vl) (steps:Int) (n c e:Nat) (I:List (Nat×Vl)) (pin:Nat→Nat) (h:PinI I pin) (i:pin n<1000000) (h2:2≤n) (f:n<N) (a:n<4294967296) :
 TT 155 #[bi p,.agg #[.int .u32 n,.int .u64 c,.int .u16 e]] [(p,.cl (bM d r g Af nf cf kn wt pu dr pi cm lst fl) 199),(d,.cl (bQ na nfm N b steps) bT)] [(pi,.pr (MU I))] uT (fun _=>.returned (i64 0)) (fun _=>[(pi,.pr (MU (up I n (i64 ((pin n+1:Nat):Int)))))]) (fun _=>[]):=by
 rcases h n with ⟨h1,h3⟩ | h1
 · rw [h3]
   exact Cy (p:=p) (d:=d) (r:=r) (g:=g) (Af:=Af) (nf:=nf) (cf:=cf) (kn:=kn) (wt:=wt) (pu:=pu) (dr:=dr) (pi:=pi) (cm:=cm) (lst:=lst) (fl:=fl) na nfm N b steps n c e I h1 h2 f a
 · exact DW (p:=p) (d:=d) (r:=r) (g:=g) (Af:=Af) (nf:=nf) (cf:=cf) (kn:=kn) (wt:=wt) (pu:=pu) (dr:=dr) (pi:=pi) (cm:=cm) (lst:=lst) (fl:=fl) na nfm N b steps n c e (pin n) i I h1 h2 f a
section
variable (v N lim:Nat) (key:Vl) (d rs lg:Nat) (op:Bool) (r p c pp rc rg gn n al:Nat)
variable (k t:Nat) (sec:Vl) (q1 n1:Int) (h o s rt:Nat) (ops ky fr too:Vl) (bk:Bool)
variable (tt q mb mc rp rc2 rg2 ch hb hc cb sh made ca cct tn:Nat) (T A SH:List (Nat×Vl))
variable (nf cf kn wt:Nat) (Af:Option Addr) (pu dr:Option Nat) (pi cm lst:Nat) (fl:Bool)
theorem Fd (h64:h<18446744073709551616) (hT:lk T (h/4294967296)=some (bi tn)) (w B:Nat) (hA:lk A (h%4294967296)=some (hV w B)) (hr:(cM 4 w != 0)=false) (g:SH.length≤19) (i:kA SH) (C:q<2147483648) (H:ch+(dV SH+ch+1)≤q) (J:made<1000000)
 (na nfm:Nat) (f:Vl) (steps:Int) (a:Nat) (kk val:Bs) (K:List (Nat×Vl)) (M:Nat→Option Pg) (j:KM K M) (D:M rp=some ⟨tt,1,0,rc2,rg2,bw kk val⟩) (h2:2≤rp) (y:rp<N) (b:rp<4294967296) (k1:1≤kk.length) (E:kk.length≤32) (F:1≤val.length) (G:val.length≤64) (I:List (Nat×Vl)) (pin:Nat→Nat) (L:PinI I pin) (l:pin rp<1000000) :
 TT 75 #[bi v,cR k t sec q1 n1 h o s rt ops ky fr too bk] [(v,.cl (bU N lim key d rs lg op r p c pp rc rg gn n al) 90),(al,.pr (MU T)),(cb,.cl (cL ca cct) 212),cH ca A,(p,.cl (bM d r lg Af nf cf kn wt pu dr pi cm lst fl) 199),(d,.cl (bQ na nfm N f steps) bT),(kn,.pr (MU K)),(a,.fa (PgsF K M))] [(tn,.cl (b9 tt q mb mc rp rc2 rg2 ch hb hc cb sh made) 113),(sh,.pr (MV SH)),(pi,.pr (MU I))] (fun _:Nat×Nat=>True) (fun _=>.returned (cP 0 0 (made+1) bp bp 0 bp))
  (fun x=>[(tn,.cl (b9 tt q mb mc rp rc2 rg2 ch hb hc cb sh (made+1)) 113),(sh,.pr (MV (up SH (made+1) (fR rp rc2 rg2 ch (pA x.1) 1 x.2)))),(pi,.pr (MU (up I rp (i64 ((pin rp+1:Nat):Int)))))]) (fun x=>[(x.1,.pr (bn 72 6 1 x.2 (ga tt rp rc2 rg2)))]):=by
 have m:SH.length≤20:=by omega
 refine iE func75<|bu [9999,11] 2 fun nm=>bv (uL v N lim key d rs lg op r p c pp rc rg gn n al k t sec q1 n1 h o s rt ops ky fr too bk tt q mb mc rp rc2 rg2 ch hb hc cb sh made ca cct tn T A h64 hT w B hA hr) [0,1,8,2,3] []<|bu [8,13] 1 fun nm1=>bj [9999,0,13,13,13]<|ef (Nat×Nat×SB) (fun ⟨nm2q,x6,x7⟩=>True) 88 (fun ⟨nm2q,x6,x7⟩=>[(0,bi v),(4,bi (nm 1)),(5,bi tn),(7,bi (nm1 0)),(31,.bool (decide (ch+(dV SH+ch+1)>q)))]) [.code (cZ f75 9),.code (cZ f75 12)] (fun ⟨nm2q,x6,x7⟩=>[(v,.cl (bU N lim key d rs lg op r p c pp rc rg gn n al) 90),(al,.pr (MU T)),(cb,.cl [.map (some ca),u64 cct] 212),(ca,.pr (MV A)),(p,.cl (bM d r lg Af nf cf kn wt pu dr pi cm lst fl) 199),(d,.cl (bQ na nfm N f steps) 123),(kn,.pr (MU K)),(a,.fa (PgsF K M)),(tn,.cl (b9 tt q mb mc rp rc2 rg2 ch hb hc cb sh made) 113),(sh,.pr (MV SH)),(pi,.pr (MU I)),(nm 0,.cl (eO k t sec q1 n1 h o s rt ops ky fr too bk) 41),(nm 1,.cl [i64 0,u64 0,u64 0,.slice none 0 0,.slice none 0 0,i64 0,.slice none 0 0] 47),(nm1 0,.cl [u32 tt,i64 q,sA mb 16 mc,u32 rp,u64 rc2,u16 rg2,u8 0,i64 ch,sA hb 1 hc] 109),(nm2q,.cl [i64 ch] 3),(x6,x7)]) ([]) 8 (fun key1=>?_) ?_
 · refine dq 5 8 ?_ ?_
   · refine cE (i9 tt q mb mc rp rc2 rg2 ch hb hc cb sh made tn SH m i) [8,9] [] fun ⟨x,x1,x2,x3⟩ ⟨⟨hx,hx1⟩,hx2⟩=>?_
     try dsimp only at hx hx1 hx2
     refine bu [9999] 1 fun nm2=>iI (j0 (t:=23) (e:=3) (ty:=23) (k:=1) (by_:=8) (z:=i64 0) underlying23 x1 x2 x3 x.length (List.map iV x) hx2 (nm2 0) 1 1 ([i64 ch])) [15] [14] (Views.less (.cl [i64 ch] 3) bA Views.nil) fun ⟨x4,x5,x6,x7⟩ hx3=>?_
     try dsimp only at hx3
     exact zE<|bv (oO q ch ch x6 (dV SH) SH.length x7 (.slice x4 (List.length x+1) x5) C x hx3 hx hx1 g) [16] []<|zE<|jT [0,1,2,3,4,5,6,7,8,9,10,11,12,13,15,16] (fun u=>key1 (nm2 0,x6,x7) u trivial)
   · refine bu [9999] 1 fun nm2=>cE (i9 tt q mb mc rp rc2 rg2 ch hb hc cb sh made tn SH m i) [8,9] [] fun ⟨x,x1,x2,x3⟩ ⟨⟨hx,hx1⟩,hx2⟩=>?_
     try dsimp only at hx hx1 hx2
     refine zE<|iI (j0 (t:=23) (e:=3) (ty:=23) (k:=1) (by_:=8) (z:=i64 0) underlying23 x1 x2 x3 x.length (List.map iV x) hx2 (nm2 0) 1 1 ([i64 ch])) [14] [15] (Views.less (.cl [i64 ch] 3) bA Views.nil) fun ⟨x4,x5,x6,x7⟩ hx3=>?_
     try dsimp only at hx3
     exact zE<|bv (oO q ch ch x6 (dV SH) SH.length x7 (.slice x4 (List.length x+1) x5) C x hx3 hx hx1 g) [16] []<|zE<|jT [0,1,2,3,4,5,6,7,8,9,10,11,12,13,14,16] (fun u=>key1 (nm2 0,x6,x7) u trivial)
 rintro ⟨nm2q,x6,x7⟩ u _
 refine bK [2] (br (dF (ch+(dV SH+ch+1)>q)) bt)<|bj [9999,0,13,13,0,13,13]<|ef (Nat×Nat×Nat) (fun ⟨x8,x9,nm3q⟩=>True) 88 (fun ⟨x8,x9,nm3q⟩=>[(0,bi v),(4,bi (nm 1)),(5,bi tn),(8,bi nm3q),(52,sA x8 1 x9),(53,i64 1),(54,i64 0)]) [.code (cZ f75 18),.blk 0,.code (cZ f75 31)] (fun ⟨x8,x9,nm3q⟩=>[(v,.cl (bU N lim key d rs lg op r p c pp rc rg gn n al) 90),(al,.pr (MU T)),(cb,.cl [.map (some ca),u64 cct] 212),(ca,.pr (MV A)),(p,.cl (bM d r lg Af nf cf kn wt pu dr pi cm lst fl) 199),(d,.cl (bQ na nfm N f steps) 123),(kn,.pr (MU K)),(a,.fa (PgsF K M)),(tn,.cl (b9 tt q mb mc rp rc2 rg2 ch hb hc cb sh made) 113),(sh,.pr (MV SH)),(pi,.pr (MU I)),(nm 0,.cl (eO k t sec q1 n1 h o s rt ops ky fr too bk) 41),(nm 1,.cl [i64 0,u64 0,u64 0,.slice none 0 0,.slice none 0 0,i64 0,.slice none 0 0] 47),(nm1 0,.cl [u32 tt,i64 q,sA mb 16 mc,u32 rp,u64 rc2,u16 rg2,u8 0,i64 ch,sA hb 1 hc] 109),(nm2q,.cl [i64 ch] 3),(x6,x7),(x8,.pr (bn 72 6 1 x9 (ga tt rp rc2 rg2))),(nm3q,.cl [u32 rp,u64 rc2,u16 rg2,u8 0,i64 ch,sA x8 1 x9] 119)]) ([]) 8 (fun key1=>?_) ?_
 · refine dq 13 18 ?_ ?_
   · refine cE (m4 p d r lg Af nf cf kn wt pu dr pi cm lst fl na nfm N f steps tt rp rc2 rg2 a kk val K M j D h2 y b k1 E F G) [4,5,6,7] [] fun ⟨x8,x9⟩ _=>zE<|dq 16 18 ?_ ?_
     · exact bv (g8 (sA x8 1 x9)) [] []<|bu [9999,17,17] 1 fun nm3=>jT [0,1,2,3,4,5,6,7,8,9,10,11,12,13,14,15,16,17] (fun u=>key1 (x8,x9,nm3 0) u trivial)
     · exact bu [] 1 fun nm3=>bv (g8 (sA x8 1 x9)) [] []<|bj [9999,17,17]<|jT [0,1,2,3,4,5,6,7,8,9,10,11,12,13,14,15,16,17] (fun u=>key1 (x8,x9,nm3 0) u trivial)
   · exact bu [] 1 fun nm3=>cE (m4 p d r lg Af nf cf kn wt pu dr pi cm lst fl na nfm N f steps tt rp rc2 rg2 a kk val K M j D h2 y b k1 E F G) [4,5,6,7] [] fun ⟨x8,x9⟩ _=>zE<|bv (g8 (sA x8 1 x9)) [] []<|bj [9999,16,16]<|jT [0,1,2,3,4,5,6,7,8,9,10,11,12,13,14,15,17,16] (fun u=>key1 (x8,x9,nm3 0) u trivial)
 rintro ⟨x8,x9,nm3q⟩ u1 _
 refine bj [2,0,0,9999]<|rE (er (T:=72) underlying72 (e:=72) x8 0 6 1 x9 6 (ga tt rp rc2 rg2) (by (simp;done))) [16]<|bu [] 1 fun nm4=>vE 57 (.agg ⟨List.take 6 (List.drop 0 (ga tt rp rc2 rg2))⟩) (.agg ⟨[u32 tt,u8 1,u8 0,u32 rp,u64 rc2,u16 rg2]⟩) (by rfl)<|bj [18]<|bj [9999,1024,0,18]<|bv (FD p d r lg Af nf cf kn wt pu dr pi cm lst fl na nfm N f steps rp rc2 rg2 I pin L l h2 y b) [4,5] [10]<|zE<|bv dx [] []<|bj [0,0,8,8]<|bj [9999,512,8,8,17] ?_
 exact vC 81 u64 (n5 ((↑made:Int)+1) (made+1))<|xE (gE (kt:=25) (et:=119) (T:=111) (κ:=.u64) underlying111 underlying25 sh SH (made+1) (.agg ⟨[u32 rp,u64 rc2,u16 rg2,u8 0,i64 ch,sA x8 1 x9]⟩)) [] [9] fun _ _=>bj [8,9999,12]<|qC 8 tn (fun z9:Int=>(.cl [u32 tt,i64 q,sA mb 16 mc,u32 rp,u64 rc2,u16 rg2,u8 0,i64 ch,sA hb 1 hc,bi cb,.map (some sh),u64 z9] 113)) (n5 ((↑made:Int)+1) (made+1))<|qC 12 (nm 1) (fun z9:Int=>(.cl [i64 0,u64 0,u64 z9,.slice none 0 0,.slice none 0 0,i64 0,.slice none 0 0] 47)) (n5 ((↑made:Int)+1) (made+1))<|rT ((x8,x9)) 12 [16]
end
def eg (p g i:UInt8):Bs:=[p,0,g,0,0,0,0,0,0,0,0,0,0,0,0,i]
def bW (key:Bs) (p g:UInt8):Bs:=cA key (eg p g 0)++cA key (eg p g 1)
theorem fg (key:Bs) (p g:UInt8):(bW key p g).length=32:=by
 unfold bW
 rw [List.length_append,d8 _ _ rfl,d8 _ _ rfl]
theorem Aj (cb d e x f a i:Nat) (p:UInt8) (key:Bs) (b:32=key.length) (hi:i<256) :
 TT 168 #[i64 i,bi cb,bi d,bi e] [(cb,.cl [bi x] 275),(d,.cl [B8 p] 5),(e,.cl [u16 1] 68),(a,.fa (ll x f key))] [] uT (fun _=>.returned (.tuple #[.agg ((cA key (eg p 1 (UInt8.ofNat i))).map B8).toArray,i64 0])) (fun _=>[]) (fun _=>[]):=by
 unfold eg
 have c:key.length=16∨key.length=32:=.inr b.symm
 have g:(cA key [p,0,1,0,0,0,0,0,0,0,0,0,0,0,0,UInt8.ofNat i]).length=16:=d8 _ _ rfl
 have h:Value.int .u8 (IntKind.u8.wrap (i:Int))=B8 (UInt8.ofNat i):=by rw [k5 rfl hi,uh i hi]
 exact iE func168<|bu [0,1,2,9999,2,9999,9999,9999] 1 fun nm=>vE 16 (.agg ⟨[u8 ↑(UInt8.toNat p),u8 0,u8 1,u8 0,u8 0,u8 0,u8 0,u8 0,u8 0,u8 0,u8 0,u8 0,u8 0,u8 0,u8 0,u8 (IntKind.wrap .u8 i)]⟩) (.agg ⟨[u8 ↑(UInt8.toNat p),u8 0,u8 1,u8 0,u8 0,u8 0,u8 0,u8 0,u8 0,u8 0,u8 0,u8 0,u8 0,u8 0,u8 0,u8 i]⟩) (by rw [show IntKind.wrap .u8 i=(↑i:Int) from (k5)])<|vE 16 (.agg ⟨[u8 ↑(UInt8.toNat p),u8 0,u8 1,u8 0,u8 0,u8 0,u8 0,u8 0,u8 0,u8 0,u8 0,u8 0,u8 0,u8 0,u8 0,u8 i]⟩) (.agg (List.toArray (List.map B8 [p,0,1,0,0,0,0,0,0,0,0,0,0,0,0,UInt8.ofNat i]))) (by simp only [List.map_cons,List.map_nil,uh i hi];try rfl)<|bv (nG x f a key ([p,0,1,0,0,0,0,0,0,0,0,0,0,0,0,UInt8.ofNat i]) c rfl) [3] []<|zE<|xE (c8 (T:=278) (nm 0) (cA key [p,0,1,0,0,0,0,0,0,0,0,0,0,0,0,UInt8.ofNat i]) iQ 278 16 (by kernel_rfl) (by omega)) [] [4] fun _ _=>zE<|iz (()) (.tuple #[.agg (List.toArray (List.map B8 (cA key [p,0,1,0,0,0,0,0,0,0,0,0,0,0,0,UInt8.ofNat i]))),i64 0]) [] (pz 4 (nm 0) 16 5 6 278 278 underlying278)
theorem zY (kb d kc a:Nat) (p:UInt8) (key:Bs) (b:32=key.length) (f:32≤kc) :
 TT 92 #[sO kb d 32 kc,i64 32,B8 p,u16 1,i64 2] [(a,.fa (BF (pO kb d) 32 kc key))] [] (fun _:Nat×Nat=>True) (fun x=>.returned (.tuple #[sA x.1 32 x.2,i64 0])) (fun _=>[]) (fun x=>[(x.1,.fa (BF (pA x.1) 32 x.2 (bW key p 1)))]):=by
 unfold bW
 have h:key.length=16∨key.length=32:=.inr b.symm
 have g:(32:Nat)=16∨(32:Nat)=32:=.inr rfl
 have i:(cA key (eg p 1 0)).length=16:=d8 _ _ rfl
 have j:(cA key (eg p 1 1)).length=16:=d8 _ _ rfl
 refine iE func92<|bu [9999,9999,0,0] 2 fun nm=>cE (pt key 32 g b a kb d kc f) [0] [] fun ⟨x,x1⟩ _=>bu [4,0,0,3,0,0] 1 fun nm1=>bv (Aj (nm1 0) (nm 0) (nm 1) x x1 0 0 p key b (by omega)) [4,1,2,3] []<|bu [] 1 fun nm2=>xE (c8 (T:=278) (nm2 0) (cA key (eg p 1 (UInt8.ofNat 0))) iQ 278 16 (by kernel_rfl) (by (simp [part];omega))) [] [5] fun _ _=>bj [0,0,9999]<|xV (gT (nm2 0) 0 16 16 (cA key (eg p 1 (UInt8.ofNat 0))) (by (simp [part];omega))) [5] [] (Views.less (.cl (List.map B8 (cA key (eg p 1 (UInt8.ofNat 0)))) 278) bA Views.nil) fun ⟨x2,x3⟩ _=>fE 6 x2 (bn 5 1 16 x3 (List.map B8 (cA key (eg p 1 (UInt8.ofNat 0))))) bx fun hc=>bj [0,0] ?_
 exact bv (Aj (nm1 0) (nm 0) (nm 1) x x1 0 1 p key b (by omega)) [4,1,2,3] []<|bu [] 1 fun nm3=>xE (c8 (T:=278) (nm3 0) (cA key (eg p 1 (UInt8.ofNat 1))) iQ 278 16 (by kernel_rfl) (by (simp [part];omega))) [] [7] fun _ _=>bj [0,0,9999]<|xV (dy x2 16 x3 (nm3 0) 0 16 16 (cA key (eg p 1 (UInt8.ofNat 0))) (cA key (eg p 1 (UInt8.ofNat 1))) (by (simp [part];omega))) [7] [6] (Views.less (.cl (List.map B8 (cA key (eg p 1 (UInt8.ofNat 1)))) 278) bA Views.nil) fun ⟨x4,x5⟩ _=>fE 8 x4 (bn 5 1 (16+16) x5 (List.map B8 (cA key (eg p 1 (UInt8.ofNat 0))++cA key (eg p 1 (UInt8.ofNat 1))))) bx fun hc1=>bj [0,0]<|eh (e:=5) (n:=16+16) (c:=x5) (l:=cA key (eg p 1 (UInt8.ofNat 0))++cA key (eg p 1 (UInt8.ofNat 1))) 8 x4 (by (simp;omega))<|rT ((x4,x5)) 9999 [8]
theorem Al (cb d e x f a i:Nat) (p:UInt8) (key:Bs) (b:32=key.length) (hi:i<256) :
 TT 168 #[i64 i,bi cb,bi d,bi e] [(cb,.cl [bi x] 275),(d,.cl [B8 p] 5),(e,.cl [u16 0] 68),(a,.fa (ll x f key))] [] uT (fun _=>.returned (.tuple #[.agg ((cA key (eg p 0 (UInt8.ofNat i))).map B8).toArray,i64 0])) (fun _=>[]) (fun _=>[]):=by
 unfold eg
 have c:key.length=16∨key.length=32:=.inr b.symm
 have g:(cA key [p,0,0,0,0,0,0,0,0,0,0,0,0,0,0,UInt8.ofNat i]).length=16:=d8 _ _ rfl
 have h:Value.int .u8 (IntKind.u8.wrap (i:Int))=B8 (UInt8.ofNat i):=by rw [k5 rfl hi,uh i hi]
 exact iE func168<|bu [0,1,2,9999,2,9999,9999,9999] 1 fun nm=>vE 16 (.agg ⟨[u8 ↑(UInt8.toNat p),u8 0,u8 0,u8 0,u8 0,u8 0,u8 0,u8 0,u8 0,u8 0,u8 0,u8 0,u8 0,u8 0,u8 0,u8 (IntKind.wrap .u8 i)]⟩) (.agg ⟨[u8 ↑(UInt8.toNat p),u8 0,u8 0,u8 0,u8 0,u8 0,u8 0,u8 0,u8 0,u8 0,u8 0,u8 0,u8 0,u8 0,u8 0,u8 i]⟩) (by rw [show IntKind.wrap .u8 i=(↑i:Int) from (k5)])<|vE 16 (.agg ⟨[u8 ↑(UInt8.toNat p),u8 0,u8 0,u8 0,u8 0,u8 0,u8 0,u8 0,u8 0,u8 0,u8 0,u8 0,u8 0,u8 0,u8 0,u8 i]⟩) (.agg (List.toArray (List.map B8 [p,0,0,0,0,0,0,0,0,0,0,0,0,0,0,UInt8.ofNat i]))) (by simp only [List.map_cons,List.map_nil,uh i hi];try rfl)<|bv (nG x f a key ([p,0,0,0,0,0,0,0,0,0,0,0,0,0,0,UInt8.ofNat i]) c rfl) [3] []<|zE<|xE (c8 (T:=278) (nm 0) (cA key [p,0,0,0,0,0,0,0,0,0,0,0,0,0,0,UInt8.ofNat i]) iQ 278 16 (by kernel_rfl) (by omega)) [] [4] fun _ _=>zE<|iz (()) (.tuple #[.agg (List.toArray (List.map B8 (cA key [p,0,0,0,0,0,0,0,0,0,0,0,0,0,0,UInt8.ofNat i]))),i64 0]) [] (pz 4 (nm 0) 16 5 6 278 278 underlying278)
theorem Gf (kb d kc a:Nat) (p:UInt8) (key:Bs) (b:32=key.length) (f:32≤kc) :
 TT 92 #[sO kb d 32 kc,i64 32,B8 p,u16 0,i64 2] [(a,.fa (BF (pO kb d) 32 kc key))] [] (fun _:Nat×Nat=>True) (fun x=>.returned (.tuple #[sA x.1 32 x.2,i64 0])) (fun _=>[]) (fun x=>[(x.1,.fa (BF (pA x.1) 32 x.2 (bW key p 0)))]):=by
 unfold bW
 have h:key.length=16∨key.length=32:=.inr b.symm
 have g:(32:Nat)=16∨(32:Nat)=32:=.inr rfl
 have i:(cA key (eg p 0 0)).length=16:=d8 _ _ rfl
 have j:(cA key (eg p 0 1)).length=16:=d8 _ _ rfl
 refine iE func92<|bu [9999,9999,0,0] 2 fun nm=>cE (pt key 32 g b a kb d kc f) [0] [] fun ⟨x,x1⟩ _=>bu [4,0,0,3,0,0] 1 fun nm1=>bv (Al (nm1 0) (nm 0) (nm 1) x x1 0 0 p key b (by omega)) [4,1,2,3] []<|bu [] 1 fun nm2=>xE (c8 (T:=278) (nm2 0) (cA key (eg p 0 (UInt8.ofNat 0))) iQ 278 16 (by kernel_rfl) (by (simp [part];omega))) [] [5] fun _ _=>bj [0,0,9999]<|xV (gT (nm2 0) 0 16 16 (cA key (eg p 0 (UInt8.ofNat 0))) (by (simp [part];omega))) [5] [] (Views.less (.cl (List.map B8 (cA key (eg p 0 (UInt8.ofNat 0)))) 278) bA Views.nil) fun ⟨x2,x3⟩ _=>fE 6 x2 (bn 5 1 16 x3 (List.map B8 (cA key (eg p 0 (UInt8.ofNat 0))))) bx fun hc=>bj [0,0] ?_
 exact bv (Al (nm1 0) (nm 0) (nm 1) x x1 0 1 p key b (by omega)) [4,1,2,3] []<|bu [] 1 fun nm3=>xE (c8 (T:=278) (nm3 0) (cA key (eg p 0 (UInt8.ofNat 1))) iQ 278 16 (by kernel_rfl) (by (simp [part];omega))) [] [7] fun _ _=>bj [0,0,9999]<|xV (dy x2 16 x3 (nm3 0) 0 16 16 (cA key (eg p 0 (UInt8.ofNat 0))) (cA key (eg p 0 (UInt8.ofNat 1))) (by (simp [part];omega))) [7] [6] (Views.less (.cl (List.map B8 (cA key (eg p 0 (UInt8.ofNat 1)))) 278) bA Views.nil) fun ⟨x4,x5⟩ _=>fE 8 x4 (bn 5 1 (16+16) x5 (List.map B8 (cA key (eg p 0 (UInt8.ofNat 0))++cA key (eg p 0 (UInt8.ofNat 1))))) bx fun hc1=>bj [0,0]<|eh (e:=5) (n:=16+16) (c:=x5) (l:=cA key (eg p 0 (UInt8.ofNat 0))++cA key (eg p 0 (UInt8.ofNat 1))) 8 x4 (by (simp;omega))<|rT ((x4,x5)) 9999 [8]
theorem wU {T:TypeId} {d:TypeDesc} (e:prog.underlying T=some d) (hd:d.isRow=true) (a b o n c:Nat) (l:Bs) (hi:(prog.info? T).map (·.size)=some n) (h0:0<n):Reads prog (vS (Instr.loadAt T (.pointer (pO b o)))) [(a,.fa (BF (pO b o) n c l))] (.agg (l.map B8).toArray):=fun w _ hf=>by
 have hr:=hf 0 a _ rfl
 have f:=hr.1
 obtain ⟨ob,h1,h2⟩:=mo hr h0
 exact ce (gI h1 h2 e hd (by rw [hi,List.length_map,← f]))
theorem o5 (kb b kc a:Nat) (key:Bs) (c:32=key.length) (d:32≤kc) :
 TT 50 #[sO kb b 32 kc,u16 1] [(a,.fa (BF (pO kb b) 32 kc key))] [] (fun _:Nat×Nat=>True) (fun x=>.returned (.tuple #[sA x.1 32 x.2,i64 0])) (fun _=>[]) (fun x=>[(x.1,.fa (BF (pA x.1) 32 x.2 (bW key 1 1)))]):=iE func50<|zE<|cE (zY kb b kc a 1 key c d) [0] [] fun ⟨x,x1⟩ _=>zE<|rT ((x,x1)) 9999 [1]
theorem sS (kb b kc a:Nat) (key:Bs) (c:32=key.length) (d:32≤kc) :
 TT 99 #[sO kb b 32 kc,u16 1] [(a,.fa (BF (pO kb b) 32 kc key))] [] (fun _:Nat×Nat=>True) (fun x=>.returned (.tuple #[sA x.1 32 x.2,i64 0])) (fun _=>[]) (fun x=>[(x.1,.fa (BF (pA x.1) 32 x.2 (bW key 2 1)))]):=iE func99<|zE<|cE (zY kb b kc a 2 key c d) [0] [] fun ⟨x,x1⟩ _=>zE<|rT ((x,x1)) 9999 [1]
def dC (key secret:Bs):Bs:=cA (bW key 3 0) secret
theorem mQ (key a:Bs) (h:a.length=16):(dC key a).length=16:=d8 _ _ h
theorem vA (kb d kc a sb e c k:Nat) (key b:Bs) (f:32=key.length) (g:32≤kc) (h:16=b.length) (m:16≤c) :
 TT 109 #[sO kb d 32 kc,sO sb e 16 c] [(a,.fa (BF (pO kb d) 32 kc key)),(k,.fa (BF (pO sb e) 16 c b))] [] (fun _:Nat=>True) (fun x=>.returned (.tuple #[sA x 16 16,i64 0])) (fun _=>[]) (fun x=>[(x,.fa (BF (pA x) 16 16 (dC key b)))]):=by
 have hd:32=(bW key 3 0).length:=(fg key 3 0).symm
 have i:(32:Nat)=16∨(32:Nat)=32:=.inr rfl
 have j:(bW key 3 0).length=16∨(bW key 3 0).length=32:=.inr hd.symm
 have n:(cA (bW key 3 0) b).length=16:=d8 _ _ h.symm
 refine cJ func109 (by kernel_rfl) fun w0 ho=>?_
 unfold dC
 refine zE<|cE (Gf kb d kc a 3 key f g) [0] [] fun ⟨x,x1⟩ _=>bj [0,0,0]<|fP 2 x (BF (pA x) 32 x1 (bW key 3 0)) db fun ⟨fl,fc,fm⟩=>cE (pt (bW key 3 0) 32 i fl x x 0 x1 fc) [2] [] fun ⟨x2,x3⟩ _=>bj [0,0]<|rE (wU (T:=278) underlying278 (by kernel_rfl) k sb e 16 c b (by kernel_rfl) (by omega)) [1]<|bv (nG x2 x3 0 (bW key 3 0) b j (by omega)) [3] []<|bu [] 1 fun nm=>xE (c8 (T:=278) (nm 0) (cA (bW key 3 0) b) iQ 278 16 (by kernel_rfl) (by omega)) [] [4] fun _ _=>bj [9999] ?_
 exact gW (t:=278) (l:=cA (bW key 3 0) b) 4 (nm 0) 16 (by omega) (by first | decide | (simp only [maxLen];omega))<|rT (nm 0) 9999 [4]
def fO (t c:Nat):Bs:=be t 4++be c 8
def jq (t g:Nat):Bs:=be t 4++be g 2
def bZ (root:Bs) (t g c:Nat) (key:Bs):Bs:=gl (bW root 2 1) (fO t c) (jq t g) key
theorem ii (root:Bs) (t g c:Nat) (key:Bs) (h:key.length=16):(bZ root t g c key).length=32:=by
 unfold bZ
 rw [ms _ _ _ _ (by simp [fO,cc]),h]
theorem Hh (rb d rc a kb f kc j t c:Nat) (root key:Bs) (g:32=root.length) (h:32≤rc) (b:16=key.length) (k:16≤kc) (m:t<4294967296) (hc:c<18446744073709551616) :
 TT 113 #[sO rb d 32 rc,u32 t,u16 1,u64 c,sO kb f 16 kc] [(a,.fa (BF (pO rb d) 32 rc root)),(j,.fa (BF (pO kb f) 16 kc key))] [] (fun _:Nat×Nat=>True) (fun x=>.returned (.tuple #[.agg #[u16 1,u64 c,sA x.1 32 x.2],i64 0])) (fun _=>[]) (fun x=>[(x.1,.fa (BF (pA x.1) 32 x.2 (bZ root t 1 c key)))]):=by
 have hd:32=(bW root 2 1).length:=(fg root 2 1).symm
 have i:(32:Nat)=16∨(32:Nat)=32:=.inr rfl
 have p:=ii root t 1 c key b.symm
 have o:12=(fO t c).length:=by simp [fO,cc]
 have hb:6=(jq t 1).length:=by simp [jq,cc]
 unfold bZ fO jq at *
 refine iE func113<|bu [] 1 fun nm=>cE (sS rb d rc a root g h) [0] [] fun ⟨x,x1⟩ _=>bj [0,0,0]<|cE (xm t 1 c m (by omega) hc) [] [] fun ⟨x2,x3,x4,x5⟩ _=>fE 4 x2 (bn 5 1 12 x3 (List.map B8 (be t 4++be c 8))) bx fun hc1=>fE 5 x4 (bn 5 1 6 x5 (List.map B8 (be t 4++be 1 2))) bx fun hc1=>zE<|eh (e:=5) (n:=12) (c:=x3) (l:=be t 4++be c 8) 4 x2 o<|eh (e:=5) (n:=6) (c:=x5) (l:=be t 4++be 1 2) 5 x4 hb<|fP 3 x (BF (pA x) 32 x1 (bW root 2 1)) db fun ⟨fl,fc,fm⟩=>?_
 exact cE (AG x 0 32 x1 x2 0 x3 x4 0 6 x5 kb f 16 kc x x2 x4 j (bW root 2 1) (be t 4++be c 8) (be t 4++be 1 2) key i fl b fc) [3,4,5,1] [] fun ⟨x6,x7⟩ _=>fE 6 x6 (bn 5 1 (16+16) x7 (List.map B8 (gl (bW root 2 1) (be t 4++be c 8) (be t 4++be 1 2) key))) bx fun hc2=>bj [0,0,9999,2]<|eh (e:=5) (n:=16+16) (c:=x7) (l:=gl (bW root 2 1) (be t 4++be c 8) (be t 4++be 1 2) key) 6 x6 (by omega)<|rT ((x6,x7)) 2 [6]
theorem CH (rb d rc a kb f o t c:Nat) (root key:Bs) (g:32=root.length) (h:32≤rc) (b:16=key.length) (q:t<4294967296) (hc:c<18446744073709551616) (kc:Nat) (i:32≤kc) :
 TT 59 #[sO rb d 32 rc,u32 t,.agg #[u16 1,u64 c,sO kb f 32 kc]] [(a,.fa (BF (pO rb d) 32 rc root)),(o,.fa (BF (pO kb f) 32 kc (bZ root t 1 c key)))] [] (fun _:Nat=>True) (fun x=>.returned (.tuple #[sA x 16 16,i64 0])) (fun _=>[]) (fun x=>[(x,.cl (key.map B8) 5)]):=by
 have hd:32=(bW root 2 1).length:=(fg root 2 1).symm
 have j:(32:Nat)=16∨(32:Nat)=32:=.inr rfl
 have r:=(ii root t 1 c key b.symm).symm
 have p:12=(fO t c).length:=by simp [fO,cc]
 have hb:6=(jq t 1).length:=by simp [jq,cc]
 have k:ee (bW root 2 1) (fO t c) (jq t 1) (List.take (32-16) (bZ root t 1 c key))=List.drop (32-16) (bZ root t 1 c key):=by
  have:=rh (bW root 2 1) (fO t c) (jq t 1) key p.symm
  rw [← b] at this;exact this
 have m:ej (bW root 2 1) (fO t c) (List.take (32-16) (bZ root t 1 c key))=key:=by
  have:=qG (bW root 2 1) (fO t c) (jq t 1) key
  rw [← b] at this
  show ej (bW root 2 1) (fO t c) (List.take 16 (gl (bW root 2 1) (fO t c) (jq t 1) key))=key
  rw [this,pa]
 unfold fO jq at *
 refine iE func59<|bu [9999,2] 1 fun nm=>cE (sS rb d rc a root g h) [0] [] fun ⟨x,x1⟩ _=>bj [0,2,0,0,2,2]<|cE (xm t 1 c q (by omega) hc) [] [] fun ⟨x2,x3,x4,x5⟩ _=>fE 4 x2 (bn 5 1 12 x3 (List.map B8 (be t 4++be c 8))) bx fun hc1=>fE 5 x4 (bn 5 1 6 x5 (List.map B8 (be t 4++be 1 2))) bx fun hc1=>bj [2]<|eh (e:=5) (n:=12) (c:=x3) (l:=be t 4++be c 8) 4 x2 p<|eh (e:=5) (n:=6) (c:=x5) (l:=be t 4++be 1 2) 5 x4 hb<|fP 3 x (BF (pA x) 32 x1 (bW root 2 1)) db fun ⟨fl,fc,fm⟩=>?_
 exact cE (uF x 0 32 x1 x2 0 x3 x4 0 6 x5 kb f 32 kc x x2 x4 o (bW root 2 1) (be t 4++be c 8) (be t 4++be 1 2) (bZ root t 1 c key) j fl r i fc k) [3,4,5,1] [] fun x6 _=>zE<|qE 6 x6 (.cl (List.map B8 (ej (bW root 2 1) (be t 4++be c 8) (List.take (32-16) (bZ root t 1 c key)))) 5) (.cl (List.map B8 key) 5) (by rw [m])<|rT x6 9999 [6]
theorem Ds (a h n d c e b o f g:Nat) (l:Bs):Same 138 #[sO b o n c,sO f g d e] [(a,.fa (BF (pO b o) n c l)),(h,.fa (BF (pO f g) d e l))] (.bool true):=iE func138<|zE<|rE (fy a b o n c l) [0]<|zE<|rE (fy h f g d e l) [1]<|bK [1] (br (tT (ByteArray.toList {data:=List.toArray l}==ByteArray.toList {data:=List.toArray l})) bt)<|rT ()
section
variable (v N lim:Nat) (key:Vl) (d rs lg:Nat) (op:Bool) (r p c pp rc rg gn n al:Nat)
variable (k t:Nat) (sec:Vl) (q1 n1:Int) (h o s rt:Nat) (ops ky fr too:Vl) (bk:Bool)
variable (tt q mb mc rp rc2 rg2 ch hb hc cb sh made ca cct tn:Nat) (T A SH:List (Nat×Vl))
variable (nf cf kn wt:Nat) (Af:Option Addr) (pu dr:Option Nat) (pi cm lst:Nat) (fl:Bool)
variable (kb ko kc sb so sc a1 a2 a3:Nat) (mkey secret:Bs)
theorem AC (hT:lk T t=some (bi tn)) (g:t<4294967296) (a:32=mkey.length) (b:32≤kc) (e:16=secret.length) (f:16≤sc):TT 10 #[bi v,cR 8 t (sO sb so 16 sc) q1 n1 h o s rt ops ky fr too bk] [(v,.cl (bU N lim (sO kb ko 32 kc) d rs lg true r p c pp rc rg gn n al) 90),(al,.pr (MU T)),(tn,.cl (b9 tt q mb mc rp rc2 rg2 ch hb hc cb sh made) 113),(a1,.fa (BF (pO kb ko) 32 kc mkey)),(a2,.fa (BF (pO sb so) 16 sc secret)),(a3,.fa (BF (pA mb) 16 mc (dC mkey secret)))] [(cb,.cl [.map none,u64 0] 212)] (fun _:Nat=>True) (fun _=>.returned (cP 0 (t*4294967296+1) 0 bp bp 0 bp)) (fun x=>[(cb,.cl (cL x 1) 212)]) (fun x=>[cH x (up [] 1 (hV 15 0))]):=by
 refine dE func10 fun w0 ho=>bu [9999] 2 fun nm=>bv (ea v N lim (sO kb ko 32 kc) d rs lg true r p c pp rc rg gn n al) [0] []<|bu [0,0,0,9] 1 fun nm1=>cS ⟨.fn (.func 25) #[bi (nm1 0),bi (nm 1)],#[]⟩<|zE<|cS ⟨.fn (.func 26) #[],#[bi v,bi (nm1 0)]⟩<|bj [7]<|bv (Gh v) [] []<|bj [0,0,7]<|eA (args:=#[bi v,.agg ⟨(eO 8 t (sO sb so 16 sc) q1 n1 h o s rt ops ky fr too bk)⟩]) func69 ?_
 refine bu [9999,10] 2 fun nm2=>bv (ry v N lim (sO kb ko 32 kc) d rs lg true r p c pp rc rg gn n al 8 t (sO sb so 16 sc) q1 n1 h o s rt ops ky fr too bk tn T hT) [0,1] []<|zE<|bj [9999,0,0,10]<|cE (vA kb ko kc a1 sb so sc a2 mkey secret a b e f) [3,4] [] fun x _=>bj [0,2]<|bv (Ds x a3 16 16 16 mc x 0 mb 0 (dC mkey secret)) [12,5] []<|bj [0]<|bj [9999,2112,10,2]<|cE (nS t) [] [] fun x1 _=>zE ?_
 exact cE (xP cb) [] [6] fun x2 _=>zE<|bv (sG t x1 1 g (by omega)) [13] []<|bj [11]<|eC (.agg #[i64 0,u64 ↑(t*4294967296+1),u64 0,.slice none 0 0,.slice none 0 0,i64 0,.slice none 0 0]) 11<|bj [8]<|fV<|dG #[] #[bi v,bi (nm1 0)] [⟨.fn (.func 25) #[bi (nm1 0),bi (nm 1)],#[]⟩] (gx v (nm1 0)) [] [] fun _ _=>dG #[bi (nm1 0),bi (nm 1)] #[] [] (kZ (nm1 0) (nm 1) .returning) [9] [] fun _ _=>fS x2 (cP 0 (t*4294967296+1) 0 bp bp 0 bp) [14] (fN _ 8)
theorem E7 (h64:h<18446744073709551616) (hT:lk T (h/4294967296)=some (bi tn)) (e m:Nat) (hA:lk A (h%4294967296)=some (hV e m)) (hr:(cM 4 e != 0)=false) (f:SH.length≤19) (g:kA SH) (w:q<2147483648) (i:ch+(dV SH+ch+1)≤q) (j:made<1000000)
 (na nfm:Nat) (u:Vl) (steps:Int) (a:Nat) (kk val:Bs) (K:List (Nat×Vl)) (M:Nat→Option Pg) (k:KM K M) (y:M rp=some ⟨tt,1,0,rc2,rg2,bw kk val⟩) (h2:2≤rp) (z:rp<N) (l:rp<4294967296) (k1:1≤kk.length) (B:kk.length≤32) (C:1≤val.length) (D:val.length≤64) (I:List (Nat×Vl)) (pin:Nat→Nat) (E:PinI I pin) (b:pin rp<1000000) :
 TT 10 #[bi v,cR 14 t sec q1 n1 h o s rt ops ky fr too bk] [(v,.cl (bU N lim key d rs lg true r p c pp rc rg gn n al) 90),(al,.pr (MU T)),(cb,.cl (cL ca cct) 212),cH ca A,(p,.cl (bM d r lg Af nf cf kn wt pu dr pi cm lst fl) 199),(d,.cl (bQ na nfm N u steps) bT),(kn,.pr (MU K)),(a,.fa (PgsF K M))] [(tn,.cl (b9 tt q mb mc rp rc2 rg2 ch hb hc cb sh made) 113),(sh,.pr (MV SH)),(pi,.pr (MU I))] (fun _:Nat×Nat=>True) (fun _=>.returned (cP 0 0 (made+1) bp bp 0 bp))
  (fun x=>[(tn,.cl (b9 tt q mb mc rp rc2 rg2 ch hb hc cb sh (made+1)) 113),(sh,.pr (MV (up SH (made+1) (fR rp rc2 rg2 ch (pA x.1) 1 x.2)))),(pi,.pr (MU (up I rp (i64 ((pin rp+1:Nat):Int)))))]) (fun x=>[(x.1,.pr (bn 72 6 1 x.2 (ga tt rp rc2 rg2)))]):=by
 refine dE func10 fun w0 ho=>bu [9999] 2 fun nm=>bv (ea v N lim key d rs lg true r p c pp rc rg gn n al) [0] []<|bu [0,0,0,13] 1 fun nm1=>cS ⟨.fn (.func 25) #[bi (nm1 0),bi (nm 1)],#[]⟩<|zE<|cS ⟨.fn (.func 26) #[],#[bi v,bi (nm1 0)]⟩<|bj [11]<|bv (oU v) [] []<|bj [0,0,11]<|cE (Fd v N lim key d rs lg true r p c pp rc rg gn n al 14 t sec q1 n1 h o s rt ops ky fr too bk tt q mb mc rp rc2 rg2 ch hb hc cb sh made ca cct tn T A SH nf cf kn wt Af pu dr pi cm lst fl h64 hT e m hA hr f g w i j na nfm u steps a kk val K M k y h2 z l k1 B C D I pin E b) [0,1,2,3,4,5,6,7] [8,9,10] ?_
 rintro ⟨x,x1⟩ _
 exact fE 14 x (bn 72 6 1 x1 (ga tt rp rc2 rg2)) bx fun hc1=>bj [12]<|fV<|dG #[] #[bi v,bi (nm1 0)] [⟨.fn (.func 25) #[bi (nm1 0),bi (nm 1)],#[]⟩] (gx v (nm1 0)) [] [] fun _ _=>dG #[bi (nm1 0),bi (nm 1)] #[] [] (kZ (nm1 0) (nm 1) .returning) [13] [] fun _ _=>fS (x,x1) (cP 0 0 (made+1) bp bp 0 bp) [14] (fN _ 12)
end
end Go.Proofs.YtlkeemedalncoaaGreat.En
