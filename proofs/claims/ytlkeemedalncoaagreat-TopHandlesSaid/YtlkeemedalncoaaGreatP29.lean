/- TopHandles, part 29: no condition. -/
import Derived.Test.YtlkeemedalncoaaGreatP28
set_option linter.all false
set_option maxHeartbeats 16000000
set_option maxRecDepth 100000
namespace Go.Proofs.YtlkeemedalncoaaGreat.En
open Go Go.RowKit Go.Proofs.YtlkeemedalncoaaGreat Go.Proofs.Tryz
structure O2X where
 r:Nat
 m:Nat
 al:Nat
 kb:Nat
 kc:Nat
 p:Nat
 kn:Nat
 pi:Nat
 tb:Nat
 tk:Nat
 mb:Nat
 mc:Nat
 hb:Nat
 hc:Nat
 wb:Nat
 wc:Nat
 cb:Nat
 sh:Nat
 tn:Nat
 wt:Nat
 fa:Nat
 steps:Int
 L:bV
 Af:Option Addr
 c:Nat
 K:List (Nat×Vl)
section
variable (v N lim d rs lg vk vc ak na nfm:Nat) (r0 p0 c0 pp0 rc0 rg0 gn0 n0 al0:Nat)
theorem Hj (vkey tkey mark kk val D E:Bs) (H:32=vkey.length) (I:32≤vc) (h8:8≤N) (aL:N≤128) (steps:Int) (i a:Int) (dv:Vl) (now firm:List Bs) (f:now.length=N) (hF:firm.length=N) (b:bP now) (f256:bP firm)
 (t q ch pp rc rp rc2 hcm cm s0 F s1 G:Nat) (ac:224=D.length) (ad:224=E.length) (J:F<18446744073709551616) (M:G<18446744073709551616) (ae:now.getD 0 []=bI (bW vkey 1 1) 0 4 0 s0 F 1 D) (af:now.getD 1 []=bI (bW vkey 1 1) 0 4 0 s1 G 1 E)
 (O:0<cm) (P:cm<4294967296) (ag:now.getD (cm%2) []=bI (bW vkey 1 1) 0 4 0 (cm%2) cm 1 (bO cm pp rc 1 0 1 1)) (ah:256=(bI (bW vkey 1 1) 0 4 0 (cm%2) cm 1 (bO cm pp rc 1 0 1 1)).length)
 (ai:16=mark.length) (A:16=tkey.length) (ht:0<t) (j:t<4294967296) (hq:1≤q) (aj:q<128) (am:ch≤q) (an:0<ch) (Q:rp<128) (R:rc2<128) (ao:hcm<128) (n:2≤pp) (o:pp<N) (B:2≤rp) (C:rp<N) (S:pp≠rp) (U:rc<18446744073709551616)
 (ap:now.getD pp []=bI (bW vkey 1 1) 0 1 0 pp rc 1 (bw (be t 4) (bJ q ch mark rp rc2 1 0 1 hcm (bZ (bW vkey 1 1) t 1 hcm tkey)))) (aq:now.getD rp []=bI tkey t 1 0 rp rc2 1 (bw kk val)) (hz:∀ m,2≤m→m<N→m∉[pp,rp]→now.getD m []=List.replicate 256 0)
 (aK:(bJ q ch mark rp rc2 1 0 1 hcm (bZ (bW vkey 1 1) t 1 hcm tkey)).length=59) (ar:224=(bw (be t 4) (bJ q ch mark rp rc2 1 0 1 hcm (bZ (bW vkey 1 1) t 1 hcm tkey))).length) (au:224=(bw kk val).length) (k1:1≤kk.length) (k2:kk.length≤32) (v0:1≤val.length) (v3:val.length≤64) :
 TT 23 #[bi v,.bool true] [(ak,.fa (BF (pA vk) 32 vc vkey)),(rs,.cl (dc d i a (cm:Int) dv) df),(na,.cl (bE now) 166)] [(v,.cl (bU N lim (sA vk 32 vc) d rs lg false r0 p0 c0 pp0 rc0 rg0 gn0 n0 al0) 90),(d,.cl (bQ na nfm N (.slice none 0 0) steps) bT),(nfm,.cl (bE firm) 166)] (fun x:O2X=>KM x.K (bX (bX (fun _=>none) pp ⟨0,1,0,rc,1,bw (be t 4) (bJ q ch mark rp rc2 1 0 1 hcm (bZ (bW vkey 1 1) t 1 hcm tkey))⟩) rp ⟨t,1,0,rc2,1,bw kk val⟩)∧RunsP x.L∧∀ m,bR x.L m↔2≤m∧m<N∧m∉[pp,rp]) (fun _=>.returned (i64 0))
  (fun x=>[(v,.cl (yu N lim (sA vk 32 vc) d rs lg true x.r x.p cm pp rc x.al) 90),(d,.cl (bQ na nfm N (.slice none 0 0) x.steps) bT),(nfm,.cl (bE now) 166)])
  (fun x=>[(x.r,.cl [.map (some x.m)] 182),(x.m,.pr (bB eW (up (up [] (0,1) (sA x.kb 32 x.kc)) (t,1) (sA x.tb 16 x.tk)))),(x.al,.pr (MU [(t,bi x.tn)])),(x.kb,.fa (BF (pA x.kb) 32 x.kc (bW vkey 1 1))),(x.p,.cl (bM d x.r lg x.Af x.L.length x.c x.kn x.wt none none x.pi 0 0 false) 199),(x.kn,.pr (MU x.K)),(x.pi,.pr (MU [])),(0,.fa (PgsF x.K (bX (bX (fun _=>none) pp ⟨0,1,0,rc,1,bw (be t 4) (bJ q ch mark rp rc2 1 0 1 hcm (bZ (bW vkey 1 1) t 1 hcm tkey))⟩) rp ⟨t,1,0,rc2,1,bw kk val⟩))),(x.mb,.fa (BF (pA x.mb) 16 x.mc mark)),(x.hb,.fa (CF x.hb 0 [u16 1,u64 hcm,sA x.wb 32 x.wc])),(x.wb,.fa (BF (pA x.wb) 32 x.wc (bZ (bW vkey 1 1) t 1 hcm tkey))),(x.tb,.fa (BF (pA x.tb) 16 x.tk tkey)),(x.cb,.cl [.map none,u64 0] 212),(x.sh,.pr (MV [])),(x.tn,.cl (yG t q x.mb x.mc rp rc2 ch x.hb x.hc x.cb x.sh 0) 113),(x.wt,.pr (MU [])),(x.fa,.fa (bN x.Af x.L.length x.c x.L))]):=by
 have av:0<N:=by omega
 have aw:1<N:=by omega
 have V:256=(now.getD 0 []).length:=(iu b).symm
 have W:256=(now.getD 1 []).length:=(iu b).symm
 have s:32=(bW vkey 1 1).length:=(fg vkey 1 1).symm
 have y:pp<4294967296:=by omega
 have X:rp<4294967296:=by omega
 have ax:1≤(be t 4).length:=by rw [cc];omega
 have ay:(be t 4).length≤32:=by rw [cc];omega
 have az:1≤(bJ q ch mark rp rc2 1 0 1 hcm (bZ (bW vkey 1 1) t 1 hcm tkey)).length:=by omega
 have aA:(bJ q ch mark rp rc2 1 0 1 hcm (bZ (bW vkey 1 1) t 1 hcm tkey)).length≤64:=by omega
 have aB:32=(bZ (bW vkey 1 1) t 1 hcm tkey).length:=(ii _ _ _ _ _ A.symm).symm
 have Y:0<rp:=by omega
 have aC:cm<18446744073709551616:=by omega
 have Z:rc2<18446744073709551616:=by omega
 have aa:hcm<18446744073709551616:=by omega
 have aD:bX (fun _=>none) pp ⟨0,1,0,rc,1,bw (be t 4) (bJ q ch mark rp rc2 1 0 1 hcm (bZ (bW vkey 1 1) t 1 hcm tkey))⟩ pp=some ⟨0,1,0,rc,1,bw (be t 4) (bJ q ch mark rp rc2 1 0 1 hcm (bZ (bW vkey 1 1) t 1 hcm tkey))⟩:=by simp [bX]
 have aE:bX (fun _=>none) pp ⟨0,1,0,rc,1,bw (be t 4) (bJ q ch mark rp rc2 1 0 1 hcm (bZ (bW vkey 1 1) t 1 hcm tkey))⟩ rp=none:=by simp only [bX];rw [if_neg (fun h=>S h.symm)]
 have aS:(bW vkey 1 1).length=32:=fg _ _ _
 refine dE func23 fun w0 ho=>bu [] 1 fun nm=>cE vD [] [] fun ⟨x,x1⟩ _=>bu [3,3,3,3] 1 fun nm1=>cS ⟨.fn (.func 26) #[],#[bi v,bi (nm 0)]⟩<|lE 9 (nm1 0) (.ob (.map #[] 0)) (.pr (MU [])) (dL _ _)<|bj [0,3]<|cE (nL d na nfm N (.slice none 0 0) steps now firm f hF b f256) [2] [4,5] fun x2 _=>bv dx [] []<|bj [4,0,0,3]<|cE (jh d na nfm N (.slice none 0 0) x2 now f b 0 av) [4,2] [] ?_
 rintro x3 _
 refine zE<|bv (ew (sA x3 256 256)) [] []<|gW (t:=166) (l:=List.getD now 0 []) 10 x3 256 V (by first | decide | (simp only [maxLen];omega))<|bv (nF x3 0 x3 s0 F (bW vkey 1 1) D (List.getD now 0 []) ac J ae) [10] []<|bj [0,3]<|cE (l7 x x1 ([]) (by decide) (by kernel_rfl)) [7,8] [] fun ⟨x4,x5⟩ _=>zE<|bv (As x4 x5) [] []<|bj [0]<|bj [15,0,3]<|ef (Nat×Nat×Nat×Nat) (fun ⟨x6,x7,x8,x9⟩=>True) 336 (fun ⟨x6,x7,x8,x9⟩=>[(0,bi v),(4,bi (nm 0)),(45,i64 1),(46,.bool (decide (1<2)))]) [.code (cZ f23 20),.code (cZ f23 23),.rnd 2 (cZ f23 17),.blk 0,.code (cZ f23 35)] (fun ⟨x6,x7,x8,x9⟩=>[(ak,.fa (BF (pA vk) 32 vc vkey)),(rs,.cl [bi d,u64 i,u64 a,u64 cm,dv] 125),(na,.cl (bE now) 166),(v,.cl [i64 N,u64 lim,.slice none 0 0,sA vk 32 vc,bi d,bi rs,bi lg,.bool false,bi x,.pointer none,u64 c0,u32 pp0,u64 rc0,u16 rg0,u8 0,u16 gn0,u32 n0,.map (some (nm1 0))] 90),(d,.cl (bQ na nfm N (.slice none 0 0) x2) 123),(nfm,.cl (bE now) 166),(nm 0,.cl [i64 0] 33),(x,.cl [.map (some x1)] 182),(x1,.pr (bB eW (up [] (0,1) (sA x8 32 x9)))),(nm1 0,.pr (MU [])),(x3,.fa (BF (pA x3) 256 256 (List.getD now 0 []))),(x6,.fa (BF (pA x6) 32 x7 (bW vkey 1 1))),(x8,.fa (BF (pA x8) 32 x9 (bW vkey 1 1)))]) [⟨.fn (.func 26) #[],#[bi v,bi (nm 0)]⟩] 3 (fun key=>?_) ?_
 · refine dq 9 10 ?_ ?_
   · exact rE (dM (T:=27) v 3 ([i64 N,u64 lim,.slice none 0 0,sA vk 32 vc,bi d,bi rs,bi lg,.bool false,bi x,.pointer none,u64 c0,u32 pp0,u64 rc0,u16 rg0,u8 0,u16 gn0,u32 n0,.map (some (nm1 0))]) 90 (sA vk 32 vc)) [3]<|zE<|cE (o5 vk 0 vc ak vkey H I) [0] [] fun ⟨x6,x7⟩ _=>zE<|bv (ew (sA x6 32 x7)) [] []<|zE<|cE (mZ x x1 ([]) x6 0 x7 x6 (bW vkey 1 1) (by kernel_rfl) s) [7,11] [8] fun ⟨x8,x9⟩ _=>zE<|bv dx [] []<|bj [0]<|jT [0,1,2,3,4,5,6,7,8,9,10,11,12] (fun u=>key (x6,x7,x8,x9) u trivial)
   · refine zE<|rE (dM (T:=27) v 3 ([i64 N,u64 lim,.slice none 0 0,sA vk 32 vc,bi d,bi rs,bi lg,.bool false,bi x,.pointer none,u64 c0,u32 pp0,u64 rc0,u16 rg0,u8 0,u16 gn0,u32 n0,.map (some (nm1 0))]) 90 (sA vk 32 vc)) [3]<|zE<|cE (o5 vk 0 vc ak vkey H I) [0] [] fun ⟨x6,x7⟩ _=>zE<|bv (ew (sA x6 32 x7)) [] []<|zE<|cE (mZ x x1 ([]) x6 0 x7 x6 (bW vkey 1 1) (by kernel_rfl) s) [7,11] [8] fun ⟨x8,x9⟩ _=>zE<|bv dx [] []<|bj [0] ?_
     exact jT [0,1,2,3,4,5,6,7,8,9,10,11,12] (fun u=>key (x6,x7,x8,x9) u trivial)
 rintro ⟨x6,x7,x8,x9⟩ u _
 refine bj [0,3]<|cE (jh d na nfm N (.slice none 0 0) x2 now f b 1 aw) [4,2] [] fun x10 _=>zE<|bv (ew (sA x10 256 256)) [] []<|gW (t:=166) (l:=List.getD now 1 []) 13 x10 256 W (by first | decide | (simp only [maxLen];omega))<|bv (nF x10 0 x10 s1 G (bW vkey 1 1) E (List.getD now 1 []) ad M af) [13] []<|bj [0,3]<|cE (kJ x x1 (sA x8 32 x9)) [7,8] [] fun ⟨x11,x12⟩ _=>fE 14 x11 (bn 68 1 1 x12 [u16 1]) bx fun hc=>zE<|cE (zW x11 x12) [14] [] ?_
 intro _ _
 refine bj [0,0,0]<|bj [19,0,3,3,3]<|bv (tp d rs x i a dv na nfm N (.slice none 0 0) x2 now f b h8 x1 x8 cm pp rc x8 0 x9 (bW vkey 1 1) (up [] (0,1) (sA x8 32 x9)) rfl s O P y U ag ah) [1,4,2,7,8,12] []<|zE<|bv (re ((↑cm:Int)) ((↑pp:Int)) ((↑rc:Int)) 1 0 1 1) [] []<|bK [3,3,2,0,3] (br (tF ((↑cm:Int)==0)) bt)<|cE (kJ x x1 (sA x8 32 x9)) [7,8] [] fun ⟨x13,x14⟩ _=>fE 15 x13 (bn 68 1 1 x14 [u16 1]) bx fun hc1=>zE<|bj [4,0,0,9999]<|rE (cx (T:=68) (e:=68) x13 0 1 1 x14 ([u16 1]) (u16 1) (fun w=>by kernel_rfl) (by kernel_rfl)) [15] ?_
 refine bj [3,0,0,0,0,3]<|cE (kJ x x1 (sA x8 32 x9)) [7,8] [] fun ⟨x15,x16⟩ _=>fE 16 x15 (bn 68 1 1 x16 [u16 1]) bx fun hc2=>bj [0,0]<|bj [19,0,3,3,3]<|cE (vW d x lg) [] [] fun ⟨x17,x18,x19,x20⟩ _=>zE<|bv (sH (bi x17)) [] []<|bj [3]<|bj [9999,262144,3,3]<|cE (uW x17 d x lg x18 x19 none none x20 0 0 false na nfm N (.slice none 0 0) x2 now f b pp rc x1 x8 x8 0 x9 (be t 4) (bJ q ch mark rp rc2 1 0 1 hcm (bZ (bW vkey 1 1) t 1 hcm tkey)) (bW vkey 1 1) (up [] (0,1) (sA x8 32 x9)) s rfl n o y U ar ap ax ay az aA) [17,4,2,7,8,12] [18] ?_
 rintro ⟨x21,x22,x23⟩ hx
 try dsimp only at hx
 refine zE<|bv (g8 (sA x22 1 x23)) [] []<|zE<|bj [9999,0,3,3]<|cE (uA x17 d x lg x18 x19 none none x20 0 0 false t q ch rp rc2 hcm mark (bZ (bW vkey 1 1) t 1 hcm tkey) ai aB ht j hq aj am an Y Q R ao na nfm N (.slice none 0 0) x2 pp rc 0 x21 (bX (fun x ↦ none) pp {t:=0,k:=1,l:=0,c:=rc,g:=1,pl:=bw (be t 4) (bJ q ch mark rp rc2 1 0 1 hcm (bZ (bW vkey 1 1) t 1 hcm tkey))}) hx aD n o y) [17,4,18,21] [] fun ⟨⟨⟨x24,x25⟩,⟨x26,x27⟩,x28,x29⟩,x30,x31⟩ _=>zE<|bv (r8 (sA x30 1 x31)) [] []<|bj [3,9999,0,0]<|bj [9999,0,3,3]<|cE (sk x x1 (up [] (0,1) (sA x8 32 x9)) x8 0 x9 x8 (bW vkey 1 1) rfl s) [7,8,12] [] fun ⟨x32,x33⟩ _=>zE ?_
 refine bv (ew (sA x32 32 x33)) [] []<|zE<|bj [4,0,0,9999]<|rE (er (T:=109) underlying109 (e:=109) x30 0 9 1 x31 9 ([u32 t,i64 q,sA x24 16 x25,u32 rp,u64 rc2,u16 1,u8 0,i64 ch,sA x26 1 x27]) (by (simp;done))) [23]<|bu [] 1 fun nm2=>vE 256 (.agg ⟨List.take 9 (List.drop 0 [u32 t,i64 q,sA x24 16 x25,u32 rp,u64 rc2,u16 1,u8 0,i64 ch,sA x26 1 x27])⟩) (.agg ⟨[u32 t,i64 q,sA x24 16 x25,u32 rp,u64 rc2,u16 1,u8 0,i64 ch,sA x26 1 x27]⟩) (by rfl)<|bj [28,28,4,0,0,9999]<|rE (gh (T:=155) underlying155 x26 x26 0 3 ([u16 1,u64 hcm,sA x28 32 x29]) (by (simp;done))) [25]<|bu [] 1 fun nm3=>vE 263 (.agg ⟨List.take 3 (List.drop 0 [u16 1,u64 hcm,sA x28 32 x29])⟩) (.agg ⟨[u16 1,u64 hcm,sA x28 32 x29]⟩) (by rfl)<|bj [29] ?_
 refine bj [9999,256,3,28,29,28,29]<|fP 27 x32 (BF (pA x32) 32 x33 (bW vkey 1 1)) db fun ⟨fl,fc,fm⟩=>fP 26 x28 (BF (pA x28) 32 x29 (bZ (bW vkey 1 1) t 1 hcm tkey)) db fun ⟨fl1,fc1,fm1⟩=>cE (Ay x32 0 x33 x32 x28 0 x28 t hcm (bW vkey 1 1) tkey fl fc A j aa x29 fc1) [27,26] [] fun x34 _=>zE<|bv (ew (sA x34 16 16)) [] []<|zE<|cE (wl x x1 t x34 0 16 x34 tkey (sA x8 32 x9) ht A) [7,30] [8] fun ⟨x35,x36⟩ _=>zE<|bv dx [] []<|bj [0,0] ?_
 refine bj [9999,4456448,3,28,28]<|cE (BE x17 d x lg x18 x19 none none x20 0 0 false (sA x8 32 x9) na nfm N (.slice none 0 0) x2 now f b t rp rc2 0 x1 x35 x35 x36 kk val tkey A x21 (bX (fun x ↦ none) pp {t:=0,k:=1,l:=0,c:=rc,g:=1,pl:=bw (be t 4) (bJ q ch mark rp rc2 1 0 1 hcm (bZ (bW vkey 1 1) t 1 hcm tkey))}) hx aE B C X j Z au aq k1 k2 v0 v3) [17,4,2,7,8,31,21] [18] fun ⟨x37,x38,x39⟩ hx1=>?_
 try dsimp only at hx1
 refine zE<|bv (g8 (sA x38 1 x39)) [] []<|zE<|xV (gH (t:=64) (e:=72) (ty:=64) (k:=6) (by_:=32) (z:=.agg #[u32 0,u8 0,u8 0,u32 0,u64 0,u16 0]) underlying64 x22 1 x23 ([u32 0,u8 1,u8 0,u32 pp,u64 rc,u16 1]) x38 1 x39 (k8 t rp rc2)) [33] [22] (Views.less (.pr (bn 72 6 1 x39 (k8 t rp rc2))) ci Views.nil) fun ⟨x40,x41⟩ _=>zE<|bj [9999,512,3,28,28]<|ef (Nat×Nat×Nat) (fun ⟨x42,nm4q,nm4q1⟩=>True) 336 (fun ⟨x42,nm4q,nm4q1⟩=>[(0,bi v),(4,bi (nm 0)),(13,sA x40 2 x41),(15,sA x32 32 x33),(251,sA x30 1 x31),(252,i64 1),(253,i64 1),(254,.bool (decide (1<1)))]) [.code (cZ f23 92),.code (cZ f23 95),.rnd 2 (cZ f23 89),.blk 4,.code (cZ f23 120)] (fun ⟨x42,nm4q,nm4q1⟩=>[(ak,.fa (BF (pA vk) 32 vc vkey)),(rs,.cl [bi d,u64 i,u64 a,u64 cm,dv] 125),(na,.cl (bE now) 166),(v,.cl (bU N lim (sA vk 32 vc) d rs lg false x x17 cm pp rc 1 1 1 (nm1 0)) 90),(d,.cl (bQ na nfm N (.slice none 0 0) x2) 123),(nfm,.cl (bE now) 166),(nm 0,.cl [i64 0] 33),(x,.cl [.map (some x1)] 182),(x1,.pr (bB eW (up (up [] (0,1) (sA x8 32 x9)) (t,1) (sA x35 16 x36)))),(nm1 0,.pr (MU (up [] t (bi nm4q1)))),(x3,.fa (BF (pA x3) 256 256 (List.getD now 0 []))),(x6,.fa (BF (pA x6) 32 x7 (bW vkey 1 1))),(x8,.fa (BF (pA x8) 32 x9 (bW vkey 1 1))),(x10,.fa (BF (pA x10) 256 256 (List.getD now 1 []))),(x11,.pr (bn 68 1 1 x12 [u16 1])),(x13,.pr (bn 68 1 1 x14 [u16 1])),(x15,.pr (bn 68 1 1 x16 [u16 1])),(x17,.cl (bM d x lg none 0 0 x18 x19 none none x20 0 0 false) 199),(x18,.pr (MU x37)),(x19,.pr (MU [])),(x20,.pr (MU [])),(0,.fa (PgsF x21 (bX (fun x ↦ none) pp {t:=0,k:=1,l:=0,c:=rc,g:=1,pl:=bw (be t 4) (bJ q ch mark rp rc2 1 0 1 hcm (bZ (bW vkey 1 1) t 1 hcm tkey))}))),(x30,.pr (bn 109 9 1 x31 [u32 t,i64 q,sA x24 16 x25,u32 rp,u64 rc2,u16 1,u8 0,i64 ch,sA x26 1 x27])),(x24,.fa (BF (pA x24) 16 x25 mark)),(x26,.fa (CF x26 0 [u16 1,u64 hcm,sA x28 32 x29])),(x28,.fa (BF (pA x28) 32 x29 (bZ (bW vkey 1 1) t 1 hcm tkey))),(x32,.fa (BF (pA x32) 32 x33 (bW vkey 1 1))),(nm2 0,.cl [u32 t,i64 q,sA x24 16 x25,u32 rp,u64 rc2,u16 1,u8 0,i64 ch,sA x26 1 x27] 109),(nm3 0,.cl [u16 1,u64 hcm,sA x28 32 x29] 155),(x34,.fa (BF (pA x34) 16 16 tkey)),(x35,.fa (BF (pA x35) 16 x36 tkey)),(0,.fa (PgsF x37 (bX (bX (fun x ↦ none) pp {t:=0,k:=1,l:=0,c:=rc,g:=1,pl:=bw (be t 4) (bJ q ch mark rp rc2 1 0 1 hcm (bZ (bW vkey 1 1) t 1 hcm tkey))}) rp {t:=t,k:=1,l:=0,c:=rc2,g:=1,pl:=bw kk val}))),(x38,.pr (bn 72 6 1 x39 (k8 t rp rc2))),(x40,.pr (bn 72 6 (1+1) x41 ([u32 0,u8 1,u8 0,u32 pp,u64 rc,u16 1]++k8 t rp rc2))),(x42,.cl [.map none,u64 0] 212),(nm4q,.ob (Obj.map ⟨[]⟩ 0)),(nm4q1,.cl (b9 t q x24 x25 rp rc2 1 ch x26 x27 x42 nm4q 0) 113)]) [⟨.fn (.func 26) #[],#[bi v,bi (nm 0)]⟩] 3 (fun key=>?_) ?_
 · refine dq 7 8 ?_ ?_
   · exact cE qV [] [] fun x42 _=>bu [9999,9999] 2 fun nm4=>xE (gE (kt:=37) (et:=106) (T:=88) (κ:=.u32) underlying88 underlying37 (nm1 0) ([]) t (bi (nm4 1))) [] [9] fun _ _=>bj [0]<|jT [0,1,2,3,4,5,6,7,8,9,10,11,12,13,14,15,16,17,18,19,20,21,23,24,25,26,27,28,29,30,31,32,33,34,35,36,37] (fun u=>key (x42,nm4 0,nm4 1) u trivial)
   · exact bu [] 1 fun nm4=>cE qV [] [] fun x42 _=>bu [9999,9999] 1 fun nm5=>xE (gE (kt:=37) (et:=106) (T:=88) (κ:=.u32) underlying88 underlying37 (nm1 0) ([]) t (bi (nm5 0))) [] [9] fun _ _=>bj [0]<|jT [0,1,2,3,4,5,6,7,8,9,10,11,12,13,14,15,16,17,18,19,20,21,23,24,25,26,27,28,29,30,31,32,33,34,36,35,37] (fun u=>key (x42,nm4 0,nm5 0) u trivial)
 rintro ⟨x42,nm4q,nm4q1⟩ u6 _
 refine bj [0]<|xE E8 [] [] fun x43 _=>bj [4,0,0,9999]<|rE (er (T:=72) underlying72 (e:=72) x40 0 6 2 x41 6 ([u32 0,u8 1,u8 0,u32 pp,u64 rc,u16 1]++k8 t rp rc2) (by (simp;done))) [33]<|bu [] 1 fun nm4=>vE 319 (.agg ⟨List.take 6 (List.drop 0 ([u32 0,u8 1,u8 0,u32 pp,u64 rc,u16 1]++k8 t rp rc2))⟩) (.agg ⟨[u32 0,u8 1,u8 0,u32 pp,u64 rc,u16 1]⟩) (by rfl)<|bj [38,38,9999,37,0,0,9999]<|rE (er (T:=72) underlying72 (e:=72) x40 6 6 2 x41 6 ([u32 0,u8 1,u8 0,u32 pp,u64 rc,u16 1]++k8 t rp rc2) (by (simp;done))) [33]<|bu [] 1 fun nm5=>vE 319 (.agg ⟨List.take 6 (List.drop 6 ([u32 0,u8 1,u8 0,u32 pp,u64 rc,u16 1]++k8 t rp rc2))⟩) (.agg ⟨[u32 t,u8 1,u8 0,u32 rp,u64 rc2,u16 1]⟩) (by rfl)<|bj [39,39,9999,37,0,0,3] ?_
 have aF:∀ m,m∉[pp,rp]→lk x37 m=none:=fun m hm=>hx1.no m (by simp at hm;simp [bX,hm])
 have ab:N≤4096:=by omega
 refine cE (DB x17 d x lg x18 x19 none none x20 0 false na nfm N (.slice none 0 0) x2 now f b h8 ab x43 2 pp rp rc rc2 x37 aF S n o B C hz) [4,2,37] [17,18] fun ⟨x44,x45,x46,x47,x48⟩ ⟨hx2,hx3⟩=>?_
 try dsimp only at hx2 hx3
 exact bv dx [] []<|bj [3,6]<|lE 35 nm4q (.ob (.map #[] 0)) (.pr (MV [])) (dL _ _)<|fV<|dG #[] #[bi v,bi (nm 0)] [] (gx v (nm 0)) [] [] fun _ _=>fS (⟨x,x1,nm1 0,x8,x9,x17,x18,x20,x35,x36,x24,x25,x26,x27,x28,x29,x42,nm4q,nm4q1,x47,x48,x2,x44,x45,x46,x37⟩:O2X) (i64 0) [7,8,9,12,17,18,20,31,23,24,25,30,34,35,36,40,41] (fN _ 6) rfl ⟨hx1,by assumption,by assumption⟩
end
section
variable (v N lim d rs lg vk vc ak na nfm:Nat) (r0 p0 c0 pp0 rc0 rg0 gn0 n0 al0:Nat)
theorem Dv (vkey tkey mark kk val e f:Bs) (D:32=vkey.length) (E:32≤vc) (h8:8≤N) (F:N≤128) (steps:Int) (b a:Int) (dv:Vl) (now firm:List Bs) (i:now.length=N) (hF:firm.length=N) (j:bP now) (f256:bP firm)
 (t q ch pp rc rp rc2 hcm cm s0 g s1 h:Nat) (G:224=e.length) (H:224=f.length) (k:g<18446744073709551616) (l:h<18446744073709551616) (I:now.getD 0 []=bI (bW vkey 1 1) 0 4 0 s0 g 1 e) (J:now.getD 1 []=bI (bW vkey 1 1) 0 4 0 s1 h 1 f)
 (n:0<cm) (o:cm<4294967296) (M:now.getD (cm%2) []=bI (bW vkey 1 1) 0 4 0 (cm%2) cm 1 (bO cm pp rc 1 0 1 1)) (O:256=(bI (bW vkey 1 1) 0 4 0 (cm%2) cm 1 (bO cm pp rc 1 0 1 1)).length)
 (P:16=mark.length) (Q:16=tkey.length) (ht:0<t) (s:t<4294967296) (hq:1≤q) (R:q<128) (S:ch≤q) (T:0<ch) (u:rp<128) (w:rc2<128) (U:hcm<128) (y:2≤pp) (z:pp<N) (A:2≤rp) (B:rp<N) (V:pp≠rp) (W:rc<18446744073709551616)
 (X:now.getD pp []=bI (bW vkey 1 1) 0 1 0 pp rc 1 (bw (be t 4) (bJ q ch mark rp rc2 1 0 1 hcm (bZ (bW vkey 1 1) t 1 hcm tkey)))) (Y:now.getD rp []=bI tkey t 1 0 rp rc2 1 (bw kk val)) (hz:∀ m,2≤m→m<N→m∉[pp,rp]→now.getD m []=List.replicate 256 0)
 (C:(bJ q ch mark rp rc2 1 0 1 hcm (bZ (bW vkey 1 1) t 1 hcm tkey)).length=59) (Z:224=(bw (be t 4) (bJ q ch mark rp rc2 1 0 1 hcm (bZ (bW vkey 1 1) t 1 hcm tkey))).length) (aa:224=(bw kk val).length) (k1:1≤kk.length) (k2:kk.length≤32) (v0:1≤val.length) (v3:val.length≤64) :
 TT 16 #[bi v] [(ak,.fa (BF (pA vk) 32 vc vkey)),(rs,.cl (dc d b a (cm:Int) dv) df),(na,.cl (bE now) 166)] [(v,.cl (bU N lim (sA vk 32 vc) d rs lg false r0 p0 c0 pp0 rc0 rg0 gn0 n0 al0) 90),(d,.cl (bQ na nfm N (.slice none 0 0) steps) bT),(nfm,.cl (bE firm) 166)] (fun x:O2X=>KM x.K (bX (bX (fun _=>none) pp ⟨0,1,0,rc,1,bw (be t 4) (bJ q ch mark rp rc2 1 0 1 hcm (bZ (bW vkey 1 1) t 1 hcm tkey))⟩) rp ⟨t,1,0,rc2,1,bw kk val⟩)∧RunsP x.L∧∀ m,bR x.L m↔2≤m∧m<N∧m∉[pp,rp]) (fun _=>.returned (i64 0))
  (fun x=>[(v,.cl (yu N lim (sA vk 32 vc) d rs lg true x.r x.p cm pp rc x.al) 90),(d,.cl (bQ na nfm N (.slice none 0 0) x.steps) bT),(nfm,.cl (bE now) 166)])
  (fun x=>[(x.r,.cl [.map (some x.m)] 182),(x.m,.pr (bB eW (up (up [] (0,1) (sA x.kb 32 x.kc)) (t,1) (sA x.tb 16 x.tk)))),(x.al,.pr (MU [(t,bi x.tn)])),(x.kb,.fa (BF (pA x.kb) 32 x.kc (bW vkey 1 1))),(x.p,.cl (bM d x.r lg x.Af x.L.length x.c x.kn x.wt none none x.pi 0 0 false) 199),(x.kn,.pr (MU x.K)),(x.pi,.pr (MU [])),(0,.fa (PgsF x.K (bX (bX (fun _=>none) pp ⟨0,1,0,rc,1,bw (be t 4) (bJ q ch mark rp rc2 1 0 1 hcm (bZ (bW vkey 1 1) t 1 hcm tkey))⟩) rp ⟨t,1,0,rc2,1,bw kk val⟩))),(x.mb,.fa (BF (pA x.mb) 16 x.mc mark)),(x.hb,.fa (CF x.hb 0 [u16 1,u64 hcm,sA x.wb 32 x.wc])),(x.wb,.fa (BF (pA x.wb) 32 x.wc (bZ (bW vkey 1 1) t 1 hcm tkey))),(x.tb,.fa (BF (pA x.tb) 16 x.tk tkey)),(x.cb,.cl [.map none,u64 0] 212),(x.sh,.pr (MV [])),(x.tn,.cl (yG t q x.mb x.mc rp rc2 ch x.hb x.hc x.cb x.sh 0) 113),(x.wt,.pr (MU [])),(x.fa,.fa (bN x.Af x.L.length x.c x.L))]):=iE func16<|zE<|bv (ea v N lim (sA vk 32 vc) d rs lg false r0 p0 c0 pp0 rc0 rg0 gn0 n0 al0) [3] []<|bj [0]<|cE (Hj v N lim d rs lg vk vc ak na nfm r0 p0 c0 pp0 rc0 rg0 gn0 n0 al0 vkey tkey mark kk val e f D E h8 F steps b a dv now firm i hF j f256 t q ch pp rc rp rc2 hcm cm s0 g s1 h G H k l I J n o M O P Q ht s hq R S T u w U y z A B V W X Y hz C Z aa k1 k2 v0 v3) [0,1,2] [3,4,5] fun x ⟨hx,hx1,hx2⟩=>zE<|rT x 9999 [6,7,8,9,10,11,12,13,14,15,16,17,18,19,20,21,22]
end
section
variable (v N lim d rs lg vk vc ak na nfm:Nat) (r0 p0 c0 pp0 rc0 rg0 gn0 n0 al0:Nat)
theorem DR (vkey tkey mark c e:Bs) (z:32=vkey.length) (A:32≤vc) (W:8≤N) (B:N≤128) (steps:Int) (b a:Int) (dv:Vl) (now firm:List Bs) (h:now.length=N) (X:firm.length=N) (i:bP now) (f256:bP firm)
 (t q ch pp rc rp rc2 hcm cm U f V g:Nat) (C:224=c.length) (D:224=e.length) (j:f<18446744073709551616) (k:g<18446744073709551616) (E:now.getD 0 []=bI (bW vkey 1 1) 0 4 0 U f 1 c) (F:now.getD 1 []=bI (bW vkey 1 1) 0 4 0 V g 1 e)
 (l:0<cm) (m:cm<4294967296) (G:now.getD (cm%2) []=bI (bW vkey 1 1) 0 4 0 (cm%2) cm 1 (bO cm pp rc 1 0 1 1)) (H:256=(bI (bW vkey 1 1) 0 4 0 (cm%2) cm 1 (bO cm pp rc 1 0 1 1)).length)
 (I:16=mark.length) (J:16=tkey.length) (Y:0<t) (n:t<4294967296) (Z:1≤q) (K:q<128) (L:ch≤q) (M:0<ch) (o:rp<128) (p:rc2<128) (O:hcm<128) (r:2≤pp) (s:pp<N) (u:2≤rp) (w:rp<N) (P:pp≠rp) (Q:rc<18446744073709551616)
 (R:now.getD pp []=bI (bW vkey 1 1) 0 1 0 pp rc 1 (bw (be t 4) (bJ q ch mark rp rc2 1 0 1 hcm (bZ (bW vkey 1 1) t 1 hcm tkey)))) (S:(now.getD rp []).take 16=eo 1 0 1 rc2) (x:¬ ee tkey (cK rp rc2) (d9 t 1 0 1) (List.take (240-16) (List.take 240 (List.drop 16 (now.getD rp []))))=List.drop (240-16) (List.take 240 (List.drop 16 (now.getD rp []))))
 (y:(bJ q ch mark rp rc2 1 0 1 hcm (bZ (bW vkey 1 1) t 1 hcm tkey)).length=59) (T:224=(bw (be t 4) (bJ q ch mark rp rc2 1 0 1 hcm (bZ (bW vkey 1 1) t 1 hcm tkey))).length) :
 TT 16 #[bi v] [(ak,.fa (BF (pA vk) 32 vc vkey)),(rs,.cl (dc d b a (cm:Int) dv) df),(na,.cl (bE now) 166)] [(v,.cl (bU N lim (sA vk 32 vc) d rs lg false r0 p0 c0 pp0 rc0 rg0 gn0 n0 al0) 90),(d,.cl (bQ na nfm N (.slice none 0 0) steps) bT),(nfm,.cl (bE firm) 166)] uT (fun _=>.returned (i64 210)) (fun _=>deadL [(v,.cl (bU N lim (sA vk 32 vc) d rs lg false r0 p0 c0 pp0 rc0 rg0 gn0 n0 al0) 90),(d,.cl (bQ na nfm N (.slice none 0 0) steps) bT),(nfm,.cl (bE firm) 166)]) (fun _=>[]):=iE func16<|zE<|bv (ea v N lim (sA vk 32 vc) d rs lg false r0 p0 c0 pp0 rc0 rg0 gn0 n0 al0) [3] []<|bj [0]<|bv (GX v N lim d rs lg vk vc ak na nfm r0 p0 c0 pp0 rc0 rg0 gn0 n0 al0 vkey tkey mark c e z A W B steps b a dv now firm h X i f256 t q ch pp rc rp rc2 hcm cm U f V g C D j k E F l m G H I J Y n Z K L M o p O r s u w P Q R S x y T) [0,1,2] [3,4,5]<|zE<|rT ()
end
theorem ve:TT 12 #[] [] [] (fun x:Nat=>True) (fun x=>.returned (sA x 16 16)) (fun _=>[]) (fun x=>[(x,.pr (bG 0 ((List.replicate 16 (97:UInt8)).map B8)))]):=iE func12<|bu [9999] 1 fun nm=>xE (gd (nm 0) 16 (List.replicate 16 97)) [] [0] fun _ _=>zE<|rT (nm 0) 9999 [0]
theorem mj:TT 12 #[] [] [] (fun x:Nat=>True) (fun x=>.returned (sA x 16 16)) (fun _=>[]) (fun x=>[(x,.fa (BF (pA x) 16 16 (List.replicate 16 97)))]):=
 ve.frzN (fun _=>rfl) fun x w hw=>Gx (H:=[(x,.pr (bG 0 ((List.replicate 16 (97:UInt8)).map B8)))]) ⟨fun i j b s t hij hi hj _ _=>by
  cases i with
  | zero=>cases j with
   | zero=>exact hij rfl
   | succ j=>simp at hj
  | succ i=>simp at hi,fun j b s hj hl=>by
  cases j with
  | zero=>simp at hj;obtain ⟨rfl,rfl⟩:=hj;exact hw
  | succ j=>simp at hj⟩ 0 rfl rfl (Nat.le_refl _) (by decide)
section
variable (v N lim:Nat) (key:Vl) (d rs lg:Nat) (r p c pp rc rg gn n al na nfm:Nat)
theorem xQ (b:Option Addr) (e mc:Nat) (steps:Int) (now firm:List Bs) (f:now.length=N) (g:firm.length=N) (a:bP now) (f256:bP firm) :
 TT 15 #[bi v,.slice b e mc] [(nfm,.cl (bE firm) 166)] [(v,.cl (bU N lim key d rs lg true r p c pp rc rg gn n al) 90),(d,.cl (bQ na nfm N (.slice none 0 0) steps) bT),(na,.cl (bE now) 166)] uT (fun _=>.returned (i64 0)) (fun _=>[(v,.cl (bU N lim key d rs lg false r p c pp rc rg gn n al) 90),(d,.cl (bQ na nfm N (.slice none 0 0) steps) bT),(na,.cl (bE firm) 166)]) (fun _=>[]):=iE func15<|zE<|bv (ea v N lim key d rs lg true r p c pp rc rg gn n al) [1] []<|bj [0,1,1]<|bv (Ei d na nfm N steps b e mc now firm f g a f256) [0] [2,3]<|zE<|rT ()
theorem ym (steps:Int) (i b:Nat) (hi:i<N) (l:Bs) (e:l.length=3) (now firm:List Bs) (f:now.length=N) (g:firm.length=N) (a:bP now) (f256:bP firm) :
 TT 18 #[bi v,i64 i,i64 99,sA b 3 3] [(v,.cl (bU N lim key d rs lg true r p c pp rc rg gn n al) 90),(d,.cl (bQ na nfm N (.slice none 0 0) steps) bT),(b,.pr (bG 0 (l.map B8)))] [(na,.cl (bE now) 166),(nfm,.cl (bE firm) 166)] uT (fun _=>.returned (i64 0)) (fun _=>[(na,.cl (bE (now.set i (part (now.getD i []) 99 l))) 166),(nfm,.cl (bE (firm.set i (part (firm.getD i []) 99 l))) 166)]) (fun _=>[]):=iE func18<|zE<|bv (ea v N lim key d rs lg true r p c pp rc rg gn n al) [0] []<|bj [0,0]<|bv (yZ d na nfm N steps i b hi l e now firm f g a f256) [1,2] [3,4]<|zE<|rT ()
end
abbrev c5:VC:=mD 100 100000 3 5 (eB 0) (List.replicate 16 97) (dO 1 0)
theorem mv:c5.Ok:=rU 100 100000 3 5 (eB 0) (List.replicate 16 97) (dO 1 0) (by decide) (by decide) (by decide) (by decide) (by decide) (by decide) (by decide) rfl rfl rfl
abbrev aH (s:VS):HP:=
 [(s.v,.cl (bU 100 100000 (.slice (some ⟨s.vk,0,none⟩) 32 s.vc) s.d s.rs s.lg true s.r s.p s.cm s.pp s.rc 1 1 1 s.al) 90),
  (s.al,.pr (bB (eK .u32) [(3,bi s.tn)])),
  (s.tn,.cl (b9 3 5 s.mb s.mc s.rp s.rc2 s.rg2 s.ch s.hb s.hc s.cb s.sh s.made) 113),
  (s.cb,.cl (cL s.ca s.cct) 212),cH s.ca s.A,(s.sh,.pr (bB (eK .u64) s.SH)),
  (s.r,.cl [.map (some s.m)] 182),(s.m,.pr (bB eW s.G)),
  (s.p,.cl (bM s.d s.r s.lg s.Af s.nf s.cf s.kn s.wt s.pu s.dr s.pi 0 s.lst s.fl) 199),
  (s.kn,.pr (bB (eK .u32) s.K)),(s.wt,.pr (bB (eK .u32) (bF s.W))),(s.pi,.pr (bB (eK .u32) s.I)),
  (s.rs,.cl (dc s.d (100000:Int) (s.cm:Int) (s.cm:Int) s.dv) df),(s.lg,.cl [s.lv] 128),(s.lb,s.lsb),
  (s.d,.cl (bQ s.na s.nfm 100 (.slice none 0 0) s.steps) bT),(s.na,.cl (bE s.now) 166),(s.nfm,.cl (bE s.firm) 166),
  (0,.fa (bN s.Af s.nf s.cf s.L)),(0,.fa (PgsF s.K s.M)),(0,.fa (dw s.G c5.Kf)),
  (0,.fa (CF s.hb 0 (cX 1 1 s.wb s.wc))),(0,.fa (BF (some ⟨s.mb,0,none⟩) 16 s.mc c5.mark)),(0,.fa (BF (some ⟨s.wb,0,none⟩) 32 s.wc c5.wr)),
  (0,.fa (BF (some ⟨s.vk,0,none⟩) 32 s.vc c5.vkey)),(0,.fa (ShF 3 s.SH))]
abbrev zX (s:VS):HP:=
 [(s.v,.cl (bU 100 100000 (.slice (some ⟨s.vk,0,none⟩) 32 s.vc) s.d s.rs s.lg true s.r s.p s.cm s.pp s.rc 1 1 1 s.al) 90),
  (s.al,.pr (bB (eK .u32) [(3,bi s.tn)])),
  (s.tn,.cl (b9 3 5 s.mb s.mc s.rp s.rc2 s.rg2 s.ch s.hb s.hc s.cb s.sh s.made) 113),
  (s.cb,.cl [.map none,u64 0] 212),(s.sh,.pr (bB (eK .u64) s.SH)),
  (s.r,.cl [.map (some s.m)] 182),(s.m,.pr (bB eW s.G)),
  (s.p,.cl (bM s.d s.r s.lg s.Af s.nf s.cf s.kn s.wt s.pu s.dr s.pi 0 s.lst s.fl) 199),
  (s.kn,.pr (bB (eK .u32) s.K)),(s.wt,.pr (bB (eK .u32) (bF s.W))),(s.pi,.pr (bB (eK .u32) s.I)),
  (s.rs,.cl (dc s.d (100000:Int) (s.cm:Int) (s.cm:Int) s.dv) df),(s.lg,.cl [s.lv] 128),(s.lb,s.lsb),
  (s.d,.cl (bQ s.na s.nfm 100 (.slice none 0 0) s.steps) bT),(s.na,.cl (bE s.now) 166),(s.nfm,.cl (bE s.firm) 166),
  (0,.fa (bN s.Af s.nf s.cf s.L)),(0,.fa (PgsF s.K s.M)),(0,.fa (dw s.G c5.Kf)),
  (0,.fa (CF s.hb 0 (cX 1 1 s.wb s.wc))),(0,.fa (BF (some ⟨s.mb,0,none⟩) 16 s.mc c5.mark)),(0,.fa (BF (some ⟨s.wb,0,none⟩) 32 s.wc c5.wr)),
  (0,.fa (BF (some ⟨s.vk,0,none⟩) 32 s.vc c5.vkey)),(0,.fa (ShF 3 s.SH))]
structure aNew (y:NwX):Prop where
 vc:32≤y.vc
 rc:5≤y.rc
 tk:16≤y.tk
 L:RunsP y.o.L
 m:∀ m,bR y.o.L m↔2≤m∧m<100∧m∉([]:List Nat)
structure aCrd (s:VS) (v:Nat):Prop where
 ok:s.Ok c5
 vv:s.v=v
 rp:s.rp=0
 rc2:s.rc2=0
 rg2:s.rg2=0
 ch:s.ch=0
 cm:s.cm=1
 sh:s.SH=[]
 ww:s.W=[]
 mg:s.Mg=2
 dv:E0 c5 s
theorem Iv (y:NwX) (a:aNew y) (b sb:Nat) :
 TT 10 #[bi y.v,.agg #[i64 1,u32 3,sA sb 16 16,i64 5,i64 0,u64 0,u64 0,u64 0,u8 0,bp,bp,bp,bp,.bool false]] [(b,.fa (BF (pA sb) 16 16 (List.replicate 16 97)))] (qw 100 100000 5 (eB 0) (dO 1 0) y) (fun s:VS=>aCrd s y.v) (fun _=>.returned (cP 0 0 0 bp bp 0 bp)) (fun _=>deadL (qw 100 100000 5 (eB 0) (dO 1 0) y)) (fun s=>zX s):=
 (DG 100 100000 3 5 5 (eB 0) (List.replicate 16 97) (dO 1 0) (by decide) (by decide) (by decide) (by decide) (by decide) (by decide) (by decide) (by decide) rfl rfl rfl y a.vc a.rc a.tk (by decide) (by decide) a.L a.m b sb 0 16 (by decide)).lift [0] ((List.range 18).map (·+1)) (by kernel_rfl) (fun _=>sameAd_dead _) fun s h=>⟨s,⟨h.1,h.2.1,h.2.2.1,h.2.2.2.1,h.2.2.2.2.1,h.2.2.2.2.2.1,h.2.2.2.2.2.2.1,h.2.2.2.2.2.2.2.2.1,h.2.2.2.2.2.2.2.2.2.1,h.2.2.2.2.2.2.2.2.2.2.1,h.2.2.2.2.2.2.2.2.2.2.2⟩,rfl,(List.range 25).map (·+19),by kernel_rfl⟩
theorem I7 (s:VS) (v:Nat) (hs:aCrd s v) (b sb:Nat) :
 TT 10 #[bi v,.agg #[i64 8,u32 3,sA sb 16 16,i64 0,i64 0,u64 0,u64 0,u64 0,u8 0,bp,bp,bp,bp,.bool false]] [(b,.fa (BF (pA sb) 16 16 (List.replicate 16 97)))] (zX s) (fun x:VS=>aCrd x v∧x.A=[(1,hV 15 0)]) (fun _=>.returned (cP 0 12884901889 0 bp bp 0 bp)) (fun _=>deadL (zX s)) (fun x=>aH x):=by
 obtain ⟨ok,rfl,rp,rc2,rg2,ch,cm,sh,ww,mg,dv⟩:=hs
 exact (Ez c5 s ok mv b sb 0 16 (List.replicate 16 97) rfl rfl (by decide)).lift [0] ((List.range 25).map (·+1)) (by kernel_rfl) (fun _=>sameAd_dead _) fun x h=>⟨x,by
  obtain ⟨a,rfl⟩:=h
  exact ⟨⟨ok.att a,rfl,rp,rc2,rg2,ch,cm,sh,ww,mg,dv⟩,rfl⟩,rfl,(List.range 26).map (·+26),by kernel_rfl⟩
abbrev o4:Bs:=bJ 5 1 c5.mark 3 2 1 0 1 1 (bZ (bW (eB 0) 1 1) 3 1 1 (dO 1 0))
structure aBtd (x:VS) (v:Nat):Prop where
 ok:x.Ok c5
 vv:x.v=v
 cm:x.cm=2
 ff:x.firm=x.now
 d0:x.now.getD 0 []=bI (bW (eB 0) 1 1) 0 4 0 0 2 1 (bO 2 4 2 1 0 1 1)
 d1:x.now.getD 1 []=bI (bW (eB 0) 1 1) 0 4 0 1 1 1 (bO 1 2 1 1 0 1 1)
 d4:x.now.getD 4 []=bI (bW (eB 0) 1 1) 0 1 0 4 2 1 (bw (be 3 4) o4)
 d3:x.now.getD 3 []=bI (dO 1 0) 3 1 0 3 2 1 (bw [107] [50])
 dz:∀ m,2≤m→m<100→m∉[4,3]→x.now.getD m []=List.replicate 256 0
theorem HQ (s:VS) (v:Nat) (hs:aCrd s v) (hA:s.A=[(1,hV 15 0)]) (a b e f g c h:Nat) :
 TT 10 #[bi v,.agg #[i64 11,u32 0,bp,i64 0,i64 0,u64 12884901889,u64 0,u64 0,u8 0,sA c 1 h,bp,bp,bp,.bool false]] [(e,.fa (BF (pA a) 1 1 [107])),(f,.fa (BF (pA b) 1 1 [50])),(g,.fa (CF c 0 (dS a 0 1 1 (cB b 0 1 1) false)))] (aH s) (fun x:VS=>aBtd x v) (fun _=>.returned (cP 0 0 0 bp bp 0 bp)) (fun _=>deadL (aH s)) (fun x=>aH x):=by
 obtain ⟨ok,rfl,rp,rc2,rg2,ch,cm,sh,ww,mg,dv⟩:=hs
 have T:=Ag c5 s 12884901889 ok mv (by decide) (by decide) rp rc2 rg2 ch a 0 1 e b 0 1 f g c h [107] [50] (by decide) (by decide) (by decide) (by decide) 15 0 (by rw [hA];rfl) (by decide) (by decide) (by rw [ww];decide) (by rw [sh];decide) (by omega) (by omega) (by show s.cm<100000;omega) (by rw [sh,ch];decide)
 exact T.lift [0,1,2] ((List.range 26).map (·+3)) (by kernel_rfl) (fun _=>sameAd_dead _) fun x hx=>by
  obtain ⟨ho,ff,f2,y,ys,rfl,hb⟩:=hx
  rw [ch] at ho ⊢
  obtain ⟨rfl,rfl,e0,e1,e4,e3,ez⟩:=Br mv (by decide) ok dv cm ww (fun m=>by rw [ok.pinc,sh];rfl) hb (kk:=[107]) (new:=[50])
  have d:(mH c5 s 1 3 4 [107] [50] y).getD 4 []=bI (bW (eB 0) 1 1) 0 1 0 4 2 1 (bw (be 3 4) o4):=by
   rw [e4]
   show bI _ _ _ _ _ _ _ (bw (be c5.tt 4) (bJ c5.q 1 c5.mark 3 (s.cm+1) 1 0 1 c5.hcm c5.wr))=_
   rw [cm]
   rfl
  exact ⟨VS.bat c5 s 1 3 4 [107] [50] (s.W++[s.pp]) y ys,⟨ho,rfl,by show s.cm+1=2;omega,rfl,e0,e1,d,e3,ez⟩,rfl,(List.range 26).map (·+29),by kernel_rfl⟩
abbrev EM (s:VS):HP:=
 [(s.v,.cl (bU 100 100000 (.slice (some ⟨s.vk,0,none⟩) 32 s.vc) s.d s.rs s.lg false s.r s.p s.cm s.pp s.rc 1 1 1 s.al) 90),
  (s.al,.pr (bB (eK .u32) [(3,bi s.tn)])),
  (s.tn,.cl (b9 3 5 s.mb s.mc s.rp s.rc2 s.rg2 s.ch s.hb s.hc s.cb s.sh s.made) 113),
  (s.cb,.cl (cL s.ca s.cct) 212),cH s.ca s.A,(s.sh,.pr (bB (eK .u64) s.SH)),
  (s.r,.cl [.map (some s.m)] 182),(s.m,.pr (bB eW s.G)),
  (s.p,.cl (bM s.d s.r s.lg s.Af s.nf s.cf s.kn s.wt s.pu s.dr s.pi 0 s.lst s.fl) 199),
  (s.kn,.pr (bB (eK .u32) s.K)),(s.wt,.pr (bB (eK .u32) (bF s.W))),(s.pi,.pr (bB (eK .u32) s.I)),
  (s.rs,.cl (dc s.d (100000:Int) (s.cm:Int) (s.cm:Int) s.dv) df),(s.lg,.cl [s.lv] 128),(s.lb,s.lsb),
  (s.d,.cl (bQ s.na s.nfm 100 (.slice none 0 0) s.steps) bT),(s.na,.cl (bE s.now) 166),(s.nfm,.cl (bE s.firm) 166),
  (0,.fa (bN s.Af s.nf s.cf s.L)),(0,.fa (PgsF s.K s.M)),(0,.fa (dw s.G c5.Kf)),
  (0,.fa (CF s.hb 0 (cX 1 1 s.wb s.wc))),(0,.fa (BF (some ⟨s.mb,0,none⟩) 16 s.mc c5.mark)),(0,.fa (BF (some ⟨s.wb,0,none⟩) 32 s.wc c5.wr)),
  (0,.fa (BF (some ⟨s.vk,0,none⟩) 32 s.vc c5.vkey)),(0,.fa (ShF 3 s.SH))]
theorem Fc (x:VS) (v:Nat) (c:aBtd x v) (a:Option Addr) (b mc:Nat) :
 TT 15 #[bi v,.slice a b mc] [] (aH x) uT (fun _=>.returned (i64 0)) (fun _=>deadL (aH x)) (fun _=>EM x):=by
 obtain ⟨ok,rfl,cm,ff,-⟩:=c
 have T:=xQ x.v 100 100000 (.slice (some ⟨x.vk,0,none⟩) 32 x.vc) x.d x.rs x.lg x.r x.p x.cm x.pp x.rc 1 1 1 x.al x.na x.nfm a b mc x.steps x.now x.firm ok.now ok.firm ok.n256 ok.f256
 exact T.lift [17] [0,15,16] (by kernel_rfl) (fun _=>bD (bD (bD bH (fun _=>rfl)) (fun _=>rfl)) (fun _=>rfl)) fun _ _=>⟨(),trivial,rfl,List.range 26,by rw [ff];kernel_rfl⟩
abbrev aM:Nat→Option Pg:=bX (bX (fun _=>none) 4 ⟨0,1,0,2,1,bw (be 3 4) o4⟩) 3 ⟨3,1,0,2,1,bw [107] [50]⟩
abbrev po (x:VS) (z:O2X):HP:=[(x.v,.cl (bU 100 100000 (sA x.vk 32 x.vc) x.d x.rs x.lg true z.r z.p x.cm 4 2 1 1 1 z.al) 90),(z.al,.pr (MU [(3,bi z.tn)])),(z.tn,.cl (b9 3 5 z.mb z.mc 3 2 1 1 z.hb z.hc z.cb z.sh 0) 113),(z.sh,.pr (MV [])),(z.p,.cl (bM x.d z.r x.lg z.Af z.L.length z.c z.kn z.wt none none z.pi 0 0 false) 199),(z.kn,.pr (MU z.K)),(x.d,.cl (bQ x.na x.nfm 100 (.slice none 0 0) z.steps) bT),(x.na,.cl (bE x.now) 166),(x.nfm,.cl (bE x.now) 166),(x.rs,.cl (dc x.d (100000:Int) (x.cm:Int) (x.cm:Int) x.dv) df),(0,.fa (BF (pA x.vk) 32 x.vc (eB 0))),(z.mb,.fa (BF (pA z.mb) 16 z.mc c5.mark)),(0,.fa (PgsF z.K aM))]
theorem jd:o4.length=59:=(io 5 1 c5.mark 3 2 1 0 1 1 _ mv.mark mv.wr).symm
theorem Ga (x:VS) (v:Nat) (a:aBtd x v) :
 TT 16 #[bi v] [] (EM x) (fun z:O2X=>KM z.K aM) (fun _=>.returned (i64 0)) (fun _=>deadL (EM x)) (fun z=>po x z++[(z.cb,.cl [.map none,u64 0] 212)]):=by
 obtain ⟨ok,rfl,cm,ff,d0,d1,d4,d3,dz⟩:=a
 have T:=Dv x.v 100 100000 x.d x.rs x.lg x.vk x.vc 0 x.na x.nfm x.r x.p x.cm x.pp x.rc 1 1 1 x.al (eB 0) (dO 1 0) c5.mark [107] [50] (bO 2 4 2 1 0 1 1) (bO 1 2 1 1 0 1 1) rfl ok.vc (by decide) (by decide) x.steps 100000 x.cm x.dv x.now x.firm ok.now ok.firm ok.n256 ok.f256 3 5 1 4 2 3 2 1 x.cm 0 2 1 1 (fd _ _ _ _ _ _ _).symm (fd _ _ _ _ _ _ _).symm (by decide) (by decide) d0 d1 (by omega) (by omega) (by rw [cm];exact d0) (fi _ _ _ _ _ _ _ _ (fd _ _ _ _ _ _ _)).symm mv.mark rfl (by decide) (by decide) (by decide) (by decide) (by decide) (by decide) (by decide) (by decide) (by decide) (by decide) (by decide) (by decide) (by decide) (by decide) (by decide) d4 d3 dz jd (ge _ _ (by rw [cc];decide) (by rw [jd];decide)) (ge _ _ (by decide) (by decide)) (by decide) (by decide) (by decide) (by decide)
 exact T.lift [24,12,16] [0,15,17] (by kernel_rfl) (fun _=>bD (bD (bD bH (fun _=>rfl)) (fun _=>rfl)) (fun _=>rfl)) fun z h=>⟨z,h.1,rfl,[0,28,40,39,30,31,15,16,17,12,24,34,33,38],by kernel_rfl⟩
theorem F8 (x:VS) (z:O2X) (v:Nat) (c:aBtd x v) (b sb:Nat) :
 TT 10 #[bi v,.agg #[i64 8,u32 3,sA sb 16 16,i64 0,i64 0,u64 0,u64 0,u64 0,u8 0,bp,bp,bp,bp,.bool false]] [(b,.fa (BF (pA sb) 16 16 (List.replicate 16 97)))] (po x z++[(z.cb,.cl [.map none,u64 0] 212)]) (fun _:Nat=>True) (fun _=>.returned (cP 0 12884901889 0 bp bp 0 bp)) (fun _=>deadL (po x z++[(z.cb,.cl [.map none,u64 0] 212)])) (fun a=>po x z++[(z.cb,.cl (cL a 1) 212),cH a [(1,hV 15 0)]]):=by
 obtain ⟨ok,rfl,-⟩:=c
 have D:=AC x.v 100 100000 x.d x.rs x.lg z.r z.p x.cm 4 2 1 1 1 z.al 3 0 0 0 0 0 0 bp bp bp bp false 3 5 z.mb z.mc 3 2 1 1 z.hb z.hc z.cb z.sh 0 z.tn [(3,bi z.tn)] x.vk 0 x.vc sb 0 16 0 b z.mb (eB 0) (List.replicate 16 97) (by rw [cp,if_pos rfl]) (by decide) rfl ok.vc rfl (by decide)
 exact D.lift [1,2,3,11,0,12] [14] (by kernel_rfl) (fun _=>bD bH (fun _=>rfl)) fun a _=>⟨a,trivial,rfl,(List.range 15).map (·+1),by kernel_rfl⟩
theorem Ja (x:VS) (z:O2X) (a v:Nat) (f:aBtd x v) (g:KM z.K aM) (e b:Nat) :
 TT 10 #[bi v,.agg #[i64 12,u32 0,bp,i64 0,i64 0,u64 12884901889,u64 0,u64 0,u8 0,bp,cB b 0 1 1,bp,bp,.bool false]] [(e,.fa (BF (pA b) 1 1 [107]))] (po x z++[(z.cb,.cl (cL a 1) 212),cH a [(1,hV 15 0)]]) (fun _:Nat×Nat=>True) (fun y=>.returned (cP 0 0 0 (ck y.1 1 y.2) bp 0 bp)) (fun _=>deadL (po x z++[(z.cb,.cl (cL a 1) 212),cH a [(1,hV 15 0)]])) (fun y=>po x z++[(y.1,.fa (BF (pA y.1) 1 y.2 [50]))]):=by
 obtain ⟨ok,rfl,-⟩:=f
 have D:=Hi x.v 100 100000 (.slice (some ⟨x.vk,0,none⟩) 32 x.vc) x.d x.rs x.lg z.r z.p x.cm 4 2 1 1 1 z.al 0 bp 0 0 12884901889 0 0 bp bp bp false 3 5 z.mb z.mc 3 2 1 1 z.hb z.hc z.cb z.sh 0 a 1 z.tn [(3,bi z.tn)] [(1,hV 15 0)] b 0 1 (by decide) (by rfl) 15 0 (by rfl) (by decide) z.Af z.L.length z.c z.kn z.wt none none z.pi 0 0 false x.na x.nfm (.slice none 0 0) z.steps 0 e 1 [107] [50] rfl z.K aM g (by rfl) (by decide) (by decide) (by decide) (by decide) (by decide) (by decide) (by decide)
 exact D.lift [1,2,3,14,15,5,7,6,13,0] [] (by kernel_rfl) (fun _=>bH) fun y _=>⟨y,trivial,rfl,(List.range 13).map (·+1)++[16],by kernel_rfl⟩
abbrev fL (x:VS) (z:O2X) (op:Bool) (nw:List Bs):HP:=[(x.v,.cl (bU 100 100000 (sA x.vk 32 x.vc) x.d x.rs x.lg op z.r z.p x.cm 4 2 1 1 1 z.al) 90),(x.d,.cl (bQ x.na x.nfm 100 (.slice none 0 0) z.steps) bT),(x.na,.cl (bE nw) 166),(x.nfm,.cl (bE nw) 166),(x.rs,.cl (dc x.d (100000:Int) (x.cm:Int) (x.cm:Int) x.dv) df),(0,.fa (BF (pA x.vk) 32 x.vc (eB 0)))]
theorem zd (x:VS) (z:O2X) (v:Nat) (a:aBtd x v) (b:KM z.K aM) :
 TT 17 #[bi v] [] (po x z) (fun _:Nat×Nat=>True) (fun y=>.returned (.tuple #[ck y.1 2 y.2,i64 0])) (fun _=>deadL (po x z)) (fun y=>fL x z true x.now++[(y.1,.pr (bn 72 6 2 y.2 [u32 0,u8 1,u8 0,u32 4,u64 2,u16 1,u32 3,u8 1,u8 0,u32 3,u64 2,u16 1]))]):=by
 obtain ⟨ok,rfl,-⟩:=a
 have D:=yE x.v 100 100000 (.slice (some ⟨x.vk,0,none⟩) 32 x.vc) x.d x.rs x.lg z.r z.p x.cm 4 2 z.al 3 5 z.mb z.mc 3 2 1 z.hb z.hc z.cb z.sh 0 z.tn z.Af z.L.length z.c z.kn z.wt none none z.pi 0 0 false x.na x.nfm (.slice none 0 0) z.steps 0 [107] [50] o4 z.K aM b (by rfl) (by rfl) (by decide) (by decide) (by decide) (by decide) (by decide) (by decide) (by decide) (by decide) (by decide) (by decide) (by decide) (by rw [jd];decide) (by rw [jd];decide) (by rw [cc];decide) (by rw [cc];decide)
 exact D.lift [0,1,2,3,4,6,5,12] [] (by kernel_rfl) (fun _=>bH) fun y _=>⟨y,trivial,rfl,[0,6,7,8,9,10,13],by kernel_rfl⟩
abbrev jn (x:VS):List Bs:=x.now.set 3 (part (x.now.getD 3 []) 99 [1,2,3])
theorem HY (x:VS) (z:O2X) (v:Nat) (b:aBtd x v) (a:Nat) :
 TT 18 #[bi v,i64 3,i64 99,sA a 3 3] [(a,.pr (bG 0 [u8 1,u8 2,u8 3]))] (fL x z true x.now) uT (fun _=>.returned (i64 0)) (fun _=>deadL (fL x z true x.now)) (fun _=>fL x z true (jn x)):=by
 obtain ⟨ok,rfl,cm,ff,-⟩:=b
 have T:=ym x.v 100 100000 (.slice (some ⟨x.vk,0,none⟩) 32 x.vc) x.d x.rs x.lg z.r z.p x.cm 4 2 1 1 1 z.al x.na x.nfm z.steps 3 a (by decide) [1,2,3] rfl x.now x.now ok.now ok.now ok.n256 ok.n256
 exact T.lift [1,2,0] [3,4] (by kernel_rfl) (fun _=>bD (bD bH (fun _=>rfl)) (fun _=>rfl)) fun _ _=>⟨(),trivial,rfl,(List.range 6).map (·+1),by kernel_rfl⟩
theorem rr {x:VS} {v:Nat} (a:aBtd x v):(jn x).length=100:=by
 rw [List.length_set];exact a.ok.now
theorem sI {x:VS} {v:Nat} (a:aBtd x v):bP (jn x):=lZ a.ok.n256 _ (by
 have h:=fi (dO 1 0) 3 1 0 3 2 1 (bw [107] [50]) (ge _ _ (by decide) (by decide)).symm
 rw [l9 (by rw [a.d3,h];decide),a.d3]
 exact h)
theorem I6 (x:VS) (z:O2X) (v:Nat) (a:aBtd x v) (b:Option Addr) (c mc:Nat) :
 TT 15 #[bi v,.slice b c mc] [] (fL x z true (jn x)) uT (fun _=>.returned (i64 0)) (fun _=>deadL (fL x z true (jn x))) (fun _=>fL x z false (jn x)):=by
 have l:=rr a
 have n:=sI a
 obtain ⟨ok,rfl,-⟩:=a
 have T:=xQ x.v 100 100000 (.slice (some ⟨x.vk,0,none⟩) 32 x.vc) x.d x.rs x.lg z.r z.p x.cm 4 2 1 1 1 z.al x.na x.nfm b c mc z.steps (jn x) (jn x) l l n n
 exact T.lift [3] [0,1,2] (by kernel_rfl) (fun _=>bD (bD (bD bH (fun _=>rfl)) (fun _=>rfl)) (fun _=>rfl)) fun _ _=>⟨(),trivial,rfl,List.range 6,by kernel_rfl⟩
theorem Ij (x:VS) (z:O2X) (v:Nat) (a:aBtd x v) :
 TT 16 #[bi v] [] (fL x z false (jn x)) uT (fun _=>.returned (i64 210)) (fun _=>deadL (fL x z false (jn x))) (fun _=>[]):=by
 have l:=rr a
 have n:=sI a
 obtain ⟨ok,rfl,cm,ff,d0,d1,d4,d3,dz⟩:=a
 have c:x.now.length=100:=ok.now
 have g:∀ m,m<100→m≠3→(jn x).getD m []=x.now.getD m []:=fun m h h2=>by rw [il _ _ _ _ (by omega),if_neg h2]
 have b:(jn x).getD 3 []=part (bI lQ 3 1 0 3 2 1 (bw [107] [50])) 99 [1,2,3]:=by
  rw [il _ _ _ _ (by omega),if_pos rfl,d3]
  rfl
 obtain ⟨hhd,hbad⟩:=zR _ b
 have T:=DR x.v 100 100000 x.d x.rs x.lg x.vk x.vc 0 x.na x.nfm z.r z.p x.cm 4 2 1 1 1 z.al (eB 0) (dO 1 0) c5.mark (bO 2 4 2 1 0 1 1) (bO 1 2 1 1 0 1 1) rfl ok.vc (by decide) (by decide) z.steps 100000 x.cm x.dv (jn x) (jn x) l l n n 3 5 1 4 2 3 2 1 x.cm 0 2 1 1 (fd _ _ _ _ _ _ _).symm (fd _ _ _ _ _ _ _).symm (by decide) (by decide) ((g 0 (by decide) (by decide)).trans d0) ((g 1 (by decide) (by decide)).trans d1) (by omega) (by omega) (by rw [cm];exact (g 0 (by decide) (by decide)).trans d0) (fi _ _ _ _ _ _ _ _ (fd _ _ _ _ _ _ _)).symm mv.mark rfl (by decide) (by decide) (by decide) (by decide) (by decide) (by decide) (by decide) (by decide) (by decide) (by decide) (by decide) (by decide) (by decide) (by decide) (by decide) ((g 4 (by decide) (by decide)).trans d4) hhd hbad jd (ge _ _ (by rw [cc];decide) (by rw [jd];decide))
 exact T.lift [5,4,2] [0,1,3] (by kernel_rfl) (fun _=>sameAd_dead _) fun _ _=>⟨(),trivial,rfl,[],by kernel_rfl⟩
end Go.Proofs.YtlkeemedalncoaaGreat.En
