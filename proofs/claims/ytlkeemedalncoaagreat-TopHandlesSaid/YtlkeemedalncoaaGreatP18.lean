/- TopHandles, part 18: no condition. -/
import Derived.Test.YtlkeemedalncoaaGreatP16
import Derived.Test.YtlkeemedalncoaaGreatP17
set_option linter.all false
set_option maxHeartbeats 16000000
set_option maxRecDepth 100000
namespace Go.Proofs.YtlkeemedalncoaaGreat.En
open Go Go.RowKit Go.Proofs.YtlkeemedalncoaaGreat Go.Proofs.Tryz
section
variable (p d r g:Nat) (Af:Option Addr) (nf cf kn wt:Nat) (pi cm lst:Nat)
theorem wZ (u un:Nat) (C:TypeId) (dr:Option Nat) (m t f a i j k v l n o y z q D ff b c:Nat) (key new:Bs) (E:u=key.length) (F:un=new.length) (k1:1≤key.length) (H:key.length≤32) (I:1≤new.length) (J:new.length≤64) (R:bV) (L:RunsP ((ff,b)::R)) (e:ff+1<b∨0<R.length) (N:nf≤50000) (O:ff<4294967295) (G:List ((Nat×Nat)×Vl)) (P:G.length≤1000) (Q:cg t (G.map (·.1))=[f])
 (K:List (Nat×Vl)) (M:Nat→Option Pg) (A:KM K M) (S:List Nat) (T:ff∉S) (hc:0<cm) (U:t<4294967296) (hcm:cm<18446744073709551616) (B:f<65536) :
 TT 151 #[dN p,.int .u32 t,cu 0 0 0,sA q 1 D] [(r,.cl [.map (some m)] 182),(m,.pr (bB eW G)),(a,.fa (bN Af nf cf ((ff,b)::R))),(v,.fa (BF (pO i j) u k key)),(y,.fa (BF (pO l n) un o new)),(z,.fa (PgsF K M))] [(p,.cl (bM d r g Af nf cf kn wt (some c) dr pi cm lst false) 199),(kn,.pr (MU K)),(c,.pr (MU (bF S))),(q,.cl (dS i j u k (cB l n un o) false) C)]
  (fun x:ij=>KM x.2 (bX M ff ⟨t,1,0,cm,f,bw key new⟩)) (fun x=>.returned (.tuple #[cu ff cm f,i64 0]))
  (fun x=>[(p,.cl (bM d r g (pA x.1.1) (bS ((ff,b)::R)).length x.1.2 kn wt (some c) dr pi cm lst false) 199),(kn,.pr (MU x.2)),(c,.pr (MU (bF (S++[ff])))),(q,.dead)])
  (fun x=>[(0,.fa (bN (pA x.1.1) (bS ((ff,b)::R)).length x.1.2 (bS ((ff,b)::R)))),(0,.fa (PgsF x.2 (bX M ff ⟨t,1,0,cm,f,bw key new⟩)))]):=by
 subst E F
 have h:TT _ _ ([(r,.cl [.map (some m)] 182),(m,.pr (bB eW G)),(a,.fa (bN Af nf cf ((ff,b)::R))),(v,.fa (BF (pO i j) key.length k key)),(y,.fa (BF (pO l n) new.length o new)),(z,.fa (PgsF K M))]++[(0,.fa (CF q 0 (dS i j key.length k (cB l n new.length o) false)))]) [(p,.cl (bM d r g Af nf cf kn wt (some c) dr pi cm lst false) 199),(kn,.pr (MU K)),(c,.pr (MU (bF S)))] _ _ _ _:=oB p d r g Af nf cf kn wt pi cm lst dr m t f a i j k v l n o y z 0 q D ff b c key new k1 H I J R L e N O G P Q K M A S T hc U hcm B
 exact Tri.frz (s:=.cl (dS i j key.length k (cB l n new.length o) false) C) rfl (fun w h=>qO w h) h
theorem xz (z un:Nat) (O:TypeId) (na nfm N:Nat) (A:Vl) (steps:Int) (m t n c B j a k l o C q u v E F y P ff b e f:Nat) (key val new:Bs) (Q:z=key.length) (T:un=new.length) (k1:1≤key.length) (U:key.length≤32) (w0:1≤val.length) (V:val.length≤64) (X:1≤new.length) (Y:new.length≤64) (R:bV) (Z:RunsP ((ff,b)::R)) (i:ff+1<b∨0<R.length) (hn:nf≤50000) (hf:ff<4294967295) (G:List ((Nat×Nat)×Vl)) (hG:G.length≤1000) (hg:cg t (G.map (·.1))=[j])
 (K:List (Nat×Vl)) (M:Nat→Option Pg) (H:KM K M) (S W D:List Nat) (hS:ff∉S) (hM:M n=some ⟨t,1,0,c,B,bw key val⟩) (I:¬ bR ((ff,b)::R) n) (hW:n∉W) (hU:n∉S) (hD:n∉D) (h2:2≤n) (hN:n<N) (J:n<4294967296) (hc:0<cm) (ht:t<4294967296) (hcm:cm<18446744073709551616) (L:j<65536) :
 TT 151 #[dN p,.int .u32 t,cu n c B,sA y 1 P] [(d,.cl (bQ na nfm N A steps) bT),(r,.cl [.map (some m)] 182),(m,.pr (bB eW G)),(a,.fa (bN Af nf cf ((ff,b)::R))),(C,.fa (BF (pO k l) z o key)),(E,.fa (BF (pO q u) un v new)),(F,.fa (PgsF K M))]
  [(p,.cl (bM d r g Af nf cf kn wt (some e) (some f) pi cm lst false) 199),(kn,.pr (MU K)),(e,.pr (MU (bF S))),(wt,.pr (MU (bF W))),(f,.pr (MU (bF D))),(y,.cl (dS k l z o (cB q u un v) false) O)]
  (fun x:ij=>KM x.2 (bX M ff ⟨t,1,0,cm,j,bw key new⟩)) (fun x=>.returned (.tuple #[cu ff cm j,i64 0]))
  (fun x=>[(p,.cl (bM d r g (pA x.1.1) (bS ((ff,b)::R)).length x.1.2 kn wt (some e) (some f) pi cm lst false) 199),(kn,.pr (MU x.2)),(e,.pr (MU (bF (S++[ff])))),(wt,.pr (MU (bF (W++[n])))),(f,.pr (MU (bF (D++[n])))),(y,.dead)])
  (fun x=>[(0,.fa (bN (pA x.1.1) (bS ((ff,b)::R)).length x.1.2 (bS ((ff,b)::R)))),(0,.fa (PgsF x.2 (bX M ff ⟨t,1,0,cm,j,bw key new⟩)))]):=by
 subst Q T
 have h:TT _ _ ([(d,.cl (bQ na nfm N A steps) bT),(r,.cl [.map (some m)] 182),(m,.pr (bB eW G)),(a,.fa (bN Af nf cf ((ff,b)::R))),(C,.fa (BF (pO k l) key.length o key)),(E,.fa (BF (pO q u) new.length v new)),(F,.fa (PgsF K M))]++[(0,.fa (CF y 0 (dS k l key.length o (cB q u new.length v) false)))]) [(p,.cl (bM d r g Af nf cf kn wt (some e) (some f) pi cm lst false) 199),(kn,.pr (MU K)),(e,.pr (MU (bF S))),(wt,.pr (MU (bF W))),(f,.pr (MU (bF D)))] _ _ _ _:=oz p d r g Af nf cf kn wt pi cm lst na nfm N A steps m t n c B j a k l o C q u v E F 0 y P ff b e f key val new k1 U w0 V X Y R Z i hn hf G hG hg K M H S W D hS hM I hW hU hD h2 hN J hc ht hcm L
 exact Tri.frz (s:=.cl (dS k l key.length o (cB q u new.length v) false) O) rfl (fun w h=>qO w h) h
theorem xg (l:Nat) (A:TypeId) (na nfm N:Nat) (m:Vl) (steps:Int) (t n c o a q b e f u j B k i:Nat) (key val:Bs) (K:List (Nat×Vl)) (M:Nat→Option Pg) (v:KM K M) (C:M n=some ⟨t,1,0,c,o,bw key val⟩)
 (E:l=key.length) (k1:1≤key.length) (F:key.length≤32) (G:1≤val.length) (H:val.length≤64)
 (L:bV) (I:RunsP L) (J:nf≤50000) (y:¬ bR L n) (W U D:List Nat) (O:n∉W) (P:n∉U) (Q:n∉D) (h2:2≤n) (R:n<N) (z:n<4294967296) (hc:0<cm) :
 TT 151 #[dN p,.int .u32 t,cu n c o,sA j 1 B]
  [(p,.cl (bM d r g Af nf cf kn wt (some k) (some i) pi cm lst false) 199),(d,.cl (bQ na nfm N m steps) bT),(kn,.pr (MU K)),(a,.fa (PgsF K M)),(q,.fa (bN Af nf cf L)),(k,.pr (MU (bF U))),(u,.fa (BF (pO b e) l f key))]
  [(wt,.pr (MU (bF W))),(i,.pr (MU (bF D))),(j,.cl (dS b e l f bp true) A)] uT (fun x=>.returned (.tuple #[cu 0 0 0,i64 0]))
  (fun _=>[(wt,.pr (MU (bF (W++[n])))),(i,.pr (MU (bF (D++[n])))),(j,.dead)]) (fun _=>[]):=by
 subst E
 have h:TT _ _ ([(p,.cl (bM d r g Af nf cf kn wt (some k) (some i) pi cm lst false) 199),(d,.cl (bQ na nfm N m steps) bT),(kn,.pr (MU K)),(a,.fa (PgsF K M)),(q,.fa (bN Af nf cf L)),(k,.pr (MU (bF U))),(u,.fa (BF (pO b e) key.length f key))]++[(0,.fa (CF j 0 (dS b e key.length f bp true)))]) [(wt,.pr (MU (bF W))),(i,.pr (MU (bF D)))] _ _ _ _:=yN p d r g Af nf cf kn wt pi cm lst na nfm N m steps t n c o a q b e f u 0 j B k i key val K M v C k1 F G H L I J y W U D O P Q h2 R z hc
 exact Tri.frz (s:=.cl (dS b e key.length f bp true) A) rfl (fun w h=>qO w h) h
end
theorem uR (b p d r g:Nat) (Af:Option Addr) (nf cf kn wt:Nat) (pu dr:Option Nat) (pi cm lst:Nat) (fl:Bool) (na nfm N:Nat) (l:Vl) (steps:Int) (t n c e a f h i m:Nat) (key val:Bs) (o:b=key.length) (K:List (Nat×Vl)) (M:Nat→Option Pg) (j:KM K M) (q:M n=some ⟨t,1,0,c,e,bw key val⟩) (h2:2≤n) (s:n<N) (k:n<4294967296) (k1:1≤key.length) (u:key.length≤32) (v:1≤val.length) (w:val.length≤64) :
 TT 152 #[dN p,.int .u32 t,cu n c e,cB f h b i] [(p,.cl (bM d r g Af nf cf kn wt pu dr pi cm lst fl) 199),(d,.cl (bQ na nfm N l steps) bT),(kn,.pr (MU K)),(a,.fa (PgsF K M)),(m,.fa (BF (pO f h) b i key))] [] (fun _:Nat×Nat=>True) (fun x=>.returned (.tuple #[ck x.1 val.length x.2,i64 0])) (fun _=>[])
  (fun x=>[(x.1,.fa (BF (pA x.1) val.length x.2 val))]):=by
 subst o
 exact pB p d r g Af nf cf kn wt pu dr pi cm lst fl na nfm N l steps t n c e a f h i m key val K M j q h2 s k k1 u v w
theorem qW (t:Nat) (a:t<4294967296):TT 199 #[u32 t] [] [] (fun _:Nat×Nat=>True) (fun x=>.returned (sA x.1 4 x.2)) (fun _=>[]) (fun x=>[(x.1,.fa (BF (pA x.1) 4 x.2 (be t 4)))]):=iE func199<|bj [9999]<|vC 7 u64 (DP t)<|cE (gr t 4) [] [] fun ⟨x,x1⟩ _=>fE 0 x (bn 5 1 4 x1 (List.map B8 (be t 4))) bx fun hc=>zE<|eh (e:=5) (n:=4) (c:=x1) (l:=be t 4) 0 x (by (simp [cc];done))<|rT ((x,x1)) 9999 [0]
section
variable (v N lim:Nat) (key:Vl) (d rs lg:Nat) (op:Bool) (r p c pp rc rg gn n al:Nat)
variable (tt q mb mc ch hb hc cb sh made tn:Nat)
variable (nf cf kn wt:Nat) (Af:Option Addr) (pu dr:Option Nat) (pi cm lst:Nat) (fl:Bool)
theorem Bb (i o j s l a b e f g h:Nat) (k new:Bs) (k1:1≤k.length) (m:k.length≤32) (u:new.length≤64) (w:ch<1000000):Same 147 #[bi v,bi tn,sA i 1 o] [(v,.cl (bU N lim key d rs lg op r p c pp rc rg gn n al) 90),(tn,.cl (b9 tt q mb mc 0 0 0 ch hb hc cb sh made) 113),(j,.fa (BF (pO a b) k.length e k)),(s,.fa (BF (pO f g) new.length h new)),(l,.fa (CF i 0 (dS a b k.length e (cB f g new.length h) false)))] (i64 ((ch+1:Nat):Int)):=by
 refine iE func147<|bu [3,0,0,9999] 1 fun nm=>rE (gh (T:=58) underlying58 l i 0 3 (dS a b k.length e (cB f g new.length h) false) (by (simp;done))) [4]<|bu [] 1 fun nm1=>vE 21 (.agg ⟨List.take 3 (List.drop 0 (dS a b k.length e (cB f g new.length h) false))⟩) (.agg ⟨[sO a b k.length e,sO f g new.length h,.bool false]⟩) (by rfl)<|bj [6,6]<|rE (fy j a b k.length e k) [2]<|bj [6,5,0,0,1]<|xE (fj (t:=327) (kt:=9) (et:=58) underlying327 (nm 0) (⟨[{key:=Value.string {data:=List.toArray k},val:=.agg ⟨[sO a b k.length e,sO f g new.length h,.bool false]⟩,born:=0}]⟩) 1 (by (simp;done))) [5] [] fun x _=>bj [3]<|xE (el 0 x (nm 0) (⟨[{key:=Value.string {data:=List.toArray k},val:=.agg ⟨[sO a b k.length e,sO f g new.length h,.bool false]⟩,born:=0}]⟩) 1 ([])) [5] [7] ?_
 rintro x1 ⟨hx,hx1⟩
 rcases x1 with _ | e1
 · exact absurd (hx rfl ⟨.string ⟨k.toArray⟩,eX a b k.length e (cB f g new.length h) false,0⟩ (by simp)) (by simp)
 obtain ⟨h1,h2⟩:=hx1 e1 rfl
 obtain rfl:e1=⟨.string ⟨k.toArray⟩,eX a b k.length e (cB f g new.length h) false,0⟩:=by simpa using h1
 clear hx hx1 h1 h2
 simp only [Option.toList_some]
 refine bj [0]<|rE (eH x (nm 0) (⟨[{key:=Value.string {data:=List.toArray k},val:=.agg ⟨[sO a b k.length e,sO f g new.length h,.bool false]⟩,born:=0}]⟩) 1 ([]) ({key:=Value.string {data:=List.toArray k},val:=eX a b k.length e (cB f g new.length h) false,born:=0}) (by (simp;done)) (by (simp;done))) [5,7]<|bu [8] 1 fun nm2=>bj [9999,0,0,1,1]<|oE 16<|xK (ju k) [] [] fun ⟨x1,x2⟩ _=>zE<|bv (xC p tt x1 0 k.length x2 k1 m) [] []<|bj [0,0,8,0]<|xK (ju k) [] [] fun ⟨x3,x4⟩ _=>bj [8] ?_
 refine bv (wi x3 0 k.length x4 f g new.length h k1 m u) [] []<|zE<|bv (rK (i64 1)) [] []<|zE<|xE (el 0 x (nm 0) (⟨[{key:=Value.string {data:=List.toArray k},val:=.agg ⟨[sO a b k.length e,sO f g new.length h,.bool false]⟩,born:=0}]⟩) 1 ([]++[{key:=Value.string {data:=List.toArray k},val:=eX a b k.length e (cB f g new.length h) false,born:=0}])) [5] [7] fun x5 ⟨hx,hx1⟩=>?_
 rcases x5 with _ | e2
 · exact bj [0]<|vC 6 i64 (wI ((↑ch:Int)+1) (ch+1))<|rT ()
 · obtain ⟨h1,h2⟩:=hx1 e2 rfl
   obtain rfl:e2=⟨.string ⟨k.toArray⟩,eX a b k.length e (cB f g new.length h) false,0⟩:=by simpa using h1
   exact absurd (by simp) h2
theorem Bv (na nfm:Nat) (u:Vl) (steps:Int) (l A a w B y b e f g h i rp rc2 rg2:Nat) (k val new:Bs) (k1:1≤k.length) (m:k.length≤32) (w0:1≤val.length) (z:val.length≤64) (C:new.length≤64) (D:ch<1000000) (j:1≤ch)
 (K:List (Nat×Vl)) (M:Nat→Option Pg) (o:KM K M) (E:M rp=some ⟨tt,1,0,rc2,rg2,bw k val⟩) (h2:2≤rp) (F:rp<N) (s:rp<4294967296) :
 Same 147 #[bi v,bi tn,sA l 1 A] [(v,.cl (bU N lim key d rs lg op r p c pp rc rg gn n al) 90),(tn,.cl (b9 tt q mb mc rp rc2 rg2 ch hb hc cb sh made) 113),(p,.cl (bM d r lg Af nf cf kn wt pu dr pi cm lst fl) 199),(d,.cl (bQ na nfm N u steps) bT),(kn,.pr (MU K)),(a,.fa (PgsF K M)),(w,.fa (BF (pO b e) k.length f k)),(B,.fa (BF (pO g h) new.length i new)),(y,.fa (CF l 0 (dS b e k.length f (cB g h new.length i) false)))] (i64 ch):=by
 refine cJ func147 (by kernel_rfl) fun w0 ho=>bu [3,0,0,9999] 1 fun nm=>rE (gh (T:=58) underlying58 y l 0 3 (dS b e k.length f (cB g h new.length i) false) (by (simp;done))) [8]<|bu [] 1 fun nm1=>vE 21 (.agg ⟨List.take 3 (List.drop 0 (dS b e k.length f (cB g h new.length i) false))⟩) (.agg ⟨[sO b e k.length f,sO g h new.length i,.bool false]⟩) (by rfl)<|bj [10,10]<|rE (fy w b e k.length f k) [6]<|bj [10,9,0,0,1]<|xE (fj (t:=327) (kt:=9) (et:=58) underlying327 (nm 0) (⟨[{key:=Value.string {data:=List.toArray k},val:=.agg ⟨[sO b e k.length f,sO g h new.length i,.bool false]⟩,born:=0}]⟩) 1 (by (simp;done))) [9] [] fun x _=>bj [3]<|xE (el 0 x (nm 0) (⟨[{key:=Value.string {data:=List.toArray k},val:=.agg ⟨[sO b e k.length f,sO g h new.length i,.bool false]⟩,born:=0}]⟩) 1 ([])) [9] [11] ?_
 rintro x1 ⟨hx,hx1⟩
 rcases x1 with _ | e1
 · exact absurd (hx rfl ⟨.string ⟨k.toArray⟩,eX b e k.length f (cB g h new.length i) false,0⟩ (by simp)) (by simp)
 obtain ⟨h1,h2⟩:=hx1 e1 rfl
 obtain rfl:e1=⟨.string ⟨k.toArray⟩,eX b e k.length f (cB g h new.length i) false,0⟩:=by simpa using h1
 clear hx hx1 h1 h2
 simp only [Option.toList_some]
 refine bj [0]<|rE (eH x (nm 0) (⟨[{key:=Value.string {data:=List.toArray k},val:=.agg ⟨[sO b e k.length f,sO g h new.length i,.bool false]⟩,born:=0}]⟩) 1 ([]) ({key:=Value.string {data:=List.toArray k},val:=eX b e k.length f (cB g h new.length i) false,born:=0}) (by (simp;done)) (by (simp;done))) [9,11]<|bu [12] 1 fun nm2=>bj [9999,0,0,1,1]<|oE 16<|xK (ju k) [] [] fun ⟨x1,x2⟩ _=>zE<|cE (pB p d r lg Af nf cf kn wt pu dr pi cm lst fl na nfm N u steps tt rp rc2 rg2 a x1 0 x2 x1 k val K M o E h2 F s k1 m (by with_reducible assumption) z) [2,3,4,5,13] [] fun ⟨x3,x4⟩ _=>bj [0,0,0,0]<|xK (ju k) [] [] fun ⟨x5,x6⟩ _=>zE ?_
 refine bv (wi x5 0 k.length x6 x3 0 val.length x4 k1 m z) [] []<|zE<|bv (rK (i64 1)) [] []<|bj [12,0]<|xK (ju k) [] [] fun ⟨x7,x8⟩ _=>bj [12]<|bv (wi x7 0 k.length x8 g h new.length i k1 m C) [] []<|zE<|bv (rK (i64 1)) [] []<|zE<|xE (el 0 x (nm 0) (⟨[{key:=Value.string {data:=List.toArray k},val:=.agg ⟨[sO b e k.length f,sO g h new.length i,.bool false]⟩,born:=0}]⟩) 1 ([]++[{key:=Value.string {data:=List.toArray k},val:=eX b e k.length f (cB g h new.length i) false,born:=0}])) [9] [11] ?_
 rintro x9 ⟨hx,hx1⟩
 rcases x9 with _ | e2
 · exact bj [0]<|vC 6 i64 (show IntKind.wrap .i64 (IntKind.wrap .i64 ((↑ch:Int)-1)+1)=(↑(ch-1+1):Int) from (di (eT (di (pF rfl rfl (by omega)) (by omega)))))<|vE 6 (i64 ↑(ch-1+1)) (i64 ch) (by rw [Nat.sub_add_cancel j];try rfl)<|rT ()
 · obtain ⟨h1,h2⟩:=hx1 e2 rfl
   obtain rfl:e2=⟨.string ⟨k.toArray⟩,eX b e k.length f (cB g h new.length i) false,0⟩:=by simpa using h1
   exact absurd (by simp) h2
end
abbrev fR (rp rc rg ch:Nat) (A:Option Addr) (n c:Nat):Vl:=.agg #[u32 (rp:Int),u64 (rc:Int),u16 (rg:Int),u8 0,i64 (ch:Int),.slice A n c]
def gU (v:Vl):Nat:=
 match v with
 | .agg a=>match a.toList with
  | [_,_,_,_,.int _ n,_]=>n.toNat
  | _=>0
 | _=>0
theorem yH (rp rc rg ch:Nat) (A:Option Addr) (n c:Nat):gU (fR rp rc rg ch A n c)=ch:=by simp [gU]
def kA (SH:List (Nat×Vl)):Prop:=∀ p∈SH,∃ rp rc rg ch A n c,p.2=fR rp rc rg ch A n c
theorem o8 {enc:Nat→Vl} {b:List MapEntry} {l:List (Nat×Vl)} (a:b.map (fun e=>(e.key,e.val))=l.map (fun p=>(enc p.1,p.2))) {e:MapEntry} (c:e∈b):∃ p∈l,e.key=enc p.1∧e.val=p.2:=by
 have:(e.key,e.val)∈l.map (fun p=>(enc p.1,p.2)):=by rw [← a];exact List.mem_map_of_mem (f:=fun e:MapEntry=>(e.key,e.val)) c
 obtain ⟨p,hp,h⟩:=List.mem_map.1 this
 injection h with h1 h2
 exact ⟨p,hp,h1.symm,h2.symm⟩
abbrev Jl:Type:=List MapEntry×Vl×Nat×SB
theorem yy (tt q mb mc rp rc2 rg2 ch hb hc cb sh made tn:Nat) (SH:List (Nat×Vl)) (r:SH.length≤20) (s:kA SH) :
 TT 149 #[bi tn] [(tn,.cl (b9 tt q mb mc rp rc2 rg2 ch hb hc cb sh made) 113),(sh,.pr (MV SH))] [] (fun x:List Nat×Vl×Nat×SB=>x.1.Perm (SH.map fun p=>gU p.2)∧SlE 3 1 x.1.length (x.1.map iV) x.2.1 (x.2.2.1,x.2.2.2)) (fun x=>.returned x.2.1) (fun _=>[]) (fun x=>[(x.2.2.1,x.2.2.2)]):=by
 refine cJ func149 (by kernel_rfl) fun w0 ho=>iT 1 sh (MV SH) (by kernel_rfl) fun o hm=>?_
 obtain ⟨es,clock,rfl,hes,hnd,hck⟩:=hm
 refine bj [0]<|xE (fj (t:=111) (kt:=25) (et:=119) underlying111 sh es clock hck) [1] [] fun x _=>zE<|lV<|cY (X:=Jl) (fun x=>x.1.length+gM es.toList x.1≤20∧Gone es.toList x.1∧SlE 3 1 x.1.length (x.1.map fun e=>iV (gU e.val)) x.2.1 (x.2.2.1,x.2.2.2)) (fun x=>gM es.toList x.1) 21 (fun y=>[(10,bi x),(3,y.2.1)]) (fun y=>[(tn,.cl (b9 tt q mb mc rp rc2 rg2 ch hb hc cb sh made) 113),(sh,.ob (.map es clock)),(x,.pr (fW sh es clock y.1)),(y.2.2.1,y.2.2.2)]) ([],.slice none 0 0,0,.dead) (by kernel_rfl) ⟨by rw [mL];have:=congrArg List.length hes;simp at this ⊢;omega,Gone.nil _,SlE.nil 3 1⟩ fun ⟨vs,v,b,sb⟩ u J hpre back=>?_
 have n:vs.length+gM es.toList vs≤20:=hpre.1
 have h:Gone es.toList vs:=hpre.2.1
 have a:SlE 3 1 vs.length (vs.map fun e=>iV (gU e.val)) v (b,sb):=hpre.2.2
 clear hpre
 refine zE<|xE (el 0 x sh es clock vs) [1] [2] fun x1 ⟨hx,hx1⟩=>?_
 rcases x1 with _ | e
 · simp only [Option.toList_none,List.append_nil]
   have d:=h.all hnd (hx rfl)
   have i:(vs.map fun e=>gU e.val).Perm (SH.map fun p=>gU p.2):=by
    have h1:(es.toList.map fun e=>gU e.val)=SH.map fun p=>gU p.2:=by
     have:=congrArg (List.map fun p:Value×Value=>gU p.2) hes
     simpa [Function.comp_def] using this
    rw [← h1]
    exact d.map _
   have f:vs.length=(vs.map fun e=>gU e.val).length:=by simp
   have g:(vs.map fun e=>iV (gU e.val))=(vs.map fun e=>gU e.val).map iV:=by rw [List.map_map];rfl
   rw [g,f] at a
   clear back f d h hx hx1 g
   have c:∀ o,(SB.ob (.map es clock)).ok o→(SB.pr (MV SH)).ok o:=fun o ho=>⟨es,clock,ho,hes,hnd,hck⟩
   exact bj [0]<|lE 1 sh (.ob (.map es clock)) (.pr (MV SH)) c<|rT (vs.map fun e=>gU e.val,v,b,sb) 9999 [3] rfl ⟨i,a⟩
 · simp only [Option.toList_some]
   obtain ⟨he,hnb⟩:=hx1 e rfl
   have j:=jC he hnb
   have l:=h.add he hnb
   obtain ⟨ek,ev,eb⟩:=e
   obtain ⟨p,hp,-,hpk⟩:=o8 hes he
   obtain ⟨srp,src,srg,sch,sA,sn,sc,hsv⟩:=s p hp
   have m:ev=fR srp src srg sch sA sn sc:=hpk.trans hsv
   subst m
   refine bj [0]<|rE (eH x sh es clock vs ({key:=ek,val:=fR srp src srg sch sA sn sc,born:=eb}) he hnd) [1,2]<|bu [4,4,9999] 2 fun nm=>iI (j0 (t:=23) (e:=3) (ty:=23) (k:=1) (by_:=8) (z:=i64 0) underlying23 v b sb vs.length (List.map (fun e ↦ iV (gU (MapEntry.val e))) vs) a (nm 1) 1 1 ([i64 sch])) [5] [3] (Views.less (.cl [i64 sch] 3) bA Views.nil) fun ⟨x1,x2,x3,x4⟩ hx2=>?_
   try dsimp only at hx2
   exact zE<|wE [0,1,2,6] 2 [(tn,.cl (b9 tt q mb mc rp rc2 rg2 ch hb hc cb sh made) 113),(sh,.ob (.map es clock)),(x,.pr (fW sh es clock (vs++[⟨ek,fR srp src srg sch sA sn sc,eb⟩]))),(x3,x4)]<|back _ (vs++[⟨ek,fR srp src srg sch sA sn sc,eb⟩],.slice x1 (vs.length+1) x2,x3,x4) ⟨by dsimp only;rw [List.length_append];simp only [List.length_cons,List.length_nil];omega,l,by have:=hx2;simpa [gU,iV] using this⟩ j (by kernel_rfl)
section
variable (p d r g:Nat) (Af:Option Addr) (nf cf kn wt:Nat) (pi cm lst:Nat)
variable (t q mb mc rp rc rg rl ch hb hc hg hcm wb wc b1 b2 b3:Nat) (mark wr:Bs)
theorem Bf (j:16=mark.length) (k:32=wr.length) (H:0<t) (l:t<4294967296) (I:1≤q) (o:q<128) (s:ch≤q) (b:(ch=0∧rp=0∧rc=0∧rg=0∧rl=0)∨(0<ch∧0<rp)) (h1:rp<128) (h2:rc<128) (h3:rg<128) (h4:rl<128) (u:hg<128) (v:hcm<128)
 (dr:Option Nat) (m i a F ff c n:Nat) (R:bV) (J:RunsP ((ff,c)::R)) (e:ff+1<c∨0<R.length) (L:nf≤50000) (N:ff<4294967295) (G:List ((Nat×Nat)×Vl)) (O:G.length≤1000) (w:cg 0 (G.map (·.1))=[i])
 (K:List (Nat×Vl)) (M:Nat→Option Pg) (y:KM K M) (S:List Nat) (P:ff∉S) (z:0<cm) (f:cm<18446744073709551616) (h:i<65536) :
 TT 116 #[dN p,cu 0 0 0,kp t q mb mc rp rc rg rl ch hb hc] [(b1,.fa (CF hb 0 (cX hg hcm wb wc))),(b2,.fa (BF (pA mb) 16 mc mark)),(b3,.fa (BF (pA wb) 32 wc wr)),(r,.cl [.map (some m)] 182),(m,.pr (bB eW G)),(a,.fa (bN Af nf cf ((ff,c)::R))),(F,.fa (PgsF K M))] [(p,.cl (bM d r g Af nf cf kn wt (some n) dr pi cm lst false) 199),(kn,.pr (MU K)),(n,.pr (MU (bF S)))]
  (fun x:ij=>KM x.2 (bX M ff ⟨0,1,0,cm,i,bw (be t 4) (bJ q ch mark rp rc rg rl hg hcm wr)⟩)) (fun x=>.returned (.tuple #[cu ff cm i,i64 0]))
  (fun x=>[(p,.cl (bM d r g (pA x.1.1) (bS ((ff,c)::R)).length x.1.2 kn wt (some n) dr pi cm lst false) 199),(kn,.pr (MU x.2)),(n,.pr (MU (bF (S++[ff]))))])
  (fun x=>[(0,.fa (bN (pA x.1.1) (bS ((ff,c)::R)).length x.1.2 (bS ((ff,c)::R)))),(0,.fa (PgsF x.2 (bX M ff ⟨0,1,0,cm,i,bw (be t 4) (bJ q ch mark rp rc rg rl hg hcm wr)⟩)))]):=by
 have A:=io q ch mark rp rc rg rl hg hcm wr j k
 have Q:4=(be t 4).length:=(cc t 4).symm
 have B:1≤(bJ q ch mark rp rc rg rl hg hcm wr).length:=by omega
 have C:(bJ q ch mark rp rc rg rl hg hcm wr).length≤64:=by omega
 have D:1≤(be t 4).length:=by omega
 have E:(be t 4).length≤32:=by omega
 refine iE func116<|bu [9999,9999,0,0,11] 3 fun nm=>cE (pR t q mb mc rp rc rg rl ch hb hc hg hcm wb wc b1 b2 b3 mark wr j k H I o s b h1 h2 h3 h4 u v) [0,1,2] [] fun ⟨x,x1⟩ _=>bj [0,0]<|bj [9999,4992,10,11]<|cE (qW t l) [] [] fun ⟨x2,x3⟩ _=>bu [9999,9999] 1 fun nm1=>cE (wZ p d r g Af nf cf kn wt pi cm lst 4 59 58 dr m 0 i a x2 0 x3 x2 x 0 x1 x F (nm1 0) 1 ff c n (be t 4) (bJ q ch mark rp rc rg rl hg hcm wr) (by kernel_rfl) A D E B C R J e L N G O w K M y S P z (by omega) f h) [3,4,5,14,13,6] [7,8,9,15] fun ⟨⟨x4,x5⟩,x6⟩ hx=>?_
 try dsimp only at hx
 exact bj [12]<|rT (((x4,x5),x6)) 12 [16,17]
theorem tV (val:Bs) (w0:1≤val.length) (V:val.length≤64) (k:16=mark.length) (l:32=wr.length) (X:0<t) (o:t<4294967296) (Y:1≤q) (v:q<128) (w:ch≤q) (e:(ch=0∧rp=0∧rc=0∧rg=0∧rl=0)∨(0<ch∧0<rp)) (h1:rp<128) (h2:rc<128) (h3:rg<128) (h4:rl<128) (y:hg<128) (z:hcm<128)
 (na nfm N:Nat) (T:Vl) (steps:Int) (n c A m j a U ff b s u:Nat) (R:bV) (Z:RunsP ((ff,b)::R)) (f:ff+1<b∨0<R.length) (hn:nf≤50000) (hf:ff<4294967295) (G:List ((Nat×Nat)×Vl)) (hG:G.length≤1000) (B:cg 0 (G.map (·.1))=[j])
 (K:List (Nat×Vl)) (M:Nat→Option Pg) (C:KM K M) (S W D:List Nat) (hS:ff∉S) (hM:M n=some ⟨0,1,0,c,A,bw (be t 4) val⟩) (E:¬ bR ((ff,b)::R) n) (hW:n∉W) (hU:n∉S) (hD:n∉D) (F:2≤n) (hN:n<N) (H:n<4294967296) (I:0<cm) (h:cm<18446744073709551616) (i:j<65536) :
 TT 116 #[dN p,cu n c A,kp t q mb mc rp rc rg rl ch hb hc] [(b1,.fa (CF hb 0 (cX hg hcm wb wc))),(b2,.fa (BF (pA mb) 16 mc mark)),(b3,.fa (BF (pA wb) 32 wc wr)),(d,.cl (bQ na nfm N T steps) bT),(r,.cl [.map (some m)] 182),(m,.pr (bB eW G)),(a,.fa (bN Af nf cf ((ff,b)::R))),(U,.fa (PgsF K M))]
  [(p,.cl (bM d r g Af nf cf kn wt (some s) (some u) pi cm lst false) 199),(kn,.pr (MU K)),(s,.pr (MU (bF S))),(wt,.pr (MU (bF W))),(u,.pr (MU (bF D)))]
  (fun x:ij=>KM x.2 (bX M ff ⟨0,1,0,cm,j,bw (be t 4) (bJ q ch mark rp rc rg rl hg hcm wr)⟩)) (fun x=>.returned (.tuple #[cu ff cm j,i64 0]))
  (fun x=>[(p,.cl (bM d r g (pA x.1.1) (bS ((ff,b)::R)).length x.1.2 kn wt (some s) (some u) pi cm lst false) 199),(kn,.pr (MU x.2)),(s,.pr (MU (bF (S++[ff])))),(wt,.pr (MU (bF (W++[n])))),(u,.pr (MU (bF (D++[n]))))])
  (fun x=>[(0,.fa (bN (pA x.1.1) (bS ((ff,b)::R)).length x.1.2 (bS ((ff,b)::R)))),(0,.fa (PgsF x.2 (bX M ff ⟨0,1,0,cm,j,bw (be t 4) (bJ q ch mark rp rc rg rl hg hcm wr)⟩)))]):=by
 have J:=io q ch mark rp rc rg rl hg hcm wr k l
 have aj:4=(be t 4).length:=(cc t 4).symm
 have L:1≤(bJ q ch mark rp rc rg rl hg hcm wr).length:=by omega
 have O:(bJ q ch mark rp rc rg rl hg hcm wr).length≤64:=by omega
 have P:1≤(be t 4).length:=by omega
 have Q:(be t 4).length≤32:=by omega
 refine cJ func116 (by kernel_rfl) fun w0 ho=>bu [9999,9999,0,0,14] 3 fun nm=>cE (pR t q mb mc rp rc rg rl ch hb hc hg hcm wb wc b1 b2 b3 mark wr k l X Y v w e h1 h2 h3 h4 y z) [0,1,2] [] fun ⟨x,x1⟩ _=>bj [0,0]<|bj [9999,40704,13,14]<|cE (qW t o) [] [] fun ⟨x2,x3⟩ _=>bu [9999,9999] 1 fun nm1=>cE (xz p d r g Af nf cf kn wt pi cm lst 4 59 58 na nfm N T steps m 0 n c A j a x2 0 x3 x2 x 0 x1 x U (nm1 0) 1 ff b s u (be t 4) val (bJ q ch mark rp rc rg rl hg hcm wr) (by kernel_rfl) J P Q (by with_reducible assumption) V L O R Z f hn hf G hG B K M C S W D hS hM E hW hU hD F hN H I (by omega) h i) [3,4,5,6,17,16,7] [8,9,10,11,12,18] fun ⟨⟨x4,x5⟩,x6⟩ hx=>?_
 try dsimp only at hx
 exact bj [15]<|rT (((x4,x5),x6)) 15 [19,20] rfl (by assumption)
end
section
variable (p d r g:Nat) (Af:Option Addr) (nf cf kn wt:Nat) (pi cm lst:Nat)
theorem lu (t:Nat) (b:t<4294967296) (na nfm N:Nat) (m:Vl) (steps:Int) (n c k a q l e:Nat) (val:Bs) (K:List (Nat×Vl)) (M:Nat→Option Pg) (f:KM K M) (s:M n=some ⟨0,1,0,c,k,bw (be t 4) val⟩)
 (u:1≤val.length) (v:val.length≤64)
 (L:bV) (y:RunsP L) (z:nf≤50000) (o:¬ bR L n) (W U D:List Nat) (A:n∉W) (B:n∉U) (C:n∉D) (h2:2≤n) (w:n<N) (h:n<4294967296) (hc:0<cm) :
 TT 121 #[dN p,cu n c k,u32 t]
  [(p,.cl (bM d r g Af nf cf kn wt (some l) (some e) pi cm lst false) 199),(d,.cl (bQ na nfm N m steps) bT),(kn,.pr (MU K)),(a,.fa (PgsF K M)),(q,.fa (bN Af nf cf L)),(l,.pr (MU (bF U)))]
  [(wt,.pr (MU (bF W))),(e,.pr (MU (bF D)))] uT (fun x=>.returned (.tuple #[cu 0 0 0,i64 0]))
  (fun _=>[(wt,.pr (MU (bF (W++[n])))),(e,.pr (MU (bF (D++[n]))))]) (fun _=>[]):=by
 have E:4=(be t 4).length:=(cc t 4).symm
 have i:1≤(be t 4).length:=by omega
 have j:(be t 4).length≤32:=by omega
 refine iE func121<|bu [9999] 2 fun nm=>bj [9999,0,8]<|cE (qW t b) [] [] fun ⟨x,x1⟩ _=>zE<|cE (uR 4 p d r g Af nf cf kn wt (some l) (some e) pi cm lst false na nfm N m steps 0 n c k a x 0 x1 x (be t 4) val (by kernel_rfl) K M f s h2 w h i j u v) [0,1,2,3,10] [] fun ⟨x2,x3⟩ _=>bj [0,0]<|bj [9999,704,8]<|cE (qW t b) [] [] fun ⟨x4,x5⟩ _=>bu [9999,9999] 1 fun nm1=>cE (xg p d r g Af nf cf kn wt pi cm lst 4 58 na nfm N m steps 0 n c k a q x4 0 x5 x4 (nm1 0) 1 l e (be t 4) val K M f s (by kernel_rfl) i j u v L y z o W U D A B C h2 w h hc) [0,1,2,3,4,5,12] [6,7,13] ?_
 intro _ _
 exact bj [9]<|rT () 9
end
abbrev vy (rp rc rg gn n:Nat):Vl:=.agg #[u32 (rp:Int),u64 (rc:Int),u16 (rg:Int),u8 0,u16 (gn:Int),i64 (n:Int)]
abbrev eO (k t:Nat) (sec:Vl) (q n:Int) (h o s rt:Nat) (ops ky fr too:Vl) (bk:Bool):List Vl:=[i64 (k:Int),u32 (t:Int),sec,i64 q,i64 n,u64 (h:Int),u64 (o:Int),u64 (s:Int),u8 (rt:Int),ops,ky,fr,too,.bool bk]
section
variable (v N lim:Nat) (key:Vl) (d rs lg:Nat) (op:Bool) (r p c pp rc rg gn n al:Nat)
theorem Ai (T:List (Nat×Vl)) (rp a b:Nat):Same 202 #[bi v,cu rp a b] [(v,.cl (bU N lim key d rs lg op r p c pp rc rg gn n al) 90),(al,.pr (MU T))] (vy rp a b gn T.length):=iE func202<|bu [9999] 2 fun nm=>bj [9999,8,2,0,0]<|tE (i64 ↑T.length) [1] [(al,.pr (MU T))] (tf (kt:=37) (et:=106) (T:=88) underlying88 (K:=Nat) (enc:=eK .u32) al T 3)<|bj [9999,3]<|rT () 3
section
variable (k t:Nat) (sec:Vl) (q1 n1:Int) (h o s rt:Nat) (ky fr too:Vl) (bk:Bool)
variable (tt q mb mc ch hb hc cb sh made tn:Nat)
variable (nf cf kn wt:Nat) (Af:Option Addr) (pi cm lst:Nat)
variable (b1 b2 b3 b4 nch:Nat)
theorem FK (nn:Nat) (dr:Option Nat) (m b a j w y H z A B I J L C O ff f P Q i:Nat) (kk new:Bs) (k1:1≤kk.length) (W:kk.length≤32) (X:1≤new.length) (Y:new.length≤64) (R U:bV) (V:bS ((ff,f)::R)=(P,Q)::U) (Z:RunsP ((ff,f)::R)) (e:ff+1<f∨0<R.length) (hn:nf≤50000) (hf:ff<4294967295) (G:List ((Nat×Nat)×Vl)) (hG:G.length≤1000) (hg:cg tt (G.map (·.1))=[b])
 (K:List (Nat×Vl)) (M:Nat→Option Pg) (D:KM K M) (S:List Nat) (hS:ff∉S) (E:0<cm) (ht:tt<4294967296) (hcm:cm<18446744073709551616) (F:b<65536) :
 TT 150 #[u64 nn,bi b1,bi b2,bi b3,bi b4] [(b1,.cl [bi tn] 106),(b2,.cl [bi v] 32),(b3,.cl (eO k t sec q1 n1 h o s rt (sA C 1 O) ky fr too bk) 41),(b4,.cl [i64 nch] 3),(v,.cl (bU N lim key d rs lg op r p c pp rc rg gn n al) 90),(tn,.cl (b9 tt q mb mc 0 0 0 ch hb hc cb sh made) 113),(r,.cl [.map (some m)] 182),(m,.pr (bB eW G)),(a,.fa (bN Af nf cf ((ff,f)::R))),(H,.fa (BF (pO j w) kk.length y kk)),(I,.fa (BF (pO z A) new.length B new)),(J,.fa (PgsF K M)),(L,.fa (CF C 0 (dS j w kk.length y (cB z A new.length B) false)))] [(p,.cl (bM d r lg Af nf cf kn wt (some i) dr pi cm lst false) 199),(kn,.pr (MU K)),(i,.pr (MU (bF S)))]
  (fun x:ij=>KM x.2 (bX M ff ⟨tt,1,0,cm,b,bw kk new⟩)) (fun x=>.returned (kp tt q mb mc ff cm b 0 nch hb hc))
  (fun x=>[(p,.cl (bM d r lg (pA x.1.1) ((P,Q)::U).length x.1.2 kn wt (some i) dr pi cm lst false) 199),(kn,.pr (MU x.2)),(i,.pr (MU (bF (S++[ff]))))])
  (fun x=>[(0,.fa (bN (pA x.1.1) ((P,Q)::U).length x.1.2 ((P,Q)::U))),(0,.fa (PgsF x.2 (bX M ff ⟨tt,1,0,cm,b,bw kk new⟩)))]):=by
 rw [← V]
 refine iE func150<|bu [0,5,17] 2 fun nm=>bj [17,57344,1,4,17,17,2]<|ef (Nat×Nat×(List (Nat×Vl))) (fun ⟨x,x1,x2⟩=>(KM x2 (bX M ff {t:=tt,k:=1,l:=0,c:=cm,g:=b,pl:=bw kk new}))) 31 (fun ⟨x,x1,x2⟩=>[(6,bi (nm 0))]) [.code (cZ f150 8)] (fun ⟨x,x1,x2⟩=>[(b1,.cl [bi tn] 106),(b2,.cl [bi v] 32),(b3,.cl (eO k t sec q1 n1 h o s rt (sA C 1 O) ky fr too bk) 41),(b4,.cl [i64 nch] 3),(v,.cl (bU N lim key d rs lg op r p c pp rc rg gn n al) 90),(tn,.cl (b9 tt q mb mc 0 0 0 ch hb hc cb sh made) 113),(r,.cl [.map (some m)] 182),(m,.pr (bB eW G)),(a,.fa (bN Af nf cf ((ff,f)::R))),(H,.fa (BF (pO j w) kk.length y kk)),(I,.fa (BF (pO z A) new.length B new)),(J,.fa (PgsF K M)),(L,.fa (CF C 0 (dS j w kk.length y (cB z A new.length B) false))),(p,.cl [bi d,bi r,bi lg,sA x (List.length (bS ((ff,f)::R))) x1,.map (some kn),.map (some wt),.map (some i),.map dr,.map (some pi),u64 cm,u64 lst,.bool false,.bool false] 199),(kn,.pr (MU x2)),(i,.pr (MU (bF (S++[ff])))),(nm 0,.cl [u32 tt,i64 q,sA mb 16 mc,u32 ff,u64 cm,u16 b,u8 0,i64 nch,sA hb 1 hc] 109),(nm 1,.cl [u32 tt,i64 q,sA mb 16 mc,u32 ff,u64 cm,u16 b,u8 0,i64 nch,sA hb 1 hc] 109),(0,.fa (bN (pA x) (List.length (bS ((ff,f)::R))) x1 (bS ((ff,f)::R)))),(0,.fa (PgsF x2 (bX M ff {t:=tt,k:=1,l:=0,c:=cm,g:=b,pl:=bw kk new})))]) ([]) 13 (fun key1=>?_) ?_
 · refine dq 11 15 ?_ ?_
   · refine cE (oB p d r lg Af nf cf kn wt pi cm lst dr m tt b a j w y H z A B I J L C O ff f i kk new k1 W X Y R Z e hn hf G hG hg K M D S hS E ht hcm F) [6,7,8,9,10,11,12] [13,14,15] fun ⟨⟨x,x1⟩,x2⟩ hx=>?_
     try dsimp only at hx
     refine zE<|dq 14 15 ?_ ?_
     · refine bv (gk ((↑ff:Int)) ((↑cm:Int)) ((↑b:Int))) [] []<|dq 15 16 ?_ ?_
       · exact rE (dM (T:=3) b4 0 ([i64 nch]) 3 (i64 nch)) [3]<|bj [17,17,17,16]<|jT [0,1,2,3,4,5,6,7,8,9,10,11,12,13,14,15,16,17,18,19] (fun u=>key1 (x,x1,x2) u (by first | assumption | omega))
       · refine zE<|dq 15 17 ?_ ?_
         · exact rE (dM (T:=3) b4 0 ([i64 nch]) 3 (i64 nch)) [3]<|bj [17,17,17,16]<|jT [0,1,2,3,4,5,6,7,8,9,10,11,12,13,14,15,16,17,18,19] (fun u=>key1 (x,x1,x2) u (by first | assumption | omega))
         · exact bj [17]<|oE 15<|bj [3,17,17,16]<|jT [0,1,2,3,4,5,6,7,8,9,10,11,12,13,14,15,16,17,18,19] (fun u=>key1 (x,x1,x2) u (by first | assumption | omega))
     · exact rE (dM (T:=3) b4 0 ([i64 nch]) 3 (i64 nch)) [3]<|zE<|bv (gk ((↑ff:Int)) ((↑cm:Int)) ((↑b:Int))) [] []<|bj [17,17,17,16]<|jT [0,1,2,3,4,5,6,7,8,9,10,11,12,13,14,15,16,17,18,19] (fun u=>key1 (x,x1,x2) u (by first | assumption | omega))
   · refine rE (dM (T:=3) b4 0 ([i64 nch]) 3 (i64 nch)) [3]<|zE<|cE (oB p d r lg Af nf cf kn wt pi cm lst dr m tt b a j w y H z A B I J L C O ff f i kk new k1 W X Y R Z e hn hf G hG hg K M D S hS E ht hcm F) [6,7,8,9,10,11,12] [13,14,15] fun ⟨⟨x,x1⟩,x2⟩ hx=>?_
     try dsimp only at hx
     exact zE<|bv (gk ((↑ff:Int)) ((↑cm:Int)) ((↑b:Int))) [] []<|bj [17,17,17,16]<|jT [0,1,2,3,4,5,6,7,8,9,10,11,12,13,14,15,16,17,18,19] (fun u=>key1 (x,x1,x2) u (by first | assumption | omega))
 rintro ⟨x,x1,x2⟩ u hx
 exact rT (((x,x1),x2)) 16 [18,19]
theorem Gy (na nfm:Nat) (O:Vl) (steps:Int) (nn rp rc2 rg2 m b a w y z P A B C Q U V E X ff e Y Z i j:Nat) (kk val new:Bs) (k1:1≤kk.length) (k2:kk.length≤32) (w0:1≤val.length) (w3:val.length≤64) (v0:1≤new.length) (v3:new.length≤64) (R R2:bV) (ab:bS ((ff,e)::R)=(Y,Z)::R2) (hL:RunsP ((ff,e)::R)) (f:ff+1<e∨0<R.length) (hn:nf≤50000) (hf:ff<4294967295) (G:List ((Nat×Nat)×Vl)) (hG:G.length≤1000) (hg:cg tt (G.map (·.1))=[b])
 (K:List (Nat×Vl)) (M:Nat→Option Pg) (F:KM K M) (S W D:List Nat) (hS:ff∉S) (hM:M rp=some ⟨tt,1,0,rc2,rg2,bw kk val⟩) (H:¬ bR ((ff,e)::R) rp) (hW:rp∉W) (hU:rp∉S) (hD:rp∉D) (h2:2≤rp) (hN:rp<N) (I:rp<4294967296) (J:0<cm) (ht:tt<4294967296) (hcm:cm<18446744073709551616) (L:b<65536) :
 TT 150 #[u64 nn,bi b1,bi b2,bi b3,bi b4] [(b1,.cl [bi tn] 106),(b2,.cl [bi v] 32),(b3,.cl (eO k t sec q1 n1 h o s rt (sA E 1 X) ky fr too bk) 41),(b4,.cl [i64 nch] 3),(v,.cl (bU N lim key d rs lg op r p c pp rc rg gn n al) 90),(tn,.cl (b9 tt q mb mc rp rc2 rg2 ch hb hc cb sh made) 113),(d,.cl (bQ na nfm N O steps) bT),(r,.cl [.map (some m)] 182),(m,.pr (bB eW G)),(a,.fa (bN Af nf cf ((ff,e)::R))),(P,.fa (BF (pO w y) kk.length z kk)),(Q,.fa (BF (pO A B) new.length C new)),(U,.fa (PgsF K M)),(V,.fa (CF E 0 (dS w y kk.length z (cB A B new.length C) false)))] [(p,.cl (bM d r lg Af nf cf kn wt (some i) (some j) pi cm lst false) 199),(kn,.pr (MU K)),(i,.pr (MU (bF S))),(wt,.pr (MU (bF W))),(j,.pr (MU (bF D)))]
  (fun x:ij=>KM x.2 (bX M ff ⟨tt,1,0,cm,b,bw kk new⟩)) (fun x=>.returned (kp tt q mb mc ff cm b 0 nch hb hc))
  (fun x=>[(p,.cl (bM d r lg (pA x.1.1) ((Y,Z)::R2).length x.1.2 kn wt (some i) (some j) pi cm lst false) 199),(kn,.pr (MU x.2)),(i,.pr (MU (bF (S++[ff])))),(wt,.pr (MU (bF (W++[rp])))),(j,.pr (MU (bF (D++[rp]))))])
  (fun x=>[(0,.fa (bN (pA x.1.1) ((Y,Z)::R2).length x.1.2 ((Y,Z)::R2))),(0,.fa (PgsF x.2 (bX M ff ⟨tt,1,0,cm,b,bw kk new⟩)))]):=by
 rw [← ab]
 refine cJ func150 (by kernel_rfl) fun w0 ho=>bu [0,5,20] 2 fun nm=>bj [17,507904,1,4,20,20,2]<|ef (Nat×Nat×(List (Nat×Vl))) (fun ⟨x,x1,x2⟩=>(KM x2 (bX M ff {t:=tt,k:=1,l:=0,c:=cm,g:=b,pl:=bw kk new}))) 31 (fun ⟨x,x1,x2⟩=>[(6,bi (nm 0))]) [.code (cZ f150 8)] (fun ⟨x,x1,x2⟩=>[(b1,.cl [bi tn] 106),(b2,.cl [bi v] 32),(b3,.cl (eO k t sec q1 n1 h o s rt (sA E 1 X) ky fr too bk) 41),(b4,.cl [i64 nch] 3),(v,.cl (bU N lim key d rs lg op r p c pp rc rg gn n al) 90),(tn,.cl (b9 tt q mb mc rp rc2 rg2 ch hb hc cb sh made) 113),(d,.cl (bQ na nfm N O steps) 123),(r,.cl [.map (some m)] 182),(m,.pr (bB eW G)),(a,.fa (bN Af nf cf ((ff,e)::R))),(P,.fa (BF (pO w y) kk.length z kk)),(Q,.fa (BF (pO A B) new.length C new)),(U,.fa (PgsF K M)),(V,.fa (CF E 0 (dS w y kk.length z (cB A B new.length C) false))),(p,.cl [bi d,bi r,bi lg,sA x (List.length (bS ((ff,e)::R))) x1,.map (some kn),.map (some wt),.map (some i),.map (some j),.map (some pi),u64 cm,u64 lst,.bool false,.bool false] 199),(kn,.pr (MU x2)),(i,.pr (MU (bF (S++[ff])))),(wt,.pr (MU (bF (W++[rp])))),(j,.pr (MU (bF (D++[rp])))),(nm 0,.cl [u32 tt,i64 q,sA mb 16 mc,u32 ff,u64 cm,u16 b,u8 0,i64 nch,sA hb 1 hc] 109),(nm 1,.cl [u32 tt,i64 q,sA mb 16 mc,u32 ff,u64 cm,u16 b,u8 0,i64 nch,sA hb 1 hc] 109),(0,.fa (bN (pA x) (List.length (bS ((ff,e)::R))) x1 (bS ((ff,e)::R)))),(0,.fa (PgsF x2 (bX M ff {t:=tt,k:=1,l:=0,c:=cm,g:=b,pl:=bw kk new})))]) ([]) 14 (fun key1=>?_) ?_
 · refine dq 11 15 ?_ ?_
   · refine cE (oz p d r lg Af nf cf kn wt pi cm lst na nfm N O steps m tt rp rc2 rg2 b a w y z P A B C Q U V E X ff e i j kk val new k1 k2 (by with_reducible assumption) w3 v0 v3 R hL f hn hf G hG hg K M F S W D hS hM H hW hU hD h2 hN I J ht hcm L) [6,7,8,9,10,11,12,13] [14,15,16,17,18] fun ⟨⟨x,x1⟩,x2⟩ hx=>?_
     try dsimp only at hx
     refine zE<|dq 14 15 ?_ ?_
     · refine bv (gk ((↑ff:Int)) ((↑cm:Int)) ((↑b:Int))) [] []<|dq 15 16 ?_ ?_
       · exact rE (dM (T:=3) b4 0 ([i64 nch]) 3 (i64 nch)) [3]<|bj [20,20,20,19]<|jT [0,1,2,3,4,5,6,7,8,9,10,11,12,13,14,15,16,17,18,19,20,21,22] (fun u=>key1 (x,x1,x2) u (by first | assumption | omega))
       · refine zE<|dq 15 17 ?_ ?_
         · exact rE (dM (T:=3) b4 0 ([i64 nch]) 3 (i64 nch)) [3]<|bj [20,20,20,19]<|jT [0,1,2,3,4,5,6,7,8,9,10,11,12,13,14,15,16,17,18,19,20,21,22] (fun u=>key1 (x,x1,x2) u (by first | assumption | omega))
         · exact bj [20]<|oE 15<|bj [3,20,20,19]<|jT [0,1,2,3,4,5,6,7,8,9,10,11,12,13,14,15,16,17,18,19,20,21,22] (fun u=>key1 (x,x1,x2) u (by first | assumption | omega))
     · exact rE (dM (T:=3) b4 0 ([i64 nch]) 3 (i64 nch)) [3]<|zE<|bv (gk ((↑ff:Int)) ((↑cm:Int)) ((↑b:Int))) [] []<|bj [20,20,20,19]<|jT [0,1,2,3,4,5,6,7,8,9,10,11,12,13,14,15,16,17,18,19,20,21,22] (fun u=>key1 (x,x1,x2) u (by first | assumption | omega))
   · refine rE (dM (T:=3) b4 0 ([i64 nch]) 3 (i64 nch)) [3]<|zE<|cE (oz p d r lg Af nf cf kn wt pi cm lst na nfm N O steps m tt rp rc2 rg2 b a w y z P A B C Q U V E X ff e i j kk val new k1 k2 (by with_reducible assumption) w3 v0 v3 R hL f hn hf G hG hg K M F S W D hS hM H hW hU hD h2 hN I J ht hcm L) [6,7,8,9,10,11,12,13] [14,15,16,17,18] fun ⟨⟨x,x1⟩,x2⟩ hx=>?_
     try dsimp only at hx
     exact zE<|bv (gk ((↑ff:Int)) ((↑cm:Int)) ((↑b:Int))) [] []<|bj [20,20,20,19]<|jT [0,1,2,3,4,5,6,7,8,9,10,11,12,13,14,15,16,17,18,19,20,21,22] (fun u=>key1 (x,x1,x2) u (by first | assumption | omega))
 rintro ⟨x,x1,x2⟩ u hx
 exact rT (((x,x1),x2)) 19 [21,22]
end
end
end Go.Proofs.YtlkeemedalncoaaGreat.En
