/- TopHandles, part 14: no condition. -/
import Derived.Test.YtlkeemedalncoaaGreatP13
import Derived.Test.YtlkeemedalncoaaGreatP10
set_option linter.all false
set_option maxHeartbeats 16000000
set_option maxRecDepth 100000
namespace Go.Proofs.YtlkeemedalncoaaGreat.En
open Go Go.RowKit Go.Proofs.YtlkeemedalncoaaGreat Go.Proofs.Tryz
abbrev mA (t k l n c g pb:Nat) (pn pc:Nat):Vl:=.agg #[.int .u32 (t:Int),.int .u8 (k:Int),.int .u8 (l:Int),.int .u32 (n:Int),.int .u64 (c:Int),.int .u16 (g:Int),sA pb pn pc]
section
variable (p d r g:Nat) (Af:Option Addr) (nf cf kn wt:Nat) (pu dr:Option Nat) (pi cm lst:Nat) (fl:Bool)
theorem GQ (na nfm N:Nat) (j:Vl) (steps:Int) (t k l n c b f h a:Nat) (pl:Bs) (i:224=pl.length) (K:List (Nat×Vl)) (o:lk K n=some (mA t k l n c b f 224 h)) (h2:2≤n) (q:n<N) (m:n<4294967296) (s:1≤k) (v:k≤3) :
 TT 456 #[bi p,.int .u32 t,.int .u8 k,.int .u8 l,.agg #[.int .u32 n,.int .u64 c,.int .u16 b]] [(p,.cl (bM d r g Af nf cf kn wt pu dr pi cm lst fl) 199),(d,.cl (bQ na nfm N j steps) bT),(kn,.pr (MU K)),(a,.fa (BF (pA f) 224 h pl))] [] (fun _:Nat×Nat=>True) (fun x=>.returned (.tuple #[sA x.1 224 x.2,i64 0])) (fun _=>[]) (fun x=>[(x.1,.fa (BF (pA x.1) 224 x.2 pl))]):=by
 refine iE func456<|bu [9999] 1 fun nm=>bv (iJ p d r g Af nf cf kn wt pu dr pi cm lst fl) [0] []<|bK [0,0,2,2,4] (br (dF ((↑k:Int)>3)) (br (dF ((↑k:Int)<1)) bt))<|bv (jA p d r g Af nf cf kn wt pu dr pi cm lst fl na nfm N j steps n h2 q m) [0,1] []<|bu [0,4,9999,5] 1 fun nm1=>bj [9999,0,0,4]<|ef ((Nat→Nat)) (fun nm2=>True) 113 (fun nm2=>[(0,bi p),(1,u32 t),(9,bi (nm 0)),(10,.slice none 0 0),(11,i64 0),(13,bi (nm1 0)),(14,bi (nm2 0)),(54,.bool !true)]) [.code (cZ f456 27),.code (cZ f456 70)] (fun nm2=>[(p,.cl (bM d r g Af nf cf kn wt pu dr pi cm lst fl) 199),(d,.cl (bQ na nfm N j steps) 123),(kn,.pr (MU K)),(a,.fa (BF (pA f) 224 h pl)),(nm 0,.cl [u32 n,u64 c,u16 b] 70),(nm1 0,.cl [u32 t,u8 k,u8 l,u32 n,u64 c,u16 b] 72),(nm2 0,.cl [u32 t,u8 k,u8 l,u32 n,u64 c,u16 b,sA f 224 h] 474)]) ([]) 4 (fun key=>?_) ?_
 · refine dq 6 10 ?_ ?_
   · exact rE (pN (kt:=37) (et:=474) (T:=195) (κ:=.u32) underlying195 underlying37 kn K n (mA t k l n c b f 224 h) o) [2]<|bu [6] 1 fun nm2=>jT [0,1,2,3,4,5,6] (fun u=>key nm2 u trivial)
   · exact bu [] 1 fun nm2=>rE (pN (kt:=37) (et:=474) (T:=195) (κ:=.u32) underlying195 underlying37 kn K n (mA t k l n c b f 224 h) o) [2]<|bj [6]<|jT [0,1,2,3,4,5,6] (fun u=>key nm2 u trivial)
 rintro nm2 u _
 exact bj [0,6,5]<|rE (sC (Operand.tmp 106) (Operand.tmp 107) ((↑n:Int)) ((↑c:Int)) ((↑b:Int)) ((↑l:Int)) ((↑n:Int)) ((↑c:Int)) ((↑b:Int)) ((↑l:Int)) ((↑t:Int)) ((↑k:Int)) ((↑t:Int)) ((↑k:Int)) (by omega)) []<|bu [0,9999,6] 1 fun nm3=>xK (dY (nm3 0) f 0 224 h a pl i) [3] [7] fun ⟨x,x1⟩ _=>fE 8 x (bn 5 1 224 x1 (List.map B8 pl)) bx fun hc=>zE<|eh (e:=5) (n:=224) (c:=x1) (l:=pl) 8 x i<|rT ((x,x1)) 9999 [8]
theorem FZ (m t k l f h ff a s u v i F:Nat) (pl:Bs) (j:224=pl.length) (L:bV) (G:List ((Nat×Nat)×Vl)) (y:G.length≤1000) (z:cg t (G.map (·.1))=[f]) (A:ik ((ff,h)::L)) (B:nf≤100000) (h1:ff+1<h) (h2:0<L.length) (C:ff<4294967295) (o q:Nat) (w:Af=some ⟨o,q,none⟩) (K U:List (Nat×Vl)) (b:Nat) (D:1≤k) (E:k≤3) (hc:0<cm) :
 TT 457 #[bi p,.int .u32 t,.int .u8 k,.int .u8 l,sO s u 224 v] [(r,.cl [.map (some m)] 182),(m,.pr (bB eW G)),(a,.fa (bN Af nf cf ((ff,h)::L))),(i,.fa (BF (pO s u) 224 v pl))] [(p,.cl (bM d r g Af nf cf kn wt (some b) dr pi cm lst false) 199),(kn,.pr (MU K)),(b,.pr (MU U))] (fun _:Nat×Nat×Nat×Nat=>True) (fun x=>.returned (.tuple #[.agg #[.int .u32 ff,.int .u64 cm,.int .u16 f],i64 0])) (fun x=>[(p,.cl (bM d r g (pA x.1) nf x.2.1 kn wt (some b) dr pi cm lst false) 199),(kn,.pr (MU (up K ff (mA t k l ff cm f x.2.2.1 224 x.2.2.2)))),(b,.pr (MU (up U ff (.bool true))))]) (fun x=>[(x.1,.fa (bN (pA x.1) nf x.2.1 ((ff+1,h)::L))),(x.2.2.1,.fa (BF (pA x.2.2.1) 224 x.2.2.2 pl))]):=by
 subst w
 refine iE func457<|bu [] 1 fun nm=>bv (iJ p d r g (pO o q) nf cf kn wt (some b) dr pi cm lst false) [4] []<|bj [0,0]<|bv (pC p d r g (pO o q) nf cf kn wt (some b) dr pi cm lst hc) [4] []<|bK [2,2,0,0,4] (br (dF ((↑k:Int)>3)) (br (dF ((↑k:Int)<1)) bt))<|bv (oy r m t f G y z) [0,1] []<|bj [0,0,4]<|cE (BH o q nf cf a ff h L A B h1 h2 C) [2] [] fun ⟨x,x1⟩ _=>bu [0,0,4,4,9999,9] 1 fun nm1=>bu [9999,32,4,9,9999,9999] 1 fun nm2=>?_
 exact xK (dY (nm2 0) s u 224 v i pl j) [3] [10] fun ⟨x2,x3⟩ _=>bj [9999]<|xE (gE (kt:=37) (et:=474) (T:=195) (κ:=.u32) underlying195 underlying37 kn K ff (.agg ⟨[u32 t,u8 k,u8 l,u32 ff,u64 cm,u16 f,sA x2 224 x3]⟩)) [] [5] fun _ _=>bj [4]<|xE (gE (kt:=37) (et:=4) (T:=196) (κ:=.u32) underlying196 underlying37 b U ff (.bool true)) [] [6] fun _ _=>bj [9,7]<|eh (e:=5) (n:=224) (c:=x3) (l:=pl) 11 x2 j<|rT ((x,x1,x2,x3)) 7 [8,11]
end
theorem zC (b o c a f t:Nat) (d:ik [(f,t)]) (h1:f+1<t) (e:f<4294967295) :
 TT 460 #[sO b o 1 c] [(a,.fa (bN (pO b o) 1 c [(f,t)]))] [] (fun _:Nat×Nat=>True) (fun x=>.returned (.tuple #[.int .u32 f,sA x.1 1 x.2,i64 0])) (fun _=>[]) (fun x=>[(x.1,.fa (bN (pA x.1) 1 x.2 [(f+1,t)]))]):=
 Cz b o 0 c a f t d h1 e
section
variable (p d r g:Nat) (Af:Option Addr) (nf cf kn wt:Nat) (pu dr:Option Nat) (pi cm lst:Nat) (fl:Bool)
theorem Gd (m t k l f h ff a s u v i D:Nat) (pl:Bs) (j:224=pl.length) (G:List ((Nat×Nat)×Vl)) (w:G.length≤1000) (y:cg t (G.map (·.1))=[f]) (z:ik [(ff,h)]) (h1:ff+1<h) (A:ff<4294967295) (o q:Nat) (K U:List (Nat×Vl)) (b:Nat) (B:1≤k) (C:k≤3) (hc:0<cm) :
 TT 457 #[bi p,.int .u32 t,.int .u8 k,.int .u8 l,sO s u 224 v] [(r,.cl [.map (some m)] 182),(m,.pr (bB eW G)),(a,.fa (bN (pO o q) 1 cf [(ff,h)])),(i,.fa (BF (pO s u) 224 v pl))] [(p,.cl (bM d r g (pO o q) 1 cf kn wt (some b) dr pi cm lst false) 199),(kn,.pr (MU K)),(b,.pr (MU U))] (fun _:Nat×Nat×Nat×Nat=>True) (fun x=>.returned (.tuple #[.agg #[.int .u32 ff,.int .u64 cm,.int .u16 f],i64 0])) (fun x=>[(p,.cl (bM d r g (pA x.1) 1 x.2.1 kn wt (some b) dr pi cm lst false) 199),(kn,.pr (MU (up K ff (mA t k l ff cm f x.2.2.1 224 x.2.2.2)))),(b,.pr (MU (up U ff (.bool true))))]) (fun x=>[(x.1,.fa (bN (pA x.1) 1 x.2.1 [(ff+1,h)])),(x.2.2.1,.fa (BF (pA x.2.2.1) 224 x.2.2.2 pl))]):=by
 refine iE func457<|bu [] 1 fun nm=>bv (iJ p d r g (pO o q) 1 cf kn wt (some b) dr pi cm lst false) [4] []<|bj [0,0]<|bv (pC p d r g (pO o q) 1 cf kn wt (some b) dr pi cm lst hc) [4] []<|bK [2,2,0,0,4] (br (dF ((↑k:Int)>3)) (br (dF ((↑k:Int)<1)) bt))<|bv (oy r m t f G w y) [0,1] []<|bj [0,0,4]<|cE (zC o q cf a ff h z h1 A) [2] [] fun ⟨x,x1⟩ _=>bu [0,0,4,4,9999,9] 1 fun nm1=>bu [9999,32,4,9,9999,9999] 1 fun nm2=>?_
 exact xK (dY (nm2 0) s u 224 v i pl j) [3] [10] fun ⟨x2,x3⟩ _=>bj [9999]<|xE (gE (kt:=37) (et:=474) (T:=195) (κ:=.u32) underlying195 underlying37 kn K ff (.agg ⟨[u32 t,u8 k,u8 l,u32 ff,u64 cm,u16 f,sA x2 224 x3]⟩)) [] [5] fun _ _=>bj [4]<|xE (gE (kt:=37) (et:=4) (T:=196) (κ:=.u32) underlying196 underlying37 b U ff (.bool true)) [] [6] fun _ _=>bj [9,7]<|eh (e:=5) (n:=224) (c:=x3) (l:=pl) 11 x2 j<|rT ((x,x1,x2,x3)) 7 [8,11]
theorem FI (m t k l f ff a q s u h D:Nat) (pl:Bs) (i:224=pl.length) (L:bV) (G:List ((Nat×Nat)×Vl)) (v:G.length≤1000) (w:cg t (G.map (·.1))=[f]) (y:ik ((ff,ff+1)::L)) (z:nf≤100000) (h2:0<L.length) (A:ff<4294967295) (j o:Nat) (K U:List (Nat×Vl)) (b:Nat) (B:1≤k) (C:k≤3) (hc:0<cm) :
 TT 457 #[bi p,.int .u32 t,.int .u8 k,.int .u8 l,sO q s 224 u] [(r,.cl [.map (some m)] 182),(m,.pr (bB eW G)),(a,.fa (bN (pO j o) nf cf ((ff,ff+1)::L))),(h,.fa (BF (pO q s) 224 u pl))] [(p,.cl (bM d r g (pO j o) nf cf kn wt (some b) dr pi cm lst false) 199),(kn,.pr (MU K)),(b,.pr (MU U))] (fun _:Nat×Nat×Nat×Nat=>True) (fun x=>.returned (.tuple #[.agg #[.int .u32 ff,.int .u64 cm,.int .u16 f],i64 0])) (fun x=>[(p,.cl (bM d r g (pA x.1) (nf-1) x.2.1 kn wt (some b) dr pi cm lst false) 199),(kn,.pr (MU (up K ff (mA t k l ff cm f x.2.2.1 224 x.2.2.2)))),(b,.pr (MU (up U ff (.bool true))))]) (fun x=>[(x.1,.fa (bN (pA x.1) (nf-1) x.2.1 L)),(x.2.2.1,.fa (BF (pA x.2.2.1) 224 x.2.2.2 pl))]):=by
 refine iE func457<|bu [] 1 fun nm=>bv (iJ p d r g (pO j o) nf cf kn wt (some b) dr pi cm lst false) [4] []<|bj [0,0]<|bv (pC p d r g (pO j o) nf cf kn wt (some b) dr pi cm lst hc) [4] []<|bK [2,2,0,0,4] (br (dF ((↑k:Int)>3)) (br (dF ((↑k:Int)<1)) bt))<|bv (oy r m t f G v w) [0,1] []<|bj [0,0,4]<|cE (BX j o nf cf a ff L y z h2 A) [2] [] fun ⟨x,x1⟩ _=>bu [0,0,4,4,9999,9] 1 fun nm1=>bu [9999,32,4,9,9999,9999] 1 fun nm2=>?_
 exact xK (dY (nm2 0) q s 224 u h pl i) [3] [10] fun ⟨x2,x3⟩ _=>bj [9999]<|xE (gE (kt:=37) (et:=474) (T:=195) (κ:=.u32) underlying195 underlying37 kn K ff (.agg ⟨[u32 t,u8 k,u8 l,u32 ff,u64 cm,u16 f,sA x2 224 x3]⟩)) [] [5] fun _ _=>bj [4]<|xE (gE (kt:=37) (et:=4) (T:=196) (κ:=.u32) underlying196 underlying37 b U ff (.bool true)) [] [6] fun _ _=>bj [9,7]<|eh (e:=5) (n:=224) (c:=x3) (l:=pl) 11 x2 i<|rT ((x,x1,x2,x3)) 7 [8,11]
theorem G9 (na nfm N:Nat) (q:Vl) (steps:Int) (now:List Bs) (i:now.length=N) (j:bP now) (t k l n c b a m kb s h kc v:Nat) (pl key:Bs) (f:224=pl.length) (y:h=key.length) (H:h=16∨h=32) (K:List (Nat×Vl)) (E:lk K n=none) (G:List ((Nat×Nat)×Vl)) (I:lk G (t,b)=some (sO kb s h kc)) (L:bV) (J:RunsP L) (M:nf≤50000) (A:¬ bR L n) (h2:2≤n) (F:n<N) (o:n<4294967296) (O:t<4294967296) (B:1≤k) (P:k≤3) (Q:l<256) (hc:c<18446744073709551616) (C:b<65536)
 (R:now.getD n []=bI key t k l n c b pl) :
 TT 456 #[bi p,.int .u32 t,.int .u8 k,.int .u8 l,.agg #[.int .u32 n,.int .u64 c,.int .u16 b]] [(p,.cl (bM d r g Af nf cf kn wt pu dr pi cm lst fl) 199),(a,.fa (bN Af nf cf L)),(d,.cl (bQ na nfm N q steps) bT),(na,.cl (bE now) 166),(r,.cl [.map (some m)] 182),(m,.pr (bB eW G)),(v,.fa (BF (pO kb s) h kc key))] [(kn,.pr (MU K))] (fun _:Nat×Nat×Nat=>True) (fun x=>.returned (.tuple #[sA x.2.1 224 x.2.2,i64 0])) (fun x=>[(kn,.pr (MU (up K n (mA t k l n c b x.1 224 224))))]) (fun x=>[(x.1,.fa (BF (pA x.1) 224 224 pl)),(x.2.1,.fa (BF (pA x.2.1) 224 x.2.2 pl))]):=by
 refine cJ func456 (by kernel_rfl) fun w0 ho=>?_
 have D:256=(bI key t k l n c b pl).length:=(fi key t k l n c b pl f.symm).symm
 refine bu [9999] 1 fun nm=>bv (iJ p d r g Af nf cf kn wt pu dr pi cm lst fl) [0] []<|bK [0,0,2,2,8] (br (dF ((↑k:Int)>3)) (br (dF ((↑k:Int)<1)) bt))<|bv (jA p d r g Af nf cf kn wt pu dr pi cm lst fl na nfm N q steps n h2 F o) [0,2] []<|bu [0,8,9999,9] 1 fun nm1=>bj [9999,0,0,8]<|ef ((Nat→Nat)) (fun nm2=>True) 113 (fun nm2=>[(0,bi p),(1,u32 t),(9,bi (nm 0)),(10,.slice none 0 0),(11,i64 0),(13,bi (nm1 0)),(14,bi (nm2 0)),(54,.bool !false)]) [.code (cZ f456 27),.code (cZ f456 70)] (fun nm2=>[(p,.cl (bM d r g Af nf cf kn wt pu dr pi cm lst fl) 199),(a,.fa (bN Af nf cf L)),(d,.cl (bQ na nfm N q steps) 123),(na,.cl (bE now) 166),(r,.cl [.map (some m)] 182),(m,.pr (bB eW G)),(v,.fa (BF (pO kb s) h kc key)),(kn,.pr (MU K)),(nm 0,.cl [u32 n,u64 c,u16 b] 70),(nm1 0,.cl [u32 t,u8 k,u8 l,u32 n,u64 c,u16 b] 72),(nm2 0,.cl [u32 0,u8 0,u8 0,u32 0,u64 0,u16 0,.slice none 0 0] 474)]) ([]) 7 (fun key1=>?_) ?_
 · refine dq 6 10 ?_ ?_
   · exact rE (nu (kt:=37) (et:=474) (T:=195) (κ:=.u32) underlying195 underlying37 (z:=.agg #[u32 0,u8 0,u8 0,u32 0,u64 0,u16 0,.slice none 0 0]) (fun w=>by kernel_rfl) kn K n E) [7]<|bu [10] 1 fun nm2=>jT [0,1,2,3,4,5,6,7,8,9,10] (fun u=>key1 nm2 u trivial)
   · exact bu [] 1 fun nm2=>rE (nu (kt:=37) (et:=474) (T:=195) (κ:=.u32) underlying195 underlying37 (z:=.agg #[u32 0,u8 0,u8 0,u32 0,u64 0,u16 0,.slice none 0 0]) (fun w=>by kernel_rfl) kn K n E) [7]<|bj [10]<|jT [0,1,2,3,4,5,6,7,8,9,10] (fun u=>key1 nm2 u trivial)
 rintro nm2 u _
 refine bj [0,8]<|bv (ne p d r g Af nf cf kn wt pu dr pi cm lst fl n a L J M A) [0,1] []<|bj [0]<|bj [9999,0,0,8,9999]<|vC 66 i64 (nI n)<|cE (jh d na nfm N q steps now i j n F) [2,3] [] fun x _=>bj [0,0]<|bj [9999,0,0,8]<|cE (mn r m t b kb s h kc v key G I y) [4,5,6] [] fun ⟨x1,x2⟩ _=>bj [0,0,9]<|qE 11 x (.cl (List.map B8 (List.getD now n [])) 166) (.cl (List.map B8 (bI key t k l n c b pl)) 166) (by rw [R];try rfl) ?_
 refine gW (t:=166) (l:=bI key t k l n c b pl) 11 x 256 D (by first | decide | (simp only [maxLen];omega))<|fP 12 x1 (BF (pA x1) h x2 key) db fun ⟨fl1,fc,fm⟩=>cE (uQ x1 0 h x2 x 0 x1 x t k l n c b key pl H fl1 fc f O B (by omega) Q o hc C) [12,11] [] fun x3 _=>bj [0,0,9,9999,10]<|bj [9999,128,0,8,10]<|xE (gE (kt:=37) (et:=474) (T:=195) (κ:=.u32) underlying195 underlying37 kn K n (.agg ⟨[u32 t,u8 k,u8 l,u32 n,u64 c,u16 b,sA x3 224 224]⟩)) [] [7] fun _ _=>bj [10,9]<|rE (sC (Operand.tmp 106) (Operand.tmp 107) ((↑n:Int)) ((↑c:Int)) ((↑b:Int)) ((↑l:Int)) ((↑n:Int)) ((↑c:Int)) ((↑b:Int)) ((↑l:Int)) ((↑t:Int)) ((↑k:Int)) ((↑t:Int)) ((↑k:Int)) (by omega)) []<|bu [0,9999,10] 1 fun nm3=>xV (n6 (nm3 0) x3 0 224 224 pl f (by omega) (by omega)) [13] [14] (Views.less (.cl (List.map B8 pl) 5) bA Views.nil) fun ⟨x4,x5⟩ _=>fE 15 x4 (bn 5 1 224 x5 (List.map B8 pl)) bx fun hc1=>?_
 exact zE<|gW (t:=5) (l:=pl) 13 x3 224 f (by first | decide | (simp only [maxLen];omega))<|eh (e:=5) (n:=224) (c:=x5) (l:=pl) 15 x4 f<|rT ((x3,x4,x5)) 9999 [13,15]
end
section
variable (p d r g:Nat) (Af:Option Addr) (nf cf kn wt:Nat) (pu dr:Option Nat) (pi cm lst:Nat) (fl:Bool)
theorem Hr (na nfm N:Nat) (i:Vl) (steps:Int) (n c j a e b:Nat) (L:bV) (k:RunsP L) (l:nf≤50000) (f:¬ bR L n) (W U D:List (Nat×Vl)) (m:lk W n=none) (o:lk U n=none) (h2:2≤n) (q:n<N) (h:n<4294967296) (hc:0<cm) :
 TT 455 #[bi p,.agg #[.int .u32 n,.int .u64 c,.int .u16 j]] [(p,.cl (bM d r g Af nf cf kn wt (some e) (some b) pi cm lst false) 199),(d,.cl (bQ na nfm N i steps) bT),(a,.fa (bN Af nf cf L)),(e,.pr (MU U))] [(wt,.pr (MU W)),(b,.pr (MU D))] uT (fun _=>.returned (i64 0)) (fun _=>[(wt,.pr (MU (up W n (.bool true)))),(b,.pr (MU (up D n (.bool true))))]) (fun _=>[]):=by
 refine iE func455<|bu [9999] 1 fun nm=>bv (iJ p d r g Af nf cf kn wt (some e) (some b) pi cm lst false) [0] []<|bj [0,0]<|bv (pC p d r g Af nf cf kn wt (some e) (some b) pi cm lst hc) [0] []<|bj [6]<|bv (jA p d r g Af nf cf kn wt (some e) (some b) pi cm lst false na nfm N i steps n h2 q h) [0,1] []<|bj [0,6,0]<|rE (i8 (kt:=37) (et:=4) (T:=196) (κ:=.u32) underlying196 underlying37 (z:=.bool false) (fun w=>by kernel_rfl) wt W n m) [4]<|zE<|cE (ne p d r g Af nf cf kn wt (some e) (some b) pi cm lst false n a L k l f) [0,2] [] ?_
 intro _ _
 exact bj [0,0]<|rE (i8 (kt:=37) (et:=4) (T:=196) (κ:=.u32) underlying196 underlying37 (z:=.bool false) (fun w=>by kernel_rfl) e U n o) [3]<|bj [0,0]<|xE (gE (kt:=37) (et:=4) (T:=196) (κ:=.u32) underlying196 underlying37 wt W n (.bool true)) [] [4] fun _ _=>bj [0]<|xE (gE (kt:=37) (et:=4) (T:=196) (κ:=.u32) underlying196 underlying37 b D n (.bool true)) [] [5] fun _ _=>zE<|rT ()
theorem Cy (na nfm N:Nat) (b:Vl) (steps:Int) (n c e:Nat) (I:List (Nat×Vl)) (f:lk I n=none) (h2:2≤n) (h:n<N) (a:n<4294967296) :
 TT 155 #[bi p,.agg #[.int .u32 n,.int .u64 c,.int .u16 e]] [(p,.cl (bM d r g Af nf cf kn wt pu dr pi cm lst fl) 199),(d,.cl (bQ na nfm N b steps) bT)] [(pi,.pr (MU I))] uT (fun _=>.returned (i64 0)) (fun _=>[(pi,.pr (MU (up I n (i64 1))))]) (fun _=>[]):=by
 refine iE func155<|bu [9999] 1 fun nm=>bv (iJ p d r g Af nf cf kn wt pu dr pi cm lst fl) [0] []<|bj [0,0,3]<|bv (jA p d r g Af nf cf kn wt pu dr pi cm lst fl na nfm N b steps n h2 h a) [0,1] []<|bj [0]<|bj [9999,4,0,3]<|rE (i8 (kt:=37) (et:=3) (T:=197) (κ:=.u32) underlying197 underlying37 (z:=i64 0) (fun w=>by kernel_rfl) pi I n f) [2]<|zE<|xE (gE (kt:=37) (et:=3) (T:=197) (κ:=.u32) underlying197 underlying37 pi I n (i64 1)) [] [2] fun _ _=>zE ?_
 exact rT ()
theorem DW (na nfm N:Nat) (b:Vl) (steps:Int) (n c e q:Nat) (i:q<1000000) (I:List (Nat×Vl)) (f:lk I n=some (i64 q)) (h2:2≤n) (h:n<N) (a:n<4294967296) :
 TT 155 #[bi p,.agg #[.int .u32 n,.int .u64 c,.int .u16 e]] [(p,.cl (bM d r g Af nf cf kn wt pu dr pi cm lst fl) 199),(d,.cl (bQ na nfm N b steps) bT)] [(pi,.pr (MU I))] uT (fun _=>.returned (i64 0)) (fun _=>[(pi,.pr (MU (up I n (i64 ((q+1:Nat):Int)))))]) (fun _=>[]):=by
 refine iE func155<|bu [9999] 1 fun nm=>bv (iJ p d r g Af nf cf kn wt pu dr pi cm lst fl) [0] []<|bj [0,0,3]<|bv (jA p d r g Af nf cf kn wt pu dr pi cm lst fl na nfm N b steps n h2 h a) [0,1] []<|bj [0]<|bj [9999,4,0,3]<|rE (eI (kt:=37) (et:=3) (T:=197) (κ:=.u32) underlying197 underlying37 pi I n (i64 q) f) [2]<|zE<|vC 23 i64 (wI ((↑q:Int)+1) (q+1))<|xE (gE (kt:=37) (et:=3) (T:=197) (κ:=.u32) underlying197 underlying37 pi I n (i64 ↑(q+1))) [] [2] ?_
 intro _ _
 exact zE<|rT ()
theorem DM (na nfm N:Nat) (b:Vl) (steps:Int) (n c f q:Nat) (i:q<1000000) (h0:0<q) (I:List (Nat×Vl)) (e:lk I n=some (i64 q)) (h2:2≤n) (h:n<N) (a:n<4294967296) :
 TT 200 #[bi p,.agg #[.int .u32 n,.int .u64 c,.int .u16 f]] [(p,.cl (bM d r g Af nf cf kn wt pu dr pi cm lst fl) 199),(d,.cl (bQ na nfm N b steps) bT)] [(pi,.pr (MU I))] uT (fun _=>.returned (i64 0)) (fun _=>[(pi,.pr (MU (up I n (i64 ((q-1:Nat):Int)))))]) (fun _=>[]):=by
 refine iE func200<|bu [9999] 1 fun nm=>bv (iJ p d r g Af nf cf kn wt pu dr pi cm lst fl) [0] []<|bj [0,0,3]<|bv (jA p d r g Af nf cf kn wt pu dr pi cm lst fl na nfm N b steps n h2 h a) [0,1] []<|bj [0]<|bj [9999,0,0,3]<|rE (eI (kt:=37) (et:=3) (T:=197) (κ:=.u32) underlying197 underlying37 pi I n (i64 q) e) [2]<|bK [2,0] (br (tF ((↑q:Int)==0)) bt)<|bj [9999,4,0,3]<|rE (eI (kt:=37) (et:=3) (T:=197) (κ:=.u32) underlying197 underlying37 pi I n (i64 q) e) [2] ?_
 exact zE<|vC 33 i64 (wI ((↑q:Int)-1) (q-1))<|xE (gE (kt:=37) (et:=3) (T:=197) (κ:=.u32) underlying197 underlying37 pi I n (i64 ↑(q-1))) [] [2] fun _ _=>zE<|rT ()
end
section
variable (p d r g:Nat) (Af:Option Addr) (nf cf kn wt:Nat) (pu dr:Option Nat) (pi cm lst:Nat) (fl:Bool)
theorem yj:TT 95 #[.slice none 0 0] [] [] uT (fun x=>.returned (.bool true)) (fun _=>[]) (fun _=>[]):=iE func95<|bj [1,0,0]<|rT ()
theorem lO (A:Option Addr) (c:Nat) :
 TT 105 #[bi p,.slice A 0 c] [] [] uT (fun _=>.returned (i64 0)) (fun _=>[]) (fun _=>[]):=iE func105<|bj [1,0,0,0,0]<|rT ()
theorem vW:TT 55 #[bi d,bi r,bi g,.slice none 0 0] [] [] (fun _:Nat×Nat×Nat×Nat=>True) (fun x=>.returned (.tuple #[bi x.1,i64 0])) (fun _=>[]) (fun x=>[(x.1,.cl (bM d r g none 0 0 x.2.1 x.2.2.1 none none x.2.2.2 0 0 false) 199),(x.2.1,.pr (MU [])),(x.2.2.1,.pr (MU [])),(x.2.2.2,.pr (MU []))]):=iE func55<|bu [0,0,0,0,9999,9999] 4 fun nm=>bv yj [] []<|bj [0,0,3]<|rE (sU (t:=194) (e:=202) (ty:=194) underlying194 (k:=2) none none 0 0 0) []<|bj [3]<|lE 0 (nm 0) (.ob (Obj.map #[] 0)) (.pr (MU [])) (dL (eK .u32) 0)<|lE 1 (nm 1) (.ob (Obj.map #[] 0)) (.pr (MU [])) (dL (eK .u32) 0)<|lE 2 (nm 2) (.ob (Obj.map #[] 0)) (.pr (MU [])) (dL (eK .u32) 0)<|rT ((nm 3,nm 0,nm 1,nm 2)) 9999 [3,0,1,2]
end
theorem Fk (l:Bs):∀ j u,(l.map B8)[j]?=some u→(l.map B8)[0+j]?=some u:=by intro j u h;rw [Nat.zero_add];exact h
theorem uy {T:TypeId} {d:TypeDesc} (e:prog.underlying T=some d) (hd:d.isRow=true) (hi:(prog.info? T).map (·.size)=some 256) (a b off n c:Nat) (l:Bs) (f:l.length=256):Reads prog (vS (Instr.loadAt T (.pointer (pO b off)))) [(a,.fa (BF (pO b off) n c l))] (.agg (l.map B8).toArray):=fun w _ hf=>by
 have hr:=hf 0 a _ rfl
 obtain ⟨ob,h1,h2⟩:=mo hr (by have:=hr.1;omega)
 have:=gI h1 (c7 off 0 (Fk l) ob h2) e hd (by rw [hi,List.length_map,f])
 rw [Nat.add_zero] at this
 exact ce this
theorem tU (d na nf N:Nat) (j:Vl) (m:Nat×SB) (k:Nat) (n:List Vl) (p:SlE 168 257 k n j m) (q:k<100000) (steps:Int) (now:List Bs) (r:now.length=N) (b:bP now) (i:Nat) (hi:i<N) (a g off c:Nat) (l:Bs) (f:l.length=256) :
 TT 187 #[bi d,i64 i,sO g off 256 c] [(a,.fa (BF (pO g off) 256 c l))] [(d,.cl (bQ na nf N j steps) bT),(na,.cl (bE now) 166),m]
  (fun y:Int×Option Addr×Nat×(Nat×SB)=>SlE 168 257 (k+1) (n++fJ i l) (.slice y.2.1 (k+1) y.2.2.1) y.2.2.2) (fun _=>.returned (i64 0)) (fun y=>[(d,.cl (bQ na nf N (.slice y.2.1 (k+1) y.2.2.1) y.1) bT),(na,.cl (bE (now.set i l)) 166),(m.1,.dead)]) (fun y=>[y.2.2.2]):=by
 have o:i<now.length:=by omega
 refine cJ func187 (by kernel_rfl) fun w ho=>bj [0,0]<|bv (vt d na nf N j steps i hi) [1] []<|bj [0,0]<|cE (qS d na nf N j steps) [] [1] fun s _=>bj [0,0,9999,4,1]<|tE (.agg (l.map B8).toArray) [0] [(a,.fa (BF (pO g off) 256 c l))] (uy (T:=166) underlying166 rfl (by kernel_rfl) a g off 256 c l f)<|tE (hY na (i*256)) [] [] (fun w h _=>ce (by have:=ie (P:=prog) (t:=120) (w:=w) underlying120 (k:=256) na 0 N N i .i64;rw [Nat.zero_add] at this;exact this))<|zE<|xE (gy (T:=166) na (i*256) (.agg (l.map B8).toArray) (l.map B8) (bE now) 166 (iX _) (by rw [List.length_map,f];kernel_rfl) (dB _) (by rw [List.length_map,f,eZ b];omega)) [] [2] fun _ _=>?_
 rw [sr b o f]
 refine bj [14,8,1]<|tE (.agg (l.map B8).toArray) [0] [(a,.fa (BF (pO g off) 256 c l))] (uy (T:=166) underlying166 rfl (by kernel_rfl) a g off 256 c l f)<|tE (.agg (fJ i l).toArray) [] [] (fun w h _=>ce (rz i l f w))<|zE<|xE (ld (t:=121) (e:=168) (k:=257) (z:=th) underlying121 (.agg (fJ i l).toArray) (fJ i l) (iX _) (by simp [fJ,f])) [] [] fun nb _=>zE<|xV (jP (t:=121) (e:=168) (ty:=121) (k:=257) (by_:=264) (z:=th) underlying121 (by kernel_rfl) (by kernel_rfl) (by kernel_rfl) (by omega) j m k n p nb 0 1 1 (fJ i l) (by simp [fJ,f]) (by intro u hu;rcases List.mem_cons.1 hu with rfl | hu;rfl;exact dB _ u hu) (by omega) (by simp only [maxLen];omega)) [4] [3] (Views.less (.cl (fJ i l) 168) bA Views.nil) (fun y hy=>?_) (fun _ hy=>oi hy)
 exact bj [1]<|rT (s,y) 9999 [5] rfl hy
theorem kz {now:List Bs} (h:bP now) (n:Nat) (l:Bs) (a:l.length=256):bP (now.set n l):=by
 intro x hx
 rcases List.mem_or_eq_of_mem_set hx with h1 | h1
 · exact h x h1
 · rw [h1,a]
section
variable (p d r g:Nat) (Af:Option Addr) (nf cf kn wt:Nat) (pu dr:Option Nat) (pi cm lst:Nat) (fl:Bool)
theorem FF (na nfm N:Nat) (l:Vl) (j:Nat×SB) (k:Nat) (z:List Vl) (B:SlE 168 257 k z l j) (o:k<100000) (steps:Int) (now firm:List Bs) (A:now.length=N) (C:firm.length=N) (e:bP now) (f256:bP firm) (I:8≤N)
 (m b c pp rc rg n kb q kc a M lb:Nat) (lsb:SB) (lv:Vl) (xs:List Vl) (key:Bs) (G:List ((Nat×Nat)×Vl)) (h:lk G (0,b)=some (sO kb q 32 kc)) (s:32=key.length) (t:SlE 502 9 M xs lv (lb,lsb)) (D:M≤1000000)
 (h0:0<c) (hc:c<4294967296) (E:pp<4294967296) (u:rc<18446744073709551616) (v:rg<65536) (F:b<65536) (H:n<4294967296) :
 TT 306 #[bi p,kX c pp rc rg 0 b n] [(r,.cl [.map (some m)] 182),(m,.pr (bB eW G)),(a,.fa (BF (pO kb q) 32 kc key))] [(p,.cl (bM d r g Af nf cf kn wt pu dr pi c lst true) 199),(g,.cl [lv] 128),(lb,lsb),(d,.cl (bQ na nfm N l steps) bT),(na,.cl (bE now) 166),(nfm,.cl (bE firm) 166),j]
  (fun x:(Int×Option Addr×Nat×Nat×SB)=>∃ ys,SlE 502 9 (M+1) ys (.slice x.2.1 (M+1) x.2.2.1) (x.2.2.2.1,x.2.2.2.2)) (fun _=>.returned (i64 0))
  (fun x=>[(p,.cl (bM d r g Af nf cf kn wt pu dr pi c lst true) 199),(g,.cl [.slice x.2.1 (M+1) x.2.2.1] 128),(lb,.dead),(d,.cl (bQ na nfm N (.slice none 0 0) x.1) bT),(na,.cl (bE (now.set (c%2) (bI key 0 4 0 (c%2) c b (bO c pp rc rg 0 b n)))) 166),(nfm,.cl (bE (now.set (c%2) (bI key 0 4 0 (c%2) c b (bO c pp rc rg 0 b n)))) 166),(j.1,.dead)]) (fun x=>[(x.2.2.2.1,x.2.2.2.2)]):=by
 have w:c%2<N:=by omega
 have i:(bI key 0 4 0 (c%2) c b (bO c pp rc rg 0 b n)).length=256:=fi _ _ _ _ _ _ _ _ (fd c pp rc rg 0 b n)
 have y:(now.set (c%2) (bI key 0 4 0 (c%2) c b (bO c pp rc rg 0 b n))).length=N:=by simp [A]
 have f:=kz e (c%2) _ i
 refine iE func306<|bu [9999] 1 fun nm=>bv (iJ p d r g Af nf cf kn wt pu dr pi c lst true) [3] []<|bj [0,0]<|bK [9999,0,3,2,3,10,3,2,0] (br (tF ((↑c:Int) != (↑c:Int))) (br (tF ((↑c:Int)==0)) bt))<|bj [9,0,3,3,10]<|cE (Gj r m g b c pp rc rg n kb q kc a M lb lsb lv xs key G h s t D h0 hc E u v F H) [0,1,2] [4,5] fun ⟨⟨x,x1⟩,x2,x3,x4,x5⟩ hx=>?_
 try dsimp only at hx
 refine bj [0,0]<|bj [9999,704,3,10]<|bv (tg c pp rc rg 0 b n hc) [] []<|bj [9999,9999,9999]<|vC 59 i64 (nI (c%2))<|cE (tU d na nfm N l j k z B o steps now A e (c%2) w x x 0 x1 (bI key 0 4 0 (c%2) c b (bO c pp rc rg 0 b n)) i) [11] [6,7,9] fun ⟨x6,x7,x8,x9,x10⟩ hx1=>?_
 try dsimp only at hx1
 exact bj [0,0,3]<|cE (nL d na nfm N (.slice x7 (k+1) x8) x6 (List.set now (c%2) (bI key 0 4 0 (c%2) c b (bO c pp rc rg 0 b n))) firm y C f f256) [7] [6,8] fun x11 _=>bv (jx p d r g Af nf cf kn wt pu dr pi c lst true) [] [3]<|zE<|rT ((x11,x2,x3,x4,x5)) 9999 [12]
end
structure Pg where
 t:Nat
 k:Nat
 l:Nat
 c:Nat
 g:Nat
 pl:Bs
structure Pg.Ok (q:Pg):Prop where
 t:q.t<4294967296
 k1:1≤q.k
 k3:q.k≤3
 l:q.l<256
 c:q.c<18446744073709551616
 g:q.g<65536
 pl:224=q.pl.length
abbrev tu (q:Pg) (n pb pc:Nat):Vl:=mA q.t q.k q.l n q.c q.g pb 224 pc
def HC (v:Vl):Nat×Nat:=
 match v with
 | .agg a=>match a.toList with
  | [_,_,_,_,_,_,.slice (some ad) _ c]=>(ad.block,c)
  | _=>(0,0)
 | _=>(0,0)
theorem uC (q:Pg) (n a b:Nat):HC (tu q n a b)=(a,b):=rfl
def bX (M:Nat→Option Pg) (n:Nat) (q:Pg):Nat→Option Pg:=fun m=>if m=n then some q else M m
def n9 (M:Nat→Option Pg) (n:Nat):Nat→Option Pg:=fun m=>if m=n then none else M m
structure KM (K:List (Nat×Vl)) (M:Nat→Option Pg):Prop where
 un:UN K
 no:∀ n,M n=none→lk K n=none
 yes:∀ n q,M n=some q→q.Ok∧∃ pb pc,lk K n=some (tu q n pb pc)
def PgsF (K:List (Nat×Vl)) (M:Nat→Option Pg):World→Prop:=fun w=>∀ n q pb pc,M n=some q→lk K n=some (tu q n pb pc)→BF (pA pb) 224 pc q.pl w
theorem KM.nil:KM [] fun _=>none:=⟨UN.nil,fun _ _=>rfl,fun n q h=>by cases h⟩
theorem PgsF.nil (w:World):PgsF [] (fun _=>none) w:=fun n q pb pc h=>by cases h
theorem KM.up {K:List (Nat×Vl)} {M:Nat→Option Pg} (h:KM K M) (n:Nat) (q:Pg) (c:q.Ok) (a b:Nat):KM (up K n (tu q n a b)) (bX M n q):=by
 refine ⟨h.un.up n _,fun m hm=>?_,fun m r hm=>?_⟩
 · unfold bX at hm
   rw [lr]
   by_cases e:m=n
   · simp [e] at hm
   · rw [if_neg e] at hm ⊢;exact h.no m hm
 · unfold bX at hm
   rw [lr]
   by_cases e:m=n
   · rw [if_pos e] at hm ⊢
     injection hm with hm
     subst hm;subst e
     exact ⟨c,a,b,rfl⟩
   · rw [if_neg e] at hm ⊢;exact h.yes m r hm
theorem PgsF.up {K:List (Nat×Vl)} {M:Nat→Option Pg} {w:World} (h:PgsF K M w) (n:Nat) (q:Pg) (a b:Nat) (hb:BF (pA a) 224 b q.pl w):PgsF (up K n (tu q n a b)) (bX M n q) w:=by
 intro m r pb' pc' hm hk
 unfold bX at hm
 rw [lr] at hk
 by_cases e:m=n
 · rw [if_pos e] at hm hk
   injection hm with hm
   subst hm
   have h1:=congrArg HC (Option.some.inj hk)
   rw [uC,uC] at h1
   injection h1 with h1 h2
   subst h1;subst h2
   exact hb
 · rw [if_neg e] at hm hk
   exact h m r pb' pc' hm hk
theorem KM.del {K:List (Nat×Vl)} {M:Nat→Option Pg} (h:KM K M) (n:Nat):KM (del K n) (n9 M n):=by
 refine ⟨h.un.del n,fun m hm=>?_,fun m r hm=>?_⟩
 · unfold n9 at hm
   rw [oN h.un]
   by_cases e:m=n
   · rw [if_pos e]
   · rw [if_neg e] at hm ⊢;exact h.no m hm
 · unfold n9 at hm
   rw [oN h.un]
   by_cases e:m=n
   · simp [e] at hm
   · rw [if_neg e] at hm ⊢;exact h.yes m r hm
theorem PgsF.del {K:List (Nat×Vl)} {M:Nat→Option Pg} {w:World} (a:UN K) (h:PgsF K M w) (n:Nat):PgsF (del K n) (n9 M n) w:=by
 intro m r pb pc hm hk
 unfold n9 at hm
 rw [oN a] at hk
 by_cases e:m=n
 · simp [e] at hm
 · rw [if_neg e] at hm hk;exact h m r pb pc hm hk
structure RG (G:List ((Nat×Nat)×Vl)) (Kf:Nat×Nat→Option Bs):Prop where
 un:UN G
 len:G.length≤1000
 no:∀ k,Kf k=none→lk G k=none
 yes:∀ k l,Kf k=some l→(l.length=16∨l.length=32)∧∃ kb ko kc,lk G k=some (sO kb ko l.length kc)
def dw (G:List ((Nat×Nat)×Vl)) (Kf:Nat×Nat→Option Bs):World→Prop:=fun w=>∀ k l kb ko kc,Kf k=some l→lk G k=some (sO kb ko l.length kc)→BF (pO kb ko) l.length kc l w
def n2 (Kf:Nat×Nat→Option Bs) (n:Nat) (q:Pg):Bs:=bI ((Kf (q.t,q.g)).getD []) q.t q.k q.l n q.c q.g q.pl
theorem BZ {Kf:Nat×Nat→Option Bs} {n:Nat} {q:Pg} (h:q.Ok):(n2 Kf n q).length=256:=fi _ _ _ _ _ _ _ _ h.pl.symm
theorem Tri.facP {P:Program} {f:FuncId} {args:Array Vl} {HR HW:HP} {X:Type} {φ:X→Prop} {e:X→Ending} {HW' HN:X→HP} {q:Prop} (b:∀ w,FA HR w→q) (h:q→Tri P f args HR HW φ e HW' HN):Tri P f args HR HW φ e HW' HN:=fun K w ho hk=>by
 refine h (b w (FA.iff.2 fun j a p hj=>(hk.fac j a p ?_).now)) K w ho hk
 rw [List.getElem?_append_left (cj hj)]
 exact hj
theorem sw {ff a:Nat} {R:bV} (h:RunsP ((ff,a)::R)):RunsP (bS ((ff,a)::R))∧(bS ((ff,a)::R)).length≤R.length+1∧∀ m,bR (bS ((ff,a)::R)) m↔bR ((ff,a)::R) m∧m≠ff:=by
 have d:=h.pos (ff,a) (by simp)
 have c:=h.gap
 rw [List.pairwise_cons] at c
 dsimp only at d
 have b:∀ m r,r∈R→r.1≤m→m≠ff:=fun m r hr hm e=>by
  have h1:=c.1 r hr
  dsimp only at h1
  omega
 rw [show bS ((ff,a)::R)=if ff+1<a then (ff+1,a)::R else R from rfl]
 split
 · rename_i h1
   refine ⟨⟨fun r hr=>?_,?_⟩,by simp,fun m=>?_⟩
   · rcases List.mem_cons.1 hr with rfl | hr
     · exact h1
     · exact h.pos r (by simp [hr])
   · rw [List.pairwise_cons];exact c
   · constructor
     · rintro ⟨r,hr,h2,h3⟩
       rcases List.mem_cons.1 hr with rfl | hr
       · dsimp only at h2 h3
         exact ⟨⟨(ff,a),by simp,by dsimp only;omega,h3⟩,by omega⟩
       · exact ⟨⟨r,by simp [hr],h2,h3⟩,b m r hr h2⟩
     · rintro ⟨⟨r,hr,h2,h3⟩,hne⟩
       rcases List.mem_cons.1 hr with rfl | hr
       · dsimp only at h2 h3
         exact ⟨(ff+1,a),by simp,by dsimp only;omega,h3⟩
       · exact ⟨r,by simp [hr],h2,h3⟩
 · rename_i h1
   refine ⟨⟨fun r hr=>h.pos r (by simp [hr]),c.2⟩,by simp,fun m=>?_⟩
   constructor
   · rintro ⟨r,hr,h2,h3⟩
     exact ⟨⟨r,by simp [hr],h2,h3⟩,b m r hr h2⟩
   · rintro ⟨⟨r,hr,h2,h3⟩,hne⟩
     rcases List.mem_cons.1 hr with rfl | hr
     · dsimp only at h2 h3;omega
     · exact ⟨r,hr,h2,h3⟩
section
variable (p d r g:Nat) (Af:Option Addr) (nf cf kn wt:Nat) (pu dr:Option Nat) (pi cm lst:Nat) (fl:Bool)
abbrev ij:Type:=(Nat×Nat)×List (Nat×Vl)
theorem HX (m t k l b a v y z f I ff c o:Nat) (pl:Bs) (i:224=pl.length) (R:bV) (A:RunsP ((ff,c)::R)) (B:ff+1<c∨0<R.length) (Q:nf≤50000) (C:ff<4294967295) (G:List ((Nat×Nat)×Vl)) (D:G.length≤1000) (E:cg t (G.map (·.1))=[b])
 (K:List (Nat×Vl)) (M:Nat→Option Pg) (s:KM K M) (S:List Nat) (J:ff∉S) (j:1≤k) (n:k≤3) (hc:0<cm) (L:t<4294967296) (N:l<256) (hcm:cm<18446744073709551616) (F:b<65536) :
 TT 457 #[bi p,.int .u32 t,.int .u8 k,.int .u8 l,sO v y 224 z] [(r,.cl [.map (some m)] 182),(m,.pr (bB eW G)),(a,.fa (bN Af nf cf ((ff,c)::R))),(f,.fa (BF (pO v y) 224 z pl)),(I,.fa (PgsF K M))] [(p,.cl (bM d r g Af nf cf kn wt (some o) dr pi cm lst false) 199),(kn,.pr (MU K)),(o,.pr (MU (bF S)))]
  (fun x:ij=>KM x.2 (bX M ff ⟨t,k,l,cm,b,pl⟩)) (fun x=>.returned (.tuple #[.agg #[.int .u32 ff,.int .u64 cm,.int .u16 b],i64 0]))
  (fun x=>[(p,.cl (bM d r g (pA x.1.1) (bS ((ff,c)::R)).length x.1.2 kn wt (some o) dr pi cm lst false) 199),(kn,.pr (MU x.2)),(o,.pr (MU (bF (S++[ff]))))])
  (fun x=>[(0,.fa (bN (pA x.1.1) (bS ((ff,c)::R)).length x.1.2 (bS ((ff,c)::R)))),(0,.fa (PgsF x.2 (bX M ff ⟨t,k,l,cm,b,pl⟩)))]):=by
 refine Tri.facP (q:=nf=R.length+1∧∃ fb fo,Af=some ⟨fb,fo,none⟩) (fun w h=>?_) ?_
 · have h1:bN Af nf cf ((ff,c)::R) w:=h.1
   have h2:nf=R.length+1:=(iv w h1).1
   exact ⟨h2,mY (by omega) w h1⟩
 rintro ⟨hnf,fb,fo,rfl⟩
 have O:=A.pos (ff,c) (by simp)
 dsimp only at O
 have u:Pg.Ok ⟨t,k,l,cm,b,pl⟩:=⟨L,j,n,N,hcm,F,i⟩
 have e:∀ (pb pc:Nat) (w:World),PgsF K M w→BF (pA pb) 224 pc pl w→PgsF (up K ff (mA t k l ff cm b pb 224 pc)) (bX M ff ⟨t,k,l,cm,b,pl⟩) w:=fun pb pc w h1 h2=>h1.up ff ⟨t,k,l,cm,b,pl⟩ pb pc h2
 rw [← nH J]
 by_cases h1:ff+1<c
 · have H:bS ((ff,c)::R)=(ff+1,c)::R:=if_pos h1
   rw [H]
   cases R with
   | cons r0 R=>
    have e2:((ff+1,c)::r0::R).length=nf:=by rw [hnf];rfl
    rw [e2]
    refine Tri.fw (FZ p d r g (pO fb fo) nf cf kn wt dr pi cm lst m t k l b c ff a v y z f 0 pl i (r0::R) G D E A.ok (by omega) h1 (by simp) C fb fo rfl K (bF S) o j n hc) rfl (fun w h=>⟨h.1,h.2.1,trivial⟩) fun x _=>⟨((x.1,x.2.1),up K ff (mA t k l ff cm b x.2.2.1 224 x.2.2.2)),s.up ff ⟨t,k,l,cm,b,pl⟩ u _ _,rfl,rfl,rfl,fun w h1 h2=>⟨h2.1,e _ _ w h1.2.2.1 h2.2.1,trivial⟩⟩
   | nil=>
    have e2:nf=1:=by rw [hnf];rfl
    subst e2
    refine Tri.fw (Gd p d r g cf kn wt dr pi cm lst m t k l b c ff a v y z f 0 pl i G D E A.ok h1 C fb fo K (bF S) o j n hc) rfl (fun w h=>⟨h.1,h.2.1,trivial⟩) fun x _=>⟨((x.1,x.2.1),up K ff (mA t k l ff cm b x.2.2.1 224 x.2.2.2)),s.up ff ⟨t,k,l,cm,b,pl⟩ u _ _,rfl,rfl,rfl,fun w h1 h2=>⟨h2.1,e _ _ w h1.2.2.1 h2.2.1,trivial⟩⟩
 · have H:bS ((ff,c)::R)=R:=if_neg h1
   have P:c=ff+1:=by omega
   subst P
   rw [H]
   have e2:R.length=nf-1:=by omega
   rw [e2]
   refine Tri.fw (FI p d r g nf cf kn wt dr pi cm lst m t k l b ff a v y z f 0 pl i R G D E A.ok (by omega) (by omega) C fb fo K (bF S) o j n hc) rfl (fun w h=>⟨h.1,h.2.1,trivial⟩) fun x _=>⟨((x.1,x.2.1),up K ff (mA t k l ff cm b x.2.2.1 224 x.2.2.2)),s.up ff ⟨t,k,l,cm,b,pl⟩ u _ _,rfl,rfl,rfl,fun w h1 h2=>⟨h2.1,e _ _ w h1.2.2.1 h2.2.1,trivial⟩⟩
end
abbrev pT (n c g:Nat):Vl:=.agg #[.int .u32 (n:Int),.int .u64 (c:Int),.int .u16 (g:Int)]
def qM (pin:Nat→Nat) (n:Nat):Nat→Nat:=fun m=>if m=n then pin n-1 else pin m
section
variable (p d r g:Nat) (Af:Option Addr) (nf cf kn wt:Nat) (pu dr:Option Nat) (pi cm lst:Nat) (fl:Bool)
theorem q9 (na nfm N:Nat) (i:Vl) (steps:Int) (n c j a e b:Nat) (L:bV) (l:RunsP L) (m:nf≤50000) (f:¬ bR L n) (W U D:List Nat) (k:n∉W) (o:n∉U) (q:n∉D) (h2:2≤n) (s:n<N) (h:n<4294967296) (hc:0<cm) :
 TT 455 #[bi p,pT n c j] [(p,.cl (bM d r g Af nf cf kn wt (some e) (some b) pi cm lst false) 199),(d,.cl (bQ na nfm N i steps) bT),(a,.fa (bN Af nf cf L)),(e,.pr (MU (bF U)))] [(wt,.pr (MU (bF W))),(b,.pr (MU (bF D)))] uT (fun _=>.returned (i64 0)) (fun _=>[(wt,.pr (MU (bF (W++[n])))),(b,.pr (MU (bF (D++[n]))))]) (fun _=>[]):=by
 rw [← nH k,← nH q]
 exact Hr p d r g Af nf cf kn wt pi cm lst na nfm N i steps n c j a e b L l m f (bF W) (bF U) (bF D) (nz k) (nz o) h2 s h hc
theorem BR (na nfm N:Nat) (b:Vl) (steps:Int) (n c e:Nat) (I:List (Nat×Vl)) (pin:Nat→Nat) (f:PinI I pin) (i:pin n<1000000) (h0:0<pin n) (h2:2≤n) (j:n<N) (a:n<4294967296) :
 TT 200 #[bi p,pT n c e] [(p,.cl (bM d r g Af nf cf kn wt pu dr pi cm lst fl) 199),(d,.cl (bQ na nfm N b steps) bT)] [(pi,.pr (MU I))] (fun x:List (Nat×Vl)=>PinI x (qM pin n)) (fun _=>.returned (i64 0)) (fun x=>[(pi,.pr (MU x))]) (fun _=>[]):=by
 rcases f n with ⟨h1,h3⟩ | h1
 · omega
 · exact Tri.fw (DM p d r g Af nf cf kn wt pu dr pi cm lst fl na nfm N b steps n c e (pin n) i h0 I h1 h2 j a) rfl (fun w h=>h) fun x _=>⟨_,f.up n (pin n-1),rfl,rfl,rfl,fun w _ h=>h⟩
end
def j4 (M:Nat→Option Pg) (n:Nat):Pg:=(M n).getD ⟨0,0,0,0,0,[]⟩
def dJ (Kf:Nat×Nat→Option Bs) (M:Nat→Option Pg) (now:List Bs) (L:List Nat):List Bs:=L.foldl (fun a n=>a.set n (n2 Kf n (j4 M n))) now
theorem yz (Kf:Nat×Nat→Option Bs) (M:Nat→Option Pg) (now:List Bs) (L:List Nat) (n:Nat):dJ Kf M now (L++[n])=(dJ Kf M now L).set n (n2 Kf n (j4 M n)):=by simp [dJ]
theorem jJ (Kf:Nat×Nat→Option Bs) (M:Nat→Option Pg) (now:List Bs) (L:List Nat):(dJ Kf M now L).length=now.length:=by
 induction L generalizing now with
 | nil=>rfl
 | cons n L ih=>exact (ih _).trans (by simp)
theorem nK (Kf:Nat×Nat→Option Bs) (M:Nat→Option Pg) (now:List Bs) (L:List Nat) (h:bP now) (a:∀ n∈L,∃ q,M n=some q∧q.Ok):bP (dJ Kf M now L):=by
 induction L generalizing now with
 | nil=>exact h
 | cons n L ih=>
  refine ih _ (kz h n _ ?_) fun m hm=>a m (by simp [hm])
  obtain ⟨q,h1,h2⟩:=a n (by simp)
  unfold j4
  rw [h1]
  exact BZ h2
theorem take_snoc {L:List Nat} {j:Nat} (h:j<L.length):L.take (j+1)=L.take j++[L.getD j 0]:=by
 rw [List.take_add_one,List.getElem?_eq_getElem h,List.getD_eq_getElem?_getD,List.getElem?_eq_getElem h]
 rfl
section
variable (p d r g:Nat) (Af:Option Addr) (nf cf kn wt:Nat) (pu dr:Option Nat) (pi cm lst:Nat) (fl:Bool)
abbrev Jm:Type:=Int×Vl×Nat×SB
theorem CM (na nfm N:Nat) (steps:Int) (now firm:List Bs) (B:now.length=N) (W:firm.length=N) (b:bP now) (f256:bP firm) (Z:N≤4096)
 (m a C D Mg lb:Nat) (lsb:SB) (lv:Vl) (xs:List Vl) (o:SlE 502 9 Mg xs lv (lb,lsb)) (aa:Mg≤900000) (G:List ((Nat×Nat)×Vl)) (Kf:Nat×Nat→Option Bs) (E:RG G Kf)
 (K:List (Nat×Vl)) (M:Nat→Option Pg) (s:KM K M) (S:List Nat) (F:S.length≤12) (Y:∀ n∈S,2≤n∧n<N∧∃ q,M n=some q∧∃ l,Kf (q.t,q.g)=some l) (hc:0<cm) :
 TT 304 #[bi p] [(r,.cl [.map (some m)] 182),(m,.pr (bB eW G)),(C,.fa (dw G Kf)),(kn,.pr (MU K)),(D,.fa (PgsF K M)),(a,.pr (MU (bF S)))] [(p,.cl (bM d r g Af nf cf kn wt (some a) dr pi cm lst false) 199),(g,.cl [lv] 128),(lb,lsb),(d,.cl (bQ na nfm N (.slice none 0 0) steps) bT),(na,.cl (bE now) 166),(nfm,.cl (bE firm) 166)]
  (fun x:List Nat×Jm=>x.1.Perm S∧(∀ i j,i<j→j<x.1.length→x.1.getD i 0≤x.1.getD j 0)∧∃ ys,SlE 502 9 (Mg+S.length) ys x.2.2.1 (x.2.2.2.1,x.2.2.2.2)) (fun _=>.returned (i64 0))
  (fun x=>[(p,.cl (bM d r g Af nf cf kn wt (some a) dr pi cm lst true) 199),(g,.cl [x.2.2.1] 128),(lb,.dead),(d,.cl (bQ na nfm N (.slice none 0 0) x.2.1) bT),(na,.cl (bE (dJ Kf M now x.1)) 166),(nfm,.cl (bE (dJ Kf M now x.1)) 166)]) (fun x=>[(x.2.2.2.1,x.2.2.2.2)]):=by
 have v:(bF S).length≤12:=by rw [tj];exact F
 refine iE func304<|zE<|bv (iJ p d r g Af nf cf kn wt (some a) dr pi cm lst false) [6] []<|bj [0,0]<|bv (pC p d r g Af nf cf kn wt (some a) dr pi cm lst hc) [6] []<|bj [0,6]<|cE (ui a (bF S) v) [5] [] fun ⟨x,x1,x2,x3⟩ ⟨hx,hx1,hx2⟩=>?_
 try dsimp only at hx hx1 hx2
 rw [nk] at hx
 rcases hx2 with ⟨rfl,h0,h1,rfl⟩ | ⟨cap,rfl,rfl⟩
 · obtain rfl:x=[]:=List.eq_nil_of_length_eq_zero h0
   have H:S=[]:=hx.nil_eq.symm
   subst H
   have z:([]:List Nat).Perm []∧(∀ i j:Nat,i<j→j<([]:List Nat).length→([]:List Nat).getD i 0≤([]:List Nat).getD j 0)∧∃ ys,SlE 502 9 (Mg+([]:List Nat).length) ys lv (lb,lsb):=⟨List.Perm.nil,fun i j h1 h2=>(by simp at h2),xs,o⟩
   exact EC 8 lb lsb (by kernel_rfl)<|bj [1,0,0,6,6]<|cE (nL d na nfm N (.slice none 0 0) steps now firm B W b f256) [10] [9,11] fun x _=>bv (jx p d r g Af nf cf kn wt (some a) dr pi cm lst true) [] [6]<|zE<|qE 10 na (.cl (bE now) 166) (.cl (bE (dJ Kf M now [])) 166) (by rfl)<|qE 11 nfm (.cl (bE now) 166) (.cl (bE (dJ Kf M now [])) 166) (by rfl)<|rT (([],x,lv,lb,lsb)) 9999 [13]
 · refine zE<|EC 8 lb lsb (by kernel_rfl)<|lV<|cY (X:=Nat×Int×(Vl×Nat×SB)×Vl×Nat×SB) (fun y=>y.1≤x.length∧(∃ ys,SlE 502 9 (Mg+y.1) ys y.2.2.1.1 (y.2.2.1.2.1,y.2.2.1.2.2))∧∃ ws,SlE 168 257 y.1 ws y.2.2.2.1 (y.2.2.2.2.1,y.2.2.2.2.2)) (fun y=>x.length-y.1) 97 (fun y=>[(0,bi p),(23,sA x2 x.length cap),(24,i64 x.length),(25,i64 y.1)])
    (fun y=>[(r,.cl [.map (some m)] 182),(m,.pr (bB eW G)),(C,.fa (dw G Kf)),(kn,.pr (bB (eK .u32) K)),(D,.fa (PgsF K M)),(a,.pr (bB (eK .u32) (bF S))),(p,.cl (bM d r g Af nf cf kn wt (some a) dr pi cm lst false) 199),(g,.cl [y.2.2.1.1] 128),(lb,.dead),(d,.cl (bQ na nfm N y.2.2.2.1 y.2.1) bT),(na,.cl (bE (dJ Kf M now (x.take y.1))) 166),(nfm,.cl (bE firm) 166),(x2,.pr (bn 37 1 x.length cap (x.map cr))),(y.2.2.1.2.1,y.2.2.1.2.2),(y.2.2.2.2.1,y.2.2.2.2.2)])
    (0,steps,(lv,lb,lsb),.slice none 0 0,0,.dead) (by kernel_rfl) ⟨Nat.zero_le _,⟨xs,o⟩,⟨[],SlE.nil 168 257⟩⟩ fun ⟨j,steps',⟨lv',lb',lsb'⟩,wv,wb,wsb⟩ u J hpre back=>?_
   have hj:j≤x.length:=hpre.1
   obtain ⟨ys,hlg'⟩:∃ ys,SlE 502 9 (Mg+j) ys lv' (lb',lsb'):=hpre.2.1
   obtain ⟨ws,hws⟩:∃ ws,SlE 168 257 j ws wv (wb,wsb):=hpre.2.2
   clear hpre
   have I:x.length=S.length:=hx.length_eq
   have A:∀ L':List Nat,(∀ n∈L',n∈x)→bP (dJ Kf M now L'):=fun L' hL'=>nK Kf M now L' b fun n hn=>by
    obtain ⟨_,_,q,h1,_⟩:=Y n (hx.mem_iff.1 (hL' n hn))
    exact ⟨q,h1,(s.yes n q h1).1⟩
   have L:(dJ Kf M now (x.take j)).length=N:=by rw [jJ,B]
   have f:bP (dJ Kf M now (x.take j)):=A _ fun n hn=>List.mem_of_mem_take hn
   rcases Nat.lt_or_ge j x.length with hjl | hjl
   · obtain ⟨n,hn⟩:∃ n,n=x.getD j 0:=⟨_,rfl⟩
     have O:n∈x:=by rw [hn,List.getD_eq_getElem?_getD,List.getElem?_eq_getElem hjl];exact List.getElem_mem hjl
     have P:(x.map cr)[j]?=some (cr n):=by rw [List.getElem?_map,List.getElem?_eq_getElem hjl,hn,List.getD_eq_getElem?_getD,List.getElem?_eq_getElem hjl];rfl
     obtain ⟨h2,hnN,q,hMq,l,hKf⟩:=Y n (hx.mem_iff.1 O)
     obtain ⟨hq,pb,pc,hKn⟩:=s.yes n q hMq
     obtain ⟨ht,hk1,hk3,hl,hc',hg,hpl⟩:=hq
     obtain ⟨hkl,kb,ko,kc,hGk⟩:=E.yes (q.t,q.g) l hKf
     have Q:n2 Kf n (j4 M n)=bI l q.t q.k q.l n q.c q.g q.pl:=by simp [n2,j4,hMq,hKf]
     have R:(bI l q.t q.k q.l n q.c q.g q.pl).length=256:=fi _ _ _ _ _ _ _ _ hpl.symm
     refine fq [2] [dw G Kf] (BF (pO kb ko) l.length kc l) (fun w hw=>hw 0 _ rfl (q.t,q.g) l kb ko kc hKf hGk)<|fq [4] [PgsF K M] (BF (pA pb) 224 pc q.pl) (fun w hw=>hw 0 _ rfl n q pb pc hMq hKn)<|bK [1,0] (br (dT ((↑j:Int)<(↑x.length:Int))) bt)<|rE (bL (t:=45) (e:=37) (k:=1) underlying45 .i64 x2 0 x.length cap j hjl) []<|mK (g7 (T:=37) x2 0 j (List.map cr x) (cr n) P) [12] (Views.less (.pr (bn 37 1 x.length cap (List.map cr x))) ci Views.nil)<|bj [6]<|rE (eI (kt:=37) (et:=474) (T:=195) (κ:=.u32) underlying195 underlying37 kn K n (tu q n pb pc) hKn) [3]<|bu [17] 1 fun nm=>bj [9999,0,6,17,17]<|cE (mn r m (Pg.t q) (Pg.g q) kb ko l.length kc 0 l G hGk (by with_reducible rfl)) [0,1,15] [] fun ⟨x1,x3⟩ _=>bj [0,0] ?_
     refine bj [9,0,6,17,17]<|fP 18 x1 (BF (pA x1) l.length x3 l) db fun ⟨fl,fc,fm⟩=>cE (xk g x1 0 l.length x3 pb 0 pc x1 0 (Pg.t q) (Pg.k q) (Pg.l q) n (Pg.c q) (Pg.g q) (Mg+j) lb' lsb' lv' ys l (Pg.pl q) hlg' (by omega) hkl (by with_reducible rfl) fc hpl ht hk1 (by omega) hl (by omega) hc' hg) [18,16] [7,13] fun ⟨⟨x4,x5⟩,x6,x7,x8,x9⟩ hx2=>?_
     try dsimp only at hx2
     refine bj [0,0,6,9999]<|vC 78 i64 (nI n)<|cE (tU d na nfm N wv ((wb,wsb)) j ws hws (by omega) steps' (dJ Kf M now (List.take j x)) L f n hnN x4 x4 0 x5 (bI l (Pg.t q) (Pg.k q) (Pg.l q) n (Pg.c q) (Pg.g q) (Pg.pl q)) R) [19] [9,10,14] fun ⟨x10,x11,x12,x13,x14⟩ hx3=>?_
     try dsimp only at hx3
     refine bj [0,0]<|qE 10 na (.cl (bE (List.set (dJ Kf M now (List.take j x)) n (bI l (Pg.t q) (Pg.k q) (Pg.l q) n (Pg.c q) (Pg.g q) (Pg.pl q)))) 166) (.cl (bE (dJ Kf M now (List.take (j+1) x))) 166) (by rw [take_snoc hjl,yz,← hn,Q];try rfl) ?_
     have U:j+1≤x.length∧(∃ ys,SlE 502 9 (Mg+(j+1)) ys (.slice x6 (Mg+j+1) x7) (x8,x9))∧∃ ws,SlE 168 257 (j+1) ws (.slice x11 (j+1) x12) (x13,x14):=⟨hjl,hx2,_,hx3⟩
     exact vC 25 i64 (wI ((↑j:Int)+1) (j+1))<|wE [0,1,2,3,4,5,6,7,8,9,10,11,12,20,21] 6 [(r,.cl [.map (some m)] 182),(m,.pr (bB eW G)),(C,.fa (dw G Kf)),(kn,.pr (MU K)),(D,.fa (PgsF K M)),(a,.pr (MU (bF S))),(p,.cl (bM d r g Af nf cf kn wt (some a) dr pi cm lst false) 199),(g,.cl [.slice x6 (Mg+j+1) x7] 128),(lb,.dead),(d,.cl (bQ na nfm N (.slice x11 (j+1) x12) x10) 123),(na,.cl (bE (dJ Kf M now (List.take (j+1) x))) 166),(nfm,.cl (bE firm) 166),(x2,.pr (bn 37 1 x.length cap (List.map cr x))),(x8,x9),(x13,x14)]<|back _ (j+1,x10,(.slice x6 (Mg+j+1) x7,x8,x9),.slice x11 (j+1) x12,x13,x14) (by omega) (by omega) (by kernel_rfl)
   · obtain rfl:j=x.length:=by omega
     rw [I] at hlg'
     have z:x.Perm S∧(∀ i j,i<j→j<x.length→x.getD i 0≤x.getD j 0)∧∃ ys,SlE 502 9 (Mg+S.length) ys lv' (lb',lsb'):=⟨hx,hx1,ys,hlg'⟩
     have V:(dJ Kf M now x).length=N:=by rw [jJ,B]
     have h:bP (dJ Kf M now x):=A _ fun n hn=>hn
     exact qE 10 na (.cl (bE (dJ Kf M now (List.take x.length x))) 166) (.cl (bE (dJ Kf M now x)) 166) (by rw [List.take_length];try rfl)<|bK [2,0,6,6] (br (dF ((↑x.length:Int)<(↑x.length:Int))) bt)<|cE (nL d na nfm N wv steps' (dJ Kf M now x) firm V W h f256) [10] [9,11] fun x1 _=>bv (jx p d r g Af nf cf kn wt (some a) dr pi cm lst true) [] [6]<|zE<|rT ((x,x1,lv',lb',lsb')) 9999 [13] rfl (by assumption)
end
end Go.Proofs.YtlkeemedalncoaaGreat.En
