/- TopHandles, part 16: no condition. -/
import Derived.Laws.IdiomStrings
import Derived.Test.YtlkeemedalncoaaGreatP15
set_option linter.all false
set_option maxHeartbeats 16000000
set_option maxRecDepth 100000
namespace Go.Proofs.YtlkeemedalncoaaGreat.En
open Go Go.RowKit Go.Proofs.YtlkeemedalncoaaGreat Go.Proofs.Tryz
theorem nE:∀ l:Bs,Lib.compareBytes l l=0
 | []=>rfl
 | a::l=>by
  unfold Lib.compareBytes
  simp [nE l]
abbrev eX (kb ko kn kc:Nat) (v:Vl) (dr:Bool):Vl:=.agg #[sO kb ko kn kc,v,.bool dr]
abbrev cB (b o n c:Nat):Vl:=sO b o n c
abbrev Jo:Type:=(Nat×Nat×Nat)×(Nat×Nat)×(Nat×Nat)
section
variable (p d r g:Nat) (Af:Option Addr) (nf cf kn wt:Nat) (pi cm lst:Nat)
theorem yd (na nfm N:Nat) (o:Vl) (steps:Int) (t n c i a A j k l q s u v B m f:Nat) (key val new:Bs) (K:List (Nat×Vl)) (M:Nat→Option Pg) (w:KM K M) (F:M n=some ⟨t,1,0,c,i,bw key val⟩)
 (k1:1≤key.length) (y:key.length≤32) (G:1≤val.length) (H:val.length≤64) (w0:1≤new.length) (C:new.length≤64)
 (L:bV) (I:RunsP L) (J:nf≤50000) (z:¬ bR L n) (W U D:List Nat) (O:n∉W) (P:n∉U) (Q:n∉D) (h2:2≤n) (E:n<N) (h:n<4294967296) (hc:0<cm) :
 TT 320 #[gV p t,cu n c i,eX j k key.length l (cB s u new.length v) false]
  [(p,.cl (bM d r g Af nf cf kn wt (some m) (some f) pi cm lst false) 199),(d,.cl (bQ na nfm N o steps) bT),(kn,.pr (MU K)),(a,.fa (PgsF K M)),(A,.fa (bN Af nf cf L)),(m,.pr (MU (bF U))),(q,.fa (BF (pO j k) key.length l key)),(B,.fa (BF (pO s u) new.length v new))]
  [(wt,.pr (MU (bF W))),(f,.pr (MU (bF D)))] (fun _:Jo=>True) (fun x=>.returned (.tuple #[ck x.1.1 1 1,i64 0]))
  (fun _=>[(wt,.pr (MU (bF (W++[n])))),(f,.pr (MU (bF (D++[n]))))])
  (fun x=>[(x.1.1,.cl (ye x.1.2.1 x.1.2.2) 493),(x.1.2.1,.fa (CF x.1.2.1 0 (cq x.2.1.1 key.length x.2.1.2 x.2.2.1 new.length x.2.2.2))),(x.2.1.1,.fa (BF (pA x.2.1.1) key.length x.2.1.2 key)),(x.2.2.1,.fa (BF (pA x.2.2.1) new.length x.2.2.2 new))]):=by
 have b:=nE key
 refine cJ func320 (by kernel_rfl) fun w0 ho=>bu [9999,9999,9999,10,11] 3 fun nm=>cE (mF p d r g Af nf cf kn wt (some m) (some f) pi cm lst false na nfm N o steps t n c i a key val K M w F h2 E h k1 y G H) [0,1,2,3] [] fun ⟨⟨x,x1⟩,⟨x2,x3⟩,x4,x5⟩ _=>fE 13 x (bn 265 9 1 x1 (cq x2 key.length x3 x4 val.length x5)) bx fun hc1=>bu [16,0,0,10,11] 1 fun nm1=>bv (q9 p d r g Af nf cf kn wt pi cm lst na nfm N o steps n c i A m f L I J z W U D O P Q h2 E h hc) [0,1,4,5] [8,9]<|bj [0,0,11,0,0,16,12]<|bv (pQ x x1 x2 key.length x3 x4 val.length x5 x2 q j k l key key b) [13,14,6] []<|bj [0]<|bj [9999,0,10,16,9999]<|tE (.agg (List.toArray (List.take 9 (List.drop 0 (cq x2 key.length x3 x4 val.length x5))))) [13] [(x,.pr (bn 265 9 1 x1 (cq x2 key.length x3 x4 val.length x5)))] (er (T:=265) underlying265 (e:=265) x 0 9 1 x1 9 (cq x2 key.length x3 x4 val.length x5) (by (simp;done))) ?_
 refine zE<|bv (rC p t x2 key.length x3 x4 val.length x5) [] []<|bj [0,0,16]<|bv (sZ x x1 (cq x2 key.length x3 x4 val.length x5) rfl) [] [13]<|bj [16,12,0,10,12,12]<|cE (uP p t j k key.length l s u new.length v q B key new (by with_reducible rfl) (by with_reducible rfl) k1 y (by with_reducible assumption) C) [6,7] [] fun ⟨⟨x6,x7⟩,x8,x9⟩ _=>bu [19,0,0,16,19,9999] 2 fun nm2=>cE (yC x x1 (nm2 1) x6 key.length x7 x8 new.length x9) [20] [13] fun ⟨x10,x11⟩ _=>fE 21 x10 (bn 265 9 1 x11 (cq x6 key.length x7 x8 new.length x9)) bx fun hc2=>bj [16,16]<|ip 21 x10 (.pr (bn 265 9 1 x11 (cq x6 key.length x7 x8 new.length x9))) (CF x10 0 (cq x6 key.length x7 x8 new.length x9)) xu ?_
 exact cE (zI x10 x11 x6 key.length x7 x8 new.length x9 x10 x6 x8 key new (by with_reducible rfl) (by with_reducible rfl) k1 y (by with_reducible assumption) C) [21,17,18] [] fun x12 _=>zE<|rT (((x12,x10,x11),(x6,x7),x8,x9)) 9999 [22,21,17,18]
theorem zQ (na nfm N:Nat) (k:Vl) (steps:Int) (t n c i a u l m o v j f:Nat) (key val:Bs) (K:List (Nat×Vl)) (M:Nat→Option Pg) (q:KM K M) (y:M n=some ⟨t,1,0,c,i,bw key val⟩)
 (k1:1≤key.length) (z:key.length≤32) (A:1≤val.length) (B:val.length≤64)
 (L:bV) (C:RunsP L) (E:nf≤50000) (s:¬ bR L n) (W U D:List Nat) (F:n∉W) (G:n∉U) (H:n∉D) (h2:2≤n) (w:n<N) (h:n<4294967296) (hc:0<cm) :
 TT 320 #[gV p t,cu n c i,eX l m key.length o bp true]
  [(p,.cl (bM d r g Af nf cf kn wt (some j) (some f) pi cm lst false) 199),(d,.cl (bQ na nfm N k steps) bT),(kn,.pr (MU K)),(a,.fa (PgsF K M)),(u,.fa (bN Af nf cf L)),(j,.pr (MU (bF U))),(v,.fa (BF (pO l m) key.length o key))]
  [(wt,.pr (MU (bF W))),(f,.pr (MU (bF D)))] uT (fun x=>.returned (.tuple #[bp,i64 0]))
  (fun _=>[(wt,.pr (MU (bF (W++[n])))),(f,.pr (MU (bF (D++[n]))))]) (fun _=>[]):=by
 have b:=nE key
 refine iE func320<|bu [9999,9999,9999,9,10] 3 fun nm=>cE (mF p d r g Af nf cf kn wt (some j) (some f) pi cm lst false na nfm N k steps t n c i a key val K M q y h2 w h k1 z A B) [0,1,2,3] [] fun ⟨⟨x,x1⟩,⟨x2,x3⟩,x4,x5⟩ _=>fE 12 x (bn 265 9 1 x1 (cq x2 key.length x3 x4 val.length x5)) bx fun hc1=>bu [15,0,0,9,10] 1 fun nm1=>bv (q9 p d r g Af nf cf kn wt pi cm lst na nfm N k steps n c i u j f L C E s W U D F G H h2 w h hc) [0,1,4,5] [7,8]<|bj [0,0,10,0,0,15,11]<|bv (pQ x x1 x2 key.length x3 x4 val.length x5 x2 v l m o key key b) [12,13,6] []<|bj [0]<|bj [9999,0,9,15,9999]<|tE (.agg (List.toArray (List.take 9 (List.drop 0 (cq x2 key.length x3 x4 val.length x5))))) [12] [(x,.pr (bn 265 9 1 x1 (cq x2 key.length x3 x4 val.length x5)))] (er (T:=265) underlying265 (e:=265) x 0 9 1 x1 9 (cq x2 key.length x3 x4 val.length x5) (by (simp;done))) ?_
 exact zE<|bv (rC p t x2 key.length x3 x4 val.length x5) [] []<|bj [0,0,15]<|bv (sZ x x1 (cq x2 key.length x3 x4 val.length x5) rfl) [] [12]<|bj [15,11,0,15]<|bv (yA x x1) [] []<|zE<|rT ()
end
section
variable (p d r g:Nat) (Af:Option Addr) (nf cf kn wt:Nat) (pi cm lst:Nat)
theorem uX (dr:Option Nat) (m t e a h k kb kc vb vc l n o q ff b f:Nat) (key val:Bs) (k1:1≤key.length) (s:key.length≤32) (v:1≤val.length) (u:val.length≤64) (R:bV) (w:RunsP ((ff,b)::R)) (c:ff+1<b∨0<R.length) (y:nf≤50000) (z:ff<4294967295) (G:List ((Nat×Nat)×Vl)) (A:G.length≤1000) (B:cg t (G.map (·.1))=[e])
 (K:List (Nat×Vl)) (M:Nat→Option Pg) (i:KM K M) (S:List Nat) (C:ff∉S) (hc:0<cm) (D:t<4294967296) (hcm:cm<18446744073709551616) (j:e<65536) :
 TT 311 #[gV p t,jj h k] [(r,.cl [.map (some m)] 182),(m,.pr (bB eW G)),(a,.fa (bN Af nf cf ((ff,b)::R))),(l,.fa (CF h 0 (cq kb key.length kc vb val.length vc))),(n,.fa (BF (pA kb) key.length kc key)),(o,.fa (BF (pA vb) val.length vc val)),(q,.fa (PgsF K M))] [(p,.cl (bM d r g Af nf cf kn wt (some f) dr pi cm lst false) 199),(kn,.pr (MU K)),(f,.pr (MU (bF S)))]
  (fun x:ij=>KM x.2 (bX M ff ⟨t,1,0,cm,e,bw key val⟩)) (fun x=>.returned (.tuple #[cu ff cm e,i64 0]))
  (fun x=>[(p,.cl (bM d r g (pA x.1.1) (bS ((ff,b)::R)).length x.1.2 kn wt (some f) dr pi cm lst false) 199),(kn,.pr (MU x.2)),(f,.pr (MU (bF (S++[ff]))))])
  (fun x=>[(0,.fa (bN (pA x.1.1) (bS ((ff,b)::R)).length x.1.2 (bS ((ff,b)::R)))),(0,.fa (PgsF x.2 (bX M ff ⟨t,1,0,cm,e,bw key val⟩)))]):=by
 have E:=ge key val s u
 refine iE func311<|bu [9999,9999,11] 3 fun nm=>cE (xd h k kb key.length kc vb val.length vc l n o key val (by with_reducible rfl) (by with_reducible rfl) k1 s v u) [3,4,5] [] fun ⟨x,x1⟩ _=>bj [0,0,10,10,11,11]<|cE (HX p d r g Af nf cf kn wt dr pi cm lst m t 1 0 e a x 0 x1 x q ff b f (bw key val) E R w c y z G A B K M i S C (by omega) (by omega) hc D (by omega) hcm j) [0,1,2,13,6] [7,8,9] fun ⟨⟨x2,x3⟩,x4⟩ hx=>?_
 try dsimp only at hx
 exact bu [16,16,11,9999,12] 1 fun nm1=>rT (((x2,x3),x4)) 12 [14,15]
theorem zt (dr:Option Nat) (m t e a h k kb kc vb vc l n o q ff b f lb:Nat) (key val:Bs) (k1:1≤key.length) (s:key.length≤32) (v:1≤val.length) (u:val.length≤64) (R:bV) (w:RunsP ((ff,b)::R)) (c:ff+1<b∨0<R.length) (y:nf≤50000) (z:ff<4294967295) (G:List ((Nat×Nat)×Vl)) (A:G.length≤1000) (B:cg t (G.map (·.1))=[e])
 (K:List (Nat×Vl)) (M:Nat→Option Pg) (i:KM K M) (S:List Nat) (C:ff∉S) (hc:0<cm) (D:t<4294967296) (hcm:cm<18446744073709551616) (j:e<65536) :
 TT 321 #[gV p t,ck lb 1 1,u8 0] [(lb,.cl (ye h k) 493),(r,.cl [.map (some m)] 182),(m,.pr (bB eW G)),(a,.fa (bN Af nf cf ((ff,b)::R))),(l,.fa (CF h 0 (cq kb key.length kc vb val.length vc))),(n,.fa (BF (pA kb) key.length kc key)),(o,.fa (BF (pA vb) val.length vc val)),(q,.fa (PgsF K M))] [(p,.cl (bM d r g Af nf cf kn wt (some f) dr pi cm lst false) 199),(kn,.pr (MU K)),(f,.pr (MU (bF S)))]
  (fun x:ij=>KM x.2 (bX M ff ⟨t,1,0,cm,e,bw key val⟩)) (fun x=>.returned (.tuple #[cu ff cm e,i64 0]))
  (fun x=>[(p,.cl (bM d r g (pA x.1.1) (bS ((ff,b)::R)).length x.1.2 kn wt (some f) dr pi cm lst false) 199),(kn,.pr (MU x.2)),(f,.pr (MU (bF (S++[ff]))))])
  (fun x=>[(0,.fa (bN (pA x.1.1) (bS ((ff,b)::R)).length x.1.2 (bS ((ff,b)::R)))),(0,.fa (PgsF x.2 (bX M ff ⟨t,1,0,cm,e,bw key val⟩)))]):=by
 have E:=ge key val s u
 refine iE func321<|bu [9999,0,0,0,0,9999,0,0,0] 2 fun nm=>bj [5,0,11,9999,0]<|cE (uX p d r g Af nf cf kn wt pi cm lst dr m t e a h k kb kc vb vc l n o q ff b f key val k1 s v u R w c y z G A B K M i S C hc D hcm j) [1,2,3,4,5,6,7] [8,9,10] fun ⟨⟨x,x1⟩,x2⟩ hx=>?_
 try dsimp only at hx
 exact bj [12]<|rT (((x,x1),x2)) 12 [13,14]
end
theorem qO {b:Nat} {t:TypeId} {xs:List Vl} (w:World) (h:At b (.cl xs t) w):CF b 0 xs w:=by
 obtain ⟨o,h1,h2⟩:=h
 exact ⟨o,h1,bA o h2⟩
abbrev dN (p:Nat):Vl:=.iface 83 (bi p)
section
variable (p d r g:Nat) (Af:Option Addr) (nf cf kn wt:Nat)
section
variable (pu dr:Option Nat) (pi cm lst:Nat) (fl:Bool)
theorem xC (t b c a d:Nat) (h1:1≤a) (h2:a≤32):Same 152 #[dN p,.int .u32 t,cu 0 0 0,cB b c a d] [] (.tuple #[bp,i64 7]):=by
 refine iE func152<|fe [9999,0,0,2,2,0,9999,1,2,0,9999,0,0] 2 _ (br (show (decide ((↑a:Int)>32))=false by (simp;omega)) (br (show ((↑a:Int)==0)=false by (simp;omega)) bt)) fun nm=>⟨by kernel_rfl,?_⟩
 exact rT ()
theorem pB (na nfm N:Nat) (o:Vl) (steps:Int) (t n c f a h i j q:Nat) (key val:Bs) (K:List (Nat×Vl)) (M:Nat→Option Pg) (k:KM K M) (s:M n=some ⟨t,1,0,c,f,bw key val⟩) (h2:2≤n) (u:n<N) (l:n<4294967296) (k1:1≤key.length) (v:key.length≤32) (w:1≤val.length) (y:val.length≤64) :
 TT 152 #[dN p,.int .u32 t,cu n c f,cB h i key.length j] [(p,.cl (bM d r g Af nf cf kn wt pu dr pi cm lst fl) 199),(d,.cl (bQ na nfm N o steps) bT),(kn,.pr (MU K)),(a,.fa (PgsF K M)),(q,.fa (BF (pO h i) key.length j key))] [] (fun _:Nat×Nat=>True) (fun x=>.returned (.tuple #[ck x.1 val.length x.2,i64 0])) (fun _=>[])
  (fun x=>[(x.1,.fa (BF (pA x.1) val.length x.2 val))]):=by
 have b:=nE key
 have m:((key.length:Int)==0)=false:=by rw [beq_eq_false_iff_ne];omega
 refine iE func152<|fe [9999,0,0,2,2,0,9999,6,2,5,9999] 2 _ (br (show (decide ((↑key.length:Int)>32))=false by (simp;omega)) (br m bt)) fun nm=>⟨by kernel_rfl,?_⟩
 refine rE (qJ (Operand.tmp 30) (Operand.tmp 31) ((↑n:Int)) ((↑c:Int)) ((↑f:Int)) 0 0 0 0 0 (by omega)) []<|bj [0,6,5]<|cE (mF p d r g Af nf cf kn wt pu dr pi cm lst fl na nfm N o steps t n c f a key val K M k s h2 u l k1 v w y) [0,1,2,3] [] fun ⟨⟨x,x1⟩,⟨x2,x3⟩,x4,x5⟩ _=>fE 7 x (bn 265 9 1 x1 (cq x2 key.length x3 x4 val.length x5)) bx fun hc=>bu [10,0,0,5,0,0,10] 1 fun nm1=>bv (pQ x x1 x2 key.length x3 x4 val.length x5 x2 q h i j key key b) [7,8,4] []<|bj [0]<|bj [9999,0,6,10,9999]<|tE (.agg (List.toArray (List.take 9 (List.drop 0 (cq x2 key.length x3 x4 val.length x5))))) [7] [(x,.pr (bn 265 9 1 x1 (cq x2 key.length x3 x4 val.length x5)))] (er (T:=265) underlying265 (e:=265) x 0 9 1 x1 9 (cq x2 key.length x3 x4 val.length x5) (by (simp;done)))<|zE<|cE (By p t x2 key.length x3 x4 val.length x5 x4 val (by with_reducible rfl) (by omega) (by omega)) [9] [] ?_
 rintro ⟨x6,x7⟩ _
 exact zE<|rT ((x6,x7)) 9999 [11]
theorem D0 (na nfm N:Nat) (m:Vl) (steps:Int) (t n c e a f h i o:Nat) (key val q:Bs) (b:Lib.compareBytes key q=1) (K:List (Nat×Vl)) (M:Nat→Option Pg) (j:KM K M) (s:M n=some ⟨t,1,0,c,e,bw key val⟩) (h2:2≤n) (u:n<N) (k:n<4294967296) (k1:1≤key.length) (v:key.length≤32) (w:1≤val.length) (y:val.length≤64) (q1:1≤q.length) (q2:q.length≤32) :
 TT 152 #[dN p,.int .u32 t,cu n c e,cB f h q.length i] [(p,.cl (bM d r g Af nf cf kn wt pu dr pi cm lst fl) 199),(d,.cl (bQ na nfm N m steps) bT),(kn,.pr (MU K)),(a,.fa (PgsF K M)),(o,.fa (BF (pO f h) q.length i q))] [] uT (fun x=>.returned (.tuple #[bp,i64 7])) (fun _=>[]) (fun _=>[]):=by
 have l:((q.length:Int)==0)=false:=by rw [beq_eq_false_iff_ne];omega
 refine iE func152<|fe [9999,0,0,2,2,0,9999,6,2,5,9999] 2 _ (br (show (decide ((↑q.length:Int)>32))=false by (simp;omega)) (br l bt)) fun nm=>⟨by kernel_rfl,?_⟩
 exact rE (qJ (Operand.tmp 30) (Operand.tmp 31) ((↑n:Int)) ((↑c:Int)) ((↑e:Int)) 0 0 0 0 0 (by omega)) []<|bj [0,6,5]<|cE (mF p d r g Af nf cf kn wt pu dr pi cm lst fl na nfm N m steps t n c e a key val K M j s h2 u k k1 v w y) [0,1,2,3] [] fun ⟨⟨x,x1⟩,⟨x2,x3⟩,x4,x5⟩ _=>fE 7 x (bn 265 9 1 x1 (cq x2 key.length x3 x4 val.length x5)) bx fun hc=>bu [10,0,0,5,0,0,10] 1 fun nm1=>bv (BC x x1 x2 key.length x3 x4 val.length x5 x2 o f h i key q b) [7,8,4] []<|bj [0]<|rT ()
end
variable (pi cm lst:Nat)
theorem xi (dr:Option Nat) (m t e a h i j s k l n u v ff b f:Nat) (key new:Bs) (k1:1≤key.length) (w:key.length≤32) (y:1≤new.length) (z:new.length≤64) (R:bV) (A:RunsP ((ff,b)::R)) (c:ff+1<b∨0<R.length) (B:nf≤50000) (C:ff<4294967295) (G:List ((Nat×Nat)×Vl)) (D:G.length≤1000) (E:cg t (G.map (·.1))=[e])
 (K:List (Nat×Vl)) (M:Nat→Option Pg) (o:KM K M) (S:List Nat) (F:ff∉S) (hc:0<cm) (H:t<4294967296) (hcm:cm<18446744073709551616) (q:e<65536) :
 TT 221 #[gV p t,cu 0 0 0,eX h i key.length j (cB k l new.length n) false] [(r,.cl [.map (some m)] 182),(m,.pr (bB eW G)),(a,.fa (bN Af nf cf ((ff,b)::R))),(s,.fa (BF (pO h i) key.length j key)),(u,.fa (BF (pO k l) new.length n new)),(v,.fa (PgsF K M))] [(p,.cl (bM d r g Af nf cf kn wt (some f) dr pi cm lst false) 199),(kn,.pr (MU K)),(f,.pr (MU (bF S)))]
  (fun x:ij=>KM x.2 (bX M ff ⟨t,1,0,cm,e,bw key new⟩)) (fun x=>.returned (.tuple #[cu ff cm e,i64 0]))
  (fun x=>[(p,.cl (bM d r g (pA x.1.1) (bS ((ff,b)::R)).length x.1.2 kn wt (some f) dr pi cm lst false) 199),(kn,.pr (MU x.2)),(f,.pr (MU (bF (S++[ff]))))])
  (fun x=>[(0,.fa (bN (pA x.1.1) (bS ((ff,b)::R)).length x.1.2 (bS ((ff,b)::R)))),(0,.fa (PgsF x.2 (bX M ff ⟨t,1,0,cm,e,bw key new⟩)))]):=by
 refine iE func221<|bu [9999,9999,9999,10,9999,0,0,11,0,9,11,11] 4 fun nm=>cE (uP p t h i key.length j k l new.length n s u key new (by with_reducible rfl) (by with_reducible rfl) k1 w y z) [3,4] [] fun ⟨⟨x,x1⟩,x2,x3⟩ _=>bu [15,0,0,9,15,9999,9999] 2 fun nm1=>ip 16 (nm1 1) (.cl (cq x key.length x1 x2 new.length x3) 265) (CF (nm1 1) 0 (cq x key.length x1 x2 new.length x3)) qO<|cE (uX p d r g Af nf cf kn wt pi cm lst dr m t e a (nm1 1) 1 x x1 x2 x3 (nm1 1) x x2 v ff b f key new k1 w y z R A c B C G D E K M o S F hc H hcm q) [0,1,2,16,13,14,5] [6,7,8] fun ⟨⟨x4,x5⟩,x6⟩ hx=>?_
 try dsimp only at hx
 exact bj [12]<|rT (((x4,x5),x6)) 12 [17,18]
theorem xL (na nfm N:Nat) (B:Vl) (steps:Int) (m t n c k f a l o q C s u v E w ff b h i:Nat) (key val new:Bs) (k1:1≤key.length) (F:key.length≤32) (w0:1≤val.length) (O:val.length≤64) (H:1≤new.length) (I:new.length≤64) (R:bV) (J:RunsP ((ff,b)::R)) (e:ff+1<b∨0<R.length) (L:nf≤50000) (P:ff<4294967295) (G:List ((Nat×Nat)×Vl)) (Q:G.length≤1000) (T:cg t (G.map (·.1))=[f])
 (K:List (Nat×Vl)) (M:Nat→Option Pg) (j:KM K M) (S W D:List Nat) (U:ff∉S) (V:M n=some ⟨t,1,0,c,k,bw key val⟩) (y:¬ bR ((ff,b)::R) n) (X:n∉W) (Y:n∉S) (Z:n∉D) (h2:2≤n) (hN:n<N) (z:n<4294967296) (hc:0<cm) (ht:t<4294967296) (hcm:cm<18446744073709551616) (A:f<65536) :
 TT 221 #[gV p t,cu n c k,eX l o key.length q (cB s u new.length v) false] [(d,.cl (bQ na nfm N B steps) bT),(r,.cl [.map (some m)] 182),(m,.pr (bB eW G)),(a,.fa (bN Af nf cf ((ff,b)::R))),(C,.fa (BF (pO l o) key.length q key)),(E,.fa (BF (pO s u) new.length v new)),(w,.fa (PgsF K M))]
  [(p,.cl (bM d r g Af nf cf kn wt (some h) (some i) pi cm lst false) 199),(kn,.pr (MU K)),(h,.pr (MU (bF S))),(wt,.pr (MU (bF W))),(i,.pr (MU (bF D)))]
  (fun x:ij=>KM x.2 (bX M ff ⟨t,1,0,cm,f,bw key new⟩)) (fun x=>.returned (.tuple #[cu ff cm f,i64 0]))
  (fun x=>[(p,.cl (bM d r g (pA x.1.1) (bS ((ff,b)::R)).length x.1.2 kn wt (some h) (some i) pi cm lst false) 199),(kn,.pr (MU x.2)),(h,.pr (MU (bF (S++[ff])))),(wt,.pr (MU (bF (W++[n])))),(i,.pr (MU (bF (D++[n]))))])
  (fun x=>[(0,.fa (bN (pA x.1.1) (bS ((ff,b)::R)).length x.1.2 (bS ((ff,b)::R)))),(0,.fa (PgsF x.2 (bX M ff ⟨t,1,0,cm,f,bw key new⟩)))]):=by
 refine cJ func221 (by kernel_rfl) fun w0 ho=>bu [9999,9999,9999,13,9999] 4 fun nm=>rE (gS (Operand.tmp 14) (Operand.tmp 15) ((↑n:Int)) ((↑c:Int)) ((↑k:Int)) 0 0 0 0 0 (by omega)) []<|bj [0,14,0,12,13,14]<|cE (yd p d r g Af nf cf kn wt pi cm lst na nfm N B steps t n c k w a l o q C s u v E h i key val new K M j V k1 F (by with_reducible assumption) O H I ((ff,b)::R) J L y W S D X Y Z h2 hN z hc) [7,0,8,6,3,9,4,5] [10,11] fun ⟨⟨x,x1,x2⟩,⟨x3,x4⟩,x5,x6⟩ _=>bj [0,0,12,13]<|cE (zt p d r g Af nf cf kn wt pi cm lst (some i) m t f a x1 x2 x3 x4 x5 x6 x1 x3 x5 w ff b h x key new k1 F H I R J e L P G Q T K M j S U hc ht hcm A) [16,1,2,3,17,18,19,6] [7,8,9] fun ⟨⟨x7,x8⟩,x9⟩ hx=>?_
 try dsimp only at hx
 exact bj [15]<|rT (((x7,x8),x9)) 15 [20,21]
theorem w7 (na nfm N:Nat) (m:Vl) (steps:Int) (t n c b a s i j k o l e:Nat) (key val:Bs) (K:List (Nat×Vl)) (M:Nat→Option Pg) (f:KM K M) (u:M n=some ⟨t,1,0,c,b,bw key val⟩)
 (k1:1≤key.length) (v:key.length≤32) (w:1≤val.length) (y:val.length≤64)
 (L:bV) (A:RunsP L) (B:nf≤50000) (q:¬ bR L n) (W U D:List Nat) (C:n∉W) (E:n∉U) (F:n∉D) (h2:2≤n) (z:n<N) (h:n<4294967296) (hc:0<cm) :
 TT 221 #[gV p t,cu n c b,eX i j key.length k bp true]
  [(p,.cl (bM d r g Af nf cf kn wt (some l) (some e) pi cm lst false) 199),(d,.cl (bQ na nfm N m steps) bT),(kn,.pr (MU K)),(a,.fa (PgsF K M)),(s,.fa (bN Af nf cf L)),(l,.pr (MU (bF U))),(o,.fa (BF (pO i j) key.length k key))]
  [(wt,.pr (MU (bF W))),(e,.pr (MU (bF D)))] uT (fun x=>.returned (.tuple #[cu 0 0 0,i64 0]))
  (fun _=>[(wt,.pr (MU (bF (W++[n])))),(e,.pr (MU (bF (D++[n]))))]) (fun _=>[]):=iE func221<|bu [9999,9999,9999,10,9999] 4 fun nm=>rE (gS (Operand.tmp 14) (Operand.tmp 15) ((↑n:Int)) ((↑c:Int)) ((↑b:Int)) 0 0 0 0 0 (by omega)) []<|bj [0,11,0,9,9,10,11]<|cE (pB p d r g Af nf cf kn wt (some l) (some e) pi cm lst false na nfm N m steps t n c b a i j k o key val K M f u h2 z h k1 v w y) [0,1,2,3,6] [] fun ⟨x,x1⟩ _=>bj [0,0,0,0,9,10,11]<|bv (zQ p d r g Af nf cf kn wt pi cm lst na nfm N m steps t n c b a s i j k o l e key val K M f u k1 v w y L A B q W U D C E F h2 z h hc) [0,1,2,3,4,5,6] [7,8]<|bj [0,0,9,10]<|bv (yi p t) [] []<|bj [12]<|rT () 12
end
theorem DS (mb:Nat):TT 218 #[.map (some mb)] [] [] (fun _:Nat=>True) (fun x=>.returned (.func (.func 317) #[] #[bi x])) (fun _=>[]) (fun x=>[(x,.cl [.map (some mb)] 327)]):=iE func218<|bu [9999] 1 fun nm=>rT (nm 0) 9999 [0]
theorem Is (cb mb l sb:Nat) (r:Loop) (k:Bs) (v:Vl) (b:jL prog l #[gu k] [] [(sb,.cl [bp] 331),(l,.ob (.loop r))] (fun _:Nat×Nat=>True) (fun _=>.bool true) (fun x=>[(sb,.cl [ck x.1 1 x.2] 331),(l,.ob (.loop {r with state:=.ready,pending:=none}))]) (fun x=>[(x.1,.pr (bn 9 1 1 x.2 [gu k]))])) :
 TT 317 #[.func (.yield l) #[] #[],bi cb] [(cb,.cl [.map (some mb)] 327),(mb,.pr (bB eS [(k,v)]))] [(sb,.cl [bp] 331),(l,.ob (.loop r))] (fun _:Nat×Nat=>True) (fun _=>.returned (.tuple #[])) (fun x=>[(sb,.cl [ck x.1 1 x.2] 331),(l,.ob (.loop {r with state:=.ready,pending:=none}))]) (fun x=>[(x.1,.pr (bn 9 1 1 x.2 [gu k]))]):=by
 refine cJ func317 (by kernel_rfl) fun w0 ho=>iT 1 mb (bB eS [(k,v)]) (by kernel_rfl) fun o hm=>?_
 obtain ⟨es,clock,rfl,hes,hnd,hck⟩:=hm
 obtain ⟨⟨ek,ev,eb⟩,he,hek,hev⟩:=xG hes
 dsimp only at hek hev
 subst hek hev
 refine bj [0]<|xE (fj (t:=327) (kt:=9) (et:=58) underlying327 mb es clock hck) [1] [] fun x _=>bj [2]<|xE (el 0 x mb es clock ([])) [1] [4] fun x1 ⟨hx,hx1⟩=>?_
 rcases x1 with _ | e1
 · exact absurd (hx rfl _ (by rw [he];exact List.mem_singleton.2 rfl)) (by simp)
 obtain ⟨h1,h2⟩:=hx1 e1 rfl
 obtain rfl:e1=⟨eS k,ev,eb⟩:=by rw [he] at h1;simpa using h1
 clear hx hx1 h1 h2
 simp only [Option.toList_some]
 refine bj [0]<|rE (eH x mb es clock ([]) ({key:=eS k,val:=ev,born:=eb}) (by (simp_all;done)) hnd) [1,4]<|zE<|mP b [] [2,3] Views.nil (fun _=>bD (bD bH (fun _=>rfl)) (fun _=>rfl)) fun ⟨a,c⟩ _=>bj [0]<|xE (el 0 x mb es clock ([]++[{key:=eS k,val:=ev,born:=eb}])) [1] [4] fun x1 ⟨hx,hx1⟩=>?_
 rcases x1 with _ | e2
 · exact lE 1 mb (.ob (.map es clock)) (.pr (bB eS [(k,ev)])) (fun o ho=>⟨es,clock,ho,hes,hnd,hck⟩)<|bj [0]<|rT ((a,c)) 9999 [5]
 · obtain ⟨h1,h2⟩:=hx1 e2 rfl
   rw [he] at h1
   rw [List.mem_singleton.1 h1] at h2
   exact absurd (by simp) h2
theorem Jq (cb mb:Nat) (k:Bs) (v:Vl):TT 383 #[bp,.func (.func 317) #[] #[bi cb]] [(cb,.cl [.map (some mb)] 327),(mb,.pr (bB eS [(k,v)]))] [] (fun _:Nat×Nat=>True) (fun x=>.returned (ck x.1 1 x.2)) (fun _=>[]) (fun x=>[(x.1,.pr (bn 9 1 1 x.2 [gu k]))]):=by
 refine nA func383 fun w0 ho=>bu [9999] 1 fun nm=>kQ (gf:=317) (lb:=#[bi cb]) (HR:=[(cb,.cl [.map (some mb)] 327),(mb,.pr (bB eS [(k,v)]))]) (HWo:=[(nm 0,.cl [bp] 331)]) (X:=Nat×Nat) (φ:=fun _=>True) (v:=fun _=>.tuple #[]) (HWo':=fun x=>[(nm 0,.cl [ck x.1 1 x.2] 331)]) (HN:=fun x=>[(x.1,.pr (bn 9 1 1 x.2 [gu k]))]) (stt:=fun _=>.ready) (pd:=fun _=>none) [0,1] [2] (by kernel_rfl) (fun _ _=>rfl) (Views.of_map (by kernel_rfl)) (fun fn D l=>Is cb mb l (nm 0) _ k v ?_) (fun _=>bD bH (fun _=>rfl)) (fun _ _=>by intro e;cases e) ?_ (fun _ _ _ _=>by kernel_rfl) rfl (fun _=>by kernel_rfl)
 · exact vf 1 [bp,.func (.func 317) #[] #[bi cb],bi (nm 0),undef,bp,undef,.func (.func 317) #[] #[bi cb],gu k,undef,undef,undef,undef,undef] (by kernel_rfl) fun w1 ho1=>zE<|ov 1<|bu [0,9999] 1 fun nm1=>xV (gZ (t:=331) (e:=9) (ty:=331) (k:=1) (by_:=16) (z:=Value.string {data:=#[]}) underlying331 (nm1 0) 0 1 1 ([Value.string {data:=List.toArray k}])) [2] [] (Views.less (.cl [Value.string {data:=List.toArray k}] 9) bA Views.nil) fun ⟨x,x1⟩ _=>fE 3 x (bn 9 1 1 x1 [Value.string {data:=List.toArray k}]) bx fun hc=>bj [0]<|n7 (x,x1) 1 none [3]
 · intro fn D l x _
   exact bj [2]<|ma 3 D<|fS x (ck x.1 1 x.2) [5] (fN _ 9999)
theorem rB {K:Type} [DecidableEq K] (k:K) (v:Vl):lk [(k,v)] k=some v:=by
 unfold lk eV
 simp
theorem mW {K:Type} [DecidableEq K] (enc:K→Vl) (k:K) (v:Vl) (b c:Nat) (h:b<c):∀ o,(SB.ob (.map #[⟨enc k,v,b⟩] c)).ok o→(SB.pr (bB enc [(k,v)])).ok o:=by
 intro o a
 have a:o = .map #[⟨enc k,v,b⟩] c:=a
 subst a
 exact ⟨_,_,rfl,by simp,by simp,by simpa using h⟩
theorem Hp (cb mb:Nat) (k:Bs) (v:Vl):TT 315 #[.func (.func 317) #[] #[bi cb]] [(cb,.cl [.map (some mb)] 327),(mb,.pr (bB eS [(k,v)]))] [] (fun _:Nat×Nat=>True) (fun x=>.returned (ck x.1 1 x.2)) (fun _=>[]) (fun x=>[(x.1,.pr (bn 9 1 1 x.2 [gu k]))]):=iE func315<|zE<|cE (Jq cb mb k v) [0,1] [] fun ⟨x,x1⟩ _=>fE 2 x (bn 9 1 1 x1 [gu k]) bx fun hc=>zE<|rT ((x,x1)) 9999 [2]
theorem Fe (b c:Nat) (f:Vl):Same 405 #[ck b 1 c,i64 0,i64 1,f] [] (.tuple #[]):=iE func405<|bj [2,0,0]<|rT ()
theorem Fa (b c:Nat) (m:Vl) (f:Vl):Same 384 #[ck b 1 c,i64 0,i64 1,m,f] [] (.tuple #[]):=iE func384<|bj [2,0,0]<|bv (Fe b c f) [] []<|zE<|rT ()
theorem GM (b c:Nat) (f:Vl):Same 316 #[ck b 1 c,f] [] (.tuple #[]):=iE func316<|bj [9999]<|cE (wh 1 (by omega)) [] [] fun x _=>zE<|bv (Fa b c (i64 x) f) [] []<|zE<|rT ()
theorem vm (cb mb:Nat) (k:Bs) (v f:Vl):TT 217 #[.func (.func 317) #[] #[bi cb],f] [(cb,.cl [.map (some mb)] 327),(mb,.pr (bB eS [(k,v)]))] [] (fun _:Nat×Nat=>True) (fun x=>.returned (ck x.1 1 x.2)) (fun _=>[]) (fun x=>[(x.1,.pr (bn 9 1 1 x.2 [gu k]))]):=iE func217<|zE<|cE (Hp cb mb k v) [0,1] [] fun ⟨x,x1⟩ _=>fE 2 x (bn 9 1 1 x1 [gu k]) bx fun hc=>zE<|bv (GM x x1 f) [] []<|zE<|rT ((x,x1)) 9999 [2]
theorem tQ (b c a d e f un g:Nat) (h1:1≤a) (h2:a≤32) (h3:un≤64):Same 216 #[eX b c a d (cB e f un g) false] [] (.bool true):=by
 refine iE func216<|fe [9999,0,1,0,1,0,1,0] 1 _ (br (show (decide ((↑un:Int)≤1024))=true by (simp;omega)) (br (show (decide ((↑a:Int)≤32))=true by (simp;omega)) (br (show (decide ((↑a:Int)≥1))=true by (simp;omega)) bt))) fun nm=>⟨by kernel_rfl,?_⟩
 exact rT ()
theorem yL (b c a d:Nat) (h1:1≤a) (h2:a≤32):Same 216 #[eX b c a d bp true] [] (.bool true):=by
 refine iE func216<|fe [9999,0,1,0,1,0,0,0,0,0] 1 _ (br (show (decide ((↑a:Int)≤32))=true by (simp;omega)) (br (show (decide ((↑a:Int)≥1))=true by (simp;omega)) bt)) fun nm=>⟨by kernel_rfl,?_⟩
 exact rT ()
abbrev dS (kb ko kn kc:Nat) (v:Vl) (dr:Bool):List Vl:=[sO kb ko kn kc,v,.bool dr]
section
variable (p d r g:Nat) (Af:Option Addr) (nf cf kn wt:Nat) (pi cm lst:Nat)
theorem oB (dr:Option Nat) (m t n a b c f q h i j w y z ob C ff k o:Nat) (key new:Bs) (k1:1≤key.length) (A:key.length≤32) (D:1≤new.length) (B:new.length≤64) (R:bV) (E:RunsP ((ff,k)::R)) (l:ff+1<k∨0<R.length) (F:nf≤50000) (H:ff<4294967295) (G:List ((Nat×Nat)×Vl)) (I:G.length≤1000) (J:cg t (G.map (·.1))=[n])
 (K:List (Nat×Vl)) (M:Nat→Option Pg) (s:KM K M) (S:List Nat) (L:ff∉S) (hc:0<cm) (N:t<4294967296) (hcm:cm<18446744073709551616) (u:n<65536) :
 TT 151 #[dN p,.int .u32 t,cu 0 0 0,sA ob 1 C] [(r,.cl [.map (some m)] 182),(m,.pr (bB eW G)),(a,.fa (bN Af nf cf ((ff,k)::R))),(q,.fa (BF (pO b c) key.length f key)),(w,.fa (BF (pO h i) new.length j new)),(y,.fa (PgsF K M)),(z,.fa (CF ob 0 (dS b c key.length f (cB h i new.length j) false)))] [(p,.cl (bM d r g Af nf cf kn wt (some o) dr pi cm lst false) 199),(kn,.pr (MU K)),(o,.pr (MU (bF S)))]
  (fun x:ij=>KM x.2 (bX M ff ⟨t,1,0,cm,n,bw key new⟩)) (fun x=>.returned (.tuple #[cu ff cm n,i64 0]))
  (fun x=>[(p,.cl (bM d r g (pA x.1.1) (bS ((ff,k)::R)).length x.1.2 kn wt (some o) dr pi cm lst false) 199),(kn,.pr (MU x.2)),(o,.pr (MU (bF (S++[ff]))))])
  (fun x=>[(0,.fa (bN (pA x.1.1) (bS ((ff,k)::R)).length x.1.2 (bS ((ff,k)::R)))),(0,.fa (PgsF x.2 (bX M ff ⟨t,1,0,cm,n,bw key new⟩)))]):=by
 have v:=rB key (eX b c key.length f (cB h i new.length j) false)
 refine iE func151<|bu [9999,0,0,13,2,0,0,9999] 4 fun nm=>rE (gh (T:=58) underlying58 z ob 0 3 (dS b c key.length f (cB h i new.length j) false) (by (simp;done))) [6]<|bu [] 1 fun nm1=>vE 27 (.agg ⟨List.take 3 (List.drop 0 (dS b c key.length f (cB h i new.length j) false))⟩) (eX b c key.length f (cB h i new.length j) false) (by rfl)<|bj [14,14]<|bv (tQ b c key.length f h i new.length j k1 A B) [] []<|bj [0,13,14]<|rE (fy q b c key.length f key) [3]<|bj [14,12,0,0,13]<|cE (DS (nm 2)) [] [] ?_
 rintro x _
 refine zE<|lE 12 (nm 2) (.ob (.map #[⟨gu key,eX b c key.length f (cB h i new.length j) false,0⟩] 1)) (.pr (bB eS [(key,eX b c key.length f (cB h i new.length j) false)])) (mW eS key _ 0 1 (by omega))<|cE (vm x (nm 2) key (eX b c key.length f (cB h i new.length j) false) (.func (Fn.func 219) ⟨[]⟩ ⟨[bi (nm 3)]⟩)) [15,12] [] fun ⟨x1,x2⟩ _=>fE 16 x1 (bn 9 1 1 x2 [gu key]) bx fun hc1=>bu [9999,17,2,0,0,9999] 1 fun nm2=>rE (cx (T:=9) (e:=9) x1 0 1 1 x2 ([gu key]) (gu key)) [16]<|bj [17,10,13]<|rE (oh (T:=327) (kt:=9) (et:=58) underlying327 underlying9 (nm 2) ([(key,eX b c key.length f (cB h i new.length j) false)]) key (eX b c key.length f (cB h i new.length j) false) v) [12]<|cE (xi p d r g Af nf cf kn wt pi cm lst dr m t n a b c f q h i j w y ff k o key new k1 A D B R E l F H G I J K M s S L hc N hcm u) [0,1,2,3,4,5] [7,8,9] fun ⟨⟨x3,x4⟩,x5⟩ hx=>?_
 try dsimp only at hx
 exact bj [10,0,0,0,0,10,11]<|rT (((x3,x4),x5)) 11 [18,19]
theorem oz (na nfm N:Nat) (E:Vl) (steps:Int) (m t n c v q a b f h w i j k F H I ob O ff l s u:Nat) (key val new:Bs) (k1:1≤key.length) (J:key.length≤32) (w0:1≤val.length) (P:val.length≤64) (Q:1≤new.length) (L:new.length≤64) (R:bV) (U:RunsP ((ff,l)::R)) (o:ff+1<l∨0<R.length) (V:nf≤50000) (X:ff<4294967295) (G:List ((Nat×Nat)×Vl)) (Y:G.length≤1000) (Z:cg t (G.map (·.1))=[q])
 (K:List (Nat×Vl)) (M:Nat→Option Pg) (y:KM K M) (S W D:List Nat) (hS:ff∉S) (hM:M n=some ⟨t,1,0,c,v,bw key val⟩) (z:¬ bR ((ff,l)::R) n) (hW:n∉W) (hU:n∉S) (hD:n∉D) (h2:2≤n) (hN:n<N) (A:n<4294967296) (hc:0<cm) (ht:t<4294967296) (hcm:cm<18446744073709551616) (B:q<65536) :
 TT 151 #[dN p,.int .u32 t,cu n c v,sA ob 1 O] [(d,.cl (bQ na nfm N E steps) bT),(r,.cl [.map (some m)] 182),(m,.pr (bB eW G)),(a,.fa (bN Af nf cf ((ff,l)::R))),(w,.fa (BF (pO b f) key.length h key)),(F,.fa (BF (pO i j) new.length k new)),(H,.fa (PgsF K M)),(I,.fa (CF ob 0 (dS b f key.length h (cB i j new.length k) false)))]
  [(p,.cl (bM d r g Af nf cf kn wt (some s) (some u) pi cm lst false) 199),(kn,.pr (MU K)),(s,.pr (MU (bF S))),(wt,.pr (MU (bF W))),(u,.pr (MU (bF D)))]
  (fun x:ij=>KM x.2 (bX M ff ⟨t,1,0,cm,q,bw key new⟩)) (fun x=>.returned (.tuple #[cu ff cm q,i64 0]))
  (fun x=>[(p,.cl (bM d r g (pA x.1.1) (bS ((ff,l)::R)).length x.1.2 kn wt (some s) (some u) pi cm lst false) 199),(kn,.pr (MU x.2)),(s,.pr (MU (bF (S++[ff])))),(wt,.pr (MU (bF (W++[n])))),(u,.pr (MU (bF (D++[n]))))])
  (fun x=>[(0,.fa (bN (pA x.1.1) (bS ((ff,l)::R)).length x.1.2 (bS ((ff,l)::R)))),(0,.fa (PgsF x.2 (bX M ff ⟨t,1,0,cm,q,bw key new⟩)))]):=by
 have C:=rB key (eX b f key.length h (cB i j new.length k) false)
 refine cJ func151 (by kernel_rfl) fun w0 ho=>bu [9999,0,0,16,2,0,0,9999] 4 fun nm=>rE (gh (T:=58) underlying58 I ob 0 3 (dS b f key.length h (cB i j new.length k) false) (by (simp;done))) [7]<|bu [] 1 fun nm1=>vE 27 (.agg ⟨List.take 3 (List.drop 0 (dS b f key.length h (cB i j new.length k) false))⟩) (eX b f key.length h (cB i j new.length k) false) (by rfl)<|bj [17,17]<|bv (tQ b f key.length h i j new.length k k1 J L) [] []<|bj [0,16,17]<|rE (fy w b f key.length h key) [4]<|bj [17,15,0,0,16]<|cE (DS (nm 2)) [] [] ?_
 rintro x _
 refine zE<|lE 15 (nm 2) (.ob (.map #[⟨gu key,eX b f key.length h (cB i j new.length k) false,0⟩] 1)) (.pr (bB eS [(key,eX b f key.length h (cB i j new.length k) false)])) (mW eS key _ 0 1 (by omega))<|cE (vm x (nm 2) key (eX b f key.length h (cB i j new.length k) false) (.func (Fn.func 219) ⟨[]⟩ ⟨[bi (nm 3)]⟩)) [18,15] [] fun ⟨x1,x2⟩ _=>fE 19 x1 (bn 9 1 1 x2 [gu key]) bx fun hc1=>bu [9999,20,2,0,0,9999] 1 fun nm2=>rE (cx (T:=9) (e:=9) x1 0 1 1 x2 ([gu key]) (gu key)) [19]<|bj [20,13,16]<|rE (oh (T:=327) (kt:=9) (et:=58) underlying327 underlying9 (nm 2) ([(key,eX b f key.length h (cB i j new.length k) false)]) key (eX b f key.length h (cB i j new.length k) false) C) [15]<|cE (xL p d r g Af nf cf kn wt pi cm lst na nfm N E steps m t n c v q a b f h w i j k F H ff l s u key val new k1 J (by with_reducible assumption) P Q L R U o V X G Y Z K M y S W D hS hM z hW hU hD h2 hN A hc ht hcm B) [0,1,2,3,4,5,6] [8,9,10,11,12] fun ⟨⟨x3,x4⟩,x5⟩ hx=>?_
 try dsimp only at hx
 exact bj [13,0,0,0,0,13,14]<|rT (((x3,x4),x5)) 14 [21,22]
theorem yN (na nfm N:Nat) (u:Vl) (steps:Int) (t n c j a v b f h k w ob z l i:Nat) (key val:Bs) (K:List (Nat×Vl)) (M:Nat→Option Pg) (m:KM K M) (A:M n=some ⟨t,1,0,c,j,bw key val⟩)
 (k1:1≤key.length) (y:key.length≤32) (B:1≤val.length) (C:val.length≤64)
 (L:bV) (E:RunsP L) (F:nf≤50000) (o:¬ bR L n) (W U D:List Nat) (G:n∉W) (H:n∉U) (I:n∉D) (h2:2≤n) (J:n<N) (q:n<4294967296) (hc:0<cm) :
 TT 151 #[dN p,.int .u32 t,cu n c j,sA ob 1 z]
  [(p,.cl (bM d r g Af nf cf kn wt (some l) (some i) pi cm lst false) 199),(d,.cl (bQ na nfm N u steps) bT),(kn,.pr (MU K)),(a,.fa (PgsF K M)),(v,.fa (bN Af nf cf L)),(l,.pr (MU (bF U))),(k,.fa (BF (pO b f) key.length h key)),(w,.fa (CF ob 0 (dS b f key.length h bp true)))]
  [(wt,.pr (MU (bF W))),(i,.pr (MU (bF D)))] uT (fun x=>.returned (.tuple #[cu 0 0 0,i64 0]))
  (fun _=>[(wt,.pr (MU (bF (W++[n])))),(i,.pr (MU (bF (D++[n]))))]) (fun _=>[]):=by
 have s:=rB key (eX b f key.length h bp true)
 refine iE func151<|bu [9999,0,0,13,2,0,0,9999] 4 fun nm=>rE (gh (T:=58) underlying58 w ob 0 3 (dS b f key.length h bp true) (by (simp;done))) [7]<|bu [] 1 fun nm1=>vE 27 (.agg ⟨List.take 3 (List.drop 0 (dS b f key.length h bp true))⟩) (eX b f key.length h bp true) (by rfl)<|bj [14,14]<|bv (yL b f key.length h k1 y) [] []<|bj [0,13,14]<|rE (fy k b f key.length h key) [6]<|bj [14,12,0,0,13]<|cE (DS (nm 2)) [] [] ?_
 rintro x _
 exact zE<|lE 12 (nm 2) (.ob (.map #[⟨gu key,eX b f key.length h bp true,0⟩] 1)) (.pr (bB eS [(key,eX b f key.length h bp true)])) (mW eS key _ 0 1 (by omega))<|cE (vm x (nm 2) key (eX b f key.length h bp true) (.func (Fn.func 219) ⟨[]⟩ ⟨[bi (nm 3)]⟩)) [15,12] [] fun ⟨x1,x2⟩ _=>fE 16 x1 (bn 9 1 1 x2 [gu key]) bx fun hc1=>bu [9999,17,2,0,0,9999] 1 fun nm2=>rE (cx (T:=9) (e:=9) x1 0 1 1 x2 ([gu key]) (gu key)) [16]<|bj [17,10,13]<|rE (oh (T:=327) (kt:=9) (et:=58) underlying327 underlying9 (nm 2) ([(key,eX b f key.length h bp true)]) key (eX b f key.length h bp true) s) [12]<|bv (w7 p d r g Af nf cf kn wt pi cm lst na nfm N u steps t n c j a v b f h k l i key val K M m A k1 y B C L E F o W U D G H I h2 J q hc) [0,1,2,3,4,5,6] [8,9]<|bj [10,0,0,0,0,10,11]<|rT () 11
end
def iV (n:Nat):Vl:=.int .i64 n
theorem Cn (n:Nat) (h:n≤64):Same 314 #[i64 n] [] (.tuple #[i64 0,i64 0]):=iE func314<|bK [2,2,0,1,0] (br (dT ((↑n:Int)≤64)) (br (dF ((↑n:Int)>1024)) (br (show (decide ((↑n:Int)<0))=false by kernel_rfl) bt)))<|rT ()
theorem wi (kb c kn kc vb d a vc:Nat) (h1:1≤kn) (h2:kn≤32) (h3:a≤64):Same 214 #[sO kb c kn kc,sO vb d a vc] [] (.tuple #[i64 1,i64 0]):=by
 have b:((kn:Int)==0)=false:=by rw [beq_eq_false_iff_ne];omega
 exact iE func214<|zE<|bv (Cn a h3) [] []<|bK [0,2,2,0] (br (dF ((↑kn:Int)>32)) (br b bt))<|rT ()
theorem qD (n:Nat) (h:n≤64):Same 189 #[i64 n] [] (.tuple #[i64 ((8*n+4:Nat):Int),i64 0]):=iE func189<|bK [2,2,0] (br (dF ((↑n:Int)>64)) (br (show (decide ((↑n:Int)<0))=false by kernel_rfl) bt))<|vC 2 i64 (show IntKind.wrap .i64 (IntKind.wrap .i64 (8*(↑n:Int))+4)=(↑(8*n+4):Int) from (di (eT (di (j5 rfl rfl) (by omega)))))<|rT ()
theorem qR (n:Nat) (h1:1≤n) (h:n≤1000):Same 191 #[i64 n] [] (.tuple #[i64 ((4*n+2:Nat):Int),i64 0]):=iE func191<|bK [2,2,0] (br (dF ((↑n:Int)>1000)) (br (dF ((↑n:Int)<1)) bt))<|vC 2 i64 (show IntKind.wrap .i64 (IntKind.wrap .i64 (4*(↑n:Int))+2)=(↑(4*n+2):Int) from (di (eT (di (j5 rfl rfl) (by omega)))))<|rT ()
theorem G6 (b c q:Nat) (h1:1≤q) (h:q≤1000):Same 190 #[sA b 1 c,.func (.func 191) #[] #[]] [(b,.cl [i64 q] 3)] (.tuple #[i64 ((4*q+2:Nat):Int),i64 0]):=iE func190<|bj [2,0,0,9999,0]<|bv (qR q h1 h) [] []<|bj [0,0,0,0]<|vC 4 i64 (wI (0+(↑(4*q+2):Int)) (0+(4*q+2)))<|vE 4 (i64 ↑(0+(4*q+2))) (i64 ↑(4*q+2)) (by rw [Nat.zero_add];try rfl)<|rT ()
theorem DA (b c q N:Nat) (h1:1≤q) (h:q≤1000) (a:12+(4*q+2)≤N) (d:N≤4096):Same 107 #[i64 N,sA b 1 c] [(b,.cl [i64 q] 3)] (.tuple #[.bool true,i64 0]):=iE func107<|zE<|bv (qD 1 (by omega)) [] []<|bj [0,0]<|bv (G6 b c q h1 h) [0] []<|bK [0,0,1] (br (show (decide (IntKind.wrap .i64 (12+(↑(4*q+2):Int))≤(↑N:Int)))=true by (simp only [eE,dP,d6,dK,dl,decide_eq_true_eq,decide_eq_false_iff_not];omega)) bt)<|rT ()
theorem qN (n:Nat) (h:n<4294967296):bits .and .i64 n 4294967295=(n:Int):=by
 have a:(BitVec.ofInt 64 4294967295).toNat=2^32-1:=by decide
 have key:(BitVec.ofInt 64 (n:Int) &&& BitVec.ofInt 64 4294967295).toNat=((n:Int)%((2^64:Nat):Int)).toNat%2^32:=by
  rw [BitVec.toNat_and,BitVec.toNat_ofInt,a,Nat.and_two_pow_sub_one_eq_mod]
 show IntKind.i64.wrap ((BitVec.ofInt 64 (n:Int) &&& BitVec.ofInt 64 4294967295).toNat:Nat)=(n:Int)
 rw [key,dl]
 omega
theorem qY (n:Nat) (h:n<4294967296):(n:Int).fdiv (2^min (Int.toNat 32) IntKind.i64.bits)=0:=by
 show (n:Int).fdiv 4294967296=0
 rw [Int.fdiv_eq_ediv_of_nonneg _ (by decide)]
 omega
theorem vR (hb lb n l:Nat) (h:l+n<4294967296:=by omega):TT 215 #[i64 n,bi hb,bi lb] [] [(hb,.cl [i64 0] 3),(lb,.cl [i64 l] 3)] uT (fun _=>.returned (.tuple #[])) (fun _=>[(hb,.cl [i64 0] 3),(lb,.cl [i64 ((l+n:Nat):Int)] 3)]) (fun _=>[]):=by
 refine iE func215<|bj [0,0,1,1,0,1,0,1,1] ?_
 have a:=qN n (by omega)
 have b:=qY n (by omega)
 have c:IntKind.i64.wrap ((l:Int)+(n:Int))=((l+n:Nat):Int):=by rw [dl];omega
 have d:=qN (l+n) h
 have e:=qY (l+n) h
 have f:IntKind.i64.wrap 0=0:=rfl
 exact qE 0 hb (.cl [i64 (IntKind.wrap .i64 (IntKind.wrap .i64 (0+Int.fdiv (↑n:Int) (2^min (Int.toNat 32) (IntKind.bits .i64)))+Int.fdiv (IntKind.wrap .i64 ((↑l:Int)+bits .and .i64 n 4294967295)) (2^min (Int.toNat 32) (IntKind.bits .i64))))] 3) (.cl [i64 0] 3) (by simp only [a,b,c,d,e,f,Int.add_zero])<|qE 1 lb (.cl [i64 (bits .and .i64 (IntKind.wrap .i64 ((↑l:Int)+bits .and .i64 n 4294967295)) 4294967295)] 3) (.cl [i64 ↑(l+n)] 3) (by simp only [a,b,c,d,e,f])<|rT ()
def eJ (L:List Nat) (i:Nat):Nat:=((L.take i).map (·+1)).sum
theorem wn {L:List Nat} {i x:Nat} (h:L[i]?=some x):eJ L (i+1)=eJ L i+x+1:=by
 unfold eJ
 rw [List.take_add_one,h]
 simp [List.sum_append]
 omega
theorem CI {L:List Nat} {i:Nat}:eJ L i≤eJ L L.length:=by
 unfold eJ
 have:L.map (·+1)=(L.take i).map (·+1)++(L.drop i).map (·+1):=by rw [← List.map_append,List.take_append_drop]
 rw [List.take_length,this,List.sum_append]
 omega
theorem C8 (q ch:Nat) (b:q<2147483648) (hc:ch<2147483648):Same 148 #[i64 q,i64 ch,.slice none 0 0] [] (.bool (decide (ch>q))):=by
 have a:=qN q (by omega)
 have c:=qY q (by omega)
 exact iE func148<|bu [0,1] 2 fun nm=>bv (vR (nm 0) (nm 1) ch 0) [] [0,1]<|bK [1,0,0,0,2,0,1,0] (br (show (0 != Int.fdiv (↑q:Int) (2^min (Int.toNat 32) (IntKind.bits .i64)))=false by (simp_all;done)) bt)<|vE 6 (.bool (decide ((↑(0+ch):Int)>bits .and .i64 q 4294967295))) (.bool (decide (ch>q))) (by rw [a,Nat.zero_add];congr 1;exact decide_eq_decide.2 (by omega))<|rT ()
theorem Dg (q ch sb cap:Nat) (h:q<2147483648) (L:List Nat) (j:L.length≤1000) (hs:ch+eJ L L.length<2147483648):Same 148 #[i64 q,i64 ch,sA sb L.length cap] [(sb,.pr (bn 3 1 L.length cap (L.map iV)))] (.bool (decide (ch+eJ L L.length>q))):=by
 have b:=qN q (by omega)
 have c:=qY q (by omega)
 refine iE func148<|bu [1,2] 2 fun nm=>bv (vR (nm 0) (nm 1) ch 0) [] [1,2]<|zE<|qE 2 (nm 1) (.cl [i64 ↑(0+ch)] 3) (.cl [i64 ↑(ch+eJ L 0)] 3) (by rw [show 0+ch=ch+eJ L 0 from by simp [eJ]])<|cY (X:=Nat) (fun i=>i≤L.length) (fun i=>L.length-i) 41 (fun i=>[(0,i64 q),(7,bi (nm 0)),(8,bi (nm 1)),(9,.func (.func 215) #[] #[bi (nm 0),bi (nm 1)]),(17,sA sb L.length cap),(18,i64 L.length),(19,i64 i)]) (fun i=>[(sb,.pr (bn 3 1 L.length cap (L.map iV))),(nm 0,.cl [i64 0] 3),(nm 1,.cl [i64 ((ch+eJ L i:Nat):Int)] 3)]) 0 (by kernel_rfl) (by omega) fun i u J hi back=>?_
 rcases Nat.lt_or_ge i L.length with hlt | hge
 · obtain ⟨x,hx⟩:∃ x,L[i]?=some x:=⟨L[i],List.getElem?_eq_getElem hlt⟩
   have a:(L.map iV)[i]?=some (i64 x):=by rw [List.getElem?_map,hx];rfl
   have d:=wn hx
   have f:=CI (L:=L) (i:=i+1)
   exact bK [1,0] (br (dT ((↑i:Int)<(↑L.length:Int))) bt)<|rE (bL (t:=23) (e:=3) (k:=1) underlying23 .i64 sb 0 L.length cap i hlt) []<|mK (g7 (T:=3) sb 0 i (List.map iV L) (i64 x) a) [0] (Views.less (.pr (bn 3 1 L.length cap (List.map iV L))) ci Views.nil)<|zE<|bv (vR (nm 0) (nm 1) x (ch+eJ L i)) [] [1,2]<|zE<|bv (vR (nm 0) (nm 1) 1 (ch+eJ L i+x)) [] [1,2]<|zE<|qE 2 (nm 1) (.cl [i64 ↑(ch+eJ L i+x+1)] 3) (.cl [i64 ↑(ch+eJ L (i+1))] 3) (by rw [d,← Nat.add_assoc,← Nat.add_assoc])<|vC 19 i64 (wI ((↑i:Int)+1) (i+1))<|back _ (i+1) (by omega) (by omega) (by kernel_rfl)
 · obtain rfl:i=L.length:=by omega
   have g:((0:Int) != (q:Int).fdiv (2^min (Int.toNat 32) IntKind.i64.bits))=false:=by rw [c];rfl
   exact bK [2,0,1,2,0,2,0] (br g (br (dF ((↑L.length:Int)<(↑L.length:Int))) bt))<|vE 6 (.bool (decide ((↑(ch+eJ L L.length):Int)>bits .and .i64 q 4294967295))) (.bool (decide (ch+eJ L L.length>q))) (by rw [b];congr 1;exact decide_eq_decide.2 (by omega))<|rT ()
theorem ju (l:Bs) (h:l.length≤100000:=by omega):gq prog (vS (convert 9 27 (.string ⟨l.toArray⟩))) [] [] (fun _:Nat×Nat=>True) (fun x=>sA x.1 l.length x.2) (fun _=>[]) (fun x=>[(x.1,.fa (BF (pA x.1) l.length x.2 l))]):=by
 intro K w ho hk
 have hr:=run_bytes_of_string (P:=prog) w 9 27 5 ⟨l.toArray⟩ underlying9 underlying27 underlying5
 have d:(⟨l.toArray⟩:ByteArray).size=l.length:=by simp [ByteArray.size]
 rw [d] at hr
 have e:=grownCap_ge w l.length 0 5
 have f:=grownCap_le_maxLen w l.length 0 5 (by simp only [maxLen];omega)
 generalize hcap:grownCap w l.length 0 5=cap at *
 generalize hrow:bytesRow ⟨l.toArray⟩ cap=row at *
 have g:∀ j (hj:j<l.length),row[j]?=some (B8 l[j]):=fun j hj=>by
  rw [← hrow]
  exact bytesRow_at ⟨l.toArray⟩ cap j hj
 have c:(w.drew.alloc (.cells row 5 (row.size,row.size+1))).heap[w.heap.size]?=some (.cells row 5 (row.size,row.size+1)):=by
  show (w.heap.push _)[w.heap.size]?=_
  simp
 have i:∀ w':World,w'.heap[w.heap.size]?=some (.cells row 5 (row.size,row.size+1))→BF (pA w.heap.size) l.length cap l w':=fun w' hb=>by
  refine ⟨rfl,e,f,fun h0=>⟨_,_,rfl,fun j hj=>?_⟩⟩
  rw [Nat.zero_add,List.getD_eq_getElem?_getD,List.getElem?_eq_getElem hj,Option.getD_some]
  have:=g j hj
  simp only [World.cell?,hb]
  simpa using this
 refine ⟨_,w.drew.alloc (.cells row 5 (row.size,row.size+1)),⟨(w.heap.size,cap),fun b=>K b∨b=w.heap.size,trivial,.inl rfl,?_,⟨rfl,rfl,rfl,?_,fun b hb _=>?_⟩,fun b hb=>by simp [lv,SB.live] at hb,⟨fun b hb=>.inl hb,?_⟩,?_⟩,ce hr⟩
 · rw [jH]
   refine ⟨by simp [lv,SB.live],fun x hx hl=>?_⟩
   simp only [List.append_nil,List.nil_append,List.mem_singleton] at hx
   subst hx
   cases hl
 · show w.heap.size≤(w.heap.push _).size
   simp
 · show (w.heap.push _)[b]?=w.heap[b]?
   rw [Array.getElem?_push_lt hb]
   simp [hb]
 · rintro b (hb | rfl)
   · exact .inl hb
   · exact .inr (.inl (Nat.le_refl _))
 · rw [kT]
   refine ⟨?_,fun a p hx=>?_⟩
   · rintro b (hb | rfl)
     · refine ⟨?_,by simp [lv,SB.live]⟩
       have:=(hk.off b hb).1
       show b<(w.heap.push _).size
       simp;omega
     · refine ⟨?_,by simp [lv,SB.live]⟩
       show w.heap.size<(w.heap.push _).size
       simp
   · simp only [List.append_nil,List.nil_append,List.mem_singleton] at hx
     injection hx with _ hx
     injection hx with hx
     subst hx
     intro w' hw'
     exact i w' ((hw' _ (.inr rfl)).trans c)
end Go.Proofs.YtlkeemedalncoaaGreat.En
