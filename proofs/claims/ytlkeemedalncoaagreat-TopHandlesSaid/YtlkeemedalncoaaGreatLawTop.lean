/- The statement TopHandles holds of the given program, at every input (the last part of its proof; the parts before it hold what it leans on). Conditions: none. -/
import Derived.SizedLaws
import Derived.JoinedOf
import Derived.Test.YtlkeemedalncoaaGreatP30
set_option linter.all false
set_option maxHeartbeats 16000000
set_option maxRecDepth 100000
namespace Go.Proofs.YtlkeemedalncoaaGreat.En
open Go Go.RowKit Go.Proofs.YtlkeemedalncoaaGreat Go.Proofs.Tryz
structure L1P (v n0:Nat) (s:VS) (l:List (Nat×Nat)) (n i:Nat):Prop where
 lo:s.Lo c3 v (eQ 1 l) 0 0
 nn:n=l.length
 ct:s.cct=n
 gv:Giv l
 h0:l[0]?=some (15,0)
 ln:n≤i+1
 p0:0<n
 i0:i≤n0
 rb:∀ (k r b:Nat),l[k]?=some (r,b)→r<256
theorem topHandles_walk (O:Option Addr) (a c0:Nat) (c:Bs) (P:Option Addr) (B c1:Nat) (F:List Int) (V:Int) (aj:∀ j,-9223372036854775808≤F.getD j 0∧F.getD j 0≤9223372036854775807) (b2:-9223372036854775808≤V∧V≤9223372036854775807) :
 TT 5 #[.slice O a c0,.slice P B c1,i64 V] [(0,.fa (BF O a c0 c)),(0,.fa (IF P B F))] [] uT (fun _=>.returned (.bool true)) (fun _=>[]) (fun _=>[]):=by
 refine cJ func5 (by kernel_rfl) fun w0 ho=>fP 0 0 (BF O a c0 c) (fun w h=>h.len) fun hl0=>fP 1 0 (IF P B F) (fun w h=>h.1) fun hl1=>?_
 by_cases h6:6<a
 · exact bK [1,0] (br (dT ((↑a:Int)>6)) bt)<|bv rA [] []<|zE<|rT ()
 by_cases hb:B<a
 · exact bK [2,1,0] (br (dT ((↑B:Int)<(↑a:Int))) (br (dF ((↑a:Int)>6)) bt))<|bv rA [] []<|zE<|rT ()
 refine bK [2,2,0] (br (dF ((↑B:Int)<(↑a:Int))) (br (dF ((↑a:Int)>6)) bt))<|cE Du [] [] fun ⟨⟨x,x1,x3⟩,x4,x5,x6⟩ hx=>?_
 try dsimp only at hx
 refine fE 6 x5 (bn 27 1 3 x6 [sA x 16 16,sA x1 16 16,sA x3 16 16]) bx fun hc=>gW (t:=5) (l:=eB 1) 2 x4 32 (by (simp;done)) (by first | decide | (simp only [maxLen];omega))<|cV (Gr x4 x4 x5 x6 x x1 x3) [2,6,3,4,5] [] (Views.facts (Views.less (.pr (bn 27 1 3 x6 [sA x 16 16,sA x1 16 16,sA x3 16 16])) ci (Views.less (.cl (List.map B8 (dO 1 1)) 5) bA (Views.less (.cl (List.map B8 (dO 2 1)) 5) bA (Views.less (.cl (List.map B8 (dO 3 1)) 5) bA Views.nil))))) fun ⟨x7,x8⟩ ⟨hx1,hx2⟩=>?_
 try dsimp only at hx1 hx2
 refine bj [0]<|cE mj [] [] fun x9 _=>bj [9999]<|cE (FM x7 x8 hx1 hx2 x9 x9) [25] [7,8,9,10,11,12,13,14,15,16,17,18,19,20,21,22,23,24] fun x10 hx3=>bj [9999,0,0]<|cE mj [] [] fun x11 _=>bj [9999]<|cE (IC x10 (NwX.v x7) hx3 x11 x11) [51] [26,27,28,29,30,31,32,33,34,35,36,37,38,39,40,41,42,43,44,45,46,47,48,49,50] fun x12 ⟨hx4,hx5⟩=>bu [9999,9999,9999,9999] 3 fun nm=>wE ([0,1,78,79,80]++(List.range 26).map (·+52)) 2 ([(0,.fa (BF O a c0 c)),(0,.fa (IF P B F)),(nm 0,.cl [u64 38654705665] 25),(nm 1,.cl [u8 15] 38),(nm 2,.cl [i64 (-1)] 3)]++lH x12)<|lE 2 (nm 0) (.cl [u64 38654705665] 25) (.pr (bn 25 1 1 1 (g9 1))) (py 25 1 1 [u64 38654705665] rfl (by decide)) ?_
 refine lE 3 (nm 1) (.cl [u8 15] 38) (.pr (bn 38 1 1 1 (it [(15,0)]))) (py 38 1 1 [u8 15] rfl (by decide))<|lE 4 (nm 2) (.cl [i64 (-1)] 3) (.pr (bn 3 1 1 1 (jy [(15,0)]))) (py 3 1 1 [i64 (-1)] rfl (by decide))<|kq (X:=VS×List (Nat×Nat)×Nat×Nat×Nat×Nat×Nat×Nat×Nat×Nat) (fun y=>L1P x7.v a y.1 y.2.1 y.2.2.1 y.2.2.2.1) (fun y=>a-y.2.2.2.1) 270 (fun y=>[(0,.slice O a c0),(1,.slice P B c1),(2,i64 V),(6,.bool false),(7,bi x7.v),(9,ck y.2.2.2.2.1 y.2.2.1 y.2.2.2.2.2.1),(10,ck y.2.2.2.2.2.2.1 y.2.2.1 y.2.2.2.2.2.2.2.1),(11,ck y.2.2.2.2.2.2.2.2.1 y.2.2.1 y.2.2.2.2.2.2.2.2.2),(12,i64 y.2.2.2.1)]) (fun y=>[(0,.fa (BF O a c0 c)),(0,.fa (IF P B F)),(y.2.2.2.2.1,.pr (bn 25 1 y.2.2.1 y.2.2.2.2.2.1 (g9 y.2.2.1))),(y.2.2.2.2.2.2.1,.pr (bn 38 1 y.2.2.1 y.2.2.2.2.2.2.2.1 (it y.2.1))),(y.2.2.2.2.2.2.2.2.1,.pr (bn 3 1 y.2.2.1 y.2.2.2.2.2.2.2.2.2 (jy y.2.1)))]++lH y.1) (x12,[(15,0)],1,0,nm 0,1,nm 1,1,nm 2,1) ⟨by assumption,rfl,by assumption,Giv.one 15,rfl,Nat.le_refl 1,Nat.zero_lt_one,Nat.zero_le _,fun k r b h=>by have:=cj h;simp only [List.length_singleton] at this;obtain rfl:k=0:=(by omega);simp at h;omega⟩ fun ⟨s,l,n,i,lb,lc,hb,hc,ub,uc⟩ u J hpre back=>?_
 have C:s.Lo c3 x7.v (eQ 1 l) 0 0:=hpre.lo
 have Q:n=l.length:=hpre.nn
 have R:s.cct=n:=hpre.ct
 have H:Giv l:=hpre.gv
 have h0:l[0]?=some (15,0):=hpre.h0
 have ak:n≤i+1:=hpre.ln
 have E:0<n:=hpre.p0
 have am:i≤a:=hpre.i0
 have Y:∀ (k r b:Nat),l[k]?=some (r,b)→r<256:=hpre.rb
 clear hpre hx4 hx5 hx3
 by_cases hin:i<a
 · refine fP 0 0 (BF O a c0 c) (q:=∃ b o,O=some ⟨b,o,none⟩) (fun w h=>(h.at_ (by omega)).elim fun b hb=>hb.elim fun o ho=>⟨b,o,ho.1⟩) fun hA0=>fP 1 0 (IF P B F) (q:=∃ b o,P=some ⟨b,o,none⟩) (fun w h=>(h.2 (by omega)).elim fun b hb=>hb.elim fun o ho=>⟨b,o,ho.1⟩) fun hA1=>?_
   obtain ⟨rb,ro,rfl⟩:=hA0
   obtain ⟨yb,yo,rfl⟩:=hA1
   refine bK [1,0] (br (dT ((↑i:Int)<(↑a:Int))) bt)<|rE (bL (t:=23) (e:=3) (k:=1) underlying23 .i64 yb yo B c1 i (by omega)) []<|rE (BP (T:=3) (fun w=>by kernel_rfl) 0 yb yo B i F (by omega)) [1]<|bj [9999] ?_
   have Z:=vw ((IntKind.wrap .u64 (F.getD i 0)).toNat%n)
   obtain ⟨k,hk⟩:=Z
   have f:k<n:=by rw [← hk];exact Nat.mod_lt _ E
   refine ib 1 [9999] 0 _ bt fun _=>⟨by kernel_rfl,?_⟩
   refine rE (wJ 25 (.tmp 67) (.tmp 70) (F.getD i 0) (n:Int) _ n k (rN _) (dj) E hk) [] ?_
   have aa:∃ r b,l[k]?=some (r,b):=⟨_,_,getD_some (by omega)⟩
   obtain ⟨r,b,hrk⟩:=aa
   by_cases h8:bits .and .u8 (r:Int) 8=0
   · refine bj [9999]<|bj [9999,2147483616]<|vC 75 i64 (nI k)<|tW (.pointer (pO lb (0+k*1))) (bL (t:=56) (e:=25) (k:=1) underlying56 .i64 lb 0 n lc k f)<|tE (u64 ↑(hnd k)) [2] [(lb,.pr (bn 25 1 n lc (g9 n)))] (im lb n n lc k f)<|zE<|tW (.pointer (pO rb (ro+i*1))) (bL (t:=55) (e:=38) (k:=1) underlying55 .i64 rb ro a c0 i hin)<|tE (B8 (List.getD c i 0)) [0] [(0,.fa (BF (pO rb ro) a c0 c))] (dH (T:=38) 0 rb ro a c0 i c)<|bj [9999]<|ef (VS×Nat) (fun ⟨x13,nm1q⟩=>(x13=s)) 270 (fun ⟨x13,nm1q⟩=>[(0,sO rb ro a c0),(1,sO yb yo B c1),(2,i64 V),(6,.bool false),(7,bi (NwX.v x7)),(9,sA lb n lc),(10,sA hb n hc),(11,sA ub n uc),(12,i64 i),(13,i64 (IntKind.wrap .i64 k)),(14,bi nm1q)]) [.code (cZ f5 44),.code (cZ f5 45),.blk 1,.code (cZ f5 62),.lp J,.blk 0,.code (cZ f5 63)] (fun ⟨x13,nm1q⟩=>[(0,.fa (BF (pO rb ro) a c0 c)),(0,.fa (IF (pO yb yo) B F)),(lb,.pr (bn 25 1 n lc (g9 n))),(hb,.pr (bn 38 1 n hc (it l))),(ub,.pr (bn 3 1 n uc (jy l))),(VS.v x13,.cl (bU 200 100000 (sA (VS.vk x13) 32 (VS.vc x13)) (VS.d x13) (VS.rs x13) (VS.lg x13) true (VS.r x13) (VS.p x13) (VS.cm x13) (VS.pp x13) (VS.rc x13) 1 1 1 (VS.al x13)) 90),(VS.al x13,.pr (MU [(9,bi (VS.tn x13))])),(VS.tn x13,.cl [u32 9,i64 20,sA (VS.mb x13) 16 (VS.mc x13),u32 ↑(VS.rp x13),u64 ↑(VS.rc2 x13),u16 ↑(VS.rg2 x13),u8 0,i64 ↑(VS.ch x13),sA (VS.hb x13) 1 (VS.hc x13),bi (VS.cb x13),.map (some (VS.sh x13)),u64 ↑(VS.made x13)] 113),(VS.cb x13,.cl [.map (some (VS.ca x13)),u64 ↑(VS.cct x13)] 212),(VS.ca x13,.pr (MV (VS.A x13))),(VS.sh x13,.pr (MV (VS.SH x13))),(VS.r x13,.cl [.map (some (VS.m x13))] 182),(VS.m x13,.pr (bB eW (VS.G x13))),(VS.p x13,.cl (bM (VS.d x13) (VS.r x13) (VS.lg x13) (VS.Af x13) (VS.nf x13) (VS.cf x13) (VS.kn x13) (VS.wt x13) (VS.pu x13) (VS.dr x13) (VS.pi x13) 0 (VS.lst x13) (VS.fl x13)) 199),(VS.kn x13,.pr (MU (VS.K x13))),(VS.wt x13,.pr (MU (bF (VS.W x13)))),(VS.pi x13,.pr (MU (VS.I x13))),(VS.rs x13,.cl [bi (VS.d x13),u64 100000,u64 ↑(VS.cm x13),u64 ↑(VS.cm x13),VS.dv x13] 125),(VS.lg x13,.cl [VS.lv x13] 128),(VS.lb x13,x13.44),(VS.d x13,.cl [sA (VS.na x13) 200 200,sA (VS.nfm x13) 200 200,.slice none 0 0,u64 (VS.steps x13),i64 0,i64 (-1),.bool false] 123),(VS.na x13,.cl (bE (VS.now x13)) 166),(VS.nfm x13,.cl (bE (VS.firm x13)) 166),(0,.fa (bN (VS.Af x13) (VS.nf x13) (VS.cf x13) (VS.L x13))),(0,.fa (PgsF (VS.K x13) (VS.M x13))),(0,.fa (dw (VS.G x13) (VC.Kf c3))),(0,.fa (CF (VS.hb x13) 0 (cX 1 1 (VS.wb x13) (VS.wc x13)))),(0,.fa (BF (pA (VS.mb x13)) 16 (VS.mc x13) (VC.mark c3))),(0,.fa (BF (pA (VS.wb x13)) 32 (VS.wc x13) (VC.wr c3))),(0,.fa (BF (pA (VS.vk x13)) 32 (VS.vc x13) (VC.vkey c3))),(0,.fa (ShF 9 (VS.SH x13))),(nm1q,.cl [i64 250,u64 0,u64 0,.slice none 0 0,.slice none 0 0,i64 0,.slice none 0 0] 47)]) ([]) 2 (fun key=>?_) ?_
     · refine dq 10 11 ?_ ?_
       · exact cE (xM s (NwX.v x7) l k (UInt8.toNat (List.getD c i 0)) r b C hrk (by omega) h8) [] [5,6,7,8,9,10,11,12,13,14,15,16,17,18,19,20,21,22,23,24,25,26,27,28,29,30] fun x13 hx3=>bu [57] 1 fun nm1=>jT [0,1,2,3,4,31,32,33,34,35,36,37,38,39,40,41,42,43,44,45,46,47,48,49,50,51,52,53,54,55,56,57] (fun u=>key (x13,nm1 0) u (by first | assumption | omega))
       · exact bu [] 1 fun nm1=>cE (xM s (NwX.v x7) l k (UInt8.toNat (List.getD c i 0)) r b C hrk (by omega) h8) [] [5,6,7,8,9,10,11,12,13,14,15,16,17,18,19,20,21,22,23,24,25,26,27,28,29,30] fun x13 hx3=>bj [31]<|jT [0,1,2,3,4,32,33,34,35,36,37,38,39,40,41,42,43,44,45,46,47,48,49,50,51,52,53,54,55,56,57,31] (fun u=>key (x13,nm1 0) u (by first | assumption | omega))
     rintro ⟨x13,nm1q⟩ u1 hx3
     exact bj [9999,0]<|vC 85 i64 (nI k)<|tW (.pointer (pO hb (0+k*1))) (bL (t:=55) (e:=38) (k:=1) underlying55 .i64 hb 0 n hc k f)<|tE (u8 r) [3] [(hb,.pr (bn 38 1 n hc (it l)))] (jY hb n hc k r b l hrk)<|bK [2,31,0,0,31,0,0,0] (br (tF (bits .and .u8 r 8 != 0)) bt)<|vC 12 i64 (show IntKind.wrap .i64 ((i:Int)+1)=((i+1:Nat):Int) from (di (eT)))<|back _ (x13,l,n,i+1,lb,lc,hb,hc,ub,uc) (List.range 31) (show L1P x7.v a x13 l n (i+1) from ⟨by rw [hx3];exact C,Q,by rw [hx3];exact R,H,h0,by omega,E,by omega,Y⟩) (by dsimp only;omega) (by kernel_rfl)
   by_cases hr:(cM (c.getD i 0).toNat r != 0)=true
   · refine bj [9999]<|bj [9999,2147483616]<|vC 75 i64 (nI k)<|tW (.pointer (pO lb (0+k*1))) (bL (t:=56) (e:=25) (k:=1) underlying56 .i64 lb 0 n lc k f)<|tE (u64 ↑(hnd k)) [2] [(lb,.pr (bn 25 1 n lc (g9 n)))] (im lb n n lc k f)<|zE<|tW (.pointer (pO rb (ro+i*1))) (bL (t:=55) (e:=38) (k:=1) underlying55 .i64 rb ro a c0 i hin)<|tE (B8 (List.getD c i 0)) [0] [(0,.fa (BF (pO rb ro) a c0 c))] (dH (T:=38) 0 rb ro a c0 i c)<|bj [9999]<|ef (VS×Nat) (fun ⟨x13,nm1q⟩=>(x13=s)) 270 (fun ⟨x13,nm1q⟩=>[(0,sO rb ro a c0),(1,sO yb yo B c1),(2,i64 V),(6,.bool false),(7,bi (NwX.v x7)),(9,sA lb n lc),(10,sA hb n hc),(11,sA ub n uc),(12,i64 i),(13,i64 (IntKind.wrap .i64 k)),(14,bi nm1q)]) [.code (cZ f5 44),.code (cZ f5 45),.blk 1,.code (cZ f5 62),.lp J,.blk 0,.code (cZ f5 63)] (fun ⟨x13,nm1q⟩=>[(0,.fa (BF (pO rb ro) a c0 c)),(0,.fa (IF (pO yb yo) B F)),(lb,.pr (bn 25 1 n lc (g9 n))),(hb,.pr (bn 38 1 n hc (it l))),(ub,.pr (bn 3 1 n uc (jy l))),(VS.v x13,.cl (bU 200 100000 (sA (VS.vk x13) 32 (VS.vc x13)) (VS.d x13) (VS.rs x13) (VS.lg x13) true (VS.r x13) (VS.p x13) (VS.cm x13) (VS.pp x13) (VS.rc x13) 1 1 1 (VS.al x13)) 90),(VS.al x13,.pr (MU [(9,bi (VS.tn x13))])),(VS.tn x13,.cl [u32 9,i64 20,sA (VS.mb x13) 16 (VS.mc x13),u32 ↑(VS.rp x13),u64 ↑(VS.rc2 x13),u16 ↑(VS.rg2 x13),u8 0,i64 ↑(VS.ch x13),sA (VS.hb x13) 1 (VS.hc x13),bi (VS.cb x13),.map (some (VS.sh x13)),u64 ↑(VS.made x13)] 113),(VS.cb x13,.cl [.map (some (VS.ca x13)),u64 ↑(VS.cct x13)] 212),(VS.ca x13,.pr (MV (VS.A x13))),(VS.sh x13,.pr (MV (VS.SH x13))),(VS.r x13,.cl [.map (some (VS.m x13))] 182),(VS.m x13,.pr (bB eW (VS.G x13))),(VS.p x13,.cl (bM (VS.d x13) (VS.r x13) (VS.lg x13) (VS.Af x13) (VS.nf x13) (VS.cf x13) (VS.kn x13) (VS.wt x13) (VS.pu x13) (VS.dr x13) (VS.pi x13) 0 (VS.lst x13) (VS.fl x13)) 199),(VS.kn x13,.pr (MU (VS.K x13))),(VS.wt x13,.pr (MU (bF (VS.W x13)))),(VS.pi x13,.pr (MU (VS.I x13))),(VS.rs x13,.cl [bi (VS.d x13),u64 100000,u64 ↑(VS.cm x13),u64 ↑(VS.cm x13),VS.dv x13] 125),(VS.lg x13,.cl [VS.lv x13] 128),(VS.lb x13,x13.44),(VS.d x13,.cl [sA (VS.na x13) 200 200,sA (VS.nfm x13) 200 200,.slice none 0 0,u64 (VS.steps x13),i64 0,i64 (-1),.bool false] 123),(VS.na x13,.cl (bE (VS.now x13)) 166),(VS.nfm x13,.cl (bE (VS.firm x13)) 166),(0,.fa (bN (VS.Af x13) (VS.nf x13) (VS.cf x13) (VS.L x13))),(0,.fa (PgsF (VS.K x13) (VS.M x13))),(0,.fa (dw (VS.G x13) (VC.Kf c3))),(0,.fa (CF (VS.hb x13) 0 (cX 1 1 (VS.wb x13) (VS.wc x13)))),(0,.fa (BF (pA (VS.mb x13)) 16 (VS.mc x13) (VC.mark c3))),(0,.fa (BF (pA (VS.wb x13)) 32 (VS.wc x13) (VC.wr c3))),(0,.fa (BF (pA (VS.vk x13)) 32 (VS.vc x13) (VC.vkey c3))),(0,.fa (ShF 9 (VS.SH x13))),(nm1q,.cl [i64 250,u64 0,u64 0,.slice none 0 0,.slice none 0 0,i64 0,.slice none 0 0] 47)]) ([]) 2 (fun key=>?_) ?_
     · refine dq 10 11 ?_ ?_
       · exact cE (xy s (NwX.v x7) l k (UInt8.toNat (List.getD c i 0)) r b C hrk (by omega) h8 hr) [] [5,6,7,8,9,10,11,12,13,14,15,16,17,18,19,20,21,22,23,24,25,26,27,28,29,30] fun x13 hx3=>bu [57] 1 fun nm1=>jT [0,1,2,3,4,31,32,33,34,35,36,37,38,39,40,41,42,43,44,45,46,47,48,49,50,51,52,53,54,55,56,57] (fun u=>key (x13,nm1 0) u (by first | assumption | omega))
       · exact bu [] 1 fun nm1=>cE (xy s (NwX.v x7) l k (UInt8.toNat (List.getD c i 0)) r b C hrk (by omega) h8 hr) [] [5,6,7,8,9,10,11,12,13,14,15,16,17,18,19,20,21,22,23,24,25,26,27,28,29,30] fun x13 hx3=>bj [31]<|jT [0,1,2,3,4,32,33,34,35,36,37,38,39,40,41,42,43,44,45,46,47,48,49,50,51,52,53,54,55,56,57,31] (fun u=>key (x13,nm1 0) u (by first | assumption | omega))
     rintro ⟨x13,nm1q⟩ u1 hx3
     refine bj [9999,0]<|vC 85 i64 (nI k)<|tW (.pointer (pO hb (0+k*1))) (bL (t:=55) (e:=38) (k:=1) underlying55 .i64 hb 0 n hc k f)<|tE (u8 r) [3] [(hb,.pr (bn 38 1 n hc (it l)))] (jY hb n hc k r b l hrk)<|bK [1] (br (tT (bits .and .u8 r 8 != 0)) bt)<|tE (.pointer (pO rb (ro+i*1))) [] [] (bL (t:=55) (e:=38) (k:=1) underlying55 .i64 rb ro a c0 i hin)<|tE (B8 (List.getD c i 0)) [0] [(0,.fa (BF (pO rb ro) a c0 c))] (dH (T:=38) 0 rb ro a c0 i c)<|zE<|vC 96 i64 (nI k)<|tE (.pointer (pO hb (0+k*1))) [] [] (bL (t:=55) (e:=38) (k:=1) underlying55 .i64 hb 0 n hc k f)<|tE (u8 r) [3] [(hb,.pr (bn 38 1 n hc (it l)))] (jY hb n hc k r b l hrk) ?_
     refine bj [0,31,0] ?_
     rw [bne,Bool.not_eq_true'] at hr
     exact vE 102 (.bool (cM (c.getD i 0).toNat r==0)) (.bool false) (congrArg Value.bool hr)<|vE 15 (.bool (cM (c.getD i 0).toNat r==0)) (.bool false) (congrArg Value.bool hr)<|bj [0,31,0,0,0]<|vC 12 i64 (show IntKind.wrap .i64 ((i:Int)+1)=((i+1:Nat):Int) from (di (eT)))<|back _ (x13,l,n,i+1,lb,lc,hb,hc,ub,uc) (List.range 31) (show L1P x7.v a x13 l n (i+1) from ⟨by rw [hx3];exact C,Q,by rw [hx3];exact R,H,h0,by omega,E,by omega,Y⟩) (by dsimp only;omega) (by kernel_rfl)
   have S:(cM (c.getD i 0).toNat r != 0)=false:=by simpa using hr
   refine bj [9999]<|bj [9999,2147483616]<|vC 75 i64 (nI k)<|tW (.pointer (pO lb (0+k*1))) (bL (t:=56) (e:=25) (k:=1) underlying56 .i64 lb 0 n lc k f)<|tE (u64 ↑(hnd k)) [2] [(lb,.pr (bn 25 1 n lc (g9 n)))] (im lb n n lc k f)<|zE<|tW (.pointer (pO rb (ro+i*1))) (bL (t:=55) (e:=38) (k:=1) underlying55 .i64 rb ro a c0 i hin)<|tE (B8 (List.getD c i 0)) [0] [(0,.fa (BF (pO rb ro) a c0 c))] (dH (T:=38) 0 rb ro a c0 i c)<|bj [9999]<|ef (VS×Nat) (fun ⟨x13,nm1q⟩=>(VS.Lo c3 x13 (NwX.v x7) (eQ 1 (l++[(UInt8.toNat (List.getD c i 0),k+1)])) 0 0)∧(VS.cct x13=n+1)) 270 (fun ⟨x13,nm1q⟩=>[(0,sO rb ro a c0),(1,sO yb yo B c1),(2,i64 V),(6,.bool false),(7,bi (NwX.v x7)),(9,sA lb n lc),(10,sA hb n hc),(11,sA ub n uc),(12,i64 i),(13,i64 (IntKind.wrap .i64 k)),(14,bi nm1q)]) [.code (cZ f5 44),.code (cZ f5 45),.blk 1,.code (cZ f5 62),.lp J,.blk 0,.code (cZ f5 63)] (fun ⟨x13,nm1q⟩=>[(0,.fa (BF (pO rb ro) a c0 c)),(0,.fa (IF (pO yb yo) B F)),(lb,.pr (bn 25 1 n lc (g9 n))),(hb,.pr (bn 38 1 n hc (it l))),(ub,.pr (bn 3 1 n uc (jy l))),(VS.v x13,.cl (bU 200 100000 (sA (VS.vk x13) 32 (VS.vc x13)) (VS.d x13) (VS.rs x13) (VS.lg x13) true (VS.r x13) (VS.p x13) (VS.cm x13) (VS.pp x13) (VS.rc x13) 1 1 1 (VS.al x13)) 90),(VS.al x13,.pr (MU [(9,bi (VS.tn x13))])),(VS.tn x13,.cl [u32 9,i64 20,sA (VS.mb x13) 16 (VS.mc x13),u32 ↑(VS.rp x13),u64 ↑(VS.rc2 x13),u16 ↑(VS.rg2 x13),u8 0,i64 ↑(VS.ch x13),sA (VS.hb x13) 1 (VS.hc x13),bi (VS.cb x13),.map (some (VS.sh x13)),u64 ↑(VS.made x13)] 113),(VS.cb x13,.cl [.map (some (VS.ca x13)),u64 ↑(VS.cct x13)] 212),(VS.ca x13,.pr (MV (VS.A x13))),(VS.sh x13,.pr (MV (VS.SH x13))),(VS.r x13,.cl [.map (some (VS.m x13))] 182),(VS.m x13,.pr (bB eW (VS.G x13))),(VS.p x13,.cl (bM (VS.d x13) (VS.r x13) (VS.lg x13) (VS.Af x13) (VS.nf x13) (VS.cf x13) (VS.kn x13) (VS.wt x13) (VS.pu x13) (VS.dr x13) (VS.pi x13) 0 (VS.lst x13) (VS.fl x13)) 199),(VS.kn x13,.pr (MU (VS.K x13))),(VS.wt x13,.pr (MU (bF (VS.W x13)))),(VS.pi x13,.pr (MU (VS.I x13))),(VS.rs x13,.cl [bi (VS.d x13),u64 100000,u64 ↑(VS.cm x13),u64 ↑(VS.cm x13),VS.dv x13] 125),(VS.lg x13,.cl [VS.lv x13] 128),(VS.lb x13,x13.44),(VS.d x13,.cl [sA (VS.na x13) 200 200,sA (VS.nfm x13) 200 200,.slice none 0 0,u64 (VS.steps x13),i64 0,i64 (-1),.bool false] 123),(VS.na x13,.cl (bE (VS.now x13)) 166),(VS.nfm x13,.cl (bE (VS.firm x13)) 166),(0,.fa (bN (VS.Af x13) (VS.nf x13) (VS.cf x13) (VS.L x13))),(0,.fa (PgsF (VS.K x13) (VS.M x13))),(0,.fa (dw (VS.G x13) (VC.Kf c3))),(0,.fa (CF (VS.hb x13) 0 (cX 1 1 (VS.wb x13) (VS.wc x13)))),(0,.fa (BF (pA (VS.mb x13)) 16 (VS.mc x13) (VC.mark c3))),(0,.fa (BF (pA (VS.wb x13)) 32 (VS.wc x13) (VC.wr c3))),(0,.fa (BF (pA (VS.vk x13)) 32 (VS.vc x13) (VC.vkey c3))),(0,.fa (ShF 9 (VS.SH x13))),(nm1q,.cl [i64 0,u64 ↑(hnd n),u64 0,.slice none 0 0,.slice none 0 0,i64 0,.slice none 0 0] 47)]) ([]) 2 (fun key=>?_) ?_
   · refine dq 10 11 ?_ ?_
     · exact cE (tI s (NwX.v x7) n l k (UInt8.toNat (List.getD c i 0)) r b C Q R hrk (by omega) h8 S) [] [5,6,7,8,9,10,11,12,13,14,15,16,17,18,19,20,21,22,23,24,25,26,27,28,29,30] fun x13 ⟨hx3,hx4⟩=>bu [57] 1 fun nm1=>jT [0,1,2,3,4,31,32,33,34,35,36,37,38,39,40,41,42,43,44,45,46,47,48,49,50,51,52,53,54,55,56,57] (fun u=>key (x13,nm1 0) u ⟨by first | assumption | omega,by first | assumption | omega⟩)
     · exact bu [] 1 fun nm1=>cE (tI s (NwX.v x7) n l k (UInt8.toNat (List.getD c i 0)) r b C Q R hrk (by omega) h8 S) [] [5,6,7,8,9,10,11,12,13,14,15,16,17,18,19,20,21,22,23,24,25,26,27,28,29,30] fun x13 ⟨hx3,hx4⟩=>bj [31]<|jT [0,1,2,3,4,32,33,34,35,36,37,38,39,40,41,42,43,44,45,46,47,48,49,50,51,52,53,54,55,56,57,31] (fun u=>key (x13,nm1 0) u ⟨by first | assumption | omega,by first | assumption | omega⟩)
   rintro ⟨x13,nm1q⟩ u1 ⟨hx3,hx4⟩
   refine bj [9999,0]<|vC 85 i64 (nI k)<|tW (.pointer (pO hb (0+k*1))) (bL (t:=55) (e:=38) (k:=1) underlying55 .i64 hb 0 n hc k f)<|tE (u8 r) [3] [(hb,.pr (bn 38 1 n hc (it l)))] (jY hb n hc k r b l hrk)<|bK [1] (br (tT (bits .and .u8 r 8 != 0)) bt)<|tE (.pointer (pO rb (ro+i*1))) [] [] (bL (t:=55) (e:=38) (k:=1) underlying55 .i64 rb ro a c0 i hin)<|tE (B8 (List.getD c i 0)) [0] [(0,.fa (BF (pO rb ro) a c0 c))] (dH (T:=38) 0 rb ro a c0 i c)<|zE<|vC 96 i64 (nI k)<|tE (.pointer (pO hb (0+k*1))) [] [] (bL (t:=55) (e:=38) (k:=1) underlying55 .i64 hb 0 n hc k f)<|tE (u8 r) [3] [(hb,.pr (bn 38 1 n hc (it l)))] (jY hb n hc k r b l hrk) ?_
   refine bj [0,31,0] ?_
   rw [bne,Bool.not_eq_false'] at S
   refine vE 102 (.bool (cM (c.getD i 0).toNat r==0)) (.bool true) (congrArg Value.bool S)<|vE 15 (.bool (cM (c.getD i 0).toNat r==0)) (.bool true) (congrArg Value.bool S)<|bu [0,0,0,31,9999] 1 fun nm1=>xV (gH (t:=56) (e:=25) (ty:=56) (k:=1) (by_:=8) (z:=u64 0) underlying56 lb n lc (g9 n) (nm1 0) 1 1 ([u64 ↑(hnd n)])) [32] [2] (Views.less (.cl [u64 ↑(hnd n)] 25) bA Views.nil) fun ⟨x14,x15⟩ _=>fE 33 x14 (bn 25 1 (n+1) x15 (g9 n++[u64 ↑(hnd n)])) bx fun hc1=>zE<|rE (bL (t:=55) (e:=38) (k:=1) underlying55 .i64 rb ro a c0 i hin) []<|rE (dH (T:=38) 0 rb ro a c0 i c) [0]<|bu [9999] 1 fun nm2=>xV (gH (t:=55) (e:=38) (ty:=55) (k:=1) (by_:=1) (z:=u8 0) underlying55 hb n hc (it l) (nm2 0) 1 1 ([u8 ↑(UInt8.toNat (List.getD c i 0))])) [34] [3] (Views.less (.cl [u8 ↑(UInt8.toNat (List.getD c i 0))] 38) bA Views.nil) fun ⟨x16,x17⟩ _=>fE 35 x16 (bn 38 1 (n+1) x17 (it l++[u8 ↑(UInt8.toNat (List.getD c i 0))])) bx fun hc2=>?_
   exact bu [9999] 1 fun nm3=>qE 36 (nm3 0) (.cl [i64 (IntKind.wrap .i64 k)] 3) (.cl [i64 k] 3) (by rw [show IntKind.wrap .i64 k=(↑k:Int) from (di rfl)])<|xV (gH (t:=23) (e:=3) (ty:=23) (k:=1) (by_:=8) (z:=i64 0) underlying23 ub n uc (jy l) (nm3 0) 1 1 ([i64 k])) [36] [4] (Views.less (.cl [i64 k] 3) bA Views.nil) fun ⟨x18,x19⟩ _=>fE 37 x18 (bn 3 1 (n+1) x19 (jy l++[i64 k])) bx fun hc3=>zE<|qE 33 x14 (.pr (bn 25 1 (n+1) x15 (g9 n++[u64 (hnd n:Int)]))) (.pr (bn 25 1 (n+1) x15 (g9 (n+1)))) (by rw [yq])<|qE 35 x16 (.pr (bn 38 1 (n+1) x17 (it l++[u8 ((c.getD i 0).toNat:Int)]))) (.pr (bn 38 1 (n+1) x17 (it (l++[((c.getD i 0).toNat,k+1)])))) (by rw [yw])<|qE 37 x18 (.pr (bn 3 1 (n+1) x19 (jy l++[i64 k]))) (.pr (bn 3 1 (n+1) x19 (jy (l++[((c.getD i 0).toNat,k+1)])))) (by rw [← yt])<|vC 12 i64 (show IntKind.wrap .i64 ((i:Int)+1)=((i+1:Nat):Int) from (di (eT)))<|back _ (x13,l++[((c.getD i 0).toNat,k+1)],n+1,i+1,x14,x15,x16,x17,x18,x19) ([0,1,33,35,37]++(List.range 26).map (·+5)) (show L1P x7.v a x13 (l++[((c.getD i 0).toNat,k+1)]) (n+1) (i+1) from ⟨hx3,by rw [List.length_append,List.length_singleton,Q],hx4,H.snoc (by omega),by rw [List.getElem?_append_left (by omega)];exact h0,by omega,by omega,by omega,fun q r2 b2 h=>by
    rcases Nat.lt_or_ge q l.length with hq | hq
    · rw [List.getElem?_append_left hq] at h;exact Y q r2 b2 h
    · rw [List.getElem?_append_right hq] at h
      have h2:=cj h
      simp only [List.length_singleton] at h2
      rw [show q-l.length=0 by omega] at h
      have h3:=congrArg Prod.fst (Option.some.inj h)
      have h4:=(c.getD i 0).toNat_lt
      simp only at h3
      omega⟩) (by dsimp only;omega) (by kernel_rfl)
 clear back
 have ah:i=a:=by omega
 refine bK [2,0,9999] (br (dF ((↑i:Int)<(↑a:Int))) bt) ?_
 have Z:=vw ((IntKind.wrap .u64 V).toNat%n)
 obtain ⟨g,hg⟩:=Z
 have ad:g<n:=by rw [← hg];exact Nat.mod_lt _ E
 refine ib 1 [9999] 0 _ bt fun _=>⟨by kernel_rfl,?_⟩
 refine rE (wJ 25 (.tmp 134) (.tmp 137) V (n:Int) _ n g (rN _) (dj) E hg) []<|bj [9999]<|bj [9999,2147483616]<|tW (.pointer (pO lb (0+0*1))) (bL (t:=56) (e:=25) (k:=1) underlying56 .i64 lb 0 n lc 0 E)<|tE (u64 ↑(hnd 0)) [2] [(lb,.pr (bn 25 1 n lc (g9 n)))] (im lb n n lc 0 E)<|zE<|vC 145 i64 (nI g)<|tW (.pointer (pO lb (0+g*1))) (bL (t:=56) (e:=25) (k:=1) underlying56 .i64 lb 0 n lc g ad)<|tE (u64 ↑(hnd g)) [2] [(lb,.pr (bn 25 1 n lc (g9 n)))] (im lb n n lc g ad)<|bj [9999]<|cE (IB s (NwX.v x7) l C H 0 h0 (by omega) g (by omega)) [] [5,6,7,8,9,10,11,12,13,14,15,16,17,18,19,20,21,22,23,24,25,26,27,28,29,30] ?_
 rintro ⟨x13,x14⟩ ⟨hx3,hx4⟩
 try dsimp only at hx3 hx4
 refine bj [9999,0,0]<|kE 270 [(6,.bool false),(7,bi (NwX.v x7)),(9,sA lb n lc),(10,sA hb n hc),(11,sA ub n uc),(16,i64 (IntKind.wrap .i64 g)),(17,i64 0)] [.code (cZ f5 77),.blk 2,.code (cZ f5 125)] [(0,.fa (BF O a c0 c)),(0,.fa (IF P B F)),(lb,.pr (bn 25 1 n lc (g9 n))),(hb,.pr (bn 38 1 n hc (it l))),(ub,.pr (bn 3 1 n uc (jy l))),(s.1,.dead),(s.2,.dead),(s.3,.dead),(s.4,.dead),(s.5,.dead),(s.6,.dead),(s.7,.dead),(s.8,.dead),(s.9,.dead),(s.10,.dead),(s.11,.dead),(s.12,.dead),(s.13,.dead),(s.14,.dead),(s.15,.dead),(s.16,.dead),(s.17,.dead),(s.18,.dead),(0,.dead),(0,.dead),(0,.dead),(0,.dead),(0,.dead),(0,.dead),(0,.dead),(0,.dead),(VS.v x13,.cl (bU 200 100000 (sA (VS.vk x13) 32 (VS.vc x13)) (VS.d x13) (VS.rs x13) (VS.lg x13) true (VS.r x13) (VS.p x13) (VS.cm x13) (VS.pp x13) (VS.rc x13) 1 1 1 (VS.al x13)) 90),(VS.al x13,.pr (MU [(9,bi (VS.tn x13))])),(VS.tn x13,.cl [u32 9,i64 20,sA (VS.mb x13) 16 (VS.mc x13),u32 ↑(VS.rp x13),u64 ↑(VS.rc2 x13),u16 ↑(VS.rg2 x13),u8 0,i64 ↑(VS.ch x13),sA (VS.hb x13) 1 (VS.hc x13),bi (VS.cb x13),.map (some (VS.sh x13)),u64 ↑(VS.made x13)] 113),(VS.cb x13,.cl [.map (some (VS.ca x13)),u64 ↑(VS.cct x13)] 212),(VS.ca x13,.pr (MV (VS.A x13))),(VS.sh x13,.pr (MV (VS.SH x13))),(VS.r x13,.cl [.map (some (VS.m x13))] 182),(VS.m x13,.pr (bB eW (VS.G x13))),(VS.p x13,.cl (bM (VS.d x13) (VS.r x13) (VS.lg x13) (VS.Af x13) (VS.nf x13) (VS.cf x13) (VS.kn x13) (VS.wt x13) (VS.pu x13) (VS.dr x13) (VS.pi x13) 0 (VS.lst x13) (VS.fl x13)) 199),(VS.kn x13,.pr (MU (VS.K x13))),(VS.wt x13,.pr (MU (bF (VS.W x13)))),(VS.pi x13,.pr (MU (VS.I x13))),(VS.rs x13,.cl [bi (VS.d x13),u64 100000,u64 ↑(VS.cm x13),u64 ↑(VS.cm x13),VS.dv x13] 125),(VS.lg x13,.cl [VS.lv x13] 128),(VS.lb x13,x13.44),(VS.d x13,.cl [sA (VS.na x13) 200 200,sA (VS.nfm x13) 200 200,.slice none 0 0,u64 (VS.steps x13),i64 0,i64 (-1),.bool false] 123),(VS.na x13,.cl (bE (VS.now x13)) 166),(VS.nfm x13,.cl (bE (VS.firm x13)) 166),(0,.fa (bN (VS.Af x13) (VS.nf x13) (VS.cf x13) (VS.L x13))),(0,.fa (PgsF (VS.K x13) (VS.M x13))),(0,.fa (dw (VS.G x13) (VC.Kf c3))),(0,.fa (CF (VS.hb x13) 0 (cX 1 1 (VS.wb x13) (VS.wc x13)))),(0,.fa (BF (pA (VS.mb x13)) 16 (VS.mc x13) (VC.mark c3))),(0,.fa (BF (pA (VS.wb x13)) 32 (VS.wc x13) (VC.wr c3))),(0,.fa (BF (pA (VS.vk x13)) 32 (VS.vc x13) (VC.vkey c3))),(0,.fa (ShF 9 (VS.SH x13)))] ([]) 2 fun u1=>vC 16 i64 (nI g)<|wE ([0,1,2,3,4]++(List.range 26).map (·+31)) 2 ([(0,.fa (BF O a c0 c)),(0,.fa (IF P B F)),(lb,.pr (bn 25 1 n lc (g9 n))),(hb,.pr (bn 38 1 n hc (it l))),(ub,.pr (bn 3 1 n uc (jy l)))]++lH x13)<|kq (X:=VS×Nat) (fun y=>y.1.Lo c3 x7.v x14 y.2 y.2∧y.2≤n) (fun y=>n-y.2) 270 (fun y=>[(6,.bool false),(7,bi x7.v),(9,ck lb n lc),(10,ck hb n hc),(11,ck ub n uc),(16,i64 g),(17,i64 y.2)]) (fun y=>[(0,.fa (BF O a c0 c)),(0,.fa (IF P B F)),(lb,.pr (bn 25 1 n lc (g9 n))),(hb,.pr (bn 38 1 n hc (it l))),(ub,.pr (bn 3 1 n uc (jy l)))]++lH y.1) (x13,0) ⟨hx3,Nat.zero_le _⟩ fun ⟨s2,j⟩ u2 J2 hpre2 back2=>?_
 have ab:s2.Lo c3 x7.v x14 j j:=hpre2.1
 have an:j≤n:=hpre2.2
 clear hpre2 hx3 C R
 by_cases hj:j<n
 · have aa:∃ r b,l[j]?=some (r,b):=⟨_,_,getD_some (by omega)⟩
   obtain ⟨r,b,hrk⟩:=aa
   have N:r<256:=Y j r b hrk
   have hA:=hx4 j (r,b) hrk
   dsimp only at hA
   have ag:=vw (jX l g (j+2) j)
   obtain ⟨D,hD⟩:=ag
   rw [hD] at hA
   refine bK [1,0] (br (dT ((↑j:Int)<(↑n:Int))) bt)<|vC 19 i64 (show (j:Int)=((j+1:Nat):Int)-1 from (by omega))<|kq (X:=Bool×Nat) (fun y=>(y.1||qr l g y.2)=D∧y.2≤n) (fun y=>y.2) 270 (fun y=>[(6,.bool false),(7,bi x7.v),(9,ck lb n lc),(10,ck hb n hc),(11,ck ub n uc),(16,i64 g),(17,i64 j),(18,.bool y.1),(19,i64 ((y.2:Int)-1))]) (fun _=>[(0,.fa (BF O a c0 c)),(0,.fa (IF P B F)),(lb,.pr (bn 25 1 n lc (g9 n))),(hb,.pr (bn 38 1 n hc (it l))),(ub,.pr (bn 3 1 n uc (jy l)))]++lH s2) (false,j+1) ⟨by rw [Bool.false_or,FO H,hD],hj⟩ fun ⟨dd,m⟩ u3 J3 hpre3 back3=>?_
   have U:(dd||qr l g m)=D:=hpre3.1
   have ao:m≤n:=hpre3.2
   clear hpre3
   by_cases hm:0<m
   · obtain ⟨q,rfl⟩:∃ q,m=q+1:=⟨m-1,by omega⟩
     refine vC 19 i64 (show ((q+1:Nat):Int)-1=(q:Int) from (by omega)) ?_
     have ae:∃ r2 b2,l[q]?=some (r2,b2):=⟨_,_,getD_some (by omega)⟩
     obtain ⟨r2,b3,hrk2⟩:=ae
     have hM:=GD H g q r2 b3 hrk2
     have ap:b3≤q:=H.le q _ hrk2
     rcases dd with _ | _
     · by_cases e:q=g
       · exact bK [1,0,1] (br (tT ((↑q:Int)==(↑g:Int))) (br (show (decide ((↑q:Int)≥0))=true by kernel_rfl) bt))<|rE (bL (t:=23) (e:=3) (k:=1) underlying23 .i64 ub 0 n uc q (by omega)) []<|rE (ta ub n uc q r2 b3 l hrk2) [4]<|zE<|back3 _ (true,b3) (List.range 31) ⟨by rw [← U,hM,e];simp,by dsimp only;omega⟩ (by dsimp only;omega) (by kernel_rfl)
       · exact bK [1,0,2] (br (tF ((↑q:Int)==(↑g:Int))) (br (show (decide ((↑q:Int)≥0))=true by kernel_rfl) bt))<|rE (bL (t:=23) (e:=3) (k:=1) underlying23 .i64 ub 0 n uc q (by omega)) []<|rE (ta ub n uc q r2 b3 l hrk2) [4]<|zE<|back3 _ (false,b3) (List.range 31) ⟨by rw [← U,hM];simp [e],by dsimp only;omega⟩ (by dsimp only;omega) (by kernel_rfl)
     · exact bK [1,0] (br (show (decide ((↑q:Int)≥0))=true by kernel_rfl) bt)<|rE (bL (t:=23) (e:=3) (k:=1) underlying23 .i64 ub 0 n uc q (by omega)) []<|rE (ta ub n uc q r2 b3 l hrk2) [4]<|zE<|back3 _ (true,b3) (List.range 31) ⟨by rw [← U];simp,by dsimp only;omega⟩ (by dsimp only;omega) (by kernel_rfl)
   · clear back3
     obtain rfl:m=0:=by omega
     obtain rfl:dd=D:=by rw [Hw,Bool.or_false] at U;exact U
     refine vE 19 (i64 (((0:Nat):Int)-1)) (i64 (-1)) rfl ?_
     rcases dd with _ | _
     · rw [if_neg (by decide)] at hA
       refine bj [0,0]<|rE (bL (t:=56) (e:=25) (k:=1) underlying56 .i64 lb 0 n lc j hj) []<|rE (im lb n n lc j hj) [2]<|bu [9999] 1 fun nm1=>xE (gd (nm1 0) 1 ([107])) [] [31] fun _ _=>bj [9999]<|nq (l:=[107]) 31 (nm1 0) 1 (by (simp;done)) (by first | decide | (simp only [maxLen];omega))<|cE (G7 s2 (NwX.v x7) j x14 r b ab (by omega) N hA (nm1 0) (nm1 0)) [31] [5,6,7,8,9,10,11,12,13,14,15,16,17,18,19,20,21,22,23,24,25,26,27,28,29,30] fun ⟨x15,x16⟩ ⟨hx3,hx5⟩=>?_
       try dsimp only at hx3 hx5
       refine bj [9999]<|rE (bL (t:=56) (e:=25) (k:=1) underlying56 .i64 lb 0 n lc j hj) []<|rE (im lb n n lc j hj) [2]<|bu [9999] 1 fun nm2=>xE (gd (nm2 0) 1 ([120])) [] [58] fun _ _=>bu [9999,9999,9999,9999,9999] 2 fun nm3=>qE 59 (nm3 0) (.cl [u8 (IntKind.wrap .u8 j)] 5) (.cl [u8 j] 5) (by rw [show IntKind.wrap .u8 j=(↑j:Int) from (k5)])<|qE 59 (nm3 0) (.cl [u8 j] 5) (.cl ([UInt8.ofNat j].map B8) 5) (by show SB.cl [u8 j] 5 = .cl [u8 ((UInt8.ofNat j).toNat:Int)] 5;rw [UInt8.toNat_ofNat_of_lt' (show j<256 by omega)])<|gW (t:=5) (l:=[UInt8.ofNat j]) 59 (nm3 0) 1 rfl (by decide)<|ip 60 (nm3 1) (.cl [sA (nm2 0) 1 1,sA (nm3 0) 1 1,.bool false] 58) (CF (nm3 1) 0 (dS (nm2 0) 0 1 1 (cB (nm3 0) 0 1 1) false)) (fun w ⟨o,h1,h2⟩=>⟨o,h1,bA o h2⟩)<|nq (l:=[120]) 58 (nm2 0) 1 rfl (by decide) ?_
       refine cE (GV x15 x7.v j x14 r b hx3 (by omega) N hA (nm2 0) (nm3 0) (nm2 0) (nm3 0) (nm3 1) (nm3 1) 1 (UInt8.ofNat j)) [58,59,60] [32,33,34,35,36,37,38,39,40,41,42,43,44,45,46,47,48,49,50,51,52,53,54,55,56,57] fun ⟨x17,x18⟩ ⟨hx6,hx7⟩=>?_
       dsimp only at hx6 hx7
       refine bj [9999]<|rE (bL (t:=56) (e:=25) (k:=1) underlying56 .i64 lb 0 n lc j hj) []<|rE (im lb n n lc j hj) [2]<|bj [9999]<|cE (Dj x17 (NwX.v x7) j x14 r b hx6 (by omega) N hA) [] [61,62,63,64,65,66,67,68,69,70,71,72,73,74,75,76,77,78,79,80,81,82,83,84,85,86] fun ⟨x19,x20,x21⟩ ⟨hx8,hx9⟩=>?_
       try dsimp only at hx8 hx9
       refine bj [9999,0,0]<|rE (bL (t:=55) (e:=38) (k:=1) underlying55 .i64 hb 0 n hc j hj) []<|rE (jY hb n hc j r b l hrk) [3]<|bK [0,2,0] (br (tF (!((↑x16:Int)==250)==(bits .and .u8 r 1==0))) bt)<|rE (bL (t:=55) (e:=38) (k:=1) underlying55 .i64 hb 0 n hc j hj) []<|rE (jY hb n hc j r b l hrk) [3]<|bK [0,2,0] (br (tF (!((↑x18:Int)==0)==(bits .and .u8 r 2 != 0))) bt)<|rE (bL (t:=55) (e:=38) (k:=1) underlying55 .i64 hb 0 n hc j hj) []<|rE (jY hb n hc j r b l hrk) [3]<|bK [0,2,0] (br (tF (!((↑x21:Int)==250)==(bits .and .u8 r 4==0))) bt)<|vC 17 i64 (show IntKind.wrap .i64 ((j:Int)+1)=((j+1:Nat):Int) from (di (eT))) ?_
       exact back2 _ (x19,j+1) ([0,1,2,3,4]++(List.range 26).map (·+87)) ⟨by dsimp only;assumption,hj⟩ (by dsimp only;omega) (by kernel_rfl)
     · rw [if_pos rfl] at hA
       refine bj [0,0]<|rE (bL (t:=56) (e:=25) (k:=1) underlying56 .i64 lb 0 n lc j hj) []<|rE (im lb n n lc j hj) [2]<|bu [9999] 1 fun nm1=>xE (gd (nm1 0) 1 ([107])) [] [31] fun _ _=>bj [9999]<|nq (l:=[107]) 31 (nm1 0) 1 (by (simp;done)) (by first | decide | (simp only [maxLen];omega))<|cE (HA s2 (NwX.v x7) j x14 ab (by omega) hA (nm1 0) (nm1 0)) [31] [5,6,7,8,9,10,11,12,13,14,15,16,17,18,19,20,21,22,23,24,25,26,27,28,29,30] fun x15 hx3=>bj [9999]<|rE (bL (t:=56) (e:=25) (k:=1) underlying56 .i64 lb 0 n lc j hj) []<|rE (im lb n n lc j hj) [2] ?_
       refine bu [9999] 1 fun nm2=>xE (gd (nm2 0) 1 ([120])) [] [58] fun _ _=>bu [9999,9999,9999,9999,9999] 2 fun nm3=>qE 59 (nm3 0) (.cl [u8 (IntKind.wrap .u8 j)] 5) (.cl [u8 j] 5) (by rw [show IntKind.wrap .u8 j=(↑j:Int) from (k5)])<|qE 59 (nm3 0) (.cl [u8 j] 5) (.cl ([UInt8.ofNat j].map B8) 5) (by show SB.cl [u8 j] 5 = .cl [u8 ((UInt8.ofNat j).toNat:Int)] 5;rw [UInt8.toNat_ofNat_of_lt' (show j<256 by omega)])<|gW (t:=5) (l:=[UInt8.ofNat j]) 59 (nm3 0) 1 rfl (by decide)<|ip 60 (nm3 1) (.cl [sA (nm2 0) 1 1,sA (nm3 0) 1 1,.bool false] 58) (CF (nm3 1) 0 (dS (nm2 0) 0 1 1 (cB (nm3 0) 0 1 1) false)) (fun w ⟨o,h1,h2⟩=>⟨o,h1,bA o h2⟩)<|nq (l:=[120]) 58 (nm2 0) 1 rfl (by decide)<|cE (Gt x15 x7.v j x14 hx3 (by omega) hA (nm2 0) (nm3 0) (nm2 0) (nm3 0) (nm3 1) (nm3 1) 1 (UInt8.ofNat j)) [58,59,60] [32,33,34,35,36,37,38,39,40,41,42,43,44,45,46,47,48,49,50,51,52,53,54,55,56,57] fun x17 hx6=>bj [9999]<|rE (bL (t:=56) (e:=25) (k:=1) underlying56 .i64 lb 0 n lc j hj) [] ?_
       refine rE (im lb n n lc j hj) [2]<|bj [9999]<|cE (Dt x17 (NwX.v x7) j x14 hx6 (by omega) hA) [] [61,62,63,64,65,66,67,68,69,70,71,72,73,74,75,76,77,78,79,80,81,82,83,84,85,86] fun ⟨x16,x18⟩ hx5=>?_
       try dsimp only at hx5
       exact bj [9999,0,0,0,0,0]<|vC 17 i64 (show IntKind.wrap .i64 ((j:Int)+1)=((j+1:Nat):Int) from (di (eT)))<|back2 _ (x16,j+1) ([0,1,2,3,4]++(List.range 26).map (·+87)) ⟨by dsimp only;assumption,hj⟩ (by dsimp only;omega) (by kernel_rfl)
 · clear back2
   obtain rfl:j=n:=by omega
   exact bK [2,0,9999] (br (dF ((↑j:Int)<(↑j:Int))) bt)<|bv (I8 s2 (NwX.v x7) x14 j j ab (by omega) (by omega)) [] [5,6,7,8,9,10,11,12,13,14,15,16,17,18,19,20,21,22,23,24,25,26,27,28,29,30]<|bj [9999,0]<|rE (bL (t:=56) (e:=25) (k:=1) underlying56 .i64 lb 0 j lc 0 E) []<|rE (Bt lb j j lc E) [2]<|bj [9999]<|bv (Gu (NwX.v x7) 200 100000 (sA (VS.vk s2) 32 (VS.vc s2)) (VS.d s2) (VS.rs s2) (VS.lg s2) (VS.r s2) (VS.p s2) (VS.cm s2+1) 0 0 0 1 0 (VS.al s2) 0 (.slice none 0 0) 0 0 38654705665 0 0 0 (.slice none 0 0) (.slice none 0 0) (.slice none 0 0) (.slice none 0 0) false ([]) (by omega) (by kernel_rfl)) [31,32] []<|bj [9999,0]<|bv rA [] []<|zE<|rT ()
end Go.Proofs.YtlkeemedalncoaaGreat.En
namespace Go.Proofs.YtlkeemedalncoaaGreat
open Go.ChangeShapes Go.WideShapes Go.ChangeAt Go.RowKit
theorem own:ownKnob Tryz.prog.godebug=none:=by kernel_rfl
theorem pL:laidOutB Tryz.prog=true:=by kernel_rfl
section
variable {H:Type} {enc:TypeId×Value→H} {P:Program} {W:World}
theorem vN {T E:TypeId} {r:Reach} {m:Nat} {v:Value} {d:DataW H} {n:List MemPlace} (hT:P.underlying T=some (.slice E)) (o:P.underlying E=some (.int .u8)) (hc:P.cellsOf E=1)
 (g:Value.okWide P W r m T v) (h:DataW.Trod enc P W 0 (fun _=>true) true T v d n) :
 ∃ a len cap l,v = .slice a len cap∧Rd W a len cap l∧(d = .nil∧cap=0∨∃ elems spare,d = .slice elems spare∧elems.length+spare.length=cap):=by
 obtain ⟨a0,len0,cap0,rfl⟩:=okWide_slice hT g
 obtain ⟨fuel,hf⟩:=h
 rcases open_ints hT o hc hf with ⟨hcs,hx⟩ | ⟨x,l,c,zs,hcs,_,hl,hm,hz,hx,hcell,hwz⟩
 · simp [Value.cells] at hcs
   obtain ⟨rfl,rfl,rfl⟩:=hcs
   simp only [Prod.mk.injEq] at hx
   exact ⟨none,0,0,[],rfl,Rd.none_ W,.inl ⟨hx.1,rfl⟩⟩
 · simp [Value.cells] at hcs
   obtain ⟨rfl,rfl,rfl⟩:=hcs
   simp only [Prod.mk.injEq] at hx
   have p:zs.length=cap0:=by simpa using hz
   refine ⟨some x,len0,cap0,(zs.take len0).map fun z=>UInt8.ofNat z.toNat,rfl,⟨by simp;omega,hl,hm,fun h0=>?_⟩,.inr ⟨_,_,hx.1,by simp [lits];omega⟩⟩
   obtain ⟨b,off,spot⟩:=x
   have f:spot=none:=by
    have:=hcell 0 (by omega)
    simpa [Addr.add] using World.cell?_spot this
   subst f
   refine ⟨b,off,rfl,fun j hj=>?_⟩
   have e:j<zs.length:=by omega
   have i:=hcell j e
   rw [Addr.add_lit] at i
   rw [i]
   have q:zs.getD j 0=zs[j]:=by simp [List.getD,List.getElem?_eq_getElem e]
   have k:=hwz _ (List.getElem_mem e)
   have hb:0≤zs[j]∧zs[j]≤255:=by
    simp only [Lit.wf,IntKind.min,IntKind.max,IntKind.signed,IntKind.bits,Bool.and_eq_true,decide_eq_true_eq] at k
    simpa using k
   have e2:(((zs.take len0).map fun z=>UInt8.ofNat z.toNat).getD j 0)=UInt8.ofNat zs[j].toNat:=by
    simp [List.getD,List.getElem?_take,hj,List.getElem?_eq_getElem e]
   rw [q,e2]
   show some (Value.int .u8 zs[j])=some (Value.int .u8 ((UInt8.ofNat zs[j].toNat).toNat:Int))
   have s:(UInt8.ofNat zs[j].toNat).toNat=zs[j].toNat:=by
    rw [UInt8.toNat_ofNat'];omega
   rw [s]
   congr 2
   omega
end
end Go.Proofs.YtlkeemedalncoaaGreat
namespace Go.Proofs.YtlkeemedalncoaaGreat.En
open Go Go.ChangeShapes Go.WideShapes Go.ChangeAt Go.RowKit Go.Proofs.YtlkeemedalncoaaGreat Go.Proofs.Tryz
theorem open_ints1 {H:Type} {enc:TypeId×Vl→H} {P:Program} {W:World} {T E:TypeId} {r:Reach} {m:Nat} {v:Vl} {d:DataW H} {n:List MemPlace} (hT:P.underlying T=some (.slice E)) (o:P.underlying E=some (.int .i64)) (hc:P.cellsOf E=1)
 (f:Value.okWide P W r m T v) (h:DataW.Trod enc P W 0 (fun _=>true) true T v d n) :
 ∃ a len cap l,v = .slice a len cap∧IF a len l W∧∀ j,-9223372036854775808≤l.getD j 0∧l.getD j 0≤9223372036854775807:=by
 obtain ⟨a0,len0,cap0,rfl⟩:=okWide_slice hT f
 obtain ⟨fuel,hf⟩:=h
 rcases open_ints hT o hc hf with ⟨hcs,hx⟩ | ⟨x,l,c,zs,hcs,_,hl,hm,hz,hx,hcell,hwz⟩
 · simp [Value.cells] at hcs
   obtain ⟨rfl,rfl,rfl⟩:=hcs
   exact ⟨none,0,0,[],rfl,⟨rfl,fun h=>absurd h (Nat.lt_irrefl 0)⟩,fun j=>by simp⟩
 · simp [Value.cells] at hcs
   obtain ⟨rfl,rfl,rfl⟩:=hcs
   have p:zs.length=cap0:=by simpa using hz
   refine ⟨some x,len0,cap0,zs.take len0,rfl,⟨by rw [List.length_take];omega,fun h0=>?_⟩,fun j=>?_⟩
   · obtain ⟨b,off,spot⟩:=x
     have e:spot=none:=by
      have:=hcell 0 (by omega)
      simpa [Addr.add] using World.cell?_spot this
     subst e
     refine ⟨b,off,rfl,fun j hj=>?_⟩
     have g:=hcell j (by omega)
     rw [Addr.add_lit] at g
     rw [g]
     have e2:(zs.take len0).getD j 0=zs.getD j 0:=by
      simp [List.getD,List.getElem?_take,hj]
     rw [e2]
   · by_cases hj:j<len0
     · have i:j<zs.length:=by omega
       have e2:(zs.take len0).getD j 0=zs[j]:=by
        simp [List.getD,List.getElem?_take,hj,List.getElem?_eq_getElem i]
       have k:=hwz _ (List.getElem_mem i)
       rw [e2]
       simp only [Lit.wf,IntKind.min,IntKind.max,IntKind.signed,IntKind.bits,Bool.and_eq_true,decide_eq_true_eq] at k
       simpa using k
     · have e2:(zs.take len0).getD j 0=0:=by
        rw [List.getD_eq_getElem?_getD,List.getElem?_eq_none (by rw [List.length_take];omega)];rfl
       rw [e2];decide
end Go.Proofs.YtlkeemedalncoaaGreat.En
namespace Go.Proofs.YtlkeemedalncoaaGreat.En
open Go Go.Proofs.YtlkeemedalncoaaGreat
theorem fact9:((Rows.topHandlesRow.inPlace==Tryz.pinned.checked.prog.inPlace 5))=true:=by kernel_rfl
theorem fact10:((Rows.topHandlesRow.unfollowed==Tryz.pinned.checked.prog.unfollowed 5))=true:=by kernel_rfl
theorem fact11:((Rows.topHandlesRow.recurses==Tryz.pinned.checked.prog.recurses 5))=true:=by kernel_rfl
theorem fact12:((Rows.topHandlesRow.named==Tryz.pinned.checked.prog.varsNamed 5))=true:=by kernel_rfl
theorem fact0:(Rows.topHandlesRow.wf (OpenSpec.ofChange Rows.topHandlesSpec))=true:=by kernel_rfl
theorem fact2:(mapsRowed Tryz.pinned.checked.prog)=true:=by kernel_rfl
theorem fact3:(Tryz.f5.params.all (Tryz.pinned.checked.prog.readableRec ·))=true:=by kernel_rfl
theorem fact4:(namedTie Tryz.pinned.checked.prog Rows.topHandlesRow.named Rows.topHandlesSpec.vars)=true:=by kernel_rfl
theorem fact5:((Rows.topHandlesRow.stops==[]))=true:=by kernel_rfl
theorem fact6:((Tryz.pinned.checked.prog.stops==[]))=true:=by kernel_rfl
theorem fact7:((Rows.topHandlesRow.knobs==[]))=true:=by kernel_rfl
theorem fact8:((Tryz.pinned.checked.prog.stopKnobs==[]))=true:=by kernel_rfl
theorem fact13:((Rows.topHandlesRow.maps==(Tryz.f5.params.toList++Rows.topHandlesSpec.plain.varTypes Tryz.pinned.checked.prog).any (Tryz.pinned.checked.prog.mapsRec ·)))=true:=by kernel_rfl
theorem fact14:((Rows.topHandlesRow.ifaces==(Tryz.f5.params.toList++Rows.topHandlesSpec.plain.varTypes Tryz.pinned.checked.prog).any (Tryz.pinned.checked.prog.ifacesRec ·)))=true:=by kernel_rfl
theorem fact15:((Rows.topHandlesRow.mapsOut==Tryz.pinned.checked.prog.mapsAmong Tryz.f5.resultTypes.toList))=true:=by kernel_rfl
theorem fact16:((Rows.topHandlesRow.loops==(Tryz.f5.params.toList++Rows.topHandlesSpec.plain.varTypes Tryz.pinned.checked.prog).any (Tryz.pinned.checked.prog.loopsFrom ·)))=true:=by kernel_rfl
theorem fact17:((Rows.topHandlesRow.wideKeys==(Tryz.f5.params.toList++Rows.topHandlesSpec.plain.varTypes Tryz.pinned.checked.prog++Tryz.f5.resultTypes.toList).any (Tryz.pinned.checked.prog.wideKeysFrom ·)))=true:=by kernel_rfl
theorem fact18:(Rows.topHandlesSpec.vars.all (Tryz.pinned.checked.prog.varReadable ·))=true:=by kernel_rfl
theorem fact19:(Tryz.f5.resultTypes.all (fun t=>Tryz.pinned.checked.prog.readableRec t&&decide (t<Tryz.pinned.checked.prog.types.size)))=true:=by kernel_rfl
theorem fact20:((Rows.topHandlesRow.ifacesOut==Tryz.f5.resultTypes.toList.any (Tryz.pinned.checked.prog.ifacesRec ·)))=true:=by kernel_rfl
theorem fact21:((Rows.topHandlesRow.loopsOut==Tryz.f5.resultTypes.toList.any (Tryz.pinned.checked.prog.loopsFrom ·)))=true:=by kernel_rfl
theorem fact22:((Rows.topHandlesRow.plainKeys==Tryz.pinned.checked.prog.plainKeys))=true:=by kernel_rfl
theorem fact23:(Rows.topHandlesRow.shortTexts.isNone)=true:=by kernel_rfl
theorem fact24:(Tryz.pinned.checked.prog.stopsHeard)=true:=by kernel_rfl
theorem fact25:(Tryz.pinned.checked.prog.mayEnter)=true:=by kernel_rfl
theorem fact26:((Rows.topHandlesRow.lifted==Tryz.pinned.checked.prog.liftsFinal))=true:=by kernel_rfl
theorem fact27:((Tryz.pinned.checked.prog.make==some Rows.topHandlesRow.make))=true:=by kernel_rfl
theorem fact28:((Rows.topHandlesRow.kinds==(if Rows.topHandlesRow.domain.isEmpty then [] else Tryz.f5.params.toList.map fun t=>match Tryz.pinned.checked.prog.underlying t with | some (.int k)=>some k | _=>none)))=true:=by kernel_rfl
theorem fact29:((Rows.topHandlesRow.pinned==Rows.topHandlesRow.pinnedBy))=true:=by kernel_rfl
theorem fact30:((Rows.topHandlesRow.veiled==(Tryz.f5.params.toList++Rows.topHandlesSpec.plain.varTypes Tryz.pinned.checked.prog++Tryz.f5.resultTypes.toList).any (Tryz.pinned.checked.prog.veiledRec ·)))=true:=by kernel_rfl
theorem fact31:(Rows.topHandlesRow.veiledFits Tryz.pinned.checked.prog Tryz.f5.params.toList (Tryz.f5.params.toList++Rows.topHandlesSpec.plain.varTypes Tryz.pinned.checked.prog++Tryz.f5.resultTypes.toList))=true:=by kernel_rfl
end Go.Proofs.YtlkeemedalncoaaGreat.En
namespace Go.Proofs.YtlkeemedalncoaaGreat.topHandles
open Go.ChangeShapes Go.WideShapes Go.ChangeAt Go.RowKit
open Go.ChangeMaps (open_string shut_string)
theorem lifted (os:Os) (b:os.Started) (H:Type) (enc:TypeId×Value→H) :
 ReturnsInHanded {} Tryz.checked os 5 .any (Rows.topHandlesSpec.pre6 enc Tryz.prog Tryz.f5 Rows.topHandlesRow.domain false) (Rows.topHandlesSpec.post enc Tryz.prog Tryz.f5 false true false false):=by
 refine returnsInHanded_of_change_sized (C:=Tryz.checked) own b (by kernel_rfl) Tryz.func5
  (ChangeSpec.witness6 (enc:=enc) (C:=Tryz.checked) false ⟨#[],#[.slice none 0 0,.slice none 0 0,.int .i64 0],[]⟩ 8 (by kernel_rfl) (by kernel_rfl) (by kernel_rfl) (by kernel_rfl)) ?_
 intro W base args ds gs before hval0 hW hcnd hsz0 _
 have a:∀ (j:Nat) t v,Tryz.f5.params[j]?=some t→args[j]?=some v→Value.okWide Tryz.prog W .any base t v:=hval0
 have c:=hW
 obtain ⟨p,q,hA0,hV,rfl,hfz,hnd⟩:=hW
 have hA:DataW.TrodAll enc Tryz.prog W 0 (fun _=>true) true Tryz.f5.params.toList args.toList ds p:=hA0
 rw [Tryz.params5] at hA a
 obtain ⟨v0,vs0,d0,ds0,p0,q0,hargs,rfl,rfl,h0,r0⟩:=trodAll_cons hA
 obtain ⟨v1,vs1,d1,ds1,p1,q1,rfl,rfl,rfl,h1,r1⟩:=trodAll_cons r0
 obtain ⟨v2,vs2,d2,ds2,p2,q2,rfl,rfl,rfl,h2,r2⟩:=trodAll_cons r1
 obtain ⟨rfl,rfl,rfl⟩:=trodAll_nil r2
 obtain rfl:args = #[v0,v1,v2]:=by cases args;simp_all
 obtain ⟨rfl,rfl⟩:=trodVars_none hV
 have g:=h0
 have d:∀ x∈p0,x.block<W.heap.size:=by obtain ⟨m,hm⟩:=g;exact DataW.trod_lt m _ _ _ hm
 obtain ⟨A0,n0,c0,l0,rfl,rd0,dd0⟩:=vN Tryz.underlying55 Tryz.underlying38 (by kernel_rfl) (a 0 55 v0 rfl rfl) h0
 have k1:=h1
 have f:∀ x∈p1,x.block<W.heap.size:=by obtain ⟨m,hm⟩:=k1;exact DataW.trod_lt m _ _ _ hm
 obtain ⟨A1,n1,c1,l1,rfl,rd1,bd1⟩:=En.open_ints1 Tryz.underlying23 Tryz.underlying3 (by kernel_rfl) (a 1 23 v1 rfl rfl) h1
 obtain ⟨x2,rfl,rfl,rfl,w2⟩:=open_int Tryz.underlying3 (a 2 3 v2 rfl rfl) h2
 have i:-9223372036854775808≤x2∧x2≤9223372036854775807:=by simpa [Lit.wf,IntKind.min,IntKind.max,IntKind.signed,IntKind.bits] using w2
 clear hA0 hval0 hsz0
 refine (En.law_in (En.topHandles_walk A0 n0 c0 l0 A1 n1 c1 l1 x2 bd1 i) W (En.old_bf rd0) (En.old_if rd1)).mono fun e W' ⟨he,bel⟩=>?_
 subst he
 exact ⟨_,rfl,_,_,_,[],_,[],c,trodAll_mk1 (shut_bool Tryz.underlying4 _),(trodAll_cons_mk (Below.trod pL (by kernel_rfl) (of_decide_eq_true (by kernel_rfl)) g bel d) (trodAll_cons_mk (Below.trod pL (by kernel_rfl) (of_decide_eq_true (by kernel_rfl)) k1 bel f) (trodAll_cons_mk (shut_int Tryz.underlying3 w2) trodAll_mk0))),rfl,bel.frame _,fun h=>by cases h⟩
theorem dD {a b:Bool} (h:a=true) (k:b=true):(a&&b)=true:=by rw [h,k];rfl
theorem EX:joinedFacts Tryz.pinned.checked.prog 5 Tryz.f5 Rows.topHandlesSpec Rows.topHandlesRow=true:=
 (dD (dD (dD (dD (dD (dD (dD (dD (dD (dD (dD (dD (dD (dD (dD (dD (dD (dD (dD (dD (dD (dD (dD (dD (dD (dD (dD (dD (dD (dD (dD En.fact0 pL) En.fact2) En.fact3) En.fact4) En.fact5) En.fact6) En.fact7) En.fact8) En.fact9) En.fact10) En.fact11) En.fact12) En.fact13) En.fact14) En.fact15) En.fact16) En.fact17) En.fact18) En.fact19) En.fact20) En.fact21) En.fact22) En.fact23) En.fact24) En.fact25) En.fact26) En.fact27) En.fact28) En.fact29) En.fact30) En.fact31)
theorem Ia:Rows.topHandlesRow.holds Tryz.pinned (OpenSpec.ofChange Rows.topHandlesSpec):=
 OpenClaim.holds_of_wide 5 Tryz.f5 rfl rfl rfl rfl rfl rfl rfl ⟨rfl,rfl,rfl,rfl,rfl⟩ rfl rfl rfl rfl rfl (by kernel_rfl) Tryz.func5 EX
  (of_decide_eq_true (by kernel_rfl)) (by unfold Func.isWrapper;first | (rw [if_pos (by decide +kernel)];kernel_rfl) | (rw [if_neg (by decide +kernel)];exact ⟨rfl,rfl⟩))
  (fun os started H enc _=>lifted os started H enc)
theorem proved:Rows.TopHandlesSaid:=Ia
#print axioms proved
end Go.Proofs.YtlkeemedalncoaaGreat.topHandles
