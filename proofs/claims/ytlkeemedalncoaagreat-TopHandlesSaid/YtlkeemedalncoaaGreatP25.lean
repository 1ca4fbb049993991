/- TopHandles, part 25: no condition. -/
import Derived.Test.YtlkeemedalncoaaGreatP24
set_option linter.all false
set_option maxHeartbeats 16000000
set_option maxRecDepth 100000
namespace Go.Proofs.YtlkeemedalncoaaGreat.En
open Go Go.RowKit Go.Proofs.YtlkeemedalncoaaGreat Go.Proofs.Tryz
def eD (R:List Nat) (n:Nat):List Nat:=(List.range n).filter fun i=>decide (2≤i∧i∉R)
theorem w5 (R:List Nat):eD R 2=[]:=by
 unfold eD
 rw [List.filter_eq_nil_iff]
 intro i hi
 have:=List.mem_range.1 hi
 simp;omega
theorem uB {R:List Nat} {n:Nat} (h:n∈R):eD R (n+1)=eD R n:=by
 unfold eD
 rw [List.range_succ,List.filter_append]
 simp [h]
theorem sm {R:List Nat} {n:Nat} (h2:2≤n) (h:n∉R):eD R (n+1)=eD R n++[n]:=by
 unfold eD
 rw [List.range_succ,List.filter_append]
 simp [h,h2]
theorem ic {R:List Nat} {n m:Nat}:m∈eD R n↔m<n∧2≤m∧m∉R:=by
 unfold eD
 rw [List.mem_filter,List.mem_range]
 simp
theorem lT (R:List Nat) (n:Nat):(eD R n).length≤n:=by
 unfold eD
 have:=List.length_filter_le (fun i=>decide (2≤i∧i∉R)) (List.range n)
 simpa using this
theorem uO (R:List Nat) (n:Nat):(eD R n).Nodup:=by
 unfold eD
 exact List.Sublist.nodup List.filter_sublist List.nodup_range
theorem t8 {L:List Nat} (h:L.Nodup) {i:Nat} (hi:i<L.length):L.getD i 0∉L.take i:=by
 intro hm
 obtain ⟨j,hj,e⟩:=List.mem_iff_getElem.1 hm
 rw [List.getElem_take] at e
 rw [List.length_take] at hj
 have e2:L.getD i 0=L[i]:=by simp [hi]
 rw [e2] at e
 have:=(List.getElem_inj h).1 e
 omega
theorem su {L:bV} {N:Nat} (h:RunsP L) (a:∀ m,bR L m→m<N):∀ r∈L,r.2≤N:=fun r hr=>by
 have b:=h.pos r hr
 have:=a (r.2-1) ⟨r,hr,by omega,by omega⟩
 omega
theorem qm (n:Nat):fB (List.replicate n 0)=true:=by simp [fB]
section
variable (p d r g:Nat) (kn wt:Nat) (pu dr:Option Nat) (pi lst:Nat) (fl:Bool)
theorem F2 (na nfm N:Nat) (o:Vl) (steps:Int) (now:List Bs) (j:now.length=N) (l:bP now) (h8:8≤N) (ae:N≤4096) (rb kc:Nat) (K:List (Nat×Vl)) (hK:∀ m,m∉([]:List Nat)→lk K m=none) (hz:∀ m,2≤m→m<N→m∉([]:List Nat)→now.getD m []=List.replicate 256 0) :
 TT 61 #[bi p,sA rb 0 kc] [(d,.cl (bQ na nfm N o steps) bT),(na,.cl (bE now) 166)] [(p,.cl (bM d r g none 0 0 kn wt pu dr pi 0 lst fl) 199),(kn,.pr (MU K))] (fun x:bV×Option Addr×Nat×Nat×Nat=>RunsP x.1∧∀ m,bR x.1 m↔2≤m∧m<N∧m∉([]:List Nat)) (fun _=>.returned (i64 0)) (fun x=>[(p,.cl (bM d r g x.2.1 x.1.length x.2.2.1 kn x.2.2.2.1 pu dr pi 0 lst fl) 199),(kn,.pr (MU K))]) (fun x=>[(x.2.2.2.1,.pr (MU [])),(x.2.2.2.2,.fa (bN x.2.1 x.1.length x.2.2.1 x.1))]):=by
 refine iE func61<|zE<|bv (iJ p d r g none 0 0 kn wt pu dr pi 0 lst fl) [2] []<|bu [0,0,2,0,0,4,0,0] 1 fun nm=>lE 4 (nm 0) (.ob (.map #[] 0)) (.pr (MU (bF []))) (dL _ _)<|lV<|kq (X:=Nat×Vl×Nat×SB) (fun y=>2≤y.1∧y.1≤N∧SlE 37 1 (eD ([]:List Nat) y.1).length ((eD ([]:List Nat) y.1).map cr) y.2.1 (y.2.2.1,y.2.2.2)) (fun y=>N-y.1) 102 (fun y=>[(0,bi p),(6,.map (some (nm 0))),(9,y.2.1),(10,.slice none 0 0),(11,u32 y.1)]) (fun y=>[(d,.cl (bQ na nfm N o steps) bT),(na,.cl (bE now) 166),(p,.cl (bM d r g none 0 0 kn wt pu dr pi 0 lst fl) 199),(kn,.pr (MU K)),(nm 0,.pr (MU (bF ([]:List Nat)))),(y.2.2.1,y.2.2.2)]) (2,.slice none 0 0,0,.dead) ⟨Nat.le_refl _,by omega,by rw [w5];exact SlE.nil 37 1⟩ fun ⟨n,v,b,sb⟩ u J hpre back=>?_
 have c:2≤n:=hpre.1
 have gN:n≤N:=hpre.2.1
 have s:SlE 37 1 (eD ([]:List Nat) n).length ((eD ([]:List Nat) n).map cr) v (b,sb):=hpre.2.2
 have F:=lT ([]:List Nat) n
 have A:n<4294967296:=by omega
 clear hpre
 by_cases hnN:n<N
 · by_cases hm:n∈([]:List Nat)
   · have B:=rL hm
     exact zE<|bv (jA p d r g none 0 0 kn wt pu dr pi 0 lst fl na nfm N o steps n c hnN A) [2,0] []<|bj [0]<|rE (eI (kt:=37) (et:=4) (T:=196) (κ:=.u32) underlying196 underlying37 (nm 0) (bF []) n (.bool true) B) [4]<|bj [0]<|vC 11 u32 (show IntKind.u32.wrap ((n:Int)+1)=((n+1:Nat):Int) from (jr (eT)))<|back _ (n+1,v,b,sb) (List.range 6) ⟨by dsimp only;omega,by dsimp only;omega,by dsimp only;rw [uB hm];exact s⟩ (by dsimp only;omega) (by kernel_rfl)
   · have B:=nz hm
     have O:fB (now.getD n [])=true:=by rw [hz n c hnN hm];exact qm 256
     have C:256=(now.getD n []).length:=(l _ (by simp [j,hnN])).symm
     have G:(!fB (now.getD n []))=false:=by rw [O];rfl
     refine zE<|bv (jA p d r g none 0 0 kn wt pu dr pi 0 lst fl na nfm N o steps n c hnN A) [2,0] []<|bj [0]<|rE (i8 (kt:=37) (et:=4) (T:=196) (κ:=.u32) underlying196 underlying37 (z:=.bool false) (fun w=>by kernel_rfl) (nm 0) (bF []) n B) [4]<|bu [0,9999] 1 fun nm1=>iI (j0 (t:=45) (e:=37) (ty:=45) (k:=1) (by_:=4) (z:=u32 0) underlying45 v b sb (List.length (eD [] n)) (List.map cr (eD [] n)) s (nm1 0) 1 1 ([u32 n])) [6] [5] (Views.less (.cl [u32 n] 37) bA Views.nil) fun ⟨x,x1,x2,x3⟩ hx=>?_
     try dsimp only at hx
     exact bj [2,9999]<|vC 61 i64 (nI n)<|cE (jh d na nfm N o steps now j l n hnN) [0,1] [] fun x4 _=>bj [0,0]<|cV (u4 x4 0 256 256 (List.getD now n []) C (by omega) (by decide)) [8] [] (Views.less (.cl (List.map B8 (List.getD now n [])) 166) bA Views.nil) fun _ _=>bK [2] (br G bt)<|vC 11 u32 (show IntKind.u32.wrap ((n:Int)+1)=((n+1:Nat):Int) from (jr (eT)))<|back _ (n+1,.slice x ((eD ([]:List Nat) n).length+1) x1,x2,x3) [0,1,2,3,4,7] ⟨by dsimp only;omega,by dsimp only;omega,by dsimp only;rw [sm c hm,List.length_append,List.map_append];exact hx⟩ (by dsimp only;omega) (by kernel_rfl)
 · have P:N≤n:=by omega
   obtain rfl:N=n:=by omega
   have H:0<(eD ([]:List Nat) N).length:=by
    by_cases q2:2∈([]:List Nat)
    · by_cases q3:3∈([]:List Nat)
      · exact List.length_pos_of_mem (a:=4) (ic.2 ⟨by omega,by omega,fun q4=>by revert q2 q3 q4;simp <;> omega⟩)
      · exact List.length_pos_of_mem (a:=3) (ic.2 ⟨by omega,by omega,q3⟩)
    · exact List.length_pos_of_mem (a:=2) (ic.2 ⟨by omega,by omega,q2⟩)
   obtain ⟨cap,rfl,rfl⟩:=s.pos H
   clear back
   refine zE<|bv (wm p d r g none 0 0 kn wt pu dr pi 0 lst fl na nfm N o steps N P c A) [2,0] []<|bj [0]<|bv (lO p none 0) [] []<|bv (jx p d r g none 0 0 kn wt pu dr pi 0 lst fl) [] [2]<|bj [0,0,2]<|fq [] [] (bN none 0 0 []) (fun w _=>⟨rfl,Nat.le_refl _,Nat.zero_le _,fun h=>absurd h (by decide)⟩) ?_
   generalize hG:eD ([]:List Nat) N=Gl at *
   refine kq (X:=Nat×bV×Option Addr×Nat×Nat) (fun y=>y.1≤Gl.length∧RunsP y.2.1∧y.2.1.length≤y.1∧∀ m,bR y.2.1 m↔m∈Gl.take y.1) (fun y=>Gl.length-y.1) 102 (fun y=>[(0,bi p),(88,sA b Gl.length cap),(89,i64 Gl.length),(90,i64 y.1)]) (fun y=>[(d,.cl (bQ na nfm N o steps) bT),(na,.cl (bE now) 166),(p,.cl (bM d r g y.2.2.1 y.2.1.length y.2.2.2.1 kn wt pu dr pi 0 lst fl) 199),(kn,.pr (MU K)),(nm 0,.pr (MU (bF ([]:List Nat)))),(b,.pr (bn 37 1 Gl.length cap (Gl.map cr))),(y.2.2.2.2,.fa (bN y.2.2.1 y.2.1.length y.2.2.2.1 y.2.1))]) (0,[],none,0,0) ⟨by omega,RunsP.nil,by simp,fun m=>by simp [bR]⟩ fun ⟨i,L,Af,cf,fa⟩ u J hpre back=>?_
   have hi:i≤Gl.length:=hpre.1
   have hL:RunsP L:=hpre.2.1
   have ah:L.length≤i:=hpre.2.2.1
   have f:∀ m,bR L m↔m∈Gl.take i:=hpre.2.2.2
   clear hpre
   have D:∀ m,m∈Gl↔m<N∧2≤m∧m∉([]:List Nat):=fun m=>by rw [← hG];exact ic
   have ai:Gl.length≤N:=by rw [← hG];exact lT _ _
   have Q:Gl.Nodup:=by rw [← hG];exact uO _ _
   by_cases hlt:i<Gl.length
   · have R:Gl.getD i 0∈Gl:=by simp [hlt]
     have S:=(D _).1 R
     have U:¬ bR L (Gl.getD i 0):=fun hm=>t8 Q hlt ((f _).1 hm)
     have V:∀ r∈L,r.2<4294967296:=fun r hr=>by
      have:=su hL (N:=N) (fun m hm=>((D m).1 (List.mem_of_mem_take ((f m).1 hm))).1) r hr
      omega
     have F:Gl.getD i 0<4294967295:=by omega
     have W:L.length≤50000:=by omega
     have Y:=take_snoc hlt
     have Z:(Gl.map cr)[i]?=some (cr (Gl.getD i 0)):=by rw [List.getElem?_map];simp [hlt]
     have E:=hK (Gl.getD i 0) S.2.2
     have I:del K (Gl.getD i 0)=K:=oC (i:=0) (by
      unfold lk at E
      cases hf:eV K (Gl.getD i 0) 0 with
      | none=>rfl
      | some x=>rw [hf] at E;cases E)
     generalize Gl.getD i 0=q at *
     refine bK [1,0] (br (dT ((↑i:Int)<(↑Gl.length:Int))) bt)<|rE (bL (t:=45) (e:=37) (k:=1) underlying45 .i64 b 0 Gl.length cap i hlt) []<|mK (g7 (T:=37) b 0 i (List.map cr Gl) (cr q) Z) [5] (Views.less (.pr (bn 37 1 Gl.length cap (List.map cr Gl))) ci Views.nil)<|zE<|cE (oa p d r g Af L.length cf kn wt pu dr pi 0 lst fl q fa L K hL W F U V) [6] [2,3] fun ⟨x,x1,x2⟩ ⟨hx,hx1,hx2⟩=>?_
     try dsimp only at hx hx1 hx2
     refine zE ?_
     have M:∀ m,bR x m↔bR L m∨m=q:=by assumption
     have aa:RunsP x:=by assumption
     have aj:x.length≤L.length+1:=by assumption
     exact qE 3 kn (.pr (MU (del K q))) (.pr (MU K)) (by rw [I])<|vC 90 i64 (show IntKind.i64.wrap ((i:Int)+1)=((i+1:Nat):Int) from (di (eT)))<|back _ (i+1,x,some ⟨x1,0,none⟩,x2,x1) [0,1,2,3,4,5,7] ⟨hlt,aa,by dsimp only;omega,fun m=>by dsimp only;rw [Y,M m,List.mem_append,List.mem_singleton,f m]⟩ (by dsimp only;omega) (by kernel_rfl)
   · have ab:i=Gl.length:=by omega
     subst ab
     clear back
     have ad:∀ m,bR L m↔2≤m∧m<N∧m∉([]:List Nat):=fun m=>by
      rw [f m,List.take_length,D m]
      exact ⟨fun h=>⟨h.2.1,h.1,h.2.2⟩,fun h=>⟨h.2.1,h.1,h.2.2⟩⟩
     refine fe [2,0,2] 1 _ (br (show (decide ((↑Gl.length:Int)<(↑Gl.length:Int)))=false by (simp;done)) bt) fun nm1=>⟨by kernel_rfl,?_⟩
     exact lE 7 (nm1 0) (.ob (Obj.map #[] 0)) (.pr (MU [])) (dL (eK .u32) 0)<|rT ((L,Af,cf,nm1 0,fa)) 9999 [7,6]
end
section
variable (v N lim:Nat) (key:Vl) (d rs lg:Nat) (op:Bool) (r p c pp rc rg gn n al:Nat)
theorem Hl (m kb b kc a:Nat) (rkey:Bs) (G:List ((Nat×Nat)×Vl)) (f:lk G (0,gn)=some (sO kb b 32 kc)) (e:32=rkey.length):TT 114 #[bi v] [(v,.cl (bU N lim key d rs lg op r p c pp rc rg gn n al) 90),(r,.cl [.map (some m)] 182),(m,.pr (bB eW G)),(a,.fa (BF (pO kb b) 32 kc rkey))] [] (fun _:Nat×Nat=>True) (fun x=>.returned (sA x.1 32 x.2)) (fun _=>[]) (fun x=>[(x.1,.fa (BF (pA x.1) 32 x.2 rkey))]):=iE func114<|zE<|bj [9999,0,0,0]<|cE (mn r m 0 gn kb b 32 kc a rkey G f e) [1,2,3] [] fun ⟨x,x1⟩ _=>zE<|bv (ew (sA x 32 x1)) [] []<|zE<|rT ((x,x1)) 9999 [4]
section
variable (k tt:Nat) (sec:Vl) (n1:Int) (h o s rt:Nat) (ops ky fr too:Vl) (bk:Bool)
variable (q mb mc:Nat) (nf cf kn wt:Nat) (Af:Option Addr) (pi cm lst:Nat) (c1 c2 c3 c4:Nat)
theorem yD (t hb hc hcm wb wc v w y:Nat) (mark wr:Bs) (j:16=mark.length) (k:32=wr.length) (A:0<t) (h:t<4294967296) (B:1≤q) (l:q<128) (n:hcm<128)
 (dr:Option Nat) (m g a z ff b i:Nat) (R:bV) (C:RunsP ((ff,b)::R)) (c:ff+1<b∨0<R.length) (D:nf≤50000) (E:ff<4294967295) (G:List ((Nat×Nat)×Vl)) (F:G.length≤1000) (o:cg 0 (G.map (·.1))=[g])
 (K:List (Nat×Vl)) (M:Nat→Option Pg) (s:KM K M) (S:List Nat) (H:ff∉S) (u:0<cm) (e:cm<18446744073709551616) (f:g<65536) :
 TT 116 #[dN p,cu 0 0 0,.agg #[u32 t,i64 q,bY mb 16 mc,u32 0,u64 0,u16 0,u8 0,i64 0,bY hb 1 hc]] [(v,.fa (CF hb 0 (cX 1 hcm wb wc))),(w,.fa (BF (pA mb) 16 mc mark)),(y,.fa (BF (pA wb) 32 wc wr)),(r,.cl [.map (some m)] 182),(m,.pr (bB eW G)),(a,.fa (bN Af nf cf ((ff,b)::R))),(z,.fa (PgsF K M))] [(p,.cl (bM d r lg Af nf cf kn wt (some i) dr pi cm lst false) 199),(kn,.pr (MU K)),(i,.pr (MU (bF S)))]
  (fun x:ij=>KM x.2 (bX M ff ⟨0,1,0,cm,g,bw (be t 4) (bJ q 0 mark 0 0 0 0 1 hcm wr)⟩)) (fun x=>.returned (.tuple #[cu ff cm g,i64 0]))
  (fun x=>[(p,.cl (bM d r lg (pA x.1.1) (bS ((ff,b)::R)).length x.1.2 kn wt (some i) dr pi cm lst false) 199),(kn,.pr (MU x.2)),(i,.pr (MU (bF (S++[ff]))))])
  (fun x=>[(0,.fa (bN (pA x.1.1) (bS ((ff,b)::R)).length x.1.2 (bS ((ff,b)::R)))),(0,.fa (PgsF x.2 (bX M ff ⟨0,1,0,cm,g,bw (be t 4) (bJ q 0 mark 0 0 0 0 1 hcm wr)⟩)))]):=
 Bf p d r lg Af nf cf kn wt pi cm lst t q mb mc 0 0 0 0 0 hb hc 1 hcm wb wc v w y mark wr j k A h B l (by omega) (.inl ⟨rfl,rfl,rfl,rfl,rfl⟩) (by omega) (by omega) (by omega) (by omega) (by omega) n dr m g a z ff b i R C c D E G F o K M s S H u e f
theorem Ik (T:List (Nat×Vl)) (V:T.length<1000000) (mark rkey tkey:Bs) (y:16=mark.length) (z:32=rkey.length) (i:16=tkey.length) (A:0<tt) (L:tt<4294967296) (B:1≤q) (C:q<128) (l:cm<128) (dr:Option Nat) (m g0 a O P Q U kb D kc tb tk ff e t:Nat) (W:32≤kc) (E:16≤tk) (R:bV) (X:RunsP ((ff,e)::R)) (f:ff+1<e∨0<R.length) (Y:nf≤50000) (Z:ff<4294967295) (G:List ((Nat×Nat)×Vl)) (hG:G.length≤1000) (F:cg 0 (G.map (·.1))=[g0]) (g:g0<65536) (hk:lk G (0,gn)=some (sO kb D 32 kc))
 (K:List (Nat×Vl)) (M:Nat→Option Pg) (H:KM K M) (S:List Nat) (hS:ff∉S) (I:0<cm) :
 TT 111 #[u64 cm,bi c1,bi c2,bi c3,bi c4] [(c1,.cl [bi v] 32),(c2,.cl (eO k tt sec (q:Int) n1 h o s rt ops ky fr too bk) 41),(c3,.cl [sA tb 16 tk] 27),(v,.cl (bU N lim key d rs lg op r p c 0 0 0 gn n al) 90),(al,.pr (MU T)),(r,.cl [.map (some m)] 182),(m,.pr (bB eW G)),(a,.fa (bN Af nf cf ((ff,e)::R))),(O,.fa (BF (pO kb D) 32 kc rkey)),(P,.fa (BF (pA tb) 16 tk tkey)),(Q,.fa (BF (pA mb) 16 mc mark)),(U,.fa (PgsF K M))] [(c4,.cl [u32 tt,i64 q,bY mb 16 mc,u32 0,u64 0,u16 0,u8 0,i64 0,bp] 109),(p,.cl (bM d r lg Af nf cf kn wt (some t) dr pi cm lst false) 199),(kn,.pr (MU K)),(t,.pr (MU (bF S)))]
  (fun x:ij×(Nat×Nat)×(Nat×Nat)=>KM x.1.2 (bX M ff ⟨0,1,0,cm,g0,bw (be tt 4) (bJ q 0 mark 0 0 0 0 1 cm (bZ rkey tt 1 cm tkey))⟩)) (fun x=>.returned (vy ff cm g0 gn (T.length+1)))
  (fun x=>[(c4,.cl (jN tt q mb mc 0 0 0 0 0 x.2.1.1 x.2.1.2) 109),(p,.cl (bM d r lg (pA x.1.1.1) (bS ((ff,e)::R)).length x.1.1.2 kn wt (some t) dr pi cm lst false) 199),(kn,.pr (MU x.1.2)),(t,.pr (MU (bF (S++[ff]))))])
  (fun x=>[(0,.fa (bN (pA x.1.1.1) (bS ((ff,e)::R)).length x.1.1.2 (bS ((ff,e)::R)))),(0,.fa (PgsF x.1.2 (bX M ff ⟨0,1,0,cm,g0,bw (be tt 4) (bJ q 0 mark 0 0 0 0 1 cm (bZ rkey tt 1 cm tkey))⟩))),(x.2.1.1,.fa (CF x.2.1.1 0 (cX 1 cm x.2.2.1 x.2.2.2))),(x.2.2.1,.fa (BF (pA x.2.2.1) 32 x.2.2.2 (bZ rkey tt 1 cm tkey)))]):=by
 have b:cm<18446744073709551616:=by omega
 have ad:0≤q:=by omega
 have ae:(0=0∧0=0∧0=0∧0=0∧0=0)∨(0<0∧0<0):=.inl ⟨rfl,rfl,rfl,rfl,rfl⟩
 have J:32=(bZ rkey tt 1 cm tkey).length:=(ii rkey tt 1 cm tkey i.symm).symm
 refine iE func111<|bu [] 1 fun nm=>bj [9999,4096,0,1,2]<|cE (Hl v N lim key d rs lg op r p c 0 0 0 gn n al m kb D kc O rkey G hk z) [3,5,6,8] [] fun ⟨x,x1⟩ _=>zE<|fP 17 x (BF (pA x) 32 x1 rkey) db fun ⟨fl,fc,fm⟩=>cE (Hh x 0 x1 x tb 0 tk P tt cm rkey tkey fl fc i E L b) [17,9] [] fun ⟨x2,x3⟩ _=>zE<|bv (DU 1 ((↑cm:Int)) (pA x2) 32 x3) [] []<|bu [9999,12] 1 fun nm1=>ip 19 (nm1 0) (.cl (cX 1 cm x2 x3) 155) (CF (nm1 0) 0 (cX 1 cm x2 x3)) (fun w hw=>?_) ?_
 · obtain ⟨ob,h1,h2⟩:=hw
   exact ⟨ob,h1,fZ 0 _ (fun j u hj=>by simpa using hj) ob h2⟩
 refine bj [9999,122880,0,3,0,3,12,0,3,0,3]<|cE (yD d lg r p q mb mc nf cf kn wt Af pi cm lst tt (nm1 0) 1 cm x2 x3 (nm1 0) Q x2 mark (bZ rkey tt 1 cm tkey) y J A L B C l dr m g0 a U ff e t R X f Y Z G hG F K M H S hS I b g) [19,10,18,5,6,7,11] [13,14,15] fun ⟨⟨x4,x5⟩,x6⟩ hx=>?_
 try dsimp only at hx
 exact zE<|bv (gk ((↑ff:Int)) ((↑cm:Int)) ((↑g0:Int))) [] []<|tE (i64 ↑T.length) [4] [(al,.pr (MU T))] (tf (kt:=37) (et:=106) (T:=88) underlying88 (K:=Nat) (enc:=eK .u32) al T 3)<|bj [9999,16]<|qC 16 (nm 0) (fun z9:Int=>(.cl [u32 ff,u64 cm,u16 g0,u8 0,u16 gn,i64 z9] 222)) (wI ((↑T.length:Int)+1) (List.length T+1))<|rT ((((x4,x5),x6),(nm1 0,1),x2,x3)) 16 [20,21,19,18]
end
end
theorem xW (r m t kb b kc a:Nat) (key:Bs) (l:List ((Nat×Nat)×Vl)) (h:lk l (t,1)=none) (c:16=key.length) :
 TT 49 #[bi r,u32 t,u16 1,sO kb b 16 kc] [(r,.cl [.map (some m)] 182),(a,.fa (BF (pO kb b) 16 kc key))] [(m,.pr (bB eW l))] (fun _:Nat×Nat=>True) (fun x=>.returned (i64 0)) (fun x=>[(m,.pr (bB eW (up l (t,1) (sA x.1 16 x.2))))]) (fun x=>[(x.1,.fa (BF (pA x.1) 16 x.2 key))]):=
 Ar r m t 1 kb b 16 kc a key l h c (.inl rfl)
section
variable (v N lim:Nat) (key:Vl) (d rs lg:Nat) (op:Bool) (r p c pp rc rg gn n al:Nat)
variable (k tt:Nat) (sec:Vl) (q n1:Int) (h o s rt:Nat) (ops ky fr too:Vl) (bk:Bool)
variable (c1 c2 c3 c4:Nat)
theorem IL (a mb mc hb hc:Nat) (T:List (Nat×Vl)) (tkey:Bs) (b:16=tkey.length) (m e tb tk:Nat) (G:List ((Nat×Nat)×Vl)) (f:lk G (tt,1)=none) (g:lk T tt=none) :
 TT 117 #[bi c1,bi c2,bi c3,bi c4] [(c1,.cl [bi v] 32),(c2,.cl (eO k tt sec q n1 h o s rt ops ky fr too bk) 41),(c3,.cl [sA tb 16 tk] 27),(v,.cl (bU N lim key d rs lg op r p c pp rc rg gn n al) 90),(r,.cl [.map (some m)] 182),(e,.fa (BF (pA tb) 16 tk tkey)),(c4,.cl (jN tt a mb mc 0 0 0 0 0 hb hc) 109)] [(m,.pr (bB eW G)),(al,.pr (MU T))]
  (fun _:(Nat×Nat)×Nat×Nat×Nat=>True) (fun _=>.returned (.tuple #[]))
  (fun x=>[(m,.pr (bB eW (up G (tt,1) (sA x.1.1 16 x.1.2)))),(al,.pr (MU (up T tt (bi x.2.1))))])
  (fun x=>[(x.1.1,.fa (BF (pA x.1.1) 16 x.1.2 tkey)),(x.2.1,.cl (b9 tt a mb mc 0 0 0 0 hb hc x.2.2.1 x.2.2.2 0) 113),(x.2.2.1,.cl [.map none,u64 0] 212),(x.2.2.2,.pr (MV []))]):=by
 refine iE func117<|zE<|bj [9999,128,0,3,1,2]<|cE (xW r m tt tb 0 tk e tkey G f b) [4,5] [7] fun ⟨x,x1⟩ _=>zE<|bv dx [] []<|zE<|bj [9999,256,0,3,1,6]<|ef (Nat×Nat×Nat) (fun ⟨x2,nmq,nmq1⟩=>True) 24 (fun ⟨x2,nmq,nmq1⟩=>[]) [] (fun ⟨x2,nmq,nmq1⟩=>[(c1,.cl [bi v] 32),(c2,.cl (eO k tt sec q n1 h o s rt ops ky fr too bk) 41),(c3,.cl [sA tb 16 tk] 27),(v,.cl (bU N lim key d rs lg op r p c pp rc rg gn n al) 90),(r,.cl [.map (some m)] 182),(e,.fa (BF (pA tb) 16 tk tkey)),(c4,.cl [u32 tt,i64 a,sA mb 16 mc,u32 0,u64 0,u16 0,u8 0,i64 0,sA hb 1 hc] 109),(m,.pr (bB eW (up G (tt,1) (sA x 16 x1)))),(al,.pr (MU (up T tt (bi nmq1)))),(x,.fa (BF (pA x) 16 x1 tkey)),(x2,.cl [.map none,u64 0] 212),(nmq,.ob (Obj.map ⟨[]⟩ 0)),(nmq1,.cl (b9 tt a mb mc 0 0 0 0 hb hc x2 nmq 0) 113)]) ([]) 7 (fun key1=>?_) ?_
 · refine dq 7 8 ?_ ?_
   · exact cE qV [] [] fun x2 _=>bu [9999,9999] 2 fun nm=>xE (gE (kt:=37) (et:=106) (T:=88) (κ:=.u32) underlying88 underlying37 al T tt (bi (nm 1))) [] [8] fun _ _=>zE<|jT [0,1,2,3,4,5,6,7,8,9,10,11,12] (fun u=>key1 (x2,nm 0,nm 1) u trivial)
   · exact bu [] 1 fun nm=>cE qV [] [] fun x2 _=>bu [9999,9999] 1 fun nm1=>xE (gE (kt:=37) (et:=106) (T:=88) (κ:=.u32) underlying88 underlying37 al T tt (bi (nm1 0))) [] [8] fun _ _=>zE<|jT [0,1,2,3,4,5,6,7,8,9,11,10,12] (fun u=>key1 (x2,nm 0,nm1 0) u trivial)
 rintro ⟨x2,nmq,nmq1⟩ u _
 exact lE 11 nmq (.ob (Obj.map #[] 0)) (.pr (MV [])) (dL (eK .u64) 0)<|rT (((x,x1),nmq1,x2,nmq)) 9999 [9,12,10,11]
end
theorem jU {q:Nat} (h:q<128):(UInt8.ofNat q).toNat=q:=by simp;omega
theorem tM (r b n c k a q:Nat) (l:Bs) (e:n=l.length) (f:k<n) (g:l.getD k 0=UInt8.ofNat q) (d:q<128) (h:n<65536):TT 178 #[bi r] [(a,.fa (BF (pA b) n c l))] [(r,.cl (iM (pA b) n c k) 395)] uT (fun x=>.returned (u64 q)) (fun _=>[(r,.cl (iM (pA b) n c (k+1)) 395)]) (fun x=>[]):=by
 have:=sQ r b n c k a l (UInt8.ofNat q) e f g (by rw [jU d];exact d) h
 rw [jU d] at this
 exact this
theorem sW (r b n c k a q:Nat) (l e:Bs) (f:n=l.length) (g:k+1+q≤n) (h0:0<q) (h:l.getD k 0=UInt8.ofNat q) (d:q<128) (i:n<65536) (j:(l.drop (k+1)).take q=e):TT 179 #[bi r,i64 q] [(a,.fa (BF (pA b) n c l))] [(r,.cl (iM (pA b) n c k) 395)] (fun _:Nat×Nat=>True) (fun x=>.returned (sA x.1 q x.2)) (fun _=>[(r,.cl (iM (pA b) n c (k+1+q)) 395)]) (fun x=>[(x.1,.fa (BF (pA x.1) q x.2 e))]):=by
 have:=Cg r b n c k a q l (UInt8.ofNat q) f (by rw [jU d];exact g) (by rw [jU d];exact h0) h (by rw [jU d];exact d) i (by rw [jU d];exact Nat.le_refl _) (by omega)
 rw [jU d,j] at this
 exact this
theorem qT (r b n c k a:Nat) (l d:Bs) (e:n=l.length) (f:l.getD k 0=UInt8.ofNat 16) (g:(l.drop (k+1)).take 16=d) (h:k+1+16≤n:=by omega) (i:n<65536:=by omega):TT 179 #[bi r,i64 16] [(a,.fa (BF (some ⟨b,0,none⟩) n c l))] [(r,.cl (iM (some ⟨b,0,none⟩) n c k) 395)] (fun _:Nat×Nat=>True) (fun x=>.returned (.slice (some ⟨x.1,0,none⟩) 16 x.2)) (fun _=>[(r,.cl (iM (some ⟨b,0,none⟩) n c (k+1+16)) 395)]) (fun x=>[(x.1,.fa (BF (some ⟨x.1,0,none⟩) 16 x.2 d))]):=sW r b n c k a 16 l d e h (by omega) f (by omega) i g
theorem G5 (r b n c k a:Nat) (l d:Bs) (e:n=l.length) (f:k+1+32≤n) (g:l.getD k 0=UInt8.ofNat 32) (h:n<65536) (i:(l.drop (k+1)).take 32=d):TT 179 #[bi r,i64 32] [(a,.fa (BF (pA b) n c l))] [(r,.cl (iM (pA b) n c k) 395)] (fun _:Nat×Nat=>True) (fun x=>.returned (sA x.1 32 x.2)) (fun _=>[(r,.cl (iM (pA b) n c (k+1+32)) 395)]) (fun x=>[(x.1,.fa (BF (pA x.1) 32 x.2 d))]):=sW r b n c k a 32 l d e f (by omega) g (by omega) h i
theorem iD (e r b n c k a q:Nat) (d:Int) (l:Bs) (f:n=l.length) (g:l.getD k 0=UInt8.ofNat q) (h:q<128) (i:k<n:=by omega) (j:n<65536:=by omega) (o:128≤d:=by omega):TT 177 #[u64 d,bi e] [(e,.cl [bi r] 293),(a,.fa (BF (pA b) n c l))] [(r,.cl (iM (pA b) n c k) 395)] uT (fun x=>.returned (u64 q)) (fun _=>[(r,.cl (iM (pA b) n c (k+1)) 395)]) (fun x=>[]):=by
 refine cJ func177 (by kernel_rfl) fun w0 ho=>?_
 have m:decide ((q:Int)>d)=false:=decide_eq_false (by omega)
 exact bj [0]<|bv (sQ r b n c k a l (UInt8.ofNat q) f i g (by (simp [part];omega)) j) [1] [2]<|bK [2,0] (br (dF ((↑(UInt8.toNat (UInt8.ofNat q)):Int)>d)) bt)<|vE 3 (u64 ↑(UInt8.toNat (UInt8.ofNat q))) (u64 q) (by rw [jU h];try rfl)<|rT ()
theorem zb (d r b n c k a:Nat) (l:Bs) (e:n=l.length) (f:k<n) (g:l.getD k 0=UInt8.ofNat 1) (h:n<65536):TT 177 #[u64 2,bi d] [(d,.cl [bi r] 293),(a,.fa (BF (pA b) n c l))] [(r,.cl (iM (pA b) n c k) 395)] uT (fun x=>.returned (u64 1)) (fun _=>[(r,.cl (iM (pA b) n c (k+1)) 395)]) (fun x=>[]):=iE func177<|bj [0]<|bv (sQ r b n c k a l (UInt8.ofNat 1) e f g (by decide) h) [1] [2]<|bj [0,0]<|rT ()
theorem BT (q ch:Nat) (mark:Bs) (rp rc rg a b hcm:Nat) (wr:Bs) (g:16=mark.length) (i:32=wr.length) :
 (bJ q ch mark rp rc rg a b hcm wr).getD 0 0=UInt8.ofNat q∧(bJ q ch mark rp rc rg a b hcm wr).getD 1 0=UInt8.ofNat ch∧(bJ q ch mark rp rc rg a b hcm wr).getD 2 0=UInt8.ofNat 16∧((bJ q ch mark rp rc rg a b hcm wr).drop 3).take 16=mark ∧
 (bJ q ch mark rp rc rg a b hcm wr).getD 19 0=UInt8.ofNat rp∧(bJ q ch mark rp rc rg a b hcm wr).getD 20 0=UInt8.ofNat rc∧(bJ q ch mark rp rc rg a b hcm wr).getD 21 0=UInt8.ofNat rg∧(bJ q ch mark rp rc rg a b hcm wr).getD 22 0=UInt8.ofNat a∧(bJ q ch mark rp rc rg a b hcm wr).getD 23 0=UInt8.ofNat 1 ∧
 (bJ q ch mark rp rc rg a b hcm wr).getD 24 0=UInt8.ofNat b∧(bJ q ch mark rp rc rg a b hcm wr).getD 25 0=UInt8.ofNat hcm∧(bJ q ch mark rp rc rg a b hcm wr).getD 26 0=UInt8.ofNat 32∧((bJ q ch mark rp rc rg a b hcm wr).drop 27).take 32=wr:=by
 have e:bJ q ch mark rp rc rg a b hcm wr=[UInt8.ofNat q,UInt8.ofNat ch,UInt8.ofNat 16]++(mark++([UInt8.ofNat rp,UInt8.ofNat rc,UInt8.ofNat rg,UInt8.ofNat a,UInt8.ofNat 1,UInt8.ofNat b,UInt8.ofNat hcm,UInt8.ofNat 32]++wr)):=by simp [bJ,fC]
 rw [e]
 generalize hX:[UInt8.ofNat rp,UInt8.ofNat rc,UInt8.ofNat rg,UInt8.ofNat a,UInt8.ofNat 1,UInt8.ofNat b,UInt8.ofNat hcm,UInt8.ofNat 32]=X
 have h:X.length=8:=by rw [← hX];rfl
 have c:∀ k,k<8→(([UInt8.ofNat q,UInt8.ofNat ch,UInt8.ofNat 16]++(mark++(X++wr))).getD (19+k) 0)=X.getD k 0:=fun k hk=>by
  rw [List.getD_eq_getElem?_getD,List.getD_eq_getElem?_getD,List.getElem?_append_right (by simp;omega),List.getElem?_append_right (by simp;omega),List.getElem?_append_left (by simp;omega)]
  congr 2
  simp
  omega
 refine ⟨rfl,rfl,rfl,?_,by rw [c 0 (by omega),← hX];rfl,by rw [c 1 (by omega),← hX];rfl,by rw [c 2 (by omega),← hX];rfl,by rw [c 3 (by omega),← hX];rfl,by rw [c 4 (by omega),← hX];rfl,by rw [c 5 (by omega),← hX];rfl,by rw [c 6 (by omega),← hX];rfl,by rw [c 7 (by omega),← hX];rfl,?_⟩
 · rw [List.drop_append]
   simp [List.take_append,← g]
 · rw [List.drop_append,List.drop_append,List.drop_append]
   have d:List.drop (27-3) mark=[]:=List.drop_eq_nil_of_le (by omega)
   have f:List.drop (27-3-mark.length) X=[]:=List.drop_eq_nil_of_le (by omega)
   simp only [List.length_cons,List.length_nil,Nat.zero_add,Nat.reduceAdd,List.drop_succ_cons,List.drop_nil,List.nil_append,Nat.reduceSub] at d f ⊢
   rw [d,← g,h]
   rw [← g] at f
   simp only [Nat.reduceSub] at f ⊢
   rw [f]
   rw [List.nil_append,List.nil_append,List.drop_zero,List.take_of_length_le (by omega)]
abbrev CS:Type:=(Nat×Nat)×(Nat×Nat)×(Nat×Nat)
theorem Di (t b c a q ch rp rc rg g f hcm:Nat) (mark wr:Bs) (i:16=mark.length) (j:32=wr.length) (s:0<t) (v:1≤q) (l:q<128) (p:ch≤q) (m:(ch=0∧rp=0∧rc=0∧rg=0∧g=0)∨(0<ch∧0<rp)) (h1:rp<128) (h2:rc<128) (h3:rg<128) (h4:g<128) (n:f<128) (o:hcm<128) :
 TT 98 #[u32 t,bY b 59 c] [(a,.fa (BF (pA b) 59 c (bJ q ch mark rp rc rg g f hcm wr)))] [] (fun _:CS=>True) (fun x=>.returned (.tuple #[kp t q x.1.1 x.1.2 rp rc rg g ch x.2.1.1 x.2.1.2,i64 0])) (fun _=>[]) (fun x=>[(x.1.1,.fa (BF (pA x.1.1) 16 x.1.2 mark)),(x.2.1.1,.fa (CF x.2.1.1 0 (cX f hcm x.2.2.1 x.2.2.2))),(x.2.2.1,.fa (BF (pA x.2.2.1) 32 x.2.2.2 wr))]):=by
 have d:=io q ch mark rp rc rg g f hcm wr i j
 obtain ⟨s0,s1,s2,s3,s19,s20,s21,s22,s23,s24,s25,s26,s27⟩:=BT q ch mark rp rc rg g f hcm wr i j
 generalize hB:bJ q ch mark rp rc rg g f hcm wr=B at *
 have pos:∀ k:Nat,k=0→B.getD k 0=UInt8.ofNat q∧B.getD (k+1) 0=UInt8.ofNat ch∧B.getD (k+1+1) 0=UInt8.ofNat 16∧(B.drop (k+1+1+1)).take 16=mark∧B.getD (k+1+1+1+16) 0=UInt8.ofNat rp∧B.getD (k+1+1+1+16+1) 0=UInt8.ofNat rc∧B.getD (k+1+1+1+16+1+1) 0=UInt8.ofNat rg∧B.getD (k+1+1+1+16+1+1+1) 0=UInt8.ofNat g∧B.getD (k+1+1+1+16+1+1+1+1) 0=UInt8.ofNat 1∧B.getD (k+1+1+1+16+1+1+1+1+1) 0=UInt8.ofNat f∧B.getD (k+1+1+1+16+1+1+1+1+1+1) 0=UInt8.ofNat hcm∧B.getD (k+1+1+1+16+1+1+1+1+1+1+1) 0=UInt8.ofNat 32∧(B.drop (k+1+1+1+16+1+1+1+1+1+1+1+1)).take 32=wr:=fun k hk=>by
  subst hk
  exact ⟨s0,s1,s2,s3,s19,s20,s21,s22,s23,s24,s25,s26,s27⟩
 clear s0 s1 s2 s3 s19 s20 s21 s22 s23 s24 s25 s26 s27
 refine iE func98<|bu [] 1 fun nm=>cE (Fy b 0 59 c a B d (by omega) (by omega)) [0] [] fun ⟨x,x1,x2,x3⟩ hx=>?_
 try dsimp only at hx
 refine bu [4] 1 fun nm1=>?_
 obtain ⟨s0,s1,s2,s3,s19,s20,s21,s22,s23,s24,s25,s26,s27⟩:=pos x3 hx
 refine bj [9999,4,4]<|ef (Nat×Nat×Nat) (fun ⟨x4,x5,nm2q⟩=>True) 86 (fun ⟨x4,x5,nm2q⟩=>[(1,sA b 59 c),(4,bi (nm 0)),(5,i64 0),(6,bi (nm1 0)),(7,.func (Fn.func 177) ⟨[]⟩ ⟨[bi (nm1 0)]⟩),(8,bi nm2q)]) [.code (cZ f98 8)] (fun ⟨x4,x5,nm2q⟩=>[(a,.fa (BF (pA b) 59 c B)),(nm 0,.cl [u32 0,i64 0,.slice none 0 0,u32 0,u64 0,u16 0,u8 0,i64 0,.slice none 0 0] 109),(x,.cl [sA x1 59 x2,i64 ↑(x3+1+1+1+16),i64 0] 395),(x1,.fa (BF (pA x1) 59 x2 B)),(nm1 0,.cl [bi x] 293),(x4,.fa (BF (pA x4) 16 x5 mark)),(nm2q,.cl [u32 t,i64 (IntKind.wrap .i64 q),sA x4 16 x5,u32 0,u64 0,u16 0,u8 0,i64 (IntKind.wrap .i64 ch),.slice none 0 0] 109)]) ([]) 1 (fun key=>?_) ?_
 · refine dq 2 10 ?_ ?_
   · refine bv (iD (nm1 0) x x1 59 x2 x3 x1 q 1000 B d s0 l) [4,3] [2]<|bj [9999]<|dq 5 10 ?_ ?_
     · refine bv (iD (nm1 0) x x1 59 x2 (x3+1) x1 ch 1000 B d s1 (by omega)) [4,3] [2]<|bj [9999]<|dq 8 10 ?_ ?_
       · refine cE (qT x x1 59 x2 (x3+1+1) x1 B mark d s2 s3) [3] [2] fun ⟨x4,x5⟩ _=>ib 6 [9999,6] 1 _ bt fun nm2=>⟨by kernel_rfl,?_⟩
         exact jT [0,1,2,3,4,5,6] (fun u=>key (x4,x5,nm2 0) u trivial)
       · refine bu [] 1 fun nm2=>cE (qT x x1 59 x2 (x3+1+1) x1 B mark d s2 s3) [3] [2] fun ⟨x4,x5⟩ _=>ib 4 [9999,5] 0 _ bt fun _=>⟨by kernel_rfl,?_⟩
         exact jT [0,1,2,3,4,6,5] (fun u=>key (x4,x5,nm2 0) u trivial)
     · refine bu [] 1 fun nm2=>bv (iD (nm1 0) x x1 59 x2 (x3+1) x1 ch 1000 B d s1 (by omega)) [4,3] [2]<|bj [9999]<|cE (qT x x1 59 x2 (x3+1+1) x1 B mark d s2 s3) [3] [2] fun ⟨x4,x5⟩ _=>ib 4 [9999,5] 0 _ bt fun _=>⟨by kernel_rfl,?_⟩
       exact jT [0,1,2,3,4,6,5] (fun u=>key (x4,x5,nm2 0) u trivial)
   · refine bu [] 1 fun nm2=>bv (iD (nm1 0) x x1 59 x2 x3 x1 q 1000 B d s0 l) [4,3] [2]<|bj [9999]<|bv (iD (nm1 0) x x1 59 x2 (x3+1) x1 ch 1000 B d s1 (by omega)) [4,3] [2]<|bj [9999]<|cE (qT x x1 59 x2 (x3+1+1) x1 B mark d s2 s3) [3] [2] fun ⟨x4,x5⟩ _=>ib 4 [9999,5] 0 _ bt fun _=>⟨by kernel_rfl,?_⟩
     exact jT [0,1,2,3,4,6,5] (fun u=>key (x4,x5,nm2 0) u trivial)
 rintro ⟨x4,x5,nm2q⟩ u _
 refine zE<|qE 6 nm2q (.cl [u32 t,i64 (IntKind.wrap .i64 q),sA x4 16 x5,u32 0,u64 0,u16 0,u8 0,i64 (IntKind.wrap .i64 ch),.slice none 0 0] 109) (.cl [u32 t,i64 q,sA x4 16 x5,u32 0,u64 0,u16 0,u8 0,i64 ch,.slice none 0 0] 109) (by rw [show IntKind.wrap .i64 q=(↑q:Int) from (di rfl),show IntKind.wrap .i64 ch=(↑ch:Int) from (di rfl)])<|bv (iD (nm1 0) x x1 59 x2 (x3+1+1+1+16) x1 rp 4294967295 B d s19 h1) [4,3] [2]<|bj [9999,4]<|bv (tM x x1 59 x2 (x3+1+1+1+16+1) x1 rc B d (by omega) s20 h2 (by omega)) [3] [2]<|zE<|bv (iD (nm1 0) x x1 59 x2 (x3+1+1+1+16+1+1) x1 rg 65535 B d s21 h3) [4,3] [2]<|bj [9999,9999,6]<|qE 6 nm2q (.cl [u32 t,i64 q,sA x4 16 x5,u32 (IntKind.wrap .u32 rp),u64 rc,u16 (IntKind.wrap .u16 rg),u8 0,i64 ch,.slice none 0 0] 109) (.cl [u32 t,i64 q,sA x4 16 x5,u32 rp,u64 rc,u16 rg,u8 0,i64 ch,.slice none 0 0] 109) (by rw [show IntKind.wrap .u32 rp=(↑rp:Int) from (jr rfl),show IntKind.wrap .u16 rg=(↑rg:Int) from (yB rfl (by omega))])<|bv (iD (nm1 0) x x1 59 x2 (x3+1+1+1+16+1+1+1) x1 g 255 B d s22 h4) [4,3] [2]<|bj [9999,6] ?_
 refine qE 6 nm2q (.cl [u32 t,i64 q,sA x4 16 x5,u32 rp,u64 rc,u16 rg,u8 (IntKind.wrap .u8 g),i64 ch,.slice none 0 0] 109) (.cl [u32 t,i64 q,sA x4 16 x5,u32 rp,u64 rc,u16 rg,u8 g,i64 ch,.slice none 0 0] 109) (by rw [show IntKind.wrap .u8 g=(↑g:Int) from (k5)])<|bv (zb (nm1 0) x x1 59 x2 (x3+1+1+1+16+1+1+1+1) x1 B d (by omega) s23 (by omega)) [4,3] [2]<|bj [2,0,0]<|bj [13,4,6,4,4]<|bv (iD (nm1 0) x x1 59 x2 (x3+1+1+1+16+1+1+1+1+1) x1 f 65535 B d s24 n) [4,3] [2]<|bj [9999]<|bv (tM x x1 59 x2 (x3+1+1+1+16+1+1+1+1+1+1) x1 hcm B d (by omega) s25 o (by omega)) [3] [2]<|zE<|cE (G5 x x1 59 x2 (x3+1+1+1+16+1+1+1+1+1+1+1) x1 B wr d (by omega) s26 (by omega) s27) [3] [2] fun ⟨x6,x7⟩ _=>bu [9999,9999] 1 fun nm3=>xV (gZ (t:=107) (e:=155) (ty:=107) (k:=3) (by_:=40) (z:=.agg #[u16 0,u64 0,.slice none 0 0]) underlying107 (nm3 0) 0 1 1 ([u16 (IntKind.wrap .u16 f),u64 hcm,sA x6 32 x7])) [8] [] (Views.less (.cl [u16 (IntKind.wrap .u16 f),u64 hcm,sA x6 32 x7] 155) bA Views.nil) ?_
 rintro ⟨x8,x9⟩ _
 refine bj [6,0,0,4]<|qE 8 (nm3 0) (.cl [u16 (IntKind.wrap .u16 f),u64 hcm,sA x6 32 x7] 155) (.cl [u16 f,u64 hcm,sA x6 32 x7] 155) (by rw [show IntKind.wrap .u16 f=(↑f:Int) from (yB rfl (by omega))])<|qE 2 x (.cl [sA x1 59 x2,i64 ↑(x3+1+1+1+16+1+1+1+1+1+1+1+1+32),i64 0] 395) (.cl (iM (pA x1) 59 x2 59) 395) (by subst hx;rfl) ?_
 have r:IntKind.u16.wrap (f:Int)=(f:Int):=by rw [dP];omega
 exact ip 9 x8 (.pr (bn 155 3 1 x9 [.int .u16 (IntKind.u16.wrap (f:Int)),u64 hcm,sA x6 32 x7])) (CF x8 0 (cX f hcm x6 x7)) (fun w h=>by rw [r] at h;exact xu w h)<|bv (C2 x x1 59 x2) [2] []<|bj [0,0,6]<|cE (pR t q x4 x5 rp rc rg g ch x8 x9 f hcm x6 x7 x8 x4 x6 mark wr i j s v l p m h1 h2 h3 h4 n o) [9,5,7] [] fun ⟨x10,x11⟩ _=>bj [0]<|qE 10 x10 (.fa (BF (pA x10) 59 x11 (bJ q ch mark rp rc rg g f hcm wr))) (.fa (BF (pA x10) 59 x11 B)) (by rw [hB])<|bv (Ds a x10 59 59 c x11 b 0 x10 0 B) [0,10] []<|bj [0,6,1]<|rT (((x4,x5),(x8,x9),x6,x7)) 1 [5,9,7]
section
variable (p d r g:Nat) (Af:Option Addr) (nf cf kn wt:Nat) (pu dr:Option Nat) (pi cm lst:Nat) (fl:Bool)
theorem Dp:Same 57 #[dN p,cu 0 0 0] [] (.tuple #[bp,i64 0]):=iE func57<|bu [9999,0] 1 fun nm=>bv (yK p 0) [] []<|bj [0,0,2,0,0]<|rT ()
theorem wO (na nfm N:Nat) (h:Vl) (steps:Int) (t n c b a:Nat) (key val:Bs) (i:4=key.length) (j:59=val.length) (K:List (Nat×Vl)) (M:Nat→Option Pg) (e:KM K M) (k:M n=some ⟨t,1,0,c,b,bw key val⟩) (h2:2≤n) (l:n<N) (f:n<4294967296) (k1:1≤key.length) (m:key.length≤32) (o:1≤val.length) (q:val.length≤64) :
 TT 97 #[dN p,u32 t,cu n c b,bp,bp,i64 4611686018427387904,.bool false] [(p,.cl (bM d r g Af nf cf kn wt pu dr pi cm lst fl) 199),(d,.cl (bQ na nfm N h steps) bT),(kn,.pr (MU K)),(a,.fa (PgsF K M))] [] (fun _:(Nat×Nat)×(Nat×Nat)×Nat×Nat=>True) (fun x=>.returned (.tuple #[ck x.2.2.1 1 x.2.2.2,i64 0])) (fun _=>[])
  (fun x=>[(x.2.2.1,.pr (bn 164 2 1 x.2.2.2 [ck x.1.1 4 x.1.2,ck x.2.1.1 59 x.2.1.2])),(x.1.1,.fa (BF (pA x.1.1) 4 x.1.2 key)),(x.2.1.1,.fa (BF (pA x.2.1.1) 59 x.2.1.2 val))]):=by
 rw [i,j]
 exact zm p d r g Af nf cf kn wt pu dr pi cm lst fl na nfm N h steps t n c b a key val K M e k h2 l f k1 m o q
theorem Bn (t:Nat) (h:t<4294967296):b8 (be t 4)=t:=gc t 4
theorem D3 (t q ch rp rc rg b f hcm:Nat) (mark wr:Bs) (i:16=mark.length) (j:32=wr.length) (P:0<t) (l:t<4294967296) (I:1≤q) (o:q<128) (s:ch≤q) (h:(ch=0∧rp=0∧rc=0∧rg=0∧b=0)∨(0<ch∧0<rp)) (h1:rp<128) (h2:rc<128) (h3:rg<128) (h4:b<128) (u:f<128) (v:hcm<128)
 (na nfm N:Nat) (H:Vl) (steps:Int) (n c w a:Nat) (K:List (Nat×Vl)) (M:Nat→Option Pg) (y:KM K M) (J:M n=some ⟨0,1,0,c,w,bw (be t 4) (bJ q ch mark rp rc rg b f hcm wr)⟩) (A:2≤n) (L:n<N) (B:n<4294967296) :
 TT 57 #[dN p,cu n c w] [(p,.cl (bM d r g Af nf cf kn wt pu dr pi cm lst fl) 199),(d,.cl (bQ na nfm N H steps) bT),(kn,.pr (MU K)),(a,.fa (PgsF K M))] [] (fun _:CS×Nat×Nat=>True) (fun x=>.returned (.tuple #[ck x.2.1 1 x.2.2,i64 0])) (fun _=>[])
  (fun x=>[(x.2.1,.pr (bn 109 9 1 x.2.2 (jN t q x.1.1.1 x.1.1.2 rp rc rg b ch x.1.2.1.1 x.1.2.1.2))),(x.1.1.1,.fa (BF (pA x.1.1.1) 16 x.1.1.2 mark)),(x.1.2.1.1,.fa (CF x.1.2.1.1 0 (cX f hcm x.1.2.2.1 x.1.2.2.2))),(x.1.2.2.1,.fa (BF (pA x.1.2.2.1) 32 x.1.2.2.2 wr))]):=by
 have C:=io q ch mark rp rc rg b f hcm wr i j
 have O:4=(be t 4).length:=(cc t 4).symm
 have D:1≤(bJ q ch mark rp rc rg b f hcm wr).length:=by omega
 have E:(bJ q ch mark rp rc rg b f hcm wr).length≤64:=by omega
 have F:1≤(be t 4).length:=by omega
 have G:(be t 4).length≤32:=by omega
 have m:=Bn t l
 refine iE func57<|bu [9999,4] 1 fun nm=>cE (wO p d r g Af nf cf kn wt pu dr pi cm lst fl na nfm N H steps 0 n c w a (be t 4) (bJ q ch mark rp rc rg b f hcm wr) (by kernel_rfl) C K M y J A L B F G D E) [0,1,2,3] [] fun ⟨⟨x,x1⟩,⟨x2,x3⟩,x4,x5⟩ _=>fE 5 x4 (bn 164 2 1 x5 [ck x 4 x1,ck x2 59 x3]) bx fun hc=>bj [0,0,2,0,0,9999]<|rE (er (T:=164) underlying164 (e:=164) x4 0 2 1 x5 2 ([ck x 4 x1,ck x2 59 x3]) (by (simp;done))) [5]<|bu [] 1 fun nm1=>vE 28 (.agg ⟨List.take 2 (List.drop 0 [ck x 4 x1,ck x2 59 x3])⟩) (.agg ⟨[sA x 4 x1,sA x2 59 x3]⟩) (by rfl)<|bj [8,8]<|bv (gm x 0 4 x1 x (be t 4)) [6] []<|bj [0,8,0,0,9999,8] ?_
 exact vC 45 u32 (kd (b8 (be t 4)))<|cE (Di (b8 (be t 4)) x2 x3 x2 q ch rp rc rg b f hcm mark wr i j (by omega) I o s h h1 h2 h3 h4 u v) [7] [] fun ⟨⟨x6,x7⟩,⟨x8,x9⟩,x10,x11⟩ _=>bu [12,0,0,12,9999] 2 fun nm2=>xV (gZ (t:=147) (e:=109) (ty:=147) (k:=9) (by_:=104) (z:=.agg #[u32 0,i64 0,.slice none 0 0,u32 0,u64 0,u16 0,u8 0,i64 0,.slice none 0 0]) underlying147 (nm2 1) 0 1 1 ([u32 ↑(b8 (be t 4)),i64 q,sA x6 16 x7,u32 rp,u64 rc,u16 rg,u8 b,i64 ch,sA x8 1 x9])) [13] [] (Views.less (.cl [u32 ↑(b8 (be t 4)),i64 q,sA x6 16 x7,u32 rp,u64 rc,u16 rg,u8 b,i64 ch,sA x8 1 x9] 109) bA Views.nil) fun ⟨x12,x13⟩ _=>fE 14 x12 (bn 109 9 1 x13 [u32 ↑(b8 (be t 4)),i64 q,sA x6 16 x7,u32 rp,u64 rc,u16 rg,u8 b,i64 ch,sA x8 1 x9]) bx fun hc1=>bj [0,0]<|qE 14 x12 (.pr (bn 109 9 1 x13 (jN (b8 (be t 4)) q x6 x7 rp rc rg b ch x8 x9))) (.pr (bn 109 9 1 x13 (jN t q x6 x7 rp rc rg b ch x8 x9))) (by rw [m])<|rT ((((x6,x7),(x8,x9),x10,x11),x12,x13)) 9999 [14,9,10,11]
end
abbrev Ir (N lim:Nat) (key:Vl) (d rs lg:Nat):List Vl:=[i64 (N:Int),u64 (lim:Int),.slice none 0 0,key,bi d,bi rs,bi lg,.bool false,.pointer none,.pointer none,u64 0,u32 0,u64 0,u16 0,u8 0,u16 0,u32 0,.map none]
structure OpX where
 r:Nat
 m:Nat
 kb:Nat
 kc:Nat
 p:Nat
 kn:Nat
 wt:Nat
 pi:Nat
 al:Nat
 fa:Nat
 L:bV
 Af:Option Addr
 c:Nat
section
variable (v N lim d rs lg vk vc ak na nfm:Nat)
theorem AI (vkey:Bs) (o:32=vkey.length) (q:32≤vc) (A:8≤N) (s:N≤4096) (steps:Int) (e:Int) (dv:Vl) :
 TT 23 #[bi v,.bool false] [(ak,.fa (BF (pA vk) 32 vc vkey)),(rs,.cl (dc d e 0 0 dv) df),(d,.cl (bQ na nfm N (.slice none 0 0) steps) bT),(na,.cl (bE (List.replicate N (List.replicate 256 0))) 166)] [(v,.cl (Ir N lim (sA vk 32 vc) d rs lg) 90)] (fun x:OpX=>RunsP x.L∧∀ m,bR x.L m↔2≤m∧m<N∧m∉([]:List Nat)) (fun _=>.returned (i64 0)) (fun x=>[(v,.cl (bU N lim (sA vk 32 vc) d rs lg true x.r x.p 0 0 0 0 1 0 x.al) 90)])
  (fun x=>[(x.r,.cl [.map (some x.m)] 182),(x.m,.pr (bB eW [((0,1),sA x.kb 32 x.kc)])),(x.kb,.fa (BF (pA x.kb) 32 x.kc (bW vkey 1 1))),(x.p,.cl (bM d x.r lg x.Af x.L.length x.c x.kn x.wt none none x.pi 0 0 false) 199),(x.kn,.pr (MU [])),(x.wt,.pr (MU (bF []))),(x.pi,.pr (MU [])),(x.fa,.fa (bN x.Af x.L.length x.c x.L)),(x.al,.pr (MU []))]):=by
 have a:(List.replicate N (List.replicate 256 (0:UInt8))).length=N:=List.length_replicate
 have b:=xT N
 have h:0<N:=by omega
 have i:1<N:=by omega
 have f:(List.replicate N (List.replicate 256 (0:UInt8))).getD 0 []=List.replicate 256 0:=by simp [h]
 have g:(List.replicate N (List.replicate 256 (0:UInt8))).getD 1 []=List.replicate 256 0:=by simp [i]
 obtain ⟨now,hnow⟩:∃ now,List.replicate N (List.replicate 256 (0:UInt8))=now:=⟨_,rfl⟩
 rw [hnow] at a b f g ⊢
 have j:256=(now.getD 0 []).length:=by rw [f];rfl
 have k:256=(now.getD 1 []).length:=by rw [g];rfl
 have u:(now.getD 0 []).take 4≠[67,72,84,49]:=by rw [f];decide
 have w:(now.getD 1 []).take 4≠[67,72,84,49]:=by rw [g];decide
 have n:32=(bW vkey 1 1).length:=(fg vkey 1 1).symm
 have y:∀ m,m∉([]:List Nat)→lk ([]:List (Nat×Vl)) m=none:=fun m _=>rfl
 have z:∀ m,2≤m→m<N→m∉([]:List Nat)→now.getD m []=List.replicate 256 0:=fun m _ hm _=>by rw [← hnow];simp [hm]
 refine dE func23 fun w0 ho=>bu [] 1 fun nm=>cE vD [] [] fun ⟨x,x1⟩ _=>bu [4,4,4,4] 1 fun nm1=>cS ⟨.fn (.func 26) #[],#[bi v,bi (nm 0)]⟩<|lE 8 (nm1 0) (.ob (.map #[] 0)) (.pr (MU [])) (dL _ _)<|bj [0,4,0,0,4]<|cE (jh d na nfm N (.slice none 0 0) steps now a b 0 h) [2,3] [] fun x2 _=>zE<|bv (ew (sA x2 256 256)) [] []<|gW (t:=166) (l:=List.getD now 0 []) 9 x2 256 j (by first | decide | (simp only [maxLen];omega)) ?_
 refine bv (tY x2 0 x2 (List.getD now 0 []) j u) [9] []<|bj [0,0,0,0,4]<|cE (jh d na nfm N (.slice none 0 0) steps now a b 1 i) [2,3] [] fun x3 _=>zE<|bv (ew (sA x3 256 256)) [] []<|gW (t:=166) (l:=List.getD now 1 []) 10 x3 256 k (by first | decide | (simp only [maxLen];omega))<|bv (tY x3 0 x3 (List.getD now 1 []) k w) [10] []<|bj [0,0,0,0]<|bj [19,0,4,4,4]<|bv (zg d rs x e dv) [1] []<|zE ?_
 refine bv (re 0 0 0 0 0 0 0) [] []<|bj [4,4,0,0,4,4]<|cE (l7 x x1 ([]) (by decide) (by kernel_rfl)) [6,7] [] fun ⟨x4,x5⟩ _=>zE<|bj [4,0,0,4]<|cE (l7 x x1 ([]) (by decide) (by kernel_rfl)) [6,7] [] fun ⟨x6,x7⟩ _=>bj [0,0]<|bj [9999,128,4,4,4,4]<|cE (o5 vk 0 vc ak vkey o q) [0] [] fun ⟨x8,x9⟩ _=>zE<|cE (ew (sA x8 32 x9)) [] [] ?_
 intro _ _
 refine zE<|cE (mZ x x1 ([]) x8 0 x9 x8 (bW vkey 1 1) (by kernel_rfl) n) [6,11] [7] fun ⟨x10,x11⟩ _=>zE<|bv dx [] []<|zE<|bj [19,0,4,4,4]<|cE (vW d x lg) [] [] fun ⟨x12,x13,x14,x15⟩ _=>zE<|bv (sH (bi x12)) [] []<|bj [4]<|bj [9999,0,4,4] ?_
 refine bv (Cl x12) [] []<|zE<|bv (g8 (.slice none 0 0)) [] []<|zE<|bj [9999,0,4,4]<|bv (Dp x12) [] []<|zE<|bv (r8 (.slice none 0 0)) [] []<|bj [4,9999,0,0]<|bj [9999,0,4,4]<|cE (sk x x1 (up [] (0,1) (sA x10 32 x11)) x10 0 x11 x10 (bW vkey 1 1) rfl n) [6,7,12] [] ?_
 rintro ⟨x16,x17⟩ _
 refine zE<|bv (ew (sA x16 32 x17)) [] []<|bj [4,0,0]<|xE Dz [] [] fun x18 _=>bj [4,0,0,4]<|cE (F2 x12 d x lg x13 x14 none none x15 0 false na nfm N (.slice none 0 0) steps now a b A s x18 0 ([]) y z) [2,3] [13,14] fun ⟨x19,x20,x21,x22,x23⟩ ⟨hx,hx1⟩=>?_
 try dsimp only at hx hx1
 exact bv dx [] []<|bj [4,5]<|fV<|dG #[] #[bi v,bi (nm 0)] [] (gx v (nm 0)) [] [] fun _ _=>fS (⟨x,x1,x10,x11,x12,x13,x22,x15,nm1 0,x23,x19,x20,x21⟩:OpX) (i64 0) [6,7,12,13,14,19,16,20,8] (fN _ 5) rfl (by first | assumption | exact ⟨by assumption,by assumption⟩)
end
end Go.Proofs.YtlkeemedalncoaaGreat.En
