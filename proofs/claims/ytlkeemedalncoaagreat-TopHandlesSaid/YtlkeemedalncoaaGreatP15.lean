/- TopHandles, part 15: no condition. -/
import Derived.Test.YtlkeemedalncoaaGreatP14
set_option linter.all false
set_option maxHeartbeats 16000000
set_option maxRecDepth 100000
namespace Go.Proofs.YtlkeemedalncoaaGreat.En
open Go Go.RowKit Go.Proofs.YtlkeemedalncoaaGreat Go.Proofs.Tryz
def zB:Bs:=List.replicate 256 0
theorem Ex:zB.length=256:=List.length_replicate
def dp (now:List Bs) (L:List Nat):List Bs:=L.foldl (fun a n=>a.set n zB) now
theorem zi (now:List Bs) (L:List Nat) (n:Nat):dp now (L++[n])=(dp now L).set n zB:=by simp [dp]
theorem nv (now:List Bs) (L:List Nat):(dp now L).length=now.length:=by
 induction L generalizing now with
 | nil=>rfl
 | cons n L ih=>exact (ih _).trans (by simp)
theorem nD (now:List Bs) (L:List Nat) (h:bP now):bP (dp now L):=by
 induction L generalizing now with
 | nil=>exact h
 | cons n L ih=>exact ih _ (kz h n _ Ex)
section
variable (p d r g:Nat) (Af:Option Addr) (nf cf kn wt:Nat) (pu dr:Option Nat) (pi cm lst:Nat) (fl:Bool)
theorem CX (na nfm N:Nat) (steps:Int) (now firm:List Bs) (z:now.length=N) (A:firm.length=N) (a:bP now) (f256:bP firm) (B:N≤4096) (b c:Nat) (L:List Nat) (h0:0<L.length) (C:L.length≤12) (D:∀ n∈L,n<N) :
 TT 105 #[bi p,sA b L.length c] [(p,.cl (bM d r g Af nf cf kn wt pu dr pi cm lst fl) 199),(b,.pr (bn 37 1 L.length c (L.map cr)))] [(d,.cl (bQ na nfm N (.slice none 0 0) steps) bT),(na,.cl (bE now) 166),(nfm,.cl (bE firm) 166)] (fun _:Int=>True) (fun _=>.returned (i64 0)) (fun s=>[(d,.cl (bQ na nfm N (.slice none 0 0) s) bT),(na,.cl (bE (dp now L)) 166),(nfm,.cl (bE (dp now L)) 166)]) (fun _=>[]):=by
 refine cJ func105 (by kernel_rfl) fun w0 ho=>?_
 have E:(List.replicate 256 (0:UInt8)).length=256:=List.length_replicate
 refine zE<|lV<|cY (X:=Nat×Int×Vl×Nat×SB) (fun y=>y.1≤L.length∧∃ ws,SlE 168 257 y.1 ws y.2.2.1 (y.2.2.2.1,y.2.2.2.2)) (fun y=>L.length-y.1) 34 (fun y=>[(0,bi p),(1,sA b L.length c),(8,sA b L.length c),(9,i64 L.length),(10,i64 y.1)])
  (fun y=>[(p,.cl (bM d r g Af nf cf kn wt pu dr pi cm lst fl) 199),(b,.pr (bn 37 1 L.length c (L.map cr))),(d,.cl (bQ na nfm N y.2.2.1 y.2.1) bT),(na,.cl (bE (dp now (L.take y.1))) 166),(nfm,.cl (bE firm) 166),(y.2.2.2.1,y.2.2.2.2)])
  (0,steps,.slice none 0 0,0,.dead) (by kernel_rfl) ⟨Nat.zero_le _,⟨[],SlE.nil 168 257⟩⟩ fun ⟨j,steps',wv,wb,wsb⟩ u J hpre back=>?_
 have F:j≤L.length:=hpre.1
 obtain ⟨ws,hws⟩:∃ ws,SlE 168 257 j ws wv (wb,wsb):=hpre.2
 clear hpre
 have l:(dp now (L.take j)).length=N:=by rw [nv,z]
 have f:bP (dp now (L.take j)):=nD _ _ a
 rcases Nat.lt_or_ge j L.length with hjl | hjl
 · obtain ⟨n,hn⟩:∃ n,n=L.getD j 0:=⟨_,rfl⟩
   have m:n∈L:=by rw [hn,List.getD_eq_getElem?_getD,List.getElem?_eq_getElem hjl];exact List.getElem_mem hjl
   have o:(L.map cr)[j]?=some (cr n):=by rw [List.getElem?_map,List.getElem?_eq_getElem hjl,hn,List.getD_eq_getElem?_getD,List.getElem?_eq_getElem hjl];rfl
   have q:n<N:=D n m
   refine bK [1,0] (br (dT ((↑j:Int)<(↑L.length:Int))) bt)<|rE (bL (t:=45) (e:=37) (k:=1) underlying45 .i64 b 0 L.length c j hjl) []<|mK (g7 (T:=37) b 0 j (List.map cr L) (cr n) o) [1] (Views.less (.pr (bn 37 1 L.length c (List.map cr L))) ci Views.nil)<|zE<|bj [7,0,0,9999]<|xE (eq .i64 .i64 256) [] [] fun x _=>zE<|vC 19 i64 (nI n)<|cV (ET d na nfm N wv ((wb,wsb)) j ws hws (by omega) steps' (dp now (List.take j L)) l f n q x 0 256 (List.replicate 256 0) (by kernel_rfl)) [6] [2,3,5] (Views.less (.cl (List.map B8 (List.replicate 256 0)) 5) bA Views.nil) fun ⟨x1,x2,x3,x4,x5⟩ hx=>?_
   try dsimp only at hx
   refine bj [0,0]<|qE 3 na (.cl (bE (List.set (dp now (List.take j L)) n (List.replicate 256 0))) 166) (.cl (bE (dp now (List.take (j+1) L))) 166) (by rw [take_snoc hjl,zi,← hn];try rfl) ?_
   have v:j+1≤L.length∧∃ ws,SlE 168 257 (j+1) ws (.slice x2 (j+1) x3) (x4,x5):=⟨hjl,_,hx⟩
   exact vC 10 i64 (wI ((↑j:Int)+1) (j+1))<|wE [0,1,2,3,4,7] 2 [(p,.cl (bM d r g Af nf cf kn wt pu dr pi cm lst fl) 199),(b,.pr (bn 37 1 L.length c (List.map cr L))),(d,.cl (bQ na nfm N (.slice x2 (j+1) x3) x1) 123),(na,.cl (bE (dp now (List.take (j+1) L))) 166),(nfm,.cl (bE firm) 166),(x4,x5)]<|back _ (j+1,x1,.slice x2 (j+1) x3,x4,x5) (by omega) (by omega) (by kernel_rfl)
 · obtain rfl:j=L.length:=by omega
   have w:(dp now L).length=N:=by rw [nv,z]
   have h:bP (dp now L):=nD _ _ a
   have i:((L.length:Int)==0)=false:=by rw [beq_eq_false_iff_ne];omega
   exact qE 3 na (.cl (bE (dp now (List.take L.length L))) 166) (.cl (bE (dp now L)) 166) (by rw [List.take_length];try rfl)<|bK [2,0,2,0,0] (br i (br (dF ((↑L.length:Int)<(↑L.length:Int))) bt))<|cE (nL d na nfm N wv steps' (dp now L) firm w A h f256) [3] [2,4] fun x _=>zE<|rT x
end
theorem yk {L:bV} (h:RunsP L):∀ lo N,(∀ q∈L,lo≤q.1∧q.2≤N)→L.length≤N-lo:=by
 induction L with
 | nil=>intro lo N _;simp
 | cons q L ih=>
  intro lo N hq
  have h1:=hq q (by simp)
  have h2:=h.pos q (by simp)
  have a:=h.gap
  rw [List.pairwise_cons] at a
  have h3:=ih ⟨fun q hq=>h.pos q (by simp [hq]),a.2⟩ (q.2+1) N fun p hp=>⟨a.1 p hp,(hq p (by simp [hp])).2⟩
  rw [List.length_cons]
  omega
theorem o1 {L:bV} (h:RunsP L) {N:Nat} (a:∀ m,bR L m→m<N):∀ q∈L,q.2≤N:=fun q hq=>by
 have h1:=h.pos q hq
 have:=a (q.2-1) ⟨q,hq,by omega,by omega⟩
 omega
theorem BO {L:bV} (h:RunsP L) {N:Nat} (a:∀ m,bR L m→m<N):L.length≤N:=by
 have:=yk h 0 N fun q hq=>⟨Nat.zero_le _,o1 h a q hq⟩
 omega
def dA (M:Nat→Option Pg) (G:List Nat):Nat→Option Pg:=fun n=>if n∈G then none else M n
theorem kG (M:Nat→Option Pg):dA M []=M:=by funext n;simp [dA]
theorem rV (M:Nat→Option Pg) (G:List Nat) (n:Nat):n9 (dA M G) n=dA M (G++[n]):=by
 funext m
 unfold n9 dA
 by_cases h:m=n <;> simp [h]
theorem yc (M:Nat→Option Pg) {G a:List Nat} (h:∀ n,n∈G↔n∈a):dA M G=dA M a:=by
 funext m
 unfold dA
 simp only [h m]
def cN (pin:Nat→Nat) (n:Nat):Bool:=pin n==0
theorem zP {pin:Nat→Nat} {x:List Nat} {j:Nat} (h:j<x.length):(x.take (j+1)).filter (cN pin)=if pin (x.getD j 0)=0 then (x.take j).filter (cN pin)++[x.getD j 0] else (x.take j).filter (cN pin):=by
 rw [take_snoc h,List.filter_append]
 generalize x.getD j 0=n
 by_cases hp:pin n=0
 · rw [if_pos hp];congr 1;simp [cN,hp]
 · rw [if_neg hp];simp [cN,hp]
section
variable (p d r g:Nat) (Af:Option Addr) (nf cf kn wt:Nat) (pu dr:Option Nat) (pi cm lst:Nat) (fl:Bool)
abbrev nZ:Type:=bV×Option Addr×Nat×Nat×List (Nat×Vl)×List Nat×List Nat×Int
theorem Dy (na nfm N:Nat) (steps:Int) (now:List Bs) (hN:now.length=N) (D:bP now) (aa:N≤4096) (a Q:Nat) (I:List (Nat×Vl)) (pin:Nat→Nat) (hI:PinI I pin) (ak:∀ n,pin n<1000000) (K:List (Nat×Vl)) (M:Nat→Option Pg) (F:KM K M)
 (L:bV) (hL:RunsP L) (ac:∀ m,bR L m→m<N) (W:List Nat) (ad:W.length≤12) (H:W.Nodup) (R:∀ n∈W,2≤n∧n<N∧¬ bR L n) :
 TT 156 #[bi p] [(pi,.pr (MU I)),(a,.fa (bN Af nf cf L)),(Q,.fa (PgsF K M))] [(p,.cl (bM d r g Af nf cf kn wt pu dr pi cm lst true) 199),(wt,.pr (MU (bF W))),(kn,.pr (MU K)),(d,.cl (bQ na nfm N (.slice none 0 0) steps) bT),(na,.cl (bE now) 166),(nfm,.cl (bE now) 166)]
  (fun x:nZ=>RunsP x.1∧(∀ m,bR x.1 m↔bR L m∨(m∈W∧pin m=0))∧KM x.2.2.2.2.1 (dA M (W.filter (cN pin)))∧x.2.2.2.2.2.1.Nodup∧(∀ n,n∈x.2.2.2.2.2.1↔n∈W∧pin n≠0)∧x.2.2.2.2.2.2.1.Perm (W.filter (cN pin))) (fun _=>.returned (i64 0))
  (fun x=>[(p,.cl (bM d r g x.2.1 x.2.2.1 x.2.2.2.1 kn wt pu dr pi 0 lst true) 199),(wt,.pr (MU (bF x.2.2.2.2.2.1))),(kn,.pr (MU x.2.2.2.2.1)),(d,.cl (bQ na nfm N (.slice none 0 0) x.2.2.2.2.2.2.2) bT),(na,.cl (bE (dp now x.2.2.2.2.2.2.1)) 166),(nfm,.cl (bE (dp now x.2.2.2.2.2.2.1)) 166)])
  (fun x=>[(0,.fa (bN x.2.1 x.2.2.1 x.2.2.2.1 x.1)),(0,.fa (PgsF x.2.2.2.2.1 (dA M (W.filter (cN pin)))))]):=by
 have S:(bF W).length≤12:=by rw [tj];exact ad
 refine iE func156<|zE<|bv (iJ p d r g Af nf cf kn wt pu dr pi cm lst true) [3] []<|bj [0,0]<|bv (Co p d r g Af nf cf kn wt pu dr pi cm lst) [3] []<|bj [0,3]<|cE (ui wt (bF W) S) [4] [] fun ⟨x,x1,x2,x3⟩ ⟨hx,hx1,hx2⟩=>?_
 try dsimp only at hx hx1 hx2
 rw [nk] at hx
 rcases hx2 with ⟨rfl,h0,h1,rfl⟩ | ⟨cap,rfl,rfl⟩
 · obtain rfl:x=[]:=List.eq_nil_of_length_eq_zero h0
   have ae:W=[]:=hx.nil_eq.symm
   subst ae
   have v:RunsP L∧(∀ m,bR L m↔bR L m∨(m∈([]:List Nat)∧pin m=0))∧KM K (dA M (([]:List Nat).filter (cN pin)))∧([]:List Nat).Nodup∧(∀ n,n∈([]:List Nat)↔n∈([]:List Nat)∧pin n≠0)∧([]:List Nat).Perm (([]:List Nat).filter (cN pin)):=⟨hL,fun m=>by simp,by rw [show ([]:List Nat).filter (cN pin)=[] from rfl,kG];exact F,List.nodup_nil,fun n=>by simp,List.Perm.nil⟩
   exact fq [1] [bN Af nf cf L] (bN Af nf cf L) (fun w hw=>hw 0 _ rfl)<|fq [2] [PgsF K M] (PgsF K (dA M (([]:List Nat).filter (cN pin)))) (fun w hw=>by rw [show ([]:List Nat).filter (cN pin)=[] from rfl,kG];exact hw 0 _ rfl)<|bj [1,0,0]<|bv (lO p none 0) [] []<|bv (jx p d r g Af nf cf kn wt pu dr pi cm lst true) [] [3]<|bj [0,0,1,0,0,3]<|qE 7 na (.cl (bE now) 166) (.cl (bE (dp now [])) 166) (by rfl)<|qE 8 nfm (.cl (bE now) 166) (.cl (bE (dp now [])) 166) (by rfl)<|rT ((L,Af,nf,cf,K,[],[],steps)) 9999 [10,11]
 · refine zE<|lV<|cY (X:=Nat×Vl×Nat×SB) (fun y=>y.1≤x.length∧SlE 37 1 ((x.take y.1).filter (cN pin)).length (((x.take y.1).filter (cN pin)).map cr) y.2.1 (y.2.2.1,y.2.2.2)) (fun y=>x.length-y.1) 65 (fun y=>[(0,bi p),(4,y.2.1),(21,sA x2 x.length cap),(22,i64 x.length),(23,i64 y.1)])
    (fun y=>[(pi,.pr (bB (eK .u32) I)),(a,.fa (bN Af nf cf L)),(Q,.fa (PgsF K M)),(p,.cl (bM d r g Af nf cf kn wt pu dr pi cm lst true) 199),(wt,.pr (bB (eK .u32) (bF W))),(kn,.pr (bB (eK .u32) K)),(d,.cl (bQ na nfm N (.slice none 0 0) steps) bT),(na,.cl (bE now) 166),(nfm,.cl (bE now) 166),(x2,.pr (bn 37 1 x.length cap (x.map cr))),(y.2.2.1,y.2.2.2)])
    (0,.slice none 0 0,0,.dead) (by kernel_rfl) ⟨Nat.zero_le _,SlE.nil 37 1⟩ fun ⟨j,gv,gb,gsb⟩ u J hpre back=>?_
   have hj:j≤x.length:=hpre.1
   have s:SlE 37 1 ((x.take j).filter (cN pin)).length (((x.take j).filter (cN pin)).map cr) gv (gb,gsb):=hpre.2
   clear hpre
   have am:x.length=W.length:=hx.length_eq
   have O:((x.take j).filter (cN pin)).length≤12:=Nat.le_trans (List.length_filter_le _ _) (Nat.le_trans (List.length_take_le' _ _) (by omega))
   rcases Nat.lt_or_ge j x.length with hjl | hjl
   · obtain ⟨n,hn⟩:∃ n,n=x.getD j 0:=⟨_,rfl⟩
     have A:(x.map cr)[j]?=some (cr n):=by rw [List.getElem?_map,List.getElem?_eq_getElem hjl,hn,List.getD_eq_getElem?_getD,List.getElem?_eq_getElem hjl];rfl
     have c:=zP (pin:=pin) hjl
     rw [← hn] at c
     rcases hI n with ⟨h0,h1⟩ | h0
     · rw [if_pos h1] at c
       refine bK [1,0] (br (dT ((↑j:Int)<(↑x.length:Int))) bt)<|rE (bL (t:=45) (e:=37) (k:=1) underlying45 .i64 x2 0 x.length cap j hjl) []<|mK (g7 (T:=37) x2 0 j (List.map cr x) (cr n) A) [9] (Views.less (.pr (bn 37 1 x.length cap (List.map cr x))) ci Views.nil)<|bj [3]<|rE (i8 (kt:=37) (et:=3) (T:=197) (κ:=.u32) underlying197 underlying37 (z:=i64 0) (fun w=>by kernel_rfl) pi I n h0) [0]<|bu [0,0,9999] 1 fun nm=>iI (j0 (t:=45) (e:=37) (ty:=45) (k:=1) (by_:=4) (z:=u32 0) underlying45 gv gb gsb (List.length (List.filter (cN pin) (List.take j x))) (List.map cr (List.filter (cN pin) (List.take j x))) s (nm 0) 1 1 ([u32 n])) [11] [10] (Views.less (.cl [u32 n] 37) bA Views.nil) fun ⟨x1,x3,x4,x5⟩ hx2=>?_
       try dsimp only at hx2
       refine zE ?_
       have f:j+1≤x.length∧SlE 37 1 ((x.take (j+1)).filter (cN pin)).length (((x.take (j+1)).filter (cN pin)).map cr) (.slice x1 (((x.take j).filter (cN pin)).length+1) x3) (x4,x5):=⟨hjl,by rw [c,List.length_append,List.map_append];exact hx2⟩
       exact vC 23 i64 (wI ((↑j:Int)+1) (j+1))<|wE [0,1,2,3,4,5,6,7,8,9,12] 3 [(pi,.pr (MU I)),(a,.fa (bN Af nf cf L)),(Q,.fa (PgsF K M)),(p,.cl (bM d r g Af nf cf kn wt pu dr pi cm lst true) 199),(wt,.pr (MU (bF W))),(kn,.pr (MU K)),(d,.cl (bQ na nfm N (.slice none 0 0) steps) 123),(na,.cl (bE now) 166),(nfm,.cl (bE now) 166),(x2,.pr (bn 37 1 x.length cap (List.map cr x))),(x4,x5)]<|back _ (j+1,.slice x1 (((x.take j).filter (cN pin)).length+1) x3,x4,x5) (by omega) (by omega) (by kernel_rfl)
     · by_cases h1:pin n=0
       · rw [if_pos h1] at c
         rw [h1] at h0
         replace h0:lk I n=some (.int .i64 0):=h0
         refine bK [1,0] (br (dT ((↑j:Int)<(↑x.length:Int))) bt)<|rE (bL (t:=45) (e:=37) (k:=1) underlying45 .i64 x2 0 x.length cap j hjl) []<|mK (g7 (T:=37) x2 0 j (List.map cr x) (cr n) A) [9] (Views.less (.pr (bn 37 1 x.length cap (List.map cr x))) ci Views.nil)<|bj [3]<|rE (eI (kt:=37) (et:=3) (T:=197) (κ:=.u32) underlying197 underlying37 pi I n (i64 0) h0) [0]<|bu [0,0,9999] 1 fun nm=>iI (j0 (t:=45) (e:=37) (ty:=45) (k:=1) (by_:=4) (z:=u32 0) underlying45 gv gb gsb (List.length (List.filter (cN pin) (List.take j x))) (List.map cr (List.filter (cN pin) (List.take j x))) s (nm 0) 1 1 ([u32 n])) [11] [10] (Views.less (.cl [u32 n] 37) bA Views.nil) fun ⟨x1,x3,x4,x5⟩ hx2=>?_
         try dsimp only at hx2
         refine zE ?_
         have f:j+1≤x.length∧SlE 37 1 ((x.take (j+1)).filter (cN pin)).length (((x.take (j+1)).filter (cN pin)).map cr) (.slice x1 (((x.take j).filter (cN pin)).length+1) x3) (x4,x5):=⟨hjl,by rw [c,List.length_append,List.map_append];exact hx2⟩
         exact vC 23 i64 (wI ((↑j:Int)+1) (j+1))<|wE [0,1,2,3,4,5,6,7,8,9,12] 3 [(pi,.pr (MU I)),(a,.fa (bN Af nf cf L)),(Q,.fa (PgsF K M)),(p,.cl (bM d r g Af nf cf kn wt pu dr pi cm lst true) 199),(wt,.pr (MU (bF W))),(kn,.pr (MU K)),(d,.cl (bQ na nfm N (.slice none 0 0) steps) 123),(na,.cl (bE now) 166),(nfm,.cl (bE now) 166),(x2,.pr (bn 37 1 x.length cap (List.map cr x))),(x4,x5)]<|back _ (j+1,.slice x1 (((x.take j).filter (cN pin)).length+1) x3,x4,x5) (by omega) (by omega) (by kernel_rfl)
       · rw [if_neg h1] at c
         have af:((pin n:Int)==0)=false:=by rw [beq_eq_false_iff_ne];omega
         refine bK [1,0] (br (dT ((↑j:Int)<(↑x.length:Int))) bt)<|rE (bL (t:=45) (e:=37) (k:=1) underlying45 .i64 x2 0 x.length cap j hjl) []<|mK (g7 (T:=37) x2 0 j (List.map cr x) (cr n) A) [9] (Views.less (.pr (bn 37 1 x.length cap (List.map cr x))) ci Views.nil)<|bj [3]<|rE (eI (kt:=37) (et:=3) (T:=197) (κ:=.u32) underlying197 underlying37 pi I n (i64 ↑(pin n)) h0) [0]<|bK [2,0] (br af bt) ?_
         have f:j+1≤x.length∧SlE 37 1 ((x.take (j+1)).filter (cN pin)).length (((x.take (j+1)).filter (cN pin)).map cr) gv (gb,gsb):=⟨hjl,by rw [c];exact s⟩
         exact vC 23 i64 (wI ((↑j:Int)+1) (j+1))<|back _ (j+1,gv,gb,gsb) (by omega) (by omega) (by kernel_rfl)
   · obtain rfl:j=x.length:=by omega
     rw [List.take_length] at s O
     obtain ⟨G,hG⟩:∃ G,G=x.filter (cN pin):=⟨_,rfl⟩
     rw [← hG] at s O
     clear back
     have l:G.Perm (W.filter (cN pin)):=by rw [hG];exact hx.filter _
     have b:∀ n,n∈G↔n∈W∧pin n=0:=fun n=>by rw [l.mem_iff,List.mem_filter];simp [cN]
     have U:G.Nodup:=l.nodup_iff.2 (H.filter _)
     have B:dA M G=dA M (W.filter (cN pin)):=yc M fun n=>l.mem_iff
     have C:G=[]→RunsP L∧(∀ m,bR L m↔bR L m∨(m∈W∧pin m=0))∧KM K (dA M (W.filter (cN pin)))∧W.Nodup∧(∀ n,n∈W↔n∈W∧pin n≠0)∧([]:List Nat).Perm (W.filter (cN pin)):=fun e=>by
      rw [← B,e,kG]
      rw [e] at b l
      refine ⟨hL,fun m=>⟨.inl,fun h=>h.elim id fun h=>?_⟩,F,H,fun n=>⟨fun h=>⟨h,fun h2=>?_⟩,fun h=>h.1⟩,l⟩
      · exact absurd ((b m).2 h) List.not_mem_nil
      · exact absurd ((b n).2 ⟨h,h2⟩) List.not_mem_nil
     have o:G=[]→∀ w,PgsF K M w→PgsF K (dA M (W.filter (cN pin))) w:=fun e w h=>by rw [← B,e,kG];exact h
     rcases s with ⟨rfl,h0,h1,rfl⟩ | ⟨gcap,rfl,rfl⟩
     · have v:=C (List.eq_nil_of_length_eq_zero h0)
       exact fq [1] [bN Af nf cf L] (bN Af nf cf L) (fun w hw=>hw 0 _ rfl)<|fq [2] [PgsF K M] (PgsF K (dA M (W.filter (cN pin)))) (fun w hw=>o (List.eq_nil_of_length_eq_zero h0) w (hw 0 _ rfl))<|bK [2,0] (br (dF ((↑x.length:Int)<(↑x.length:Int))) bt)<|bv (lO p none 0) [] []<|bv (jx p d r g Af nf cf kn wt pu dr pi cm lst true) [] [3]<|bj [0,0,1,0,0,3]<|qE 7 na (.cl (bE now) 166) (.cl (bE (dp now [])) 166) (by rfl)<|qE 8 nfm (.cl (bE now) 166) (.cl (bE (dp now [])) 166) (by rfl)<|rT ((L,Af,nf,cf,K,W,[],steps)) 9999 [11,12]
     · rcases Nat.eq_zero_or_pos G.length with h0 | h0
       · have v:=C (List.eq_nil_of_length_eq_zero h0)
         have zF:=o (List.eq_nil_of_length_eq_zero h0)
         clear C o l b U B
         generalize G.length=g0 at h0
         subst h0
         exact fq [1] [bN Af nf cf L] (bN Af nf cf L) (fun w hw=>hw 0 _ rfl)<|fq [2] [PgsF K M] (PgsF K (dA M (W.filter (cN pin)))) (fun w hw=>zF w (hw 0 _ rfl))<|bK [2,0] (br (dF ((↑x.length:Int)<(↑x.length:Int))) bt)<|bv (lO p (pA gb) gcap) [] []<|bv (jx p d r g Af nf cf kn wt pu dr pi cm lst true) [] [3]<|bj [0,0,1,0,0,3]<|qE 7 na (.cl (bE now) 166) (.cl (bE (dp now [])) 166) (by rfl)<|qE 8 nfm (.cl (bE now) 166) (.cl (bE (dp now [])) 166) (by rfl)<|rT ((L,Af,nf,cf,K,W,[],steps)) 9999 [11,12]
       · have P:∀ n∈G,n<N:=fun n hn=>(R n ((b n).1 hn).1).2.1
         refine fP 1 a (bN Af nf cf L) iv fun ⟨hnf,_,_⟩=>bK [2,0] (br (dF ((↑x.length:Int)<(↑x.length:Int))) bt)<|cE (CX p d r g Af nf cf kn wt pu dr pi cm lst true na nfm N steps now now hN hN D D aa gb gcap G h0 O P) [3,10] [6,7,8] fun x1 _=>bv (jx p d r g Af nf cf kn wt pu dr pi cm lst true) [] [3]<|bj [0,0]<|fq [1] [bN Af nf cf L] (bN Af nf cf L) (fun w hw=>hw 0 _ rfl)<|fq [2] [PgsF K M] (PgsF K (dA M (G.take 0))) (fun w hw=>by rw [List.take_zero,kG];exact hw 0 _ rfl)<|cY (X:=Nat×bV×Option Addr×Nat×Nat×List (Nat×Vl)×List Nat×Nat) (fun y=>y.1≤G.length∧RunsP y.2.1∧y.2.2.2.1=y.2.1.length∧(∀ m,bR y.2.1 m↔bR L m∨m∈G.take y.1)∧KM y.2.2.2.2.2.1 (dA M (G.take y.1))∧y.2.2.2.2.2.2.1.Nodup∧(∀ n,n∈y.2.2.2.2.2.2.1↔n∈W∧n∉G.take y.1)) (fun y=>G.length-y.1) 65 (fun y=>[(0,bi p),(47,sA gb G.length gcap),(48,i64 G.length),(49,i64 y.1)])
          (fun y=>[(pi,.pr (bB (eK .u32) I)),(a,.fa (bN Af nf cf L)),(Q,.fa (PgsF K M)),(p,.cl (bM d r g y.2.2.1 y.2.2.2.1 y.2.2.2.2.1 kn wt pu dr pi cm lst true) 199),(wt,.pr (bB (eK .u32) (bF y.2.2.2.2.2.2.1))),(kn,.pr (bB (eK .u32) y.2.2.2.2.2.1)),(d,.cl (bQ na nfm N (.slice none 0 0) x1) bT),(na,.cl (bE (dp now G)) 166),(nfm,.cl (bE (dp now G)) 166),(x2,.pr (bn 37 1 x.length cap (x.map cr))),(gb,.pr (bn 37 1 G.length gcap (G.map cr))),(y.2.2.2.2.2.2.2,.fa (bN y.2.2.1 y.2.2.2.1 y.2.2.2.2.1 y.2.1)),(0,.fa (PgsF y.2.2.2.2.2.1 (dA M (G.take y.1))))])
          (0,L,Af,nf,cf,K,W,0) (by kernel_rfl) ⟨Nat.zero_le _,hL,hnf,fun m=>by simp,by rw [List.take_zero,kG];exact F,H,fun n=>by simp⟩ fun ⟨i,L',A',n',c',K',W',fb⟩ u J hpre back=>?_
         obtain ⟨hi1,hL',hn',hin,hKM',hWu',hWm⟩:i≤G.length∧RunsP L'∧n'=L'.length∧(∀ m,bR L' m↔bR L m∨m∈G.take i)∧KM K' (dA M (G.take i))∧W'.Nodup∧(∀ n,n∈W'↔n∈W∧n∉G.take i):=hpre
         have E:∀ m,bR L' m→m<N:=fun m hm=>by
          rcases (hin m).1 hm with h | h
          · exact ac m h
          · exact P m (List.mem_of_mem_take h)
         have ag:n'≤50000:=by have:=BO hL' E;omega
         have ah:∀ q∈L',q.2<4294967296:=fun q hq=>by have:=o1 hL' E q hq;omega
         rcases Nat.lt_or_ge i G.length with hil | hil
         · obtain ⟨n,hn⟩:∃ n,n=G.getD i 0:=⟨_,rfl⟩
           have V:n∈G:=by rw [hn,List.getD_eq_getElem?_getD,List.getElem?_eq_getElem hil];exact List.getElem_mem hil
           have A:(G.map cr)[i]?=some (cr n):=by rw [List.getElem?_map,List.getElem?_eq_getElem hil,hn,List.getD_eq_getElem?_getD,List.getElem?_eq_getElem hil];rfl
           have ai:n∉G.take i:=by
            have h3:=U
            rw [← List.take_append_drop (i+1) G,take_snoc hil,← hn,List.append_assoc,List.nodup_append] at h3
            exact fun h=>h3.2.2 n h n (by simp) rfl
           have Y:¬ bR L' n:=fun h=>((hin n).1 h).elim (R n ((b n).1 V).1).2.2 ai
           have Z:n<4294967295:=by have:=P n V;omega
           refine bK [1,0] (br (dT ((↑i:Int)<(↑G.length:Int))) bt)<|rE (bL (t:=45) (e:=37) (k:=1) underlying45 .i64 gb 0 G.length gcap i hil) []<|mK (g7 (T:=37) gb 0 i (List.map cr G) (cr n) A) [10] (Views.less (.pr (bn 37 1 G.length gcap (List.map cr G))) ci Views.nil)<|bj [3]<|xE (sx (kt:=37) (et:=4) (T:=196) (κ:=.u32) underlying196 underlying37 wt (bF W') n 0) [] [4] fun _ _=>zE<|cE (oa p d r g A' n' c' kn wt pu dr pi cm lst true n fb L' K' hL' ag Z Y ah) [11] [3,5] fun ⟨x3,x4,x5⟩ ⟨hx2,hx3,hx4⟩=>?_
           try dsimp only at hx2 hx3 hx4
           refine zE<|qE 4 wt (.pr (MU (del (bF W') n))) (.pr (MU (bF (W'.erase n)))) (by rw [zf])<|fq [12] [PgsF K' (dA M (G.take i))] (PgsF (del K' n) (dA M (G.take (i+1)))) (fun w hw=>by rw [take_snoc hil,← rV,← hn];exact (hw 0 _ rfl).del hKM'.un n)<|z5 11 fb (by kernel_rfl)<|z5 12 0 (by kernel_rfl) ?_
           have f:i+1≤G.length∧RunsP x3∧x3.length=x3.length∧(∀ m,bR x3 m↔bR L m∨m∈G.take (i+1))∧KM (del K' n) (dA M (G.take (i+1)))∧(W'.erase n).Nodup∧(∀ m,m∈W'.erase n↔m∈W∧m∉G.take (i+1)):=by
            refine ⟨hil,hx2,rfl,fun m=>?_,by rw [take_snoc hil,← rV,← hn];exact hKM'.del n,hWu'.erase n,fun m=>?_⟩
            · rw [hx4 m,hin m,take_snoc hil,← hn];simp [or_assoc]
            · rw [hWu'.mem_erase_iff,hWm m,take_snoc hil,← hn];simp only [List.mem_append,List.mem_singleton,not_or];exact ⟨fun h=>⟨h.2.1,h.2.2,h.1⟩,fun h=>⟨h.2.2,h.1,h.2.1⟩⟩
           exact vC 49 i64 (wI ((↑i:Int)+1) (i+1))<|wE [0,1,2,3,4,5,6,7,8,9,10,13,14] 3 [(pi,.pr (MU I)),(a,.fa (bN Af nf cf L)),(Q,.fa (PgsF K M)),(p,.cl (bM d r g (pA x4) x3.length x5 kn wt pu dr pi cm lst true) 199),(wt,.pr (MU (bF (List.erase W' n)))),(kn,.pr (MU (del K' n))),(d,.cl (bQ na nfm N (.slice none 0 0) x1) 123),(na,.cl (bE (dp now G)) 166),(nfm,.cl (bE (dp now G)) 166),(x2,.pr (bn 37 1 x.length cap (List.map cr x))),(gb,.pr (bn 37 1 G.length gcap (List.map cr G))),(x4,.fa (bN (pA x4) x3.length x5 x3)),(0,.fa (PgsF (del K' n) (dA M (List.take (i+1) G))))]<|back _ (i+1,x3,some ⟨x4,0,none⟩,x3.length,x5,del K' n,W'.erase n,x4) (by omega) (by omega) (by kernel_rfl)
         · obtain rfl:i=G.length:=by omega
           rw [List.take_length] at hin hKM' hWm
           refine fq [11] [bN A' n' c' L'] (bN A' n' c' L') (fun w hw=>hw 0 _ rfl)<|fq [12] [PgsF K' (dA M (G.take G.length))] (PgsF K' (dA M (W.filter (cN pin)))) (fun w hw=>by rw [← B];have:=hw 0 _ rfl;rwa [List.take_length] at this) ?_
           have v:RunsP L'∧(∀ m,bR L' m↔bR L m∨(m∈W∧pin m=0))∧KM K' (dA M (W.filter (cN pin)))∧W'.Nodup∧(∀ n,n∈W'↔n∈W∧pin n≠0)∧G.Perm (W.filter (cN pin)):=by
            refine ⟨hL',fun m=>by rw [hin m,b m],by rw [← B];exact hKM',hWu',fun n=>?_,l⟩
            rw [hWm n,b n]
            exact ⟨fun h=>⟨h.1,fun h2=>h.2 ⟨h.1,h2⟩⟩,fun h=>⟨h.1,fun h2=>h.2 h2.2⟩⟩
           exact bK [2,0,3] (br (dF ((↑G.length:Int)<(↑G.length:Int))) bt)<|rT ((L',A',n',c',K',W',G,x1)) 9999 [13,14] rfl (by assumption)
end
section
variable (p d r g rs:Nat) (Af:Option Addr) (nf cf kn wt:Nat) (pu dr:Option Nat) (pi cm lst:Nat) (fl:Bool)
theorem E5:Same 297 #[bi p,bi rs] [(p,.cl (bM d r g Af nf cf kn wt pu dr pi cm lst fl) 199)] (i64 0):=iE func297<|bj [0,0,0]<|bv (A8 p d r g Af nf cf kn wt pu dr pi cm lst fl) [0] []<|bj [0]<|rT ()
theorem Eh (na nfm N:Nat) (b:Vl) (steps:Int) (c a:Nat) (dv:Vl) (j:lst≤c) (hc:c<a) (e:a<4294967296) :
 TT 193 #[bi p,bi rs] [] [(p,.cl (bM d r g Af nf cf kn wt pu dr pi 0 lst fl) 199),(rs,.cl (dc d (a:Int) (c:Int) (c:Int) dv) df),(d,.cl (bQ na nfm N b steps) bT)] (fun _:Int×Nat×Nat=>True) (fun _=>.returned (.tuple #[u64 ((c+1:Nat):Int),i64 0]))
  (fun x=>[(p,.cl (bM d r g Af nf cf kn wt (some x.2.1) (some x.2.2) pi (c+1) (c+1) false) 199),(rs,.cl (dc d (a:Int) ((c+1:Nat):Int) (c:Int) dv) df),(d,.cl (bQ na nfm N b x.1) bT)]) (fun x=>[(x.2.1,.pr (MU [])),(x.2.2,.pr (MU []))]):=by
 have f:IntKind.u64.wrap ((c:Int)+1)=((c+1:Nat):Int):=dj (eT rfl rfl)
 have h:((IntKind.u64.wrap ((c:Int)+1)).tmod 2==(c:Int).tmod 2)=false:=by
  rw [f]
  have i:((c+1:Nat):Int).tmod 2=(((c+1)%2:Nat):Int):=ox
  have e2:(c:Int).tmod 2=((c%2:Nat):Int):=ox
  rw [beq_eq_false_iff_ne,i,e2]
  omega
 refine iE func193<|zE<|bv (E5 p d r g rs Af nf cf kn wt pu dr pi 0 lst fl) [0] []<|bj [0,0]<|bv (zz p d r g Af nf cf kn wt pu dr pi lst fl) [0] []<|bj [0]<|bv (Gn p d r g Af nf cf kn wt pu dr pi 0 lst fl) [0] []<|zE<|bv (qv rs d ((↑a:Int)) ((↑c:Int)) ((↑c:Int)) dv) [1] []<|bK [2,0] (br (dF ((↑lst:Int)>(↑c:Int))) bt)<|cE (yQ rs d na nfm N b steps ((↑a:Int)) ((↑c:Int)) ((↑c:Int)) dv (by (simp [part];omega))) [] [1,2] ?_
 rintro x _
 exact bj [0]<|qC 1 rs (fun z9:Int=>(.cl [bi d,u64 a,u64 z9,u64 c,dv] 125)) (n5 ((↑c:Int)+1) (c+1))<|bv (my rs d ((↑a:Int)) ((↑(c+1):Int)) ((↑c:Int)) dv) [1] []<|bK [2,0,0,0] (br h bt)<|vC 60 u64 (n5 ((↑c:Int)+1) (c+1))<|cE (CU p d r g Af nf cf kn wt pu dr pi lst fl (c+1) (by omega) (by omega)) [] [0] fun ⟨x1,x2⟩ _=>zE<|vE 4 (u64 (IntKind.wrap .u64 ((↑c:Int)+1))) (u64 ↑(c+1)) (by rw [f];try rfl)<|rT ((x,x1,x2)) 9999 [3,4]
theorem Gb (u v na nfm N:Nat) (i:Vl) (h:Nat×SB) (j:Nat) (w:List Vl) (y:SlE 168 257 j w i h) (k:j<100000) (steps:Int) (now firm:List Bs) (z:now.length=N) (A:firm.length=N) (e:bP now) (f256:bP firm) (B:8≤N)
 (m b c pp rc rg n kb l kc a M lb:Nat) (lsb:SB) (lv:Vl) (xs:List Vl) (key:Bs) (G:List ((Nat×Nat)×Vl)) (f:lk G (0,b)=some (sO kb l 32 kc)) (o:32=key.length) (q:SlE 502 9 M xs lv (lb,lsb)) (C:M≤1000000)
 (h0:0<c) (hc:c<4294967296) (D:pp<4294967296) (s:rc<18446744073709551616) (t:rg<65536) (E:b<65536) (F:n<4294967296) :
 TT 305 #[bi u,bi v] [(u,.cl [bi p] 83),(v,.cl [u64 c,u32 pp,u64 rc,u16 rg,u8 (0:Int),u16 b,u32 n] 87),(r,.cl [.map (some m)] 182),(m,.pr (bB eW G)),(a,.fa (BF (pO kb l) 32 kc key))] [(p,.cl (bM d r g Af nf cf kn wt pu dr pi c lst true) 199),(g,.cl [lv] 128),(lb,lsb),(d,.cl (bQ na nfm N i steps) bT),(na,.cl (bE now) 166),(nfm,.cl (bE firm) 166),h]
  (fun x:(Int×Option Addr×Nat×Nat×SB)=>∃ ys,SlE 502 9 (M+1) ys (.slice x.2.1 (M+1) x.2.2.1) (x.2.2.2.1,x.2.2.2.2)) (fun _=>.returned (i64 0))
  (fun x=>[(p,.cl (bM d r g Af nf cf kn wt pu dr pi c lst true) 199),(g,.cl [.slice x.2.1 (M+1) x.2.2.1] 128),(lb,.dead),(d,.cl (bQ na nfm N (.slice none 0 0) x.1) bT),(na,.cl (bE (now.set (c%2) (bI key 0 4 0 (c%2) c b (bO c pp rc rg 0 b n)))) 166),(nfm,.cl (bE (now.set (c%2) (bI key 0 4 0 (c%2) c b (bO c pp rc rg 0 b n)))) 166),(h.1,.dead)]) (fun x=>[(x.2.2.2.1,x.2.2.2.2)]):=by
 refine iE func305<|bj [0,1]<|cE (FF p d r g Af nf cf kn wt pu dr pi lst na nfm N i h j w y k steps now firm z A e f256 B m b c pp rc rg n kb l kc a M lb lsb lv xs key G f o q C h0 hc D s t E F) [2,3,4] [5,6,7,8,9,10,11] fun ⟨x,x1,x2,x3,x4⟩ hx=>?_
 try dsimp only at hx
 exact zE<|rT ((x,x1,x2,x3,x4)) 9999 [12]
theorem DX (h i na nfm N:Nat) (steps:Int) (now firm:List Bs) (s:now.length=N) (t:firm.length=N) (e:bP now) (f256:bP firm) (u:8≤N)
 (m b c pp rc rg n kb j kc a M lb:Nat) (lsb:SB) (lv:Vl) (xs:List Vl) (key:Bs) (G:List ((Nat×Nat)×Vl)) (f:lk G (0,b)=some (sO kb j 32 kc)) (k:32=key.length) (l:SlE 502 9 M xs lv (lb,lsb)) (v:M≤1000000)
 (h0:0<c) (hc:c<4294967296) (w:pp<4294967296) (o:rc<18446744073709551616) (q:rg<65536) (y:b<65536) (z:n<4294967296) :
 TT 305 #[bi h,bi i] [(h,.cl [bi p] 83),(i,.cl [u64 c,u32 pp,u64 rc,u16 rg,u8 (0:Int),u16 b,u32 n] 87),(r,.cl [.map (some m)] 182),(m,.pr (bB eW G)),(a,.fa (BF (pO kb j) 32 kc key))] [(p,.cl (bM d r g Af nf cf kn wt pu dr pi c lst true) 199),(g,.cl [lv] 128),(lb,lsb),(d,.cl (bQ na nfm N (.slice none 0 0) steps) bT),(na,.cl (bE now) 166),(nfm,.cl (bE firm) 166)]
  (fun x:(Int×Option Addr×Nat×Nat×SB)=>∃ ys,SlE 502 9 (M+1) ys (.slice x.2.1 (M+1) x.2.2.1) (x.2.2.2.1,x.2.2.2.2)) (fun _=>.returned (i64 0))
  (fun x=>[(p,.cl (bM d r g Af nf cf kn wt pu dr pi c lst true) 199),(g,.cl [.slice x.2.1 (M+1) x.2.2.1] 128),(lb,.dead),(d,.cl (bQ na nfm N (.slice none 0 0) x.1) bT),(na,.cl (bE (now.set (c%2) (bI key 0 4 0 (c%2) c b (bO c pp rc rg 0 b n)))) 166),(nfm,.cl (bE (now.set (c%2) (bI key 0 4 0 (c%2) c b (bO c pp rc rg 0 b n)))) 166)]) (fun x=>[(x.2.2.2.1,x.2.2.2.2)]):=
 Tri.dd (a:=0) (Gb p d r g Af nf cf kn wt pu dr pi lst h i na nfm N (.slice none 0 0) (0,.dead) 0 [] (SlE.nil 168 257) (by omega) steps now firm s t e f256 u m b c pp rc rg n kb j kc a M lb lsb lv xs key G f k l v h0 hc w o q y z)
theorem F4 (g i na nf N:Nat) (f:Vl) (steps e a b:Int) (c pp rc rg lv j n:Nat) (dv:Vl) (h:decide ((c:Int)≤b)=false) (h2:decide ((c:Int)>a)=false) :
 TT 307 #[bi g,bi i] [(g,.cl [bi rs] 76),(i,.cl [u64 c,u32 pp,u64 rc,u16 rg,u8 lv,u16 j,u32 n] 87)] [(rs,.cl (dc d e a b dv) df),(d,.cl (bQ na nf N f steps) bT)] (fun _:Int=>True) (fun _=>.returned (i64 0))
  (fun s=>[(rs,.cl (dc d e a (c:Int) dv) df),(d,.cl (bQ na nf N f s) bT)]) (fun _=>[]):=iE func307<|bj [0,1]<|cE (zn rs d na nf N f steps e a b ((↑c:Int)) dv h h2) [] [2,3] fun x _=>zE<|rT x
theorem lM (na nfm N:Nat) (steps:Int) (now firm:List Bs) (X:now.length=N) (hF:firm.length=N) (k:bP now) (f256:bP firm) (z:N≤4096) (h8:8≤N)
 (m o Y E Z Mg lb:Nat) (lsb:SB) (lv:Vl) (xs:List Vl) (F:SlE 502 9 Mg xs lv (lb,lsb)) (ad:Mg≤800000) (G:List ((Nat×Nat)×Vl)) (Kf:Nat×Nat→Option Bs) (A:RG G Kf) (key:Bs) (a:Nat) (s:Kf (0,a)=some key) (h:32=key.length)
 (K:List (Nat×Vl)) (M:Nat→Option Pg) (u:KM K M) (S:List Nat) (B:S.length≤12) (hS:∀ n∈S,2≤n∧n<N∧∃ q,M n=some q∧∃ l,Kf (q.t,q.g)=some l)
 (I:List (Nat×Vl)) (pin:Nat→Nat) (hI:PinI I pin) (C:∀ n,pin n<1000000) (L:bV) (hL:RunsP L) (H:∀ m,bR L m→m<N) (W:List Nat) (J:W.length≤12) (O:W.Nodup) (P:∀ n∈W,2≤n∧n<N∧¬ bR L n)
 (b c c0 pp rc rg n:Nat) (dv:Vl) (h0:c0<c) (hc:c<4294967296) (hp:pp<4294967296) (Q:rc<18446744073709551616) (R:rg<65536) (hg:a<65536) (D:n<4294967296) :
 TT 197 #[bi p,bi rs,kX c pp rc rg 0 a n] [(r,.cl [.map (some m)] 182),(m,.pr (bB eW G)),(Y,.fa (dw G Kf)),(o,.pr (MU (bF S))),(pi,.pr (MU I)),(Z,.fa (bN Af nf cf L)),(E,.fa (PgsF K M))]
  [(p,.cl (bM d r g Af nf cf kn wt (some o) dr pi c lst false) 199),(rs,.cl (dc d (b:Int) (c:Int) (c0:Int) dv) df),(wt,.pr (MU (bF W))),(kn,.pr (MU K)),(g,.cl [lv] 128),(lb,lsb),(d,.cl (bQ na nfm N (.slice none 0 0) steps) bT),(na,.cl (bE now) 166),(nfm,.cl (bE firm) 166)]
  (fun x:nZ×List Nat×Vl×Nat×SB=>(RunsP x.1.1∧(∀ m,bR x.1.1 m↔bR L m∨(m∈W∧pin m=0))∧KM x.1.2.2.2.2.1 (dA M (W.filter (cN pin)))∧x.1.2.2.2.2.2.1.Nodup∧(∀ n,n∈x.1.2.2.2.2.2.1↔n∈W∧pin n≠0)∧x.1.2.2.2.2.2.2.1.Perm (W.filter (cN pin))) ∧
   (x.2.1.Perm S∧(∀ i j,i<j→j<x.2.1.length→x.2.1.getD i 0≤x.2.1.getD j 0))∧∃ ys,SlE 502 9 (Mg+S.length+1) ys x.2.2.1 (x.2.2.2.1,x.2.2.2.2)) (fun _=>.returned (i64 0))
  (fun x=>[(p,.cl (bM d r g x.1.2.1 x.1.2.2.1 x.1.2.2.2.1 kn wt (some o) dr pi 0 lst true) 199),(rs,.cl (dc d (b:Int) (c:Int) (c:Int) dv) df),(wt,.pr (MU (bF x.1.2.2.2.2.2.1))),(kn,.pr (MU x.1.2.2.2.2.1)),(g,.cl [x.2.2.1] 128),(lb,.dead),(d,.cl (bQ na nfm N (.slice none 0 0) x.1.2.2.2.2.2.2.2) bT),
   (na,.cl (bE (dp ((dJ Kf M now x.2.1).set (c%2) (bI key 0 4 0 (c%2) c a (bO c pp rc rg 0 a n))) x.1.2.2.2.2.2.2.1)) 166),(nfm,.cl (bE (dp ((dJ Kf M now x.2.1).set (c%2) (bI key 0 4 0 (c%2) c a (bO c pp rc rg 0 a n))) x.1.2.2.2.2.2.2.1)) 166)])
  (fun x=>[(x.2.2.2.1,x.2.2.2.2),(0,.fa (bN x.1.2.1 x.1.2.2.1 x.1.2.2.2.1 x.1.1)),(0,.fa (PgsF x.1.2.2.2.2.1 (dA M (W.filter (cN pin)))))]):=by
 have T:∀ n∈S,∃ q,M n=some q∧q.Ok:=fun n D=>by
  obtain ⟨_,_,q,h1,_⟩:=hS n D
  exact ⟨q,h1,(u.yes n q h1).1⟩
 have f:0<c:=by omega
 refine iE func197<|bu [9999,9999,9999,16,17] 3 fun nm=>bv (E5 p d r g rs Af nf cf kn wt (some o) dr pi c lst false) [7] []<|bj [0,0,16]<|bv (zy p d r g Af nf cf kn wt (some o) dr pi c lst false f) [7] []<|bK [2,18,2,17] (br (tF ((↑c:Int) != (↑c:Int))) (br (tF ((↑c:Int)==0)) bt))<|bv (qv rs d ((↑b:Int)) ((↑c:Int)) ((↑c0:Int)) dv) [8] []<|bK [2,18] (br (tF ((↑c:Int) != (↑c:Int))) bt)<|bv (rv c pp rc rg a n f) [] []<|bu [0,0,16,16,9999] 1 fun nm1=>bj [5,0,0,9999,19] ?_
 refine cE (CM p d r g Af nf cf kn wt dr pi c lst na nfm N steps now firm X hF k f256 z m o Y E Mg lb lsb lv xs F (by omega) G Kf A K M u S B hS f) [0,1,2,10,6,3] [7,11,12,13,14,15] fun ⟨x,x1,x2,x3,x4⟩ ⟨hx,hx1,hx2⟩=>?_
 try dsimp only at hx hx1 hx2
 refine bj [0,0,0,0,9999,19] ?_
 obtain ⟨ys,hys⟩:=hx2
 have v:(dJ Kf M now x).length=N:=by rw [jJ,X]
 have e:bP (dJ Kf M now x):=nK Kf M now x k fun n D=>T n (hx.mem_iff.1 D)
 obtain ⟨hkl2,kb,ko,kc,hGk⟩:=A.yes (0,a) key s
 rw [← h] at hGk
 refine fq [2] [dw G Kf] (BF (pO kb ko) 32 kc key) (fun w hw=>by have:=hw 0 _ rfl (0,a) key kb ko kc s (by rw [← h];exact hGk);rw [← h] at this;exact this) ?_
 have U:(bI key 0 4 0 (c%2) c a (bO c pp rc rg 0 a n)).length=256:=fi _ _ _ _ _ _ _ _ (fd c pp rc rg 0 a n)
 have V:((dJ Kf M now x).set (c%2) (bI key 0 4 0 (c%2) c a (bO c pp rc rg 0 a n))).length=N:=by simp [v]
 have y:=kz e (c%2) _ U
 refine cE (DX p d r g Af nf cf kn wt (some o) dr pi lst (nm 0) (nm 2) na nfm N x1 (dJ Kf M now x) (dJ Kf M now x) v v e e h8 m a c pp rc rg n kb ko kc 0 (Mg+List.length S) x3 x4 x2 ys key G hGk h hys (by omega) f hc hp Q R hg D) [16,18,0,1,21] [7,11,20,13,14,15] fun ⟨x5,x6,x7,x8,x9⟩ hx2=>?_
 try dsimp only at hx2
 refine bj [0,0,0,0,9999,19]<|cE (F4 d rs (nm 1) (nm 2) na nfm N (.slice none 0 0) x5 ((↑b:Int)) ((↑c:Int)) ((↑c0:Int)) c pp rc rg 0 a n dv (by (simp [part];omega)) (by (simp;done))) [17,18] [8,13] fun x10 _=>bj [0,0,0,0,9999,19]<|cE (Dy p d r g Af nf cf kn wt (some o) dr pi c lst na nfm N x10 (List.set (dJ Kf M now x) (c%2) (bI key 0 4 0 (c%2) c a (bO c pp rc rg 0 a n))) V y z Z E I pin hI C K M u L hL H W J O P) [4,5,6] [7,9,10,13,14,15] fun ⟨x11,x12,x13,x14,x15,x16,x17,x18⟩ ⟨hx3,hx4,hx5,hx6,hx7,hx8⟩=>?_
 try dsimp only at hx3 hx4 hx5 hx6 hx7 hx8
 exact bj [0,0,0,0]<|rT (((x11,x12,x13,x14,x15,x16,x17,x18),x,.slice x6 (Mg+List.length S+1) x7,x8,x9)) 9999 [22,23,24]
end
theorem FB {h:Func} {ts:List Vl} {H:HP} {d:TypeDesc} (j i b e a k:Nat) (T f t l:TypeId) {vs:List Vl} {u:Vl} (m:h.results = #[.cell a T,.cell k f])
 (c:(ts[a]?,ts[k]?,H[j]?,H[i]?)=(some (.pointer (pA b)),some (.pointer (pA e)),some (b,.cl vs t),some (e,.cl [u] l))) (n:prog.underlying T=some d) (hd:d.isRow=true) (hi:(prog.info? T).map (·.size)=some vs.length) (ha:∀ w,(isAgg f).run prog w = .ok false w) :
 ∀ w,Own H w→(results h ts.toArray).run prog w = .ok (.tuple #[.agg vs.toArray,u]) w:=by
 intro w ho
 simp only [Prod.mk.injEq] at c
 obtain ⟨o,h1,h2⟩:=ho.at_ j b _ c.2.2.1 rfl
 obtain ⟨o',h1',h2'⟩:=ho.at_ i e _ c.2.2.2 rfl
 have p:=iR (P:=prog) h1 (bA o h2) n hd hi
 have hc:=dU h1' (bA o' h2') 0 u rfl
 rw [Addr.add_lit,Nat.add_zero] at hc
 have g:(loadVar f ⟨e,0,none⟩).run prog w = .ok u w:=by
  unfold loadVar
  simp [Sem.run_bind,ha,Result.andThen,Go.load,Sem.run,hc]
 unfold results
 rw [m]
 simp [Sem.run_bind,c.1,c.2.1,asAddr,Result.andThen,p,g,Sem.run]
theorem vr {i:Func} {ts:List Vl} {H:HP} (j k b e a l:Nat) (T f t m:TypeId) {v u:Vl} (n:i.results = #[.cell a T,.cell l f]:=by rfl) (c:(ts[a]?,ts[l]?,H[j]?,H[k]?)=(some (.pointer (pA b)),some (.pointer (pA e)),some (b,.cl [v] t),some (e,.cl [u] m)):=by kernel_rfl) (g:∀ w,(isAgg T).run prog w = .ok false w:=by intro w;kernel_rfl) (ha:∀ w,(isAgg f).run prog w = .ok false w:=by intro w;kernel_rfl) :
 ∀ w,Own H w→(results i ts.toArray).run prog w = .ok (.tuple #[v,u]) w:=by
 intro w ho
 simp only [Prod.mk.injEq] at c
 obtain ⟨o,h1,h2⟩:=ho.at_ j b _ c.2.2.1 rfl
 obtain ⟨o',h1',h2'⟩:=ho.at_ k e _ c.2.2.2 rfl
 have hc:=dU h1 (bA o h2) 0 v rfl
 rw [Addr.add_lit,Nat.add_zero] at hc
 have p:(loadVar T ⟨b,0,none⟩).run prog w = .ok v w:=by
  unfold loadVar
  simp [Sem.run_bind,g,Result.andThen,Go.load,Sem.run,hc]
 have d:=dU h1' (bA o' h2') 0 u rfl
 rw [Addr.add_lit,Nat.add_zero] at d
 have h:(loadVar f ⟨e,0,none⟩).run prog w = .ok u w:=by
  unfold loadVar
  simp [Sem.run_bind,ha,Result.andThen,Go.load,Sem.run,d]
 unfold results
 rw [n]
 simp [Sem.run_bind,c.1,c.2.1,asAddr,Result.andThen,p,h,Sem.run]
abbrev gV (p t:Nat):Vl:=.agg #[.iface 83 (bi p),u32 (t:Int)]
abbrev cu (n c g:Nat):Vl:=.agg #[u32 (n:Int),u64 (c:Int),u16 (g:Int),u8 0]
theorem lD (b o n c a:Nat) (l:Bs) (d:n=l.length) (h0:0<n) (f:n≤1000:=by omega):TT 21 #[sO b o n c] [(a,.fa (BF (pO b o) n c l))] [] (fun _:Nat×Nat=>True) (fun x=>.returned (ck x.1 n x.2)) (fun _=>[]) (fun x=>[(x.1,.fa (BF (pA x.1) n x.2 l))]):=iE func21<|bu [0,0,9999] 1 fun nm=>xK (dY (nm 0) b o n c a l d h0) [0] [1] fun ⟨x,x1⟩ _=>fE 2 x (bn 5 1 n x1 (List.map B8 l)) bx fun hc=>zE<|eh (e:=5) (n:=n) (c:=x1) (l:=l) 2 x d<|rT ((x,x1)) 9999 [2]
section
variable (p d r g:Nat) (Af:Option Addr) (nf cf kn wt:Nat) (pu dr:Option Nat) (pi cm lst:Nat) (fl:Bool)
theorem zT (na nfm N:Nat) (i:Vl) (steps:Int) (t n c b a:Nat) (pl:Bs) (K:List (Nat×Vl)) (M:Nat→Option Pg) (e:KM K M) (j:M n=some ⟨t,1,0,c,b,pl⟩) (h2:2≤n) (k:n<N) (f:n<4294967296) :
 TT 456 #[bi p,.int .u32 t,u8 1,u8 0,pT n c b] [(p,.cl (bM d r g Af nf cf kn wt pu dr pi cm lst fl) 199),(d,.cl (bQ na nfm N i steps) bT),(kn,.pr (MU K)),(a,.fa (PgsF K M))] [] (fun _:Nat×Nat=>True) (fun x=>.returned (.tuple #[sA x.1 224 x.2,i64 0])) (fun _=>[]) (fun x=>[(x.1,.fa (BF (pA x.1) 224 x.2 pl))]):=by
 obtain ⟨hq,pb,pc,hK⟩:=e.yes n _ j
 exact Tri.fw (GQ p d r g Af nf cf kn wt pu dr pi cm lst fl na nfm N i steps t 1 0 n c b pb pc 0 pl hq.pl K hK h2 k f (by omega) (by omega)) rfl (fun w h=>⟨h.1 n _ pb pc j hK,trivial⟩) fun x _=>⟨x,trivial,rfl,rfl,rfl,fun w _ h=>h⟩
theorem mF (na nfm N:Nat) (h:Vl) (steps:Int) (t n c b a:Nat) (key val:Bs) (K:List (Nat×Vl)) (M:Nat→Option Pg) (e:KM K M) (i:M n=some ⟨t,1,0,c,b,bw key val⟩) (h2:2≤n) (j:n<N) (f:n<4294967296) (k1:1≤key.length) (k:key.length≤32) (l:1≤val.length) (m:val.length≤64) :
 TT 157 #[gV p t,cu n c b] [(p,.cl (bM d r g Af nf cf kn wt pu dr pi cm lst fl) 199),(d,.cl (bQ na nfm N h steps) bT),(kn,.pr (MU K)),(a,.fa (PgsF K M))] [] (fun _:o6=>True) (fun x=>.returned (.tuple #[jj x.1.1 x.1.2,i64 0])) (fun _=>[])
  (fun x=>[(x.1.1,.pr (bn 265 9 1 x.1.2 (cq x.2.1.1 key.length x.2.1.2 x.2.2.1 val.length x.2.2.2))),(x.2.1.1,.fa (BF (pA x.2.1.1) key.length x.2.1.2 key)),(x.2.2.1,.fa (BF (pA x.2.2.1) val.length x.2.2.2 val))]):=iE func157<|bu [9999,9999,5,0,0,4,4,5,5] 3 fun nm=>cE (zT p d r g Af nf cf kn wt pu dr pi cm lst fl na nfm N h steps t n c b a (bw key val) K M e i h2 j f) [0,1,2,3] [] fun ⟨x,x1⟩ _=>bj [0,0]<|fP 7 x (BF (pA x) 224 x1 (bw key val)) db fun ⟨fl1,fc,fm⟩=>cE (mT x 0 x1 x key val fc k1 k l m) [7] [] fun ⟨⟨x2,x3⟩,⟨x4,x5⟩,x6,x7⟩ _=>fE 8 x2 (bn 265 9 1 x3 (cq x4 key.length x5 x6 val.length x7)) bx fun hc=>bu [11,0,0,11,0,11,5,0,11,0,0,11,6] 1 fun nm1=>rT (((x2,x3),(x4,x5),x6,x7)) 6 [8,9,10]
end
abbrev bp:Vl:=.slice none 0 0
abbrev ye (nb nc:Nat):List Vl:=[bp,u8 1,u8 0,ck nb 1 nc]
theorem ou (p t:Nat) (f:Vl):Same 159 #[gV p t,pT 0 0 0,f] [] (i64 0):=iE func159<|bu [9999,9999,2,1,9999,0,0] 2 fun nm=>rT ()
theorem rC (p t kb kn kc vb a vc:Nat):Same 380 #[gV p t,mx kb kn kc vb a vc] [] (i64 0):=iE func380<|bu [9999,9999,0,1] 3 fun nm=>bv (ou p t (.func (Fn.func 402) ⟨[]⟩ ⟨[bi (nm 2)]⟩)) [] []<|bj [0,0,2,2,0,0]<|rT ()
theorem By (p t kb kn kc vb b vc a:Nat) (val:Bs) (c:b=val.length) (h0:0<b) (d:b≤1000):TT 224 #[gV p t,mx kb kn kc vb b vc] [(a,.fa (BF (pA vb) b vc val))] [] (fun _:Nat×Nat=>True) (fun x=>.returned (.tuple #[ck x.1 b x.2,i64 0])) (fun _=>[]) (fun x=>[(x.1,.fa (BF (pA x.1) b x.2 val))]):=iE func224<|bu [9999,9999,2,9999,0,0,2] 2 fun nm=>cE (lD vb 0 b vc a val c h0 d) [0] [] fun ⟨x,x1⟩ _=>zE<|rT ((x,x1)) 9999 [3]
theorem uP (p t kb b kn kc vb c a vc d e:Nat) (key val:Bs) (f:kn=key.length) (g:a=val.length) (h1:1≤kn) (h2:kn≤32) (h0:1≤a) (h3:a≤64):TT 319 #[gV p t,sO kb b kn kc,sO vb c a vc] [(d,.fa (BF (pO kb b) kn kc key)),(e,.fa (BF (pO vb c) a vc val))] [] (fun _:(Nat×Nat)×(Nat×Nat)=>True) (fun x=>.returned (.tuple #[mx x.1.1 kn x.1.2 x.2.1 a x.2.2,i64 0])) (fun _=>[])
 (fun x=>[(x.1.1,.fa (BF (pA x.1.1) kn x.1.2 key)),(x.2.1,.fa (BF (pA x.2.1) a x.2.2 val))]):=by
 refine iE func319<|bu [9999] 3 fun nm=>cE (lD kb b kn kc d key f (by omega)) [0] [] fun ⟨x,x1⟩ _=>fe [9999,6,1,0] 1 _ (br (show (decide ((↑a:Int)≤64))=true by (simp;omega)) bt) fun nm1=>⟨by kernel_rfl,?_⟩
 exact cE (lD vb c a vc e val g (by omega)) [1] [] fun ⟨x2,x3⟩ _=>bj [6,6,3,4]<|iz (((x,x1),x2,x3)) (.tuple #[.agg #[sA x kn x1,sA x2 a x3,i64 0,u32 0,u64 0,u16 0,u32 0,u64 0,u16 0],i64 0]) [5,7] (FB 3 4 (nm 1) (nm 2) 6 7 265 33 265 33 (by kernel_rfl) (by kernel_rfl) underlying265 rfl (by kernel_rfl) (by intro w;kernel_rfl))
theorem yA (a b:Nat):Same 392 #[.agg #[u8 1,u8 0,sA a 0 b]] [] (.tuple #[bp,i64 0]):=iE func392<|bu [9999,0,0,0] 1 fun nm=>rT ()
theorem zI (c d kb kn kc vb b vc a e f:Nat) (key val:Bs) (g:kn=key.length) (h:b=val.length) (h1:1≤kn) (h2:kn≤32) (h0:1≤b) (h3:b≤64):TT 392 #[jj c d] [(a,.fa (CF c 0 (cq kb kn kc vb b vc))),(e,.fa (BF (pA kb) kn kc key)),(f,.fa (BF (pA vb) b vc val))] [] (fun _:Nat=>True) (fun x=>.returned (.tuple #[ck x 1 1,i64 0])) (fun _=>[]) (fun x=>[(x,.cl (ye c d) 493)]):=by
 refine iE func392<|bu [9999,3,0,0,3] 1 fun nm=>bv (Bx c d kb kn kc vb b vc a e f key val g h h1 h2 h0 h3) [0,1,2] []<|fe [0,1,0,3,9999,9999] 1 _ (br (show (decide ((↑(4+kn+2+b):Int)≤224))=true by (simp;omega)) bt) fun nm1=>⟨by kernel_rfl,?_⟩
 exact rT (nm1 0) 9999 [4]
theorem yi (p t:Nat):Same 321 #[gV p t,bp,u8 0] [] (.tuple #[cu 0 0 0,i64 0]):=iE func321<|bu [9999,0,0,9999,1] 2 fun nm=>rT () 1
theorem pQ (b c kb kn kc vb a vc h i d f g:Nat) (key q:Bs) (hc:Lib.compareBytes key q=0):Same 223 #[jj b c,sO d f q.length g] [(b,.pr (bn 265 9 1 c (cq kb kn kc vb a vc))),(h,.fa (BF (pA kb) kn kc key)),(i,.fa (BF (pO d f) q.length g q))] (.tuple #[i64 0,.bool true]):=iE func223<|bu [9999,3,2,0,0,9999] 1 fun nm=>rE (er (T:=265) underlying265 (e:=265) b 0 9 1 c 9 (cq kb kn kc vb a vc) (by (simp;done))) [0]<|bu [] 1 fun nm1=>vE 16 (.agg ⟨List.take 9 (List.drop 0 (cq kb kn kc vb a vc))⟩) (mx kb kn kc vb a vc) (by rfl)<|bj [4,4]<|bv (ol h i kn q.length kc g (pA kb) (pO d f) key q) [1,2] []<|bK [1,0,1] (br (tT (Lib.compareBytes key q==0)) (br (dT (Lib.compareBytes key q≥0)) bt))<|rT ()
theorem BC (b c kb kn kc vb a vc h i d f g:Nat) (key q:Bs) (hc:Lib.compareBytes key q=1):Same 223 #[jj b c,sO d f q.length g] [(b,.pr (bn 265 9 1 c (cq kb kn kc vb a vc))),(h,.fa (BF (pA kb) kn kc key)),(i,.fa (BF (pO d f) q.length g q))] (.tuple #[i64 0,.bool false]):=iE func223<|bu [9999,3,2,0,0,9999] 1 fun nm=>rE (er (T:=265) underlying265 (e:=265) b 0 9 1 c 9 (cq kb kn kc vb a vc) (by (simp;done))) [0]<|bu [] 1 fun nm1=>vE 16 (.agg ⟨List.take 9 (List.drop 0 (cq kb kn kc vb a vc))⟩) (mx kb kn kc vb a vc) (by rfl)<|bj [4,4]<|bv (ol h i kn q.length kc g (pA kb) (pO d f) key q) [1,2] []<|bK [1,0,2] (br (tF (Lib.compareBytes key q==0)) (br (dT (Lib.compareBytes key q≥0)) bt))<|rT ()
abbrev lz:List Vl:=[bp,bp,i64 0,u32 0,u64 0,u16 0,u32 0,u64 0,u16 0]
abbrev AN:Vl:=.agg #[bp,bp,i64 0,u32 0,u64 0,u16 0,u32 0,u64 0,u16 0]
theorem DI (b c m:Nat) (xs:List Vl) (ty:TypeId):RunTri prog (vS (Builtin.clear_ #[259] ty #[sA b 1 m])) [] [(b,.pr (bn 265 9 1 c xs))] uT (fun _=>.tuple #[]) (fun _=>[(b,.pr (bn 265 9 0 c []))]) (fun _=>[]):=by
 intro w ho
 obtain ⟨o,hb,cur,rfl,h1,h2,h3,h4⟩:=ho.at_ 0 b _ rfl rfl
 obtain ⟨i0,hi,hz⟩:=Option.bind_eq_some_iff.1 (show (prog.info? 265).bind (·.zero)=some (AN ) by kernel_rfl)
 have hr:=run_storeCells_at prog b 0 265 lz 0 cur w hb (by simp only [lz,List.length_cons,List.length_nil];omega) (by decide)
 simp only [Nat.add_zero] at hr
 have a:(w.setRow b (cur.toList.take 0++lz++cur.toList.drop (0+lz.length)).toArray).heap[b]?=some (.cells (cur.toList.take 0++lz++cur.toList.drop (0+lz.length)).toArray 265 (0,0)):=setRow_heap w b _ _ 265 _ hb
 refine ⟨_,w.setRow b (cur.toList.take 0++lz++cur.toList.drop (0+lz.length)).toArray,⟨(),trivial,.inl rfl,ho.put (j:=0) rfl rfl ⟨_,a,_,rfl,?_,by simp,by omega,h4⟩ (fun i hi=>setRow_other w b i _ hi),⟨rfl,rfl,rfl,by simp [World.setRow],fun i _ hi=>setRow_other w b i _ fun e=>hi ?_⟩,fun b hb=>by cases hb⟩,ce ?_⟩
 · simp only [List.size_toArray,List.length_append,List.length_take,List.length_drop,Array.length_toList,lz,List.length_cons,List.length_nil];omega
 · rw [e];exact da (j:=0) rfl rfl
 · have d:(Builtin.zeroCells (AN).cells 1).toList=lz:=by kernel_rfl
   simp [Builtin.clear_,Sem.run_bind,run_underlying underlying259,zeroValue,typeInfo,hi,hz,Result.andThen,d]
   rw [hr]
   simp [Sem.run]
theorem sZ (b a:Nat) (xs:List Vl) (c:xs.length=9):TT 390 #[ck b 1 a,i64 0,i64 1] [] [(b,.pr (bn 265 9 1 a xs))] uT (fun _=>.returned (ck b 0 a)) (fun _=>[(b,.pr (bn 265 9 0 a []))]) (fun _=>[]):=by
 refine iE func390<|fE 0 b (bn 265 9 1 a xs) bx fun hc=>?_
 rcases Nat.lt_or_ge 1 a with h1 | h1
 · refine zE<|rE (zq (t:=259) (e:=265) (k:=9) underlying259 (by kernel_rfl) b 0 1 a 0 1 1 (by omega) (by omega) hc (by omega)) []<|bj [0,0]<|bj [9999,0]<|tW (sA b 0 a) (pm (t:=259) (e:=265) (k:=9) underlying259 b 0 1 a 0)<|zE<|tW (sO b (if a=1 then 0 else 0+1*9) (1-1) (a-1)) (jW (t:=259) (e:=265) (k:=9) underlying259 b 0 1 a 1 (by kernel_rfl) (by omega) hc)<|zE<|rE (sU (t:=259) (e:=265) (ty:=259) underlying259 (k:=9) (pA b) (pO b (if a=1 then 0 else 0+1*9)) 0 a (a-1)) []<|zE<|rE (gR (t:=259) (e:=265) (k:=9) underlying259 b 0 0 a 0 1 (by kernel_rfl) (by omega) hc) [] ?_
   exact xE (DI b a (a-0) xs 0) [] [0] fun _ _=>zE<|rT ()
 · obtain rfl:a=1:=by omega
   exact bj [9999,0,0]<|bj [9999,0,9999,9999]<|rE (sU (t:=259) (e:=265) (ty:=259) underlying259 (k:=9) (pA b) (pA b) 0 1 0) []<|bj [9999]<|xE (DI b 1 1 xs 0) [] [0] fun _ _=>zE<|rT ()
theorem yC (b c lb kb kn kc vb a vc:Nat):TT 391 #[ck b 0 c,i64 0,ck lb 1 1] [(lb,.cl (cq kb kn kc vb a vc) 265)] [(b,.pr (bn 265 9 0 c []))] (fun _:Nat×Nat=>True) (fun x=>.returned (ck x.1 1 x.2)) (fun _=>[(b,.dead)]) (fun x=>[(x.1,.pr (bn 265 9 1 x.2 (cq kb kn kc vb a vc)))]):=iE func391<|zE<|rE (jW (t:=259) (e:=265) (k:=9) underlying259 b 0 0 c 0) []<|bj [0,0,0,0]<|xV (gH (t:=259) (e:=265) (ty:=259) (k:=9) (by_:=104) (z:=.agg #[.slice none 0 0,.slice none 0 0,i64 0,u32 0,u64 0,u16 0,u32 0,u64 0,u16 0]) underlying259 b 0 c ([]) lb 1 1 ([sA kb kn kc,sA vb a vc,i64 0,u32 0,u64 0,u16 0,u32 0,u64 0,u16 0])) [0] [1] (Views.less (.cl [sA kb kn kc,sA vb a vc,i64 0,u32 0,u64 0,u16 0,u32 0,u64 0,u16 0] 265) bA Views.nil) fun ⟨x,x1⟩ _=>fE 2 x (bn 265 9 (0+1) x1 ([]++[sA kb kn kc,sA vb a vc,i64 0,u32 0,u64 0,u16 0,u32 0,u64 0,u16 0])) bx fun hc=>zE<|qE 2 x (.pr (bn 265 9 (0+1) x1 ([]++cq kb kn kc vb a vc))) (.pr (bn 265 9 1 x1 (cq kb kn kc vb a vc))) rfl<|rT ((x,x1)) 9999 [2]
end Go.Proofs.YtlkeemedalncoaaGreat.En
