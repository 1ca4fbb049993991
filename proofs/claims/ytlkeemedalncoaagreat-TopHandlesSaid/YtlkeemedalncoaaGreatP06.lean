/- TopHandles, part 6: no condition. -/
import Derived.Test.YtlkeemedalncoaaGreatP05
set_option linter.all false
set_option maxHeartbeats 16000000
set_option maxRecDepth 100000
namespace Go.Proofs.YtlkeemedalncoaaGreat.En
open Go Go.RowKit Go.Proofs.YtlkeemedalncoaaGreat Go.Proofs.Tryz
def cz:Bs:=(List.range 256).map fun i=>cv (UInt8.ofNat i)
theorem zc:cz.length=256:=by simp [cz]
def li (cb wb N:Nat) (W:Bs):World→Prop:=fun w=>CF cb 0 [sA wb N N] w∧CF cb 1 (cz.map B8) w∧CF wb 0 (W.map B8) w
def nY (cb wb k N:Nat) (key:Bs):World→Prop:=li cb wb N (wk key k N N)
def fI (W b:Bs) (last:Nat):Nat→Bs
 | 0=>b
 | 1=>dI b ((W.drop 0).take 16) 16
 | j+2=>dI (if j+1<last then ed (cw (cC (fI W b last (j+1)) cz 16)) else cw (cC (fI W b last (j+1)) cz 16)) ((W.drop (16*(j+1))).take 16) 16
def hP (W b:Bs) (last:Nat):Bs:=fI W b last (last+1)
theorem n8 (W b:Bs) (a:Nat) (hb:b.length=16):∀ j,(fI W b a j).length=16
 | 0=>hb
 | 1=>by rw [fI,c9,hb]
 | j+2=>by
  rw [fI,c9]
  split
  · rw [dZ]
  · rw [dk]
theorem oH (W b:Bs) (a:Nat) (hb:b.length=16):(hP W b a).length=16:=n8 W b a hb _
theorem rn (W b:Bs) (a j:Nat) (h1:1≤j) (h:j<a):fI W b a (j+1)=dI (ed (cw (cC (fI W b a j) cz 16))) ((W.drop (16*j)).take 16) 16:=by
 obtain ⟨m,rfl⟩:∃ m,j=m+1:=⟨j-1,by omega⟩
 rw [fI,if_pos h]
theorem sD (W b:Bs) (a j:Nat) (h1:1≤j) (h:j=a):fI W b a (j+1)=dI (cw (cC (fI W b a j) cz 16)) ((W.drop (16*j)).take 16) 16:=by
 obtain ⟨m,rfl⟩:∃ m,j=m+1:=⟨j-1,by omega⟩
 rw [fI,if_neg (by omega)]
theorem Av (s w:Bs) (hs:s.length=16) (b:w.length=16) (a wb off c:Nat) :
 Same 260 #[.agg (s.map B8).toArray,sO wb off 4 c] [(a,.fa (CF wb off (w.map B8)))] (.agg ((dI s w 16).map B8).toArray):=tO (Ii s w hs b wb off c)
theorem pD (s:Bs) (hs:s.length=16) (a tb:Nat) :
 Same 261 #[.agg (s.map B8).toArray,hY tb 1] [(a,.fa (CF tb 1 (cz.map B8)))] (.agg ((cC s cz 16).map B8).toArray):=tO (G0 s cz hs zc tb 1)
theorem uI {b off k m:Nat} {l:Bs} (w:World) (h:CF b off (l.map B8) w):CF b (off+k) (((l.drop k).take m).map B8) w:=by
 obtain ⟨o,h1,h2⟩:=h
 refine ⟨o,h1,c7 off k (fun j u hj=>?_) o h2⟩
 rw [List.getElem?_map,List.getElem?_take,List.getElem?_drop] at hj
 rw [List.getElem?_map]
 split at hj
 · exact hj
 · cases hj
theorem nR {f:FuncId} {args:Array Vl} {a:Nat} {p p0:World→Prop} {X:Type} {φ:X→Prop} {e:X→Ending} {HN:X→HP} (m:∀ w,p0 w→p w) (h:TT f args [(a,.fa p)] [] φ e (fun _=>[]) HN) :
 TT f args [(a,.fa p0)] [] φ e (fun _=>[]) HN:=by
 intro K w ho hk
 have g:∀ (q:World→Prop) (i c:Nat) (s:SB),([(a,SB.fa q)]++[]:HP)[i]?=some (c,s)→s = .fa q:=fun q i c s hi=>by
  have h0:i=0:=by have:=cj hi;simp at this;omega
  subst h0
  simp at hi
  exact hi.2.symm
 have d:Own ([(a,SB.fa p)]++[]) w:=⟨fun i j c s t _ hi _ hs _=>(by have:=g p i c s hi;subst this;cases hs),fun j c s hj hs=>(by have:=g p j c s hj;subst this;cases hs)⟩
 have l:Kn K ([(a,SB.fa p)]++[]) w:=⟨fun b hb=>⟨(hk.off b hb).1,by simp [lv,SB.live]⟩,fun j c q hj w' hw=>by
  have:=g p j c _ hj
  injection this with this
  subst this
  exact m w' (hk.fac 0 a p0 rfl w' hw)⟩
 refine (h K w d l).mono fun en w' ⟨x,K',hx,he,ho',hf',hn',hk1,hk2⟩=>?_
 have k:∀ (i c:Nat) (s:SB),([(a,SB.fa p0)]++[]++HN x)[i]?=some (c,s)→s = .fa p0∨([(a,SB.fa p)]++[]++HN x)[i]?=some (c,s):=by
  intro i c s hi
  cases i with
  | zero=>simp at hi;exact .inl hi.2.symm
  | succ i=>exact .inr (by simpa using hi)
 refine ⟨x,K',hx,he,⟨fun i j c s t hij hi hj hs ht=>?_,fun j c s hj hs=>?_⟩,hf',hn',hk1,fun b hb=>⟨(hk2.off b hb).1,fun hm=>(hk2.off b hb).2 ?_⟩,fun j c q hj=>?_⟩
 · rcases k i c s hi with rfl | h1
   · cases hs
   · rcases k j c t hj with rfl | h2
     · cases ht
     · exact ho'.nd i j c s t hij h1 h2 hs ht
 · rcases k j c s hj with rfl | h1
   · cases hs
   · exact ho'.at_ j c s h1 hs
 · rw [cy,cy] at hm ⊢
   simpa [lv,SB.live] using hm
 · rcases k j c _ hj with h1 | h1
   · injection h1 with h1
     subst h1
     intro w'' hw
     exact hk.fac 0 a q rfl w'' fun b hb=>(hw b (hk1.1 b hb)).trans (hf'.block b (hk.off b hb).1 (by simp [lv]))
   · exact hk2.fac j c q h1
theorem oK (s W:Bs) (hs:s.length=16) (a wb c:Nat) (b:16≤W.length:=by omega) :
 Same 260 #[.agg (s.map B8).toArray,.slice (some ⟨wb,0,none⟩) 4 c] [(a,.fa (CF wb 0 (W.map B8)))] (.agg ((dI s ((W.drop 0).take 16) 16).map B8).toArray):=
 nR (fun w h=>uI (k:=0) (m:=16) w h) (Av s ((W.drop 0).take 16) hs (by simp;omega) a wb (0+0) c)
theorem q8 (s W:Bs) (j:Nat) (a wb c:Nat) (hs:s.length=16:=by rfl) (b:16*j+16≤W.length:=by omega) :
 Same 260 #[.agg (s.map B8).toArray,.slice (some ⟨wb,0+4*j*4,none⟩) 4 c] [(a,.fa (CF wb 0 (W.map B8)))] (.agg ((dI s ((W.drop (16*j)).take 16) 16).map B8).toArray):=by
 have e:0+4*j*4=0+16*j:=by omega
 rw [e]
 exact nR (fun w h=>uI (k:=16*j) (m:=16) w h) (Av s ((W.drop (16*j)).take 16) hs (by simp;omega) a wb (0+16*j) c)
theorem E4 (cb wb a:Nat) (W b:Bs) (d:W.length=176) (hb:b.length=16) :
 Same 169 #[bi cb,.agg (b.map B8).toArray] [(a,.fa (li cb wb 44 W))] (.tuple #[.agg ((hP W b 10).map B8).toArray,i64 0]):=by
 refine iE func169<|fq [0] [li cb wb 44 W] (CF cb 0 [sA wb 44 44]) (fun w h=>(h 0 _ rfl).1)<|fq [0] [li cb wb 44 W] (CF cb 1 (cz.map B8)) (fun w h=>(h 0 _ rfl).2.1)<|fq [0] [li cb wb 44 W] (CF wb 0 (W.map B8)) (fun w h=>(h 0 _ rfl).2.2)<|bu [9999,0,0] 2 fun nm=>rE (je (T:=369) 0 cb 0 ([sA wb 44 44]) (sA wb 44 44)) [1]<|zE<|bj [9999,0]<|tE (.agg (List.toArray (List.map B8 b))) [4] [(nm 0,.cl (List.map B8 b) 278)] (cI (T:=278) underlying278 (nm 0) b 278 16)<|zE<|tE (sA wb 44 44) [1] [(0,.fa (CF cb 0 [sA wb 44 44]))] (je (T:=369) 0 cb 0 ([sA wb 44 44]) (sA wb 44 44)) ?_
 refine bj [9999]<|ef ((Nat→Nat)) (fun nm1=>True) 55 (fun nm1=>[(0,bi cb),(4,bi (nm 1)),(5,i64 0),(6,i64 10),(7,bi (nm1 0)),(8,i64 1)]) [.code (cZ f169 18),.blk 0,.code (cZ f169 37)] (fun nm1=>[(a,.fa (li cb wb 44 W)),(0,.fa (CF cb 0 [sA wb 44 44])),(0,.fa (CF cb 1 (List.map B8 cz))),(0,.fa (CF wb 0 (List.map B8 W))),(nm 0,.cl (List.map B8 b) 278),(nm 1,.cl iQ 278),(nm1 0,.cl (List.map B8 (dI b (List.take 16 (List.drop 0 W)) 16)) 375)]) ([]) 1 (fun key=>?_) ?_
 · refine dq 6 7 ?_ ?_
   · exact bv (oK b W (by assumption) 0 wb 44) [3] []<|bu [] 1 fun nm1=>xE (c8 (T:=375) (nm1 0) (dI b (List.take 16 (List.drop 0 W)) 16) iQ 375 16 (by kernel_rfl) (by (first | (simp only [c9,dh,dk,dZ];done) | (simp only [c9,dh,dk,dZ];first | rfl | assumption | omega)))) [] [6] fun _ _=>zE<|jT [0,1,2,3,4,5,6] (fun u=>key nm1 u trivial)
   · exact bu [] 1 fun nm1=>bv (oK b W (by assumption) 0 wb 44) [3] []<|zE<|xE (c8 (T:=375) (nm1 0) (dI b (List.take 16 (List.drop 0 W)) 16) iQ 375 16 (by kernel_rfl) (by (first | (simp only [c9,dh,dk,dZ];done) | (simp only [c9,dh,dk,dZ];first | rfl | assumption | omega)))) [] [6] fun _ _=>zE<|jT [0,1,2,3,4,5,6] (fun u=>key nm1 u trivial)
 rintro nm1 u _
 refine cY (X:=Nat) (fun j=>1≤j∧j≤11) (fun j=>11-j) 55 (fun j=>[(0,bi cb),(4,bi (nm 1)),(5,i64 0),(6,i64 10),(7,bi (nm1 0)),(8,i64 j)]) (fun j=>[(a,.fa (li cb wb 44 W)),(0,.fa (CF cb 0 [sA wb 44 44])),(0,.fa (CF cb 1 (cz.map B8))),(0,.fa (CF wb 0 (W.map B8))),(nm 0,.cl (b.map B8) 278),(nm 1,.cl (List.replicate 16 (u8 0)) 278),(nm1 0,.cl ((fI W b 10 j).map B8) 375)]) 1 (by kernel_rfl) (by omega) fun j u J hj back=>?_
 have c:=n8 W b 10 hb j
 rcases Nat.lt_or_ge j 11 with hlt | hge
 · have h1:decide ((j:Int)≤10)=true:=by simp;omega
   rcases Nat.lt_or_ge j 10 with h10 | h10
   · have h2:decide ((j:Int)<10)=true:=by simp;omega
     have e:=rn W b 10 j hj.1 h10
     generalize hs:fI W b 10 j=s at c e ⊢
     refine bK [1,0] (br h1 bt)<|bj [6,0]<|tE (.agg (List.toArray (List.map B8 s))) [6] [(nm1 0,.cl (List.map B8 s) 375)] (cI (T:=375) underlying375 (nm1 0) s 375 16)<|zE<|bv (pD s (by assumption) 0 cb) [2] []<|zE<|bv (o9 (cC s cz 16) (by (first | (simp only [c9,dh,dk,dZ];done) | (simp only [c9,dh,dk,dZ];first | rfl | assumption | omega)))) [] []<|zE<|xE (c8 (T:=375) (nm1 0) (cw (cC s cz 16)) (List.map B8 s) 375 16 (by kernel_rfl) (by kernel_rfl) (by (simp [part];omega))) [] [6] fun _ _=>bK [1,0] (br h2 bt)<|rE (cI (T:=375) underlying375 (nm1 0) (cw (cC s cz 16)) 375 16 (by kernel_rfl) (by kernel_rfl) (by kernel_rfl)) [6] ?_
     refine bv (AK (cw (cC s cz 16)) rfl) [] []<|xE (c8 (T:=375) (nm1 0) (ed (cw (cC s cz 16))) (List.map B8 (cw (cC s cz 16))) 375 16) [] [6] fun _ _=>zE<|bj [12,0]<|tE (.agg (List.toArray (List.map B8 (ed (cw (cC s cz 16)))))) [6] [(nm1 0,.cl (List.map B8 (ed (cw (cC s cz 16)))) 375)] (cI (T:=375) underlying375 (nm1 0) (ed (cw (cC s cz 16))) 375 16 (by kernel_rfl) (by kernel_rfl) (by kernel_rfl))<|zE<|tE (sA wb 44 44) [1] [(0,.fa (CF cb 0 [sA wb 44 44]))] (je (T:=369) 0 cb 0 ([sA wb 44 44]) (sA wb 44 44))<|zE<|vC 48 i64 (wI (4*(↑j:Int)) (4*j))<|vC 51 i64 (show IntKind.wrap .i64 (IntKind.wrap .i64 (4*(↑j:Int))+4)=(↑(4*j+4):Int) from (di (eT (di (j5 rfl rfl) (by omega)))))<|tE (sO wb (0+4*j*4) 4 (44-4*j)) [] [] (eY (t:=369) (e:=450) (k:=4) underlying369 wb 0 44 44 (4*j) 4) ?_
     exact zE<|bv (q8 (ed (cw (cC s cz 16))) W j 0 wb (44-4*j)) [3] []<|zE<|xE (c8 (T:=375) (nm1 0) (dI (ed (cw (cC s cz 16))) (List.take 16 (List.drop (16*j) W)) 16) (List.map B8 (ed (cw (cC s cz 16)))) 375 16) [] [6] fun _ _=>zE<|qE 6 (nm1 0) (.cl (List.map B8 (dI (ed (cw (cC s cz 16))) (List.take 16 (List.drop (16*j) W)) 16)) 375) (.cl (List.map B8 (fI W b 10 (j+1))) 375) (by subst_vars;rw [e])<|vC 8 i64 (wI ((↑j:Int)+1) (j+1))<|back _ (j+1) (by omega) (by omega) (by kernel_rfl)
   · have h2:decide ((j:Int)<10)=false:=by simp;omega
     have e:=sD W b 10 j hj.1 (by omega)
     generalize hs:fI W b 10 j=s at c e ⊢
     refine bK [1,0] (br h1 bt)<|bj [6,0]<|tE (.agg (List.toArray (List.map B8 s))) [6] [(nm1 0,.cl (List.map B8 s) 375)] (cI (T:=375) underlying375 (nm1 0) s 375 16)<|zE<|bv (pD s (by assumption) 0 cb) [2] []<|zE<|bv (o9 (cC s cz 16) (by (first | (simp only [c9,dh,dk,dZ];done) | (simp only [c9,dh,dk,dZ];first | rfl | assumption | omega)))) [] []<|zE<|xE (c8 (T:=375) (nm1 0) (cw (cC s cz 16)) (List.map B8 s) 375 16 (by kernel_rfl) (by kernel_rfl) (by (simp [part];omega))) [] [6] fun _ _=>bK [2,0] (br h2 bt)<|bj [12,0] ?_
     refine tE (.agg (List.toArray (List.map B8 (cw (cC s cz 16))))) [6] [(nm1 0,.cl (List.map B8 (cw (cC s cz 16))) 375)] (cI (T:=375) underlying375 (nm1 0) (cw (cC s cz 16)) 375 16 (by kernel_rfl) (by kernel_rfl) (by kernel_rfl))<|zE<|tE (sA wb 44 44) [1] [(0,.fa (CF cb 0 [sA wb 44 44]))] (je (T:=369) 0 cb 0 ([sA wb 44 44]) (sA wb 44 44))<|zE<|vC 48 i64 (wI (4*(↑j:Int)) (4*j))<|vC 51 i64 (show IntKind.wrap .i64 (IntKind.wrap .i64 (4*(↑j:Int))+4)=(↑(4*j+4):Int) from (di (eT (di (j5 rfl rfl) (by omega)))))<|tE (sO wb (0+4*j*4) 4 (44-4*j)) [] [] (eY (t:=369) (e:=450) (k:=4) underlying369 wb 0 44 44 (4*j) 4)<|zE<|bv (q8 (cw (cC s cz 16)) W j 0 wb (44-4*j)) [3] []<|zE<|xE (c8 (T:=375) (nm1 0) (dI (cw (cC s cz 16)) (List.take 16 (List.drop (16*j) W)) 16) (List.map B8 (cw (cC s cz 16))) 375 16) [] [6] ?_
     intro _ _
     exact zE<|qE 6 (nm1 0) (.cl (List.map B8 (dI (cw (cC s cz 16)) (List.take 16 (List.drop (16*j) W)) 16)) 375) (.cl (List.map B8 (fI W b 10 (j+1))) 375) (by subst_vars;rw [e])<|vC 8 i64 (wI ((↑j:Int)+1) (j+1))<|back _ (j+1) (by omega) (by omega) (by kernel_rfl)
 · obtain rfl:j=11:=by omega
   refine qE 6 (nm1 0) (.cl (List.map B8 (fI W b 10 11)) 375) (.cl (List.map B8 (hP W b 10)) 375) (by rfl) ?_
   have f:=oH W b 10 hb
   exact qE 5 (nm 1) (.cl (List.replicate 16 (u8 0)) 278) (.cl (List.map B8 (List.replicate 16 0)) 278) (by rfl)<|bj [0,0]<|rE (cI (T:=375) underlying375 (nm1 0) (hP W b 10) 375 16 (by kernel_rfl) (by kernel_rfl) (by kernel_rfl)) [6]<|xE (c8 (T:=278) (nm 1) (hP W b 10) (List.map B8 (List.replicate 16 0)) 278 16) [] [5] fun _ _=>zE<|iz (()) (.tuple #[.agg (List.toArray (List.map B8 (hP W b 10))),i64 0]) [] (pz 5 (nm 1) 16 4 5 278 278 underlying278)
theorem CZ (cb wb a:Nat) (W b:Bs) (d:W.length=240) (hb:b.length=16) :
 Same 169 #[bi cb,.agg (b.map B8).toArray] [(a,.fa (li cb wb 60 W))] (.tuple #[.agg ((hP W b 14).map B8).toArray,i64 0]):=by
 refine iE func169<|fq [0] [li cb wb 60 W] (CF cb 0 [sA wb 60 60]) (fun w h=>(h 0 _ rfl).1)<|fq [0] [li cb wb 60 W] (CF cb 1 (cz.map B8)) (fun w h=>(h 0 _ rfl).2.1)<|fq [0] [li cb wb 60 W] (CF wb 0 (W.map B8)) (fun w h=>(h 0 _ rfl).2.2)<|bu [9999,0,0] 2 fun nm=>rE (je (T:=369) 0 cb 0 ([sA wb 60 60]) (sA wb 60 60)) [1]<|zE<|bj [9999,0]<|tE (.agg (List.toArray (List.map B8 b))) [4] [(nm 0,.cl (List.map B8 b) 278)] (cI (T:=278) underlying278 (nm 0) b 278 16)<|zE<|tE (sA wb 60 60) [1] [(0,.fa (CF cb 0 [sA wb 60 60]))] (je (T:=369) 0 cb 0 ([sA wb 60 60]) (sA wb 60 60)) ?_
 refine bj [9999]<|ef ((Nat→Nat)) (fun nm1=>True) 55 (fun nm1=>[(0,bi cb),(4,bi (nm 1)),(5,i64 0),(6,i64 14),(7,bi (nm1 0)),(8,i64 1)]) [.code (cZ f169 18),.blk 0,.code (cZ f169 37)] (fun nm1=>[(a,.fa (li cb wb 60 W)),(0,.fa (CF cb 0 [sA wb 60 60])),(0,.fa (CF cb 1 (List.map B8 cz))),(0,.fa (CF wb 0 (List.map B8 W))),(nm 0,.cl (List.map B8 b) 278),(nm 1,.cl iQ 278),(nm1 0,.cl (List.map B8 (dI b (List.take 16 (List.drop 0 W)) 16)) 375)]) ([]) 1 (fun key=>?_) ?_
 · refine dq 6 7 ?_ ?_
   · exact bv (oK b W (by assumption) 0 wb 60) [3] []<|bu [] 1 fun nm1=>xE (c8 (T:=375) (nm1 0) (dI b (List.take 16 (List.drop 0 W)) 16) iQ 375 16 (by kernel_rfl) (by (first | (simp only [c9,dh,dk,dZ];done) | (simp only [c9,dh,dk,dZ];first | rfl | assumption | omega)))) [] [6] fun _ _=>zE<|jT [0,1,2,3,4,5,6] (fun u=>key nm1 u trivial)
   · exact bu [] 1 fun nm1=>bv (oK b W (by assumption) 0 wb 60) [3] []<|zE<|xE (c8 (T:=375) (nm1 0) (dI b (List.take 16 (List.drop 0 W)) 16) iQ 375 16 (by kernel_rfl) (by (first | (simp only [c9,dh,dk,dZ];done) | (simp only [c9,dh,dk,dZ];first | rfl | assumption | omega)))) [] [6] fun _ _=>zE<|jT [0,1,2,3,4,5,6] (fun u=>key nm1 u trivial)
 rintro nm1 u _
 refine cY (X:=Nat) (fun j=>1≤j∧j≤15) (fun j=>15-j) 55 (fun j=>[(0,bi cb),(4,bi (nm 1)),(5,i64 0),(6,i64 14),(7,bi (nm1 0)),(8,i64 j)]) (fun j=>[(a,.fa (li cb wb 60 W)),(0,.fa (CF cb 0 [sA wb 60 60])),(0,.fa (CF cb 1 (cz.map B8))),(0,.fa (CF wb 0 (W.map B8))),(nm 0,.cl (b.map B8) 278),(nm 1,.cl (List.replicate 16 (u8 0)) 278),(nm1 0,.cl ((fI W b 14 j).map B8) 375)]) 1 (by kernel_rfl) (by omega) fun j u J hj back=>?_
 have c:=n8 W b 14 hb j
 rcases Nat.lt_or_ge j 15 with hlt | hge
 · have h1:decide ((j:Int)≤14)=true:=by simp;omega
   rcases Nat.lt_or_ge j 14 with h10 | h10
   · have h2:decide ((j:Int)<14)=true:=by simp;omega
     have e:=rn W b 14 j hj.1 h10
     generalize hs:fI W b 14 j=s at c e ⊢
     refine bK [1,0] (br h1 bt)<|bj [6,0]<|tE (.agg (List.toArray (List.map B8 s))) [6] [(nm1 0,.cl (List.map B8 s) 375)] (cI (T:=375) underlying375 (nm1 0) s 375 16)<|zE<|bv (pD s (by assumption) 0 cb) [2] []<|zE<|bv (o9 (cC s cz 16) (by (first | (simp only [c9,dh,dk,dZ];done) | (simp only [c9,dh,dk,dZ];first | rfl | assumption | omega)))) [] []<|zE<|xE (c8 (T:=375) (nm1 0) (cw (cC s cz 16)) (List.map B8 s) 375 16 (by kernel_rfl) (by kernel_rfl) (by (simp [part];omega))) [] [6] fun _ _=>bK [1,0] (br h2 bt)<|rE (cI (T:=375) underlying375 (nm1 0) (cw (cC s cz 16)) 375 16 (by kernel_rfl) (by kernel_rfl) (by kernel_rfl)) [6] ?_
     refine bv (AK (cw (cC s cz 16)) rfl) [] []<|xE (c8 (T:=375) (nm1 0) (ed (cw (cC s cz 16))) (List.map B8 (cw (cC s cz 16))) 375 16) [] [6] fun _ _=>zE<|bj [12,0]<|tE (.agg (List.toArray (List.map B8 (ed (cw (cC s cz 16)))))) [6] [(nm1 0,.cl (List.map B8 (ed (cw (cC s cz 16)))) 375)] (cI (T:=375) underlying375 (nm1 0) (ed (cw (cC s cz 16))) 375 16 (by kernel_rfl) (by kernel_rfl) (by kernel_rfl))<|zE<|tE (sA wb 60 60) [1] [(0,.fa (CF cb 0 [sA wb 60 60]))] (je (T:=369) 0 cb 0 ([sA wb 60 60]) (sA wb 60 60))<|zE<|vC 48 i64 (wI (4*(↑j:Int)) (4*j))<|vC 51 i64 (show IntKind.wrap .i64 (IntKind.wrap .i64 (4*(↑j:Int))+4)=(↑(4*j+4):Int) from (di (eT (di (j5 rfl rfl) (by omega)))))<|tE (sO wb (0+4*j*4) 4 (60-4*j)) [] [] (eY (t:=369) (e:=450) (k:=4) underlying369 wb 0 60 60 (4*j) 4) ?_
     exact zE<|bv (q8 (ed (cw (cC s cz 16))) W j 0 wb (60-4*j)) [3] []<|zE<|xE (c8 (T:=375) (nm1 0) (dI (ed (cw (cC s cz 16))) (List.take 16 (List.drop (16*j) W)) 16) (List.map B8 (ed (cw (cC s cz 16)))) 375 16) [] [6] fun _ _=>zE<|qE 6 (nm1 0) (.cl (List.map B8 (dI (ed (cw (cC s cz 16))) (List.take 16 (List.drop (16*j) W)) 16)) 375) (.cl (List.map B8 (fI W b 14 (j+1))) 375) (by subst_vars;rw [e])<|vC 8 i64 (wI ((↑j:Int)+1) (j+1))<|back _ (j+1) (by omega) (by omega) (by kernel_rfl)
   · have h2:decide ((j:Int)<14)=false:=by simp;omega
     have e:=sD W b 14 j hj.1 (by omega)
     generalize hs:fI W b 14 j=s at c e ⊢
     refine bK [1,0] (br h1 bt)<|bj [6,0]<|tE (.agg (List.toArray (List.map B8 s))) [6] [(nm1 0,.cl (List.map B8 s) 375)] (cI (T:=375) underlying375 (nm1 0) s 375 16)<|zE<|bv (pD s (by assumption) 0 cb) [2] []<|zE<|bv (o9 (cC s cz 16) (by (first | (simp only [c9,dh,dk,dZ];done) | (simp only [c9,dh,dk,dZ];first | rfl | assumption | omega)))) [] []<|zE<|xE (c8 (T:=375) (nm1 0) (cw (cC s cz 16)) (List.map B8 s) 375 16 (by kernel_rfl) (by kernel_rfl) (by (simp [part];omega))) [] [6] fun _ _=>bK [2,0] (br h2 bt)<|bj [12,0] ?_
     refine tE (.agg (List.toArray (List.map B8 (cw (cC s cz 16))))) [6] [(nm1 0,.cl (List.map B8 (cw (cC s cz 16))) 375)] (cI (T:=375) underlying375 (nm1 0) (cw (cC s cz 16)) 375 16 (by kernel_rfl) (by kernel_rfl) (by kernel_rfl))<|zE<|tE (sA wb 60 60) [1] [(0,.fa (CF cb 0 [sA wb 60 60]))] (je (T:=369) 0 cb 0 ([sA wb 60 60]) (sA wb 60 60))<|zE<|vC 48 i64 (wI (4*(↑j:Int)) (4*j))<|vC 51 i64 (show IntKind.wrap .i64 (IntKind.wrap .i64 (4*(↑j:Int))+4)=(↑(4*j+4):Int) from (di (eT (di (j5 rfl rfl) (by omega)))))<|tE (sO wb (0+4*j*4) 4 (60-4*j)) [] [] (eY (t:=369) (e:=450) (k:=4) underlying369 wb 0 60 60 (4*j) 4)<|zE<|bv (q8 (cw (cC s cz 16)) W j 0 wb (60-4*j)) [3] []<|zE<|xE (c8 (T:=375) (nm1 0) (dI (cw (cC s cz 16)) (List.take 16 (List.drop (16*j) W)) 16) (List.map B8 (cw (cC s cz 16))) 375 16) [] [6] ?_
     intro _ _
     exact zE<|qE 6 (nm1 0) (.cl (List.map B8 (dI (cw (cC s cz 16)) (List.take 16 (List.drop (16*j) W)) 16)) 375) (.cl (List.map B8 (fI W b 14 (j+1))) 375) (by subst_vars;rw [e])<|vC 8 i64 (wI ((↑j:Int)+1) (j+1))<|back _ (j+1) (by omega) (by omega) (by kernel_rfl)
 · obtain rfl:j=15:=by omega
   refine qE 6 (nm1 0) (.cl (List.map B8 (fI W b 14 15)) 375) (.cl (List.map B8 (hP W b 14)) 375) (by rfl) ?_
   have f:=oH W b 14 hb
   exact qE 5 (nm 1) (.cl (List.replicate 16 (u8 0)) 278) (.cl (List.map B8 (List.replicate 16 0)) 278) (by rfl)<|bj [0,0]<|rE (cI (T:=375) underlying375 (nm1 0) (hP W b 14) 375 16 (by kernel_rfl) (by kernel_rfl) (by kernel_rfl)) [6]<|xE (c8 (T:=278) (nm 1) (hP W b 14) (List.map B8 (List.replicate 16 0)) 278 16) [] [5] fun _ _=>zE<|iz (()) (.tuple #[.agg (List.toArray (List.map B8 (hP W b 14))),i64 0]) [] (pz 5 (nm 1) 16 4 5 278 278 underlying278)
theorem F5 (cb wb a:Nat) (key b:Bs) (c:key.length=16) (hb:b.length=16) :
 Same 169 #[bi cb,.agg (b.map B8).toArray] [(a,.fa (nY cb wb 4 44 key))] (.tuple #[.agg ((hP (wk key 4 44 44) b 10).map B8).toArray,i64 0]):=
 E4 cb wb a _ b (lS key 4 44 44) hb
theorem GJ (cb wb a:Nat) (key b:Bs) (c:key.length=32) (hb:b.length=16) :
 Same 169 #[bi cb,.agg (b.map B8).toArray] [(a,.fa (nY cb wb 8 60 key))] (.tuple #[.agg ((hP (wk key 8 60 60) b 14).map B8).toArray,i64 0]):=
 CZ cb wb a _ b (lS key 8 60 60) hb
theorem Bz (key:Bs) (h:key.length=16) (a kb off c:Nat) (hc:16≤c) :
 TT 258 #[sO kb off 16 c] [(a,.fa (BF (pO kb off) 16 c key))] [] (fun _:Nat=>True) (fun b=>.returned (.tuple #[sA b 44 44,i64 0])) (fun _=>[]) (fun b=>[(b,.cl ((wk key 4 44 44).map B8) 450)]):=by
 refine iE func258<|bj [0,0]<|xE (qt .i64 .i64 44 (by omega)) [] [] fun x _=>zE<|cY (X:=Nat) (fun i=>i≤44) (fun i=>44-i) 116 (fun i=>[(0,sO kb off 16 c),(4,i64 4),(5,sA x 44 44),(25,i64 44),(26,i64 i),(3,i64 0)]) (fun i=>[(a,.fa (BF (pO kb off) 16 c key)),(x,.cl ((wk key 4 44 i).map B8) 450)]) 0 (by kernel_rfl) (by omega) fun i u J hi back=>?_
 have j:=lS key 4 44 i
 rcases Nat.lt_or_ge i 44 with hlt | hge
 · have h1:decide ((i:Int)<44)=true:=by simp;omega
   rcases Nat.lt_or_ge i 4 with hik | hik
   · refine bK [1,0,1,0] (br (dT ((↑i:Int)<4)) (br h1 bt))<|vC 36 i64 (wI (4*(↑i:Int)) (4*i))<|vC 39 i64 (show IntKind.wrap .i64 (IntKind.wrap .i64 (4*(↑i:Int))+4)=(↑(4*i+4):Int) from (di (eT (di (j5 rfl rfl) (by omega)))))<|rE (eY (t:=27) (e:=5) (k:=1) underlying27 kb off 16 c (4*i) 4) []<|zE<|rE (xv (T:=450) underlying450 a kb off (4*i*1) 16 c key) [0]<|rE (bL (t:=369) (e:=450) (k:=4) underlying369 .i64 x 0 44 44 i (by assumption)) []<|xE (Ao (T:=450) (by kernel_rfl) x (0+i*4) (List.getD key (4*i*1) 0) (List.getD key (4*i*1+1) 0) (List.getD key (4*i*1+2) 0) (List.getD key (4*i*1+3) 0) (wk key 4 44 i) 450 (by omega)) [] [1] fun _ _=>zE ?_
     have d:wk key 4 44 (i+1)=kN (wk key 4 44 i) (4*i) (key.getD (4*i) 0) (key.getD (4*i+1) 0) (key.getD (4*i+2) 0) (key.getD (4*i+3) 0):=by rw [wk,if_pos hik]
     exact qE 1 x (.cl (List.map B8 (kN (wk key 4 44 i) (0+i*4) (List.getD key (4*i*1) 0) (List.getD key (4*i*1+1) 0) (List.getD key (4*i*1+2) 0) (List.getD key (4*i*1+3) 0))) 450) (.cl (List.map B8 (wk key 4 44 (i+1))) 450) (by rw [d,Nat.mul_one,Nat.zero_add,Nat.mul_comm i 4])<|vC 26 i64 (wI ((↑i:Int)+1) (i+1))<|back _ (i+1) (by omega) (by omega) (by kernel_rfl)
   · refine bK [1,0,2,0] (br (dF ((↑i:Int)<4)) (br h1 bt))<|vC 46 i64 (wI ((↑i:Int)-1) (i-1))<|rE (bL (t:=369) (e:=450) (k:=4) underlying369 .i64 x 0 44 44 (i-1) (by omega)) []<|rE (wB (T:=450) underlying450 x (0+(i-1)*4) (wk key 4 44 i) 450) [1]<|bu [] 1 fun nm=>xE (c8 (T:=450) (nm 0) (w4 (wk key 4 44 i) (0+(i-1)*4)) ([u8 0,u8 0,u8 0,u8 0]) 450 4) [] [2] fun _ _=>bj [0]<|ef Unit (fun _=>True) 116 (fun _=>[(0,sO kb off 16 c),(3,i64 0),(4,i64 4),(5,sA x 44 44),(6,i64 i),(7,bi (nm 0)),(25,i64 44),(26,i64 i),(93,i64 0)]) [.code (cZ f258 52),.blk 2,.blk 1,.code (cZ f258 65),.lp J,.blk 0,.code (cZ f258 66)] (fun _=>[(a,.fa (BF (pO kb off) 16 c key)),(x,.cl (List.map B8 (wk key 4 44 i)) 450),(nm 0,.cl (List.map B8 (fX 4 i (w4 (wk key 4 44 i) (0+(i-1)*4)))) 450)]) [] 1 (fun key2=>?_) (fun _ u _=>?_)
     · by_cases h4:i%4=0
       · have h3:((i:Int).tmod 4==0)=true:=by simp [Int.tmod_eq_emod_of_nonneg (Int.natCast_nonneg _)];omega
         refine bK [1] (br h3 bt)<|bj [20,0,9999]<|tE (B8 (List.getD (w4 (wk key 4 44 i) (0+(i-1)*4)) 1 0)) [2] [(nm 0,.cl (List.map B8 (w4 (wk key 4 44 i) (0+(i-1)*4))) 450)] (du (T:=5) (nm 0) 1 (w4 (wk key 4 44 i) (0+(i-1)*4)) 450 (by (simp;done))) ?_
         generalize hz:List.getD (w4 (wk key 4 44 i) (0+(i-1)*4)) 1 0=z
         refine bj [9999,9999]<|tE (B8 (List.getD (w4 (wk key 4 44 i) (0+(i-1)*4)) 2 0)) [2] [(nm 0,.cl (List.map B8 (w4 (wk key 4 44 i) (0+(i-1)*4))) 450)] (du (T:=5) (nm 0) 2 (w4 (wk key 4 44 i) (0+(i-1)*4)) 450 (by (simp;done))) ?_
         generalize hz1:List.getD (w4 (wk key 4 44 i) (0+(i-1)*4)) 2 0=z1
         refine bj [9999]<|tE (B8 (List.getD (w4 (wk key 4 44 i) (0+(i-1)*4)) 3 0)) [2] [(nm 0,.cl (List.map B8 (w4 (wk key 4 44 i) (0+(i-1)*4))) 450)] (du (T:=5) (nm 0) 3 (w4 (wk key 4 44 i) (0+(i-1)*4)) 450 (by (simp;done))) ?_
         generalize hz2:List.getD (w4 (wk key 4 44 i) (0+(i-1)*4)) 3 0=z2
         refine bj [9999]<|tE (B8 (List.getD (w4 (wk key 4 44 i) (0+(i-1)*4)) 0 0)) [2] [(nm 0,.cl (List.map B8 (w4 (wk key 4 44 i) (0+(i-1)*4))) 450)] (du (T:=5) (nm 0) 0 (w4 (wk key 4 44 i) (0+(i-1)*4)) 450 (by (simp;done))) ?_
         generalize hz3:List.getD (w4 (wk key 4 44 i) (0+(i-1)*4)) 0 0=z3
         refine zE<|bv (iC z) [] []<|zE<|vC 60 u32 (show IntKind.wrap .u32 (IntKind.wrap .i64 (IntKind.wrap .i64 (Int.tdiv (↑i:Int) 4)-1))=(↑(i/4-1):Int) from (jr (di (pF (di (Dl rfl rfl))))))<|bv (Az (i/4-1) (by omega)) [] []<|zE<|bv (iC z1) [] []<|zE<|bv (iC z2) [] []<|zE<|cE (iC z3) [] [] ?_
         intro _ _
         exact bj [9999]<|vE 72 (.agg ⟨[u8 (bits .xor .u8 ↑(UInt8.toNat (cv z)) (↑(UInt8.toNat (rc (i/4-1))):Int)),u8 ↑(UInt8.toNat (cv z1)),u8 ↑(UInt8.toNat (cv z2)),u8 ↑(UInt8.toNat (cv z3))]⟩) (.agg ⟨[u8 ↑(UInt8.toNat (cv z^^^rc (i/4-1))),u8 ↑(UInt8.toNat (cv z1)),u8 ↑(UInt8.toNat (cv z2)),u8 ↑(UInt8.toNat (cv z3))]⟩) (by simp only [gz])<|xE (c8 (T:=450) (nm 0) ([cv z^^^rc (i/4-1),cv z1,cv z2,cv z3]) (List.map B8 (w4 (wk key 4 44 i) (0+(i-1)*4))) 450 4) [] [2] fun _ _=>zE<|qE 2 (nm 0) (.cl (List.map B8 [cv z^^^rc (i/4-1),cv z1,cv z2,cv z3]) 450) (.cl (List.map B8 (fX 4 i (w4 (wk key 4 44 i) (0+(i-1)*4)))) 450) (by subst_vars;rw [fX,if_pos h4])<|jT [0,1,2] (fun u=>key2 () u trivial)
       · have h3:((i:Int).tmod 4==0)=false:=by simp [Int.tmod_eq_emod_of_nonneg (Int.natCast_nonneg _)];omega
         exact bK [2,0,0] (br h3 bt)<|qE 2 (nm 0) (.cl (List.map B8 (w4 (wk key 4 44 i) (0+(i-1)*4))) 450) (.cl (List.map B8 (fX 4 i (w4 (wk key 4 44 i) (0+(i-1)*4)))) 450) (by rw [fX,if_neg h4,if_neg (by omega)])<|jT [0,1,2] (fun u=>key2 () u trivial)
     · have f:=qI 4 i (w4 (wk key 4 44 i) (0+(i-1)*4)) rfl
       generalize hV:fX 4 i (w4 (wk key 4 44 i) (0+(i-1)*4))=V at f ⊢
       refine cY (X:=Nat) (fun p=>p≤4) (fun p=>4-p) 116 (fun p=>[(0,sO kb off 16 c),(3,i64 0),(4,i64 4),(5,sA x 44 44),(6,i64 i),(7,bi (nm 0)),(25,i64 44),(26,i64 i),(93,i64 p)]) (fun p=>[(a,.fa (BF (pO kb off) 16 c key)),(x,.cl (List.map B8 (gp (wk key 4 44 i) i 4 V p)) 450),(nm 0,.cl (List.map B8 V) 450)]) 0 (by kernel_rfl) (by omega) fun p u2 J2 hp back2=>?_
       have g:=ny (wk key 4 44 i) i 4 V p
       rcases Nat.lt_or_ge p 4 with hlt2 | hge2
       · have h5:decide ((p:Int)<4)=true:=by simp;omega
         refine bK [1,0] (br h5 bt)<|bj [17,0]<|tE (.pointer (pO (nm 0) (0+p*1))) [] [] (ep (t:=450) (e:=5) (k:=1) (n:=4) underlying450 .i64 (nm 0) 0 p (by assumption))<|tE (B8 (List.getD V (0+p*1) 0)) [2] [(nm 0,.cl (List.map B8 V) 450)] (du (T:=5) (nm 0) (0+p*1) V 450 (by omega))<|zE<|vC 105 i64 (wI ((↑i:Int)-4) (i-4))<|tE (.pointer (pO x (0+(i-4)*4))) [] [] (bL (t:=369) (e:=450) (k:=4) underlying369 .i64 x 0 44 44 (i-4) (by omega))<|tE (.pointer (pO x (0+(i-4)*4+p*1))) [] [] (ep (t:=450) (e:=5) (k:=1) (n:=4) underlying450 .i64 x (0+(i-4)*4) p (by assumption))<|tE (B8 (List.getD (gp (wk key 4 44 i) i 4 V p) (0+(i-4)*4+p*1) 0)) [1] [(x,.cl (List.map B8 (gp (wk key 4 44 i) i 4 V p)) 450)] (du (T:=5) x (0+(i-4)*4+p*1) (gp (wk key 4 44 i) i 4 V p) 450 (by omega)) ?_
         generalize hz:List.getD (gp (wk key 4 44 i) i 4 V p) (0+(i-4)*4+p*1) 0=z
         refine zE<|rE (bL (t:=369) (e:=450) (k:=4) underlying369 .i64 x 0 44 44 i (by assumption)) []<|tE (.pointer (pO x (0+i*4+p*1))) [] [] (ep (t:=450) (e:=5) (k:=1) (n:=4) underlying450 .i64 x (0+i*4) p (by assumption))<|zE<|vE 110 (u8 (bits .xor .u8 ↑(UInt8.toNat (List.getD V (0+p*1) 0)) (↑(UInt8.toNat z):Int))) (u8 ↑(UInt8.toNat (List.getD V (0+p*1) 0^^^z))) (by simp only [gz]) ?_
         generalize hz1:List.getD V (0+p*1) 0^^^z=z1
         refine xE (cn x (0+i*4+p*1) (gp (wk key 4 44 i) i 4 V p) 450 z1 (by omega)) [] [1] fun _ _=>?_
         generalize hL1:List.set (gp (wk key 4 44 i) i 4 V p) (0+i*4+p*1) z1=L
         have l:List.length L=List.length (gp (wk key 4 44 i) i 4 V p):=by rw [← hL1,List.length_set]
         exact zE<|qE 1 x (.cl (List.map B8 L) 450) (.cl (List.map B8 (gp (wk key 4 44 i) i 4 V (p+1))) 450) (by subst_vars;rw [gp])<|vC 93 i64 (wI ((↑p:Int)+1) (p+1))<|back2 _ (p+1) (by omega) (by omega) (by kernel_rfl)
       · obtain rfl:p=4:=by omega
         have d:wk key 4 44 (i+1)=gp (wk key 4 44 i) i 4 V 4:=by rw [wk,if_neg (by omega),hV]
         exact bj [0,0]<|qE 1 x (.cl (List.map B8 (gp (wk key 4 44 i) i 4 V 4)) 450) (.cl (List.map B8 (wk key 4 44 (i+1))) 450) (by rw [d])<|vC 26 i64 (wI ((↑i:Int)+1) (i+1))<|wE [0,1] 1 [(a,.fa (BF (pO kb off) 16 c key)),(x,.cl (List.map B8 (wk key 4 44 (i+1))) 450)]<|back _ (i+1) (by omega) (by omega) (by kernel_rfl)
 · obtain rfl:i=44:=by omega
   exact bj [0,0]<|rT x 9999 [1]
theorem BI (key:Bs) (l:key.length=32) (a kb off c:Nat) (hc:32≤c) :
 TT 258 #[sO kb off 32 c] [(a,.fa (BF (pO kb off) 32 c key))] [] (fun _:Nat=>True) (fun b=>.returned (.tuple #[sA b 60 60,i64 0])) (fun _=>[]) (fun b=>[(b,.cl ((wk key 8 60 60).map B8) 450)]):=by
 refine iE func258<|bj [0,0,0]<|xE (qt .i64 .i64 60 (by omega)) [] [] fun x _=>zE<|cY (X:=Nat) (fun i=>i≤60) (fun i=>60-i) 116 (fun i=>[(0,sO kb off 32 c),(4,i64 8),(5,sA x 60 60),(25,i64 60),(26,i64 i),(3,i64 0)]) (fun i=>[(a,.fa (BF (pO kb off) 32 c key)),(x,.cl ((wk key 8 60 i).map B8) 450)]) 0 (by kernel_rfl) (by omega) fun i u J hi back=>?_
 have m:=lS key 8 60 i
 rcases Nat.lt_or_ge i 60 with hlt | hge
 · have h1:decide ((i:Int)<60)=true:=by simp;omega
   rcases Nat.lt_or_ge i 8 with hik | hik
   · refine bK [1,0,1,0] (br (dT ((↑i:Int)<8)) (br h1 bt))<|vC 36 i64 (wI (4*(↑i:Int)) (4*i))<|vC 39 i64 (show IntKind.wrap .i64 (IntKind.wrap .i64 (4*(↑i:Int))+4)=(↑(4*i+4):Int) from (di (eT (di (j5 rfl rfl) (by omega)))))<|rE (eY (t:=27) (e:=5) (k:=1) underlying27 kb off 32 c (4*i) 4) []<|zE<|rE (xv (T:=450) underlying450 a kb off (4*i*1) 32 c key) [0]<|rE (bL (t:=369) (e:=450) (k:=4) underlying369 .i64 x 0 60 60 i (by assumption)) []<|xE (Ao (T:=450) (by kernel_rfl) x (0+i*4) (List.getD key (4*i*1) 0) (List.getD key (4*i*1+1) 0) (List.getD key (4*i*1+2) 0) (List.getD key (4*i*1+3) 0) (wk key 8 60 i) 450 (by omega)) [] [1] fun _ _=>zE ?_
     have d:wk key 8 60 (i+1)=kN (wk key 8 60 i) (4*i) (key.getD (4*i) 0) (key.getD (4*i+1) 0) (key.getD (4*i+2) 0) (key.getD (4*i+3) 0):=by rw [wk,if_pos hik]
     exact qE 1 x (.cl (List.map B8 (kN (wk key 8 60 i) (0+i*4) (List.getD key (4*i*1) 0) (List.getD key (4*i*1+1) 0) (List.getD key (4*i*1+2) 0) (List.getD key (4*i*1+3) 0))) 450) (.cl (List.map B8 (wk key 8 60 (i+1))) 450) (by rw [d,Nat.mul_one,Nat.zero_add,Nat.mul_comm i 4])<|vC 26 i64 (wI ((↑i:Int)+1) (i+1))<|back _ (i+1) (by omega) (by omega) (by kernel_rfl)
   · refine bK [1,0,2,0] (br (dF ((↑i:Int)<8)) (br h1 bt))<|vC 46 i64 (wI ((↑i:Int)-1) (i-1))<|rE (bL (t:=369) (e:=450) (k:=4) underlying369 .i64 x 0 60 60 (i-1) (by omega)) []<|rE (wB (T:=450) underlying450 x (0+(i-1)*4) (wk key 8 60 i) 450) [1]<|bu [] 1 fun nm=>xE (c8 (T:=450) (nm 0) (w4 (wk key 8 60 i) (0+(i-1)*4)) ([u8 0,u8 0,u8 0,u8 0]) 450 4) [] [2] fun _ _=>bj [0]<|ef Unit (fun _=>True) 116 (fun _=>[(0,sO kb off 32 c),(3,i64 0),(4,i64 8),(5,sA x 60 60),(6,i64 i),(7,bi (nm 0)),(25,i64 60),(26,i64 i),(93,i64 0)]) [.code (cZ f258 52),.blk 2,.blk 1,.code (cZ f258 65),.lp J,.blk 0,.code (cZ f258 66)] (fun _=>[(a,.fa (BF (pO kb off) 32 c key)),(x,.cl (List.map B8 (wk key 8 60 i)) 450),(nm 0,.cl (List.map B8 (fX 8 i (w4 (wk key 8 60 i) (0+(i-1)*4)))) 450)]) [] 1 (fun key2=>?_) (fun _ u _=>?_)
     · by_cases h4:i%8=0
       · have h3:((i:Int).tmod 8==0)=true:=by simp [Int.tmod_eq_emod_of_nonneg (Int.natCast_nonneg _)];omega
         refine bK [1] (br h3 bt)<|bj [20,0,9999]<|tE (B8 (List.getD (w4 (wk key 8 60 i) (0+(i-1)*4)) 1 0)) [2] [(nm 0,.cl (List.map B8 (w4 (wk key 8 60 i) (0+(i-1)*4))) 450)] (du (T:=5) (nm 0) 1 (w4 (wk key 8 60 i) (0+(i-1)*4)) 450 (by (simp;done))) ?_
         generalize hz:List.getD (w4 (wk key 8 60 i) (0+(i-1)*4)) 1 0=z
         refine bj [9999,9999]<|tE (B8 (List.getD (w4 (wk key 8 60 i) (0+(i-1)*4)) 2 0)) [2] [(nm 0,.cl (List.map B8 (w4 (wk key 8 60 i) (0+(i-1)*4))) 450)] (du (T:=5) (nm 0) 2 (w4 (wk key 8 60 i) (0+(i-1)*4)) 450 (by (simp;done))) ?_
         generalize hz1:List.getD (w4 (wk key 8 60 i) (0+(i-1)*4)) 2 0=z1
         refine bj [9999]<|tE (B8 (List.getD (w4 (wk key 8 60 i) (0+(i-1)*4)) 3 0)) [2] [(nm 0,.cl (List.map B8 (w4 (wk key 8 60 i) (0+(i-1)*4))) 450)] (du (T:=5) (nm 0) 3 (w4 (wk key 8 60 i) (0+(i-1)*4)) 450 (by (simp;done))) ?_
         generalize hz2:List.getD (w4 (wk key 8 60 i) (0+(i-1)*4)) 3 0=z2
         refine bj [9999]<|tE (B8 (List.getD (w4 (wk key 8 60 i) (0+(i-1)*4)) 0 0)) [2] [(nm 0,.cl (List.map B8 (w4 (wk key 8 60 i) (0+(i-1)*4))) 450)] (du (T:=5) (nm 0) 0 (w4 (wk key 8 60 i) (0+(i-1)*4)) 450 (by (simp;done))) ?_
         generalize hz3:List.getD (w4 (wk key 8 60 i) (0+(i-1)*4)) 0 0=z3
         refine zE<|bv (iC z) [] []<|zE<|vC 60 u32 (show IntKind.wrap .u32 (IntKind.wrap .i64 (IntKind.wrap .i64 (Int.tdiv (↑i:Int) 8)-1))=(↑(i/8-1):Int) from (jr (di (pF (di (Dl rfl rfl))))))<|bv (Az (i/8-1) (by omega)) [] []<|zE<|bv (iC z1) [] []<|zE<|bv (iC z2) [] []<|zE<|cE (iC z3) [] [] ?_
         intro _ _
         exact bj [9999]<|vE 72 (.agg ⟨[u8 (bits .xor .u8 ↑(UInt8.toNat (cv z)) (↑(UInt8.toNat (rc (i/8-1))):Int)),u8 ↑(UInt8.toNat (cv z1)),u8 ↑(UInt8.toNat (cv z2)),u8 ↑(UInt8.toNat (cv z3))]⟩) (.agg ⟨[u8 ↑(UInt8.toNat (cv z^^^rc (i/8-1))),u8 ↑(UInt8.toNat (cv z1)),u8 ↑(UInt8.toNat (cv z2)),u8 ↑(UInt8.toNat (cv z3))]⟩) (by simp only [gz])<|xE (c8 (T:=450) (nm 0) ([cv z^^^rc (i/8-1),cv z1,cv z2,cv z3]) (List.map B8 (w4 (wk key 8 60 i) (0+(i-1)*4))) 450 4) [] [2] fun _ _=>zE<|qE 2 (nm 0) (.cl (List.map B8 [cv z^^^rc (i/8-1),cv z1,cv z2,cv z3]) 450) (.cl (List.map B8 (fX 8 i (w4 (wk key 8 60 i) (0+(i-1)*4)))) 450) (by subst_vars;rw [fX,if_pos h4])<|jT [0,1,2] (fun u=>key2 () u trivial)
       · have h3:((i:Int).tmod 8==0)=false:=by simp [Int.tmod_eq_emod_of_nonneg (Int.natCast_nonneg _)];omega
         have o:decide (True)=true:=rfl
         by_cases h8:i%8=4
         · have f:((i:Int).tmod 8==4)=true:=by simp [Int.tmod_eq_emod_of_nonneg (Int.natCast_nonneg _)];omega
           refine bK [2,0,1,0] (br f (br h3 bt))<|bj [13,0,9999]<|tE (B8 (List.getD (w4 (wk key 8 60 i) (0+(i-1)*4)) 0 0)) [2] [(nm 0,.cl (List.map B8 (w4 (wk key 8 60 i) (0+(i-1)*4))) 450)] (du (T:=5) (nm 0) 0 (w4 (wk key 8 60 i) (0+(i-1)*4)) 450 (by (simp;done))) ?_
           generalize hz:List.getD (w4 (wk key 8 60 i) (0+(i-1)*4)) 0 0=z
           refine bj [9999]<|tE (B8 (List.getD (w4 (wk key 8 60 i) (0+(i-1)*4)) 1 0)) [2] [(nm 0,.cl (List.map B8 (w4 (wk key 8 60 i) (0+(i-1)*4))) 450)] (du (T:=5) (nm 0) 1 (w4 (wk key 8 60 i) (0+(i-1)*4)) 450 (by (simp;done))) ?_
           generalize hz1:List.getD (w4 (wk key 8 60 i) (0+(i-1)*4)) 1 0=z1
           refine bj [9999]<|tE (B8 (List.getD (w4 (wk key 8 60 i) (0+(i-1)*4)) 2 0)) [2] [(nm 0,.cl (List.map B8 (w4 (wk key 8 60 i) (0+(i-1)*4))) 450)] (du (T:=5) (nm 0) 2 (w4 (wk key 8 60 i) (0+(i-1)*4)) 450 (by (simp;done))) ?_
           generalize hz2:List.getD (w4 (wk key 8 60 i) (0+(i-1)*4)) 2 0=z2
           refine bj [9999]<|tE (B8 (List.getD (w4 (wk key 8 60 i) (0+(i-1)*4)) 3 0)) [2] [(nm 0,.cl (List.map B8 (w4 (wk key 8 60 i) (0+(i-1)*4))) 450)] (du (T:=5) (nm 0) 3 (w4 (wk key 8 60 i) (0+(i-1)*4)) 450 (by (simp;done))) ?_
           generalize hz3:List.getD (w4 (wk key 8 60 i) (0+(i-1)*4)) 3 0=z3
           refine zE<|bv (iC z) [] []<|zE<|bv (iC z1) [] []<|zE<|bv (iC z2) [] []<|zE<|bv (iC z3) [] []<|bj [9999]<|xE (c8 (T:=450) (nm 0) ([cv z,cv z1,cv z2,cv z3]) (List.map B8 (w4 (wk key 8 60 i) (0+(i-1)*4))) 450 4) [] [2] fun _ _=>zE ?_
           exact qE 2 (nm 0) (.cl (List.map B8 [cv z,cv z1,cv z2,cv z3]) 450) (.cl (List.map B8 (fX 8 i (w4 (wk key 8 60 i) (0+(i-1)*4)))) 450) (by subst_vars;rw [fX,if_neg h4,if_pos ⟨rfl,h8⟩])<|jT [0,1,2] (fun u=>key2 () u trivial)
         · have f:((i:Int).tmod 8==4)=false:=by simp [Int.tmod_eq_emod_of_nonneg (Int.natCast_nonneg _)];omega
           exact bK [2,0,2,0] (br f (br h3 bt))<|qE 2 (nm 0) (.cl (List.map B8 (w4 (wk key 8 60 i) (0+(i-1)*4))) 450) (.cl (List.map B8 (fX 8 i (w4 (wk key 8 60 i) (0+(i-1)*4)))) 450) (by rw [fX,if_neg h4,if_neg (fun h=>h8 h.2)])<|jT [0,1,2] (fun u=>key2 () u trivial)
     · have g:=qI 8 i (w4 (wk key 8 60 i) (0+(i-1)*4)) rfl
       generalize hV:fX 8 i (w4 (wk key 8 60 i) (0+(i-1)*4))=V at g ⊢
       refine cY (X:=Nat) (fun p=>p≤4) (fun p=>4-p) 116 (fun p=>[(0,sO kb off 32 c),(3,i64 0),(4,i64 8),(5,sA x 60 60),(6,i64 i),(7,bi (nm 0)),(25,i64 60),(26,i64 i),(93,i64 p)]) (fun p=>[(a,.fa (BF (pO kb off) 32 c key)),(x,.cl (List.map B8 (gp (wk key 8 60 i) i 8 V p)) 450),(nm 0,.cl (List.map B8 V) 450)]) 0 (by kernel_rfl) (by omega) fun p u2 J2 hp back2=>?_
       have j:=ny (wk key 8 60 i) i 8 V p
       rcases Nat.lt_or_ge p 4 with hlt2 | hge2
       · have h5:decide ((p:Int)<4)=true:=by simp;omega
         refine bK [1,0] (br h5 bt)<|bj [17,0]<|tE (.pointer (pO (nm 0) (0+p*1))) [] [] (ep (t:=450) (e:=5) (k:=1) (n:=4) underlying450 .i64 (nm 0) 0 p (by assumption))<|tE (B8 (List.getD V (0+p*1) 0)) [2] [(nm 0,.cl (List.map B8 V) 450)] (du (T:=5) (nm 0) (0+p*1) V 450 (by omega))<|zE<|vC 105 i64 (wI ((↑i:Int)-8) (i-8))<|tE (.pointer (pO x (0+(i-8)*4))) [] [] (bL (t:=369) (e:=450) (k:=4) underlying369 .i64 x 0 60 60 (i-8) (by omega))<|tE (.pointer (pO x (0+(i-8)*4+p*1))) [] [] (ep (t:=450) (e:=5) (k:=1) (n:=4) underlying450 .i64 x (0+(i-8)*4) p (by assumption))<|tE (B8 (List.getD (gp (wk key 8 60 i) i 8 V p) (0+(i-8)*4+p*1) 0)) [1] [(x,.cl (List.map B8 (gp (wk key 8 60 i) i 8 V p)) 450)] (du (T:=5) x (0+(i-8)*4+p*1) (gp (wk key 8 60 i) i 8 V p) 450 (by omega)) ?_
         generalize hz:List.getD (gp (wk key 8 60 i) i 8 V p) (0+(i-8)*4+p*1) 0=z
         refine zE<|rE (bL (t:=369) (e:=450) (k:=4) underlying369 .i64 x 0 60 60 i (by assumption)) []<|tE (.pointer (pO x (0+i*4+p*1))) [] [] (ep (t:=450) (e:=5) (k:=1) (n:=4) underlying450 .i64 x (0+i*4) p (by assumption))<|zE<|vE 110 (u8 (bits .xor .u8 ↑(UInt8.toNat (List.getD V (0+p*1) 0)) (↑(UInt8.toNat z):Int))) (u8 ↑(UInt8.toNat (List.getD V (0+p*1) 0^^^z))) (by simp only [gz]) ?_
         generalize hz1:List.getD V (0+p*1) 0^^^z=z1
         refine xE (cn x (0+i*4+p*1) (gp (wk key 8 60 i) i 8 V p) 450 z1 (by omega)) [] [1] fun _ _=>?_
         generalize hL1:List.set (gp (wk key 8 60 i) i 8 V p) (0+i*4+p*1) z1=L
         have q:List.length L=List.length (gp (wk key 8 60 i) i 8 V p):=by rw [← hL1,List.length_set]
         exact zE<|qE 1 x (.cl (List.map B8 L) 450) (.cl (List.map B8 (gp (wk key 8 60 i) i 8 V (p+1))) 450) (by subst_vars;rw [gp])<|vC 93 i64 (wI ((↑p:Int)+1) (p+1))<|back2 _ (p+1) (by omega) (by omega) (by kernel_rfl)
       · obtain rfl:p=4:=by omega
         have d:wk key 8 60 (i+1)=gp (wk key 8 60 i) i 8 V 4:=by rw [wk,if_neg (by omega),hV]
         exact bj [0,0]<|qE 1 x (.cl (List.map B8 (gp (wk key 8 60 i) i 8 V 4)) 450) (.cl (List.map B8 (wk key 8 60 (i+1))) 450) (by rw [d])<|vC 26 i64 (wI ((↑i:Int)+1) (i+1))<|wE [0,1] 1 [(a,.fa (BF (pO kb off) 32 c key)),(x,.cl (List.map B8 (wk key 8 60 (i+1))) 450)]<|back _ (i+1) (by omega) (by omega) (by kernel_rfl)
 · obtain rfl:i=60:=by omega
   exact bj [0,0]<|rT x 9999 [1]
end Go.Proofs.YtlkeemedalncoaaGreat.En
