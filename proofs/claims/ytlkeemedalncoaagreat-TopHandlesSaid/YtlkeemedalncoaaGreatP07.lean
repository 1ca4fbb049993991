/- TopHandles, part 7: no condition. -/
import Derived.Test.YtlkeemedalncoaaGreatP06
set_option linter.all false
set_option maxHeartbeats 16000000
set_option maxRecDepth 100000
namespace Go.Proofs.YtlkeemedalncoaaGreat.En
open Go Go.RowKit Go.Proofs.YtlkeemedalncoaaGreat Go.Proofs.Tryz
def eP (wv:Vl) (S T:Bs):List Vl:=wv::(S.map B8++T.map B8)
theorem yY (a:Vl) (S T:Bs) (i:Nat) (y:UInt8) (hi:i<S.length):cW (eP a S T) (1+i) [B8 y]=eP a (S.set i y) T:=by
 have e:eP a S T=(a::(S.take i).map B8)++B8 (S.getD i 0)::((S.drop (i+1)).map B8++T.map B8):=by
  have:S=S.take i++S.getD i 0::S.drop (i+1):=by
   rw [List.getD_eq_getElem?_getD,List.getElem?_eq_getElem hi,Option.getD_some,List.getElem_cons_drop,List.take_append_drop]
  conv=>lhs;rw [this]
  simp [eP]
 rw [e,mt _ _ _ _ _ (by simp;omega)]
 rw [eP,List.set_eq_take_append_cons_drop,if_pos hi]
 simp
theorem yT (a:Vl) (S T:Bs) (i:Nat) (y:UInt8) (b:S.length=256) (hi:i<T.length):cW (eP a S T) (257+i) [B8 y]=eP a S (T.set i y):=by
 have e:eP a S T=(a::(S.map B8++(T.take i).map B8))++B8 (T.getD i 0)::(T.drop (i+1)).map B8:=by
  have:T=T.take i++T.getD i 0::T.drop (i+1):=by
   rw [List.getD_eq_getElem?_getD,List.getElem?_eq_getElem hi,Option.getD_some,List.getElem_cons_drop,List.take_append_drop]
  conv=>lhs;rw [this]
  simp [eP]
 rw [e,mt _ _ _ _ _ (by simp;omega)]
 rw [eP,List.set_eq_take_append_cons_drop,if_pos hi]
 simp
theorem tP (a:Vl) (S T:Bs):(eP a S T).length=1+S.length+T.length:=by simp [eP];omega
theorem AD (b:Nat) (a:Vl) (S T:Bs) (i:Nat) (y:UInt8) (hi:i<S.length) :
 RunTri prog (uS (Instr.storeAt 5 (hY b (1+i*1)) (B8 y))) [] [(b,.cl (eP a S T) 373)] uT (fun _=>undef) (fun _=>[(b,.cl (eP a (S.set i y) T) 373)]) (fun _=>[]):=by
 have:=gy (P:=prog) (T:=5) b (1+i*1) (B8 y) [B8 y] (eP a S T) 373 rfl (by kernel_rfl) (by intro v hv;rw [List.mem_singleton.1 hv];rfl) (by rw [tP];simp;omega)
 rw [Nat.mul_one] at this ⊢
 rw [yY _ _ _ _ _ hi] at this
 exact this
theorem CL (b:Nat) (a:Vl) (S T:Bs) (i:Nat) (y:UInt8) (c:S.length=256) (hi:i<T.length) :
 RunTri prog (uS (Instr.storeAt 5 (hY b (257+i*1)) (B8 y))) [] [(b,.cl (eP a S T) 373)] uT (fun _=>undef) (fun _=>[(b,.cl (eP a S (T.set i y)) 373)]) (fun _=>[]):=by
 have:=gy (P:=prog) (T:=5) b (257+i*1) (B8 y) [B8 y] (eP a S T) 373 rfl (by kernel_rfl) (by intro v hv;rw [List.mem_singleton.1 hv];rfl) (by rw [tP];simp;omega)
 rw [Nat.mul_one] at this ⊢
 rw [yT _ _ _ _ _ c hi] at this
 exact this
theorem uh (i:Nat) (h:i<256):B8 (UInt8.ofNat i) = .int .u8 i:=by
 simp only [B8]
 rw [UInt8.toNat_ofNat_of_lt' h]
theorem ul (b:Nat) (a:Vl) (S T:Bs) (j i:Nat) (c:S.length=256) (d:j<T.length) (hi:i<256) :
 RunTri prog (uS (Instr.storeAt 5 (hY b (257+j*1)) (.int .u8 i))) [] [(b,.cl (eP a S T) 373)] uT (fun _=>undef) (fun _=>[(b,.cl (eP a S (T.set j (UInt8.ofNat i))) 373)]) (fun _=>[]):=by
 have:=CL b a S T j (UInt8.ofNat i) c d
 rw [uh i hi] at this
 exact this
theorem Ax (i:Nat) (h:i<256):Same 259 #[.int .u8 i] [] (B8 (cv (UInt8.ofNat i))):=by
 have:=iC (UInt8.ofNat i)
 rw [uh i h] at this
 exact this
def fp (i:Nat):Bs:=(List.range 256).map fun j=>if j<i then cv (UInt8.ofNat j) else 0
theorem mf (i:Nat):(fp i).length=256:=by simp [fp]
theorem sL:fp 256=cz:=by
 apply List.ext_getElem (by simp [fp,cz])
 intro j h1 h2
 simp only [mf] at h1
 simp [fp,cz,h1]
theorem tr (i:Nat) (h:i<256):(fp i).set i (cv (UInt8.ofNat i))=fp (i+1):=by
 apply List.ext_getElem (by simp [fp])
 intro j h1 h2
 simp only [List.length_set,mf] at h1
 rw [List.getElem_set]
 split
 · rename_i e
   subst e
   simp [fp]
 · rename_i e
   simp only [fp,List.getElem_map,List.getElem_range]
   by_cases hj:j<i
   · rw [if_pos hj,if_pos (by omega)]
   · rw [if_neg hj,if_neg (by omega)]
def ll (cb wb:Nat) (key:Bs):World→Prop:=if key.length=16 then nY cb wb 4 44 key else nY cb wb 8 60 key
theorem AJ (cb wb N:Nat) (W T:Bs) (w:World) (h1:At cb (.cl (eP (sA wb N N) cz T) 373) w) (h2:At wb (.cl (W.map B8) 450) w):li cb wb N W w:=by
 obtain ⟨o,a1,a2⟩:=h1
 obtain ⟨o',b1,b2⟩:=h2
 refine ⟨⟨o,a1,fZ 0 _ (fun j u hj=>?_) o a2⟩,⟨o,a1,fZ 1 _ (fun j u hj=>?_) o a2⟩,⟨o',b1,bA o' b2⟩⟩
 · cases j with
   | zero=>simpa [eP] using hj
   | succ j=>simp at hj
 · rw [eP,Nat.add_comm,List.getElem?_cons_succ,List.getElem?_append_left (cj hj)]
   exact hj
theorem Gm (key:Bs) (l:key.length=16) (a kb off c:Nat) (hc:16≤c) :
 TT 167 #[sO kb off 16 c] [(a,.fa (BF (pO kb off) 16 c key))] [] (fun _:Nat×Nat=>True) (fun x=>.returned (.tuple #[bi x.1,i64 0])) (fun _=>[]) (fun x=>[(0,.fa (nY x.1 x.2 4 44 key))]):=by
 refine iE func167<|zE<|cE (Bz key (by assumption) a kb off c (by assumption)) [0] [] fun x _=>bu [0,0,9999,9999] 1 fun nm=>qE 2 (nm 0) (.cl (eP (sA x 44 44) (fp 0) (List.replicate 256 0)) 373) (.cl (eP (sA x 44 44) (fp 0) (List.replicate 256 0)) 373) rfl<|cY (X:=Nat×Bs) (fun y=>y.1≤256∧y.2.length=256) (fun y=>256-y.1) 41 (fun y=>[(3,i64 0),(6,bi (nm 0)),(20,i64 y.1)]) (fun y=>[(a,.fa (BF (pO kb off) 16 c key)),(x,.cl (List.map B8 (wk key 4 44 44)) 450),(nm 0,.cl (eP (sA x 44 44) (fp y.1) y.2) 373)]) (0,List.replicate 256 0) (by kernel_rfl) ⟨by omega,List.length_replicate⟩ fun y u J hy back=>?_
 obtain ⟨i,T⟩:=y
 obtain ⟨hi,hT⟩:=hy
 have f:=mf i
 have b:T.length=256:=hT
 have g:i≤256:=hi
 rcases Nat.lt_or_ge i 256 with hlt | hge
 · have h1:decide ((i:Int)<256)=true:=by simp;omega
   have hs:=(cv (UInt8.ofNat i)).toNat_lt
   have j:(List.set (fp i) i (cv (UInt8.ofNat i))).length=256:=by rw [List.length_set,f]
   have d:(List.set T (cv (UInt8.ofNat i)).toNat (UInt8.ofNat i)).length=256:=by rw [List.length_set,b]
   refine bK [1,0,9999] (br h1 bt)<|vC 24 u8 (show IntKind.wrap .u8 i=(i:Int) from (k5))<|bv (Ax i (by assumption)) [] []<|zE<|rE (ep (t:=165) (e:=5) (k:=1) (n:=256) underlying165 .i64 (nm 0) 1 i (by assumption)) []<|xE (AD (nm 0) (sA x 44 44) (fp i) T i (cv (UInt8.ofNat i)) (by omega)) [] [2] fun _ _=>bj [9999]<|rE (ep (t:=165) (e:=5) (k:=1) (n:=256) underlying165 .u8 (nm 0) 257 (UInt8.toNat (cv (UInt8.ofNat i))) (by assumption)) []<|vC 35 u8 (show IntKind.wrap .u8 i=(i:Int) from (k5))<|xE (ul (nm 0) (sA x 44 44) (List.set (fp i) i (cv (UInt8.ofNat i))) T (UInt8.toNat (cv (UInt8.ofNat i))) i (by assumption) (by omega) (by assumption)) [] [2] fun _ _=>zE ?_
   exact qE 2 (nm 0) (.cl (eP (sA x 44 44) (List.set (fp i) i (cv (UInt8.ofNat i))) (List.set T (cv (UInt8.ofNat i)).toNat (UInt8.ofNat i))) 373) (.cl (eP (sA x 44 44) (fp (i+1)) (List.set T (cv (UInt8.ofNat i)).toNat (UInt8.ofNat i))) 373) (by rw [tr i hlt])<|vC 20 i64 (wI ((↑i:Int)+1) (i+1))<|back _ (i+1,List.set T (cv (UInt8.ofNat i)).toNat (UInt8.ofNat i)) ⟨by omega,d⟩ (by simp only;omega) (by kernel_rfl)
 · obtain rfl:i=256:=by omega
   exact qE 2 (nm 0) (.cl (eP (sA x 44 44) (fp 256) T) 373) (.cl (eP (sA x 44 44) cz T) 373) (by rw [sL])<|vO 2 (nm 0) (.cl (eP (sA x 44 44) cz T) 373)<|vO 1 x (.cl (List.map B8 (wk key 4 44 44)) 450)<|fq [2,1] [At (nm 0) (.cl (eP (sA x 44 44) cz T) 373),At x (.cl (List.map B8 (wk key 4 44 44)) 450)] (nY (nm 0) x 4 44 key) (fun w h=>AJ (nm 0) x 44 (wk key 4 44 44) T w (h 0 _ rfl) (h 1 _ rfl))<|bj [0,0]<|rT ((nm 0,x)) 9999 [3]
theorem GK (key:Bs) (l:key.length=32) (a kb off c:Nat) (hc:32≤c) :
 TT 167 #[sO kb off 32 c] [(a,.fa (BF (pO kb off) 32 c key))] [] (fun _:Nat×Nat=>True) (fun x=>.returned (.tuple #[bi x.1,i64 0])) (fun _=>[]) (fun x=>[(0,.fa (nY x.1 x.2 8 60 key))]):=by
 refine iE func167<|zE<|cE (BI key (by assumption) a kb off c (by assumption)) [0] [] fun x _=>bu [0,0,9999,9999] 1 fun nm=>qE 2 (nm 0) (.cl (eP (sA x 60 60) (fp 0) (List.replicate 256 0)) 373) (.cl (eP (sA x 60 60) (fp 0) (List.replicate 256 0)) 373) rfl<|cY (X:=Nat×Bs) (fun y=>y.1≤256∧y.2.length=256) (fun y=>256-y.1) 41 (fun y=>[(3,i64 0),(6,bi (nm 0)),(20,i64 y.1)]) (fun y=>[(a,.fa (BF (pO kb off) 32 c key)),(x,.cl (List.map B8 (wk key 8 60 60)) 450),(nm 0,.cl (eP (sA x 60 60) (fp y.1) y.2) 373)]) (0,List.replicate 256 0) (by kernel_rfl) ⟨by omega,List.length_replicate⟩ fun y u J hy back=>?_
 obtain ⟨i,T⟩:=y
 obtain ⟨hi,hT⟩:=hy
 have f:=mf i
 have b:T.length=256:=hT
 have g:i≤256:=hi
 rcases Nat.lt_or_ge i 256 with hlt | hge
 · have h1:decide ((i:Int)<256)=true:=by simp;omega
   have hs:=(cv (UInt8.ofNat i)).toNat_lt
   have j:(List.set (fp i) i (cv (UInt8.ofNat i))).length=256:=by rw [List.length_set,f]
   have d:(List.set T (cv (UInt8.ofNat i)).toNat (UInt8.ofNat i)).length=256:=by rw [List.length_set,b]
   refine bK [1,0,9999] (br h1 bt)<|vC 24 u8 (show IntKind.wrap .u8 i=(i:Int) from (k5))<|bv (Ax i (by assumption)) [] []<|zE<|rE (ep (t:=165) (e:=5) (k:=1) (n:=256) underlying165 .i64 (nm 0) 1 i (by assumption)) []<|xE (AD (nm 0) (sA x 60 60) (fp i) T i (cv (UInt8.ofNat i)) (by omega)) [] [2] fun _ _=>bj [9999]<|rE (ep (t:=165) (e:=5) (k:=1) (n:=256) underlying165 .u8 (nm 0) 257 (UInt8.toNat (cv (UInt8.ofNat i))) (by assumption)) []<|vC 35 u8 (show IntKind.wrap .u8 i=(i:Int) from (k5))<|xE (ul (nm 0) (sA x 60 60) (List.set (fp i) i (cv (UInt8.ofNat i))) T (UInt8.toNat (cv (UInt8.ofNat i))) i (by assumption) (by omega) (by assumption)) [] [2] fun _ _=>zE ?_
   exact qE 2 (nm 0) (.cl (eP (sA x 60 60) (List.set (fp i) i (cv (UInt8.ofNat i))) (List.set T (cv (UInt8.ofNat i)).toNat (UInt8.ofNat i))) 373) (.cl (eP (sA x 60 60) (fp (i+1)) (List.set T (cv (UInt8.ofNat i)).toNat (UInt8.ofNat i))) 373) (by rw [tr i hlt])<|vC 20 i64 (wI ((↑i:Int)+1) (i+1))<|back _ (i+1,List.set T (cv (UInt8.ofNat i)).toNat (UInt8.ofNat i)) ⟨by omega,d⟩ (by simp only;omega) (by kernel_rfl)
 · obtain rfl:i=256:=by omega
   exact qE 2 (nm 0) (.cl (eP (sA x 60 60) (fp 256) T) 373) (.cl (eP (sA x 60 60) cz T) 373) (by rw [sL])<|vO 2 (nm 0) (.cl (eP (sA x 60 60) cz T) 373)<|vO 1 x (.cl (List.map B8 (wk key 8 60 60)) 450)<|fq [2,1] [At (nm 0) (.cl (eP (sA x 60 60) cz T) 373),At x (.cl (List.map B8 (wk key 8 60 60)) 450)] (nY (nm 0) x 8 60 key) (fun w h=>AJ (nm 0) x 60 (wk key 8 60 60) T w (h 0 _ rfl) (h 1 _ rfl))<|bj [0,0]<|rT ((nm 0,x)) 9999 [3]
def cA (key b:Bs):Bs:=if key.length=16 then hP (wk key 4 44 44) b 10 else hP (wk key 8 60 60) b 14
theorem d8 (key b:Bs) (hb:b.length=16):(cA key b).length=16:=by unfold cA;split <;> exact oH _ _ _ hb
theorem nG (cb wb a:Nat) (key b:Bs) (c:key.length=16∨key.length=32) (hb:b.length=16) :
 Same 169 #[bi cb,.agg (b.map B8).toArray] [(a,.fa (ll cb wb key))] (.tuple #[.agg ((cA key b).map B8).toArray,i64 0]):=by
 rcases c with c | c
 · have e:cA key b=hP (wk key 4 44 44) b 10:=by rw [cA,if_pos c]
   rw [e]
   exact nR (fun w h=>by rw [ll,if_pos c] at h;exact h) (F5 cb wb a key b c hb)
 · have d:¬ key.length=16:=by omega
   have e:cA key b=hP (wk key 8 60 60) b 14:=by rw [cA,if_neg d]
   rw [e]
   exact nR (fun w h=>by rw [ll,if_neg d] at h;exact h) (GJ cb wb a key b c hb)
theorem pt (key:Bs) (kn:Nat) (d:kn=16∨kn=32) (b:kn=key.length) (a kb off c:Nat) (hc:kn≤c) :
 TT 167 #[sO kb off kn c] [(a,.fa (BF (pO kb off) kn c key))] [] (fun _:Nat×Nat=>True) (fun x=>.returned (.tuple #[bi x.1,i64 0])) (fun _=>[]) (fun x=>[(0,.fa (ll x.1 x.2 key))]):=by
 rcases d with rfl | rfl
 · have e:∀ cb wb,ll cb wb key=nY cb wb 4 44 key:=fun _ _=>by rw [ll,if_pos b.symm]
   simp only [e]
   exact Gm key b.symm a kb off c hc
 · have e:∀ cb wb,ll cb wb key=nY cb wb 8 60 key:=fun _ _=>by rw [ll,if_neg (by omega)]
   simp only [e]
   exact GK key b.symm a kb off c hc
def gA (l:Bs):Bs:=part l 12 (be ((b8 (List.take 4 (List.drop 12 l))+1)%18446744073709551616%4294967296) 4)
theorem nt (l:Bs) (h:l.length=16):(gA l).length=16:=by rw [gA,l9 (by rw [cc];omega),h]
theorem C6 (l:Bs) (a:l.length=16):Same 373 #[.agg (l.map B8).toArray] [] (.agg ((gA l).map B8).toArray):=Hm l a.symm
theorem DE (kb c e d cb wb a:Nat) (key at_ b:Bs) (g:key.length=16∨key.length=32) (ha:at_.length=16) (hb:b.length=16) :
 TT 372 #[bi kb,bi c,bi e,bi d] [(e,.cl [bi cb] 275),(a,.fa (ll cb wb key))] [(kb,.cl [i64 16] 3),(c,.cl (at_.map B8) 278),(d,.cl (b.map B8) 278)] uT (fun _=>.returned (B8 ((cA key (gA at_)).getD 0 0)))
  (fun _=>[(kb,.cl [i64 1] 3),(c,.cl ((gA at_).map B8) 278),(d,.cl ((cA key (gA at_)).map B8) 278)]) (fun _=>[]):=by
 have f:=nt at_ ha
 have h:=d8 key (gA at_) f
 refine iE func372<|bj [2,0,0]<|rE (cI (T:=278) underlying278 c at_ 278 16) [3]<|bv (C6 at_ ha) [] []<|xE (c8 (T:=278) c (gA at_) (List.map B8 at_) 278 16 (by kernel_rfl) (by omega) (by (simp [part];omega))) [] [3] fun _ _=>bj [0]<|rE (cI (T:=278) underlying278 c (gA at_) 278 16) [3]<|bv (nG cb wb a key (gA at_) g f) [1] []<|zE<|xE (c8 (T:=278) d (cA key (gA at_)) (List.map B8 b) 278 16 (by kernel_rfl) (by omega) (by (simp [part];omega))) [] [4] fun _ _=>bj [2,2,2,2,9999] ?_
 exact rE (du (T:=5) d 0 (cA key (gA at_)) 278 (by omega)) [4]<|zE<|rT ()
theorem B0 (kb d f c cb wb a k:Nat) (key at_ b:Bs) (ha:at_.length=16) (hb:b.length=16) (g:k<16) :
 TT 372 #[bi kb,bi d,bi f,bi c] [(f,.cl [bi cb] 275),(a,.fa (ll cb wb key))] [(kb,.cl [i64 k] 3),(d,.cl (at_.map B8) 278),(c,.cl (b.map B8) 278)] uT (fun _=>.returned (B8 (b.getD (0+(k+1-1)*1) 0)))
  (fun _=>[(kb,.cl [i64 ((k+1:Nat):Int)] 3),(d,.cl (at_.map B8) 278),(c,.cl (b.map B8) 278)]) (fun _=>[]):=iE func372<|bK [2,2,0,2,2,2] (br (tF ((↑k:Int)==16)) bt)<|vC 18 i64 (show IntKind.wrap .i64 (IntKind.wrap .i64 ((↑k:Int)+1)-1)=(↑(k+1-1):Int) from (di (pF (di (eT)))))<|rE (ep (t:=278) (e:=5) (k:=1) (n:=16) underlying278 .i64 c 0 (k+1-1) (by omega)) []<|rE (du (T:=5) c (0+(k+1-1)*1) b 278 (by omega)) [4]<|zE<|qE 2 kb (.cl [i64 (IntKind.wrap .i64 ((↑k:Int)+1))] 3) (.cl [i64 ↑(k+1)] 3) (by rw [Db k (by omega)])<|rT ()
def dm (key at0:Bs):Nat→Bs×Bs×Nat
 | 0=>(at0,List.replicate 16 0,16)
 | j+1=>if (dm key at0 j).2.2=16 then (gA (dm key at0 j).1,cA key (gA (dm key at0 j).1),1) else ((dm key at0 j).1,(dm key at0 j).2.1,(dm key at0 j).2.2+1)
def j6 (key at0:Bs) (j:Nat):UInt8:=(dm key at0 (j+1)).2.1.getD ((dm key at0 (j+1)).2.2-1) 0
theorem ux (key a:Bs) (h:a.length=16):∀ j,(dm key a j).1.length=16∧(dm key a j).2.1.length=16∧1≤(dm key a j).2.2∧(dm key a j).2.2≤16
 | 0=>⟨h,List.length_replicate,by simp [dm],by simp [dm]⟩
 | j+1=>by
  obtain ⟨h1,h2,h3,h4⟩:=ux key a h j
  rw [dm]
  split
  · exact ⟨nt _ h1,d8 _ _ (nt _ h1),Nat.le_refl _,by simp⟩
  · exact ⟨h1,h2,by simp,by simp;omega⟩
def j8 (key at0 text:Bs):Nat→Bs
 | 0=>List.replicate text.length 0
 | j+1=>(j8 key at0 text j).set (0+j*1) (text.getD j 0^^^j6 key at0 j)
theorem nO (key b a:Bs):∀ j,(j8 key b a j).length=a.length
 | 0=>List.length_replicate
 | j+1=>by rw [j8,List.length_set,nO key b a j]
theorem ug (key b a:Bs):∀ j i,i<a.length→(j8 key b a j).getD i 0=if i<j then a.getD i 0^^^j6 key b i else 0
 | 0,i,h=>by simp [j8,List.getD_eq_getElem?_getD,List.getElem?_replicate,h]
 | j+1,i,h=>by
  rw [j8,Nat.mul_one,Nat.zero_add]
  by_cases e:i=j
  · subst e
    rw [List.getD_eq_getElem?_getD,List.getElem?_set_self (by rw [nO];exact h),Option.getD_some,if_pos (Nat.lt_succ_self i)]
  · rw [pS _ _ _ _ (fun h=>e h.symm),ug key b a j i h]
    by_cases hj:i<j
    · rw [if_pos hj,if_pos (by omega)]
    · rw [if_neg hj,if_neg (by omega)]
def cQ (nonce:Bs):Bs:=(part (List.replicate 16 0) 0 nonce).set 15 1
theorem jo (a:Bs) (h:a.length=12):(cQ a).length=16:=by
 rw [cQ,List.length_set,l9 (by simp;omega)]
 rfl
def ej (key nonce text:Bs):Bs:=j8 key (cQ nonce) text text.length
theorem fF (key b a:Bs):(ej key b a).length=a.length:=nO _ _ _ _
theorem m9 (key a b:Bs) (i:Nat) (h:i<b.length):(ej key a b).getD i 0=b.getD i 0^^^j6 key (cQ a) i:=by
 rw [ej,ug _ _ _ _ _ h,if_pos h]
theorem sj {l m:Bs} (a:l.length=m.length) (h:∀ i,i<l.length→l.getD i 0=m.getD i 0):l=m:=by
 apply List.ext_getElem a
 intro i h1 h2
 have:=h i h1
 rw [List.getD_eq_getElem?_getD,List.getD_eq_getElem?_getD,List.getElem?_eq_getElem h1,List.getElem?_eq_getElem h2] at this
 exact this
theorem pa (key a b:Bs):ej key a (ej key a b)=b:=by
 refine sj (by rw [fF,fF]) fun i hi=>?_
 rw [fF,fF] at hi
 rw [m9 _ _ _ _ (by rw [fF];exact hi),m9 _ _ _ _ hi,UInt8.xor_assoc,UInt8.xor_self,UInt8.xor_zero]
theorem uU (b off c a:Nat) (l:Bs) (d:l.length=12) :
 Same 290 #[sO b off 12 c] [(a,.fa (BF (pO b off) 12 c l))] (.tuple #[.agg ((cQ l).map B8).toArray,i64 0]):=Do b off c a l d.symm
theorem Dc (kb c f d cb wb a j:Nat) (key b:Bs) (g:key.length=16∨key.length=32) (ha:b.length=16) :
 TT 372 #[bi kb,bi c,bi f,bi d] [(f,.cl [bi cb] 275),(a,.fa (ll cb wb key))] [(kb,.cl [i64 ((dm key b j).2.2:Int)] 3),(c,.cl ((dm key b j).1.map B8) 278),(d,.cl ((dm key b j).2.1.map B8) 278)] uT (fun _=>.returned (B8 (j6 key b j)))
  (fun _=>[(kb,.cl [i64 ((dm key b (j+1)).2.2:Int)] 3),(c,.cl ((dm key b (j+1)).1.map B8) 278),(d,.cl ((dm key b (j+1)).2.1.map B8) 278)]) (fun _=>[]):=by
 obtain ⟨h1,h2,h3,h4⟩:=ux key b ha j
 by_cases e:(dm key b j).2.2=16
 · have:=DE kb c f d cb wb a key (dm key b j).1 (dm key b j).2.1 g h1 h2
   rw [j6,dm,if_pos e,e]
   exact this
 · have h5:(dm key b j).2.2<16:=by omega
   have:=B0 kb c f d cb wb a (dm key b j).2.2 key (dm key b j).1 (dm key b j).2.1 h1 h2 h5
   rw [show 0+((dm key b j).2.2+1-1)*1=(dm key b j).2.2+1-1 by omega] at this
   rw [j6,dm,if_neg e]
   exact this
theorem xf (kb g kn kc h no j tb c n d l m o:Nat) (key a b:Bs) (w:kn=16∨kn=32) (p:kn=key.length) (q:12=a.length) (v:n=b.length) (h0:0<n) (y:n≤65536) (r:kn≤kc) :
 TT 186 #[sO kb g kn kc,sO h no 12 j,sO tb c n d] [(l,.fa (BF (pO kb g) kn kc key)),(m,.fa (BF (pO h no) 12 j a)),(o,.fa (BF (pO tb c) n d b))] [] (fun _:Nat=>True) (fun x=>.returned (.tuple #[sA x n n,i64 0])) (fun _=>[]) (fun x=>[(x,.cl ((ej key a b).map B8) 5)]):=by
 refine cJ func186 (by kernel_rfl) fun w0 ho=>?_
 have s:=jo a q.symm
 refine zE<|cE (pt key kn w p l kb g kc r) [0] [] fun ⟨x,x1⟩ _=>bj [0,0]<|bv (uU h no j m a (by omega)) [1] []<|bu [] 1 fun nm=>xE (c8 (T:=278) (nm 0) (cQ a) iQ 278 16 (by kernel_rfl) (by omega)) [] [4] fun _ _=>bK [0,0,2,0] (br (dF ((↑n:Int)>65536)) bt)<|rE (cI (T:=278) underlying278 (nm 0) (cQ a) 278 16) [4]<|eA (args:=#[bi x,.agg (List.toArray (List.map B8 (cQ a)))]) func293<|bu [9999,9999,8] 4 fun nm1=>eC (.func (Fn.func 372) ⟨[]⟩ ⟨[bi (nm1 3),bi (nm1 1),bi (nm1 0),bi (nm1 2)]⟩) 9999 ?_
 refine zE<|xE (eq .i64 .i64 n) [] [] fun x2 _=>zE<|qE 9 x2 (.cl (List.map B8 (List.replicate n 0)) 5) (.cl (List.map B8 (j8 key (cQ a) b 0)) 5) (by rw [j8,v])<|cY (X:=Nat) (fun i=>i≤n) (fun i=>n-i) 56 (fun i=>[(11,.func (.func 372) #[] #[bi (nm1 3),bi (nm1 1),bi (nm1 0),bi (nm1 2)]),(12,sA x2 n n),(40,sO tb c n d),(41,i64 n),(42,i64 i)]) (fun i=>[(l,.fa (BF (pO kb g) kn kc key)),(m,.fa (BF (pO h no) 12 j a)),(o,.fa (BF (pO tb c) n d b)),(0,.fa (ll x x1 key)),(nm 0,.cl ((cQ a).map B8) 278),(nm1 0,.cl [bi x] 275),(nm1 1,.cl ((dm key (cQ a) i).1.map B8) 278),(nm1 2,.cl ((dm key (cQ a) i).2.1.map B8) 278),(nm1 3,.cl [i64 ((dm key (cQ a) i).2.2:Int)] 3),(x2,.cl ((j8 key (cQ a) b i).map B8) 5)]) 0 (by kernel_rfl) (by omega) fun i u J hi back=>?_
 have z:=nO key (cQ a) b i
 have f:key.length=16∨key.length=32:=by omega
 rcases Nat.lt_or_ge i n with hlt | hge
 · have h1:decide ((i:Int)<n)=true:=by simp;omega
   refine bK [1,0] (br h1 bt)<|rE (bL (t:=27) (e:=5) (k:=1) underlying27 .i64 tb c n d i hlt) []<|rE (dH (T:=5) o tb c n d i b) [2]<|zE<|bv (Dc (nm1 3) (nm1 1) (nm1 0) (nm1 2) x x1 0 i key (cQ a) f s) [5,3] [8,6,7]<|zE<|rE (bL (t:=27) (e:=5) (k:=1) underlying27 .i64 x2 0 n n i hlt) []<|vE 52 (u8 (bits .xor .u8 ↑(UInt8.toNat (List.getD b i 0)) (↑(UInt8.toNat (j6 key (cQ a) i)):Int))) (u8 ↑(UInt8.toNat (List.getD b i 0^^^j6 key (cQ a) i))) (by simp only [gz])<|xE (cn x2 (0+i*1) (j8 key (cQ a) b i) 5 (List.getD b i 0^^^j6 key (cQ a) i) (by omega)) [] [9] fun _ _=>?_
   generalize hL1:List.set (j8 key (cQ a) b i) (0+i*1) (List.getD b i 0^^^j6 key (cQ a) i)=L
   have A:List.length L=List.length (j8 key (cQ a) b i):=by rw [← hL1,List.length_set]
   exact zE<|qE 9 x2 (.cl (List.map B8 L) 5) (.cl (List.map B8 (j8 key (cQ a) b (i+1))) 5) (by subst_vars;rw [j8])<|vC 42 i64 (wI ((↑i:Int)+1) (i+1))<|back _ (i+1) (by omega) (by omega) (by kernel_rfl)
 · obtain rfl:i=n:=by omega
   have h1:decide ((i:Int)<i)=false:=by simp
   exact qE 9 x2 (.cl (List.map B8 (j8 key (cQ a) b i)) 5) (.cl (List.map B8 (ej key a b)) 5) (by rw [ej,← v])<|bK [2,0] (br h1 bt)<|rT x2 9999 [9]
theorem Fg (b:Bs) (hb:b.length=16):Same 369 #[.agg (b.map B8).toArray] [] (.agg #[u64 (b8 ((b.drop 0).take 8):Int),u64 (b8 ((b.drop 8).take 8):Int)]):=iE func369<|bu [9999,9999] 2 fun nm=>cV (yv (nm 0) 0 8 16 (List.take 8 (List.drop 0 b)) (by rw [List.length_take,List.drop_zero,hb];rfl)) [0] [] (Views.less (.cl (List.map B8 b) 278) (lY 0 8 b) Views.nil) fun _ _=>bj [9999]<|cV (yv (nm 0) 8 8 8 (List.take 8 (List.drop 8 b)) (by (simp [part];omega))) [0] [] (Views.less (.cl (List.map B8 b) 278) (lY 8 8 b) Views.nil) fun _ _=>bj [9999,1]<|rT () 1
def xj (h l:Nat):Bs:=part (part (List.replicate 16 0) 0 (be h 8)) 8 (be l 8)
theorem Eb (h l:Nat) (a:h<18446744073709551616) (b:l<18446744073709551616):Same 371 #[.agg #[u64 h,u64 l]] [] (.agg ((xj h l).map B8).toArray):=by
 unfold xj
 refine iE func371<|bu [9999,0] 3 fun nm=>cE (gr h 8 a) [] [] fun ⟨x,x1⟩ _=>fE 3 x (bn 5 1 8 x1 (List.map B8 (be h 8))) bx fun hc=>bj [0]<|cE (gr l 8 b) [] [] fun ⟨x2,x3⟩ _=>fE 4 x2 (bn 5 1 8 x3 (List.map B8 (be l 8))) bx fun hc1=>bj [9999]<|xV (e9 (nm 2) 0 8 16 x 0 8 x1 (List.replicate 16 0) (be h 8) 278 (by decide)) [3] [2] (Views.less (.pr (bn 5 1 8 x1 (List.map B8 (be h 8)))) ci Views.nil) fun _ _=>bj [9999]<|xV (e9 (nm 2) 8 8 8 x2 0 8 x3 (part (List.replicate 16 0) 0 (be h 8)) (be l 8) 278 (by (simp [part];omega))) [4] [2] (Views.less (.pr (bn 5 1 8 x3 (List.map B8 (be l 8)))) ci Views.nil) ?_
 intro _ _
 exact zE<|rE (cI (T:=278) underlying278 (nm 2) (part (part (List.replicate 16 0) 0 (be h 8)) 8 (be l 8)) 278 16 (by kernel_rfl) (by kernel_rfl) (by kernel_rfl)) [2]<|xE (c8 (T:=278) (nm 1) (part (part (List.replicate 16 0) 0 (be h 8)) 8 (be l 8)) iQ 278 16) [] [1] fun _ _=>zE<|iz (()) (.agg (List.toArray (List.map B8 (part (part (List.replicate 16 0) 0 (be h 8)) 8 (be l 8))))) [] (qX 1 (nm 1) 16 2 278 278 underlying278 (by rfl))
theorem HI (a:Nat) (h:a<18446744073709551616):(bits .and .u64 a 1 != 0)=decide (a%2=1):=by
 have:=u64_and_nat a 1 h (by decide)
 rw [nat_mask1] at this
 have e:bits .and .u64 a 1=((a%2:Nat):Int):=this
 rw [e,Bool.eq_iff_iff,bne_iff_ne,decide_eq_true_eq]
 omega
theorem HD (a:Nat):(a:Int).fdiv (2^min (Int.toNat 1) IntKind.u64.bits)=((a/2:Nat):Int):=by
 show (a:Int).fdiv 2=_
 rw [Int.fdiv_eq_ediv_of_nonneg _ (by decide)]
 omega
theorem Im (h l:Nat) (a:l<18446744073709551616):bits .or .u64 ((l/2:Nat):Int) (IntKind.u64.wrap ((h:Int)*2^min (Int.toNat 63) IntKind.u64.bits))=((l/2+h%2*9223372036854775808:Nat):Int):=by
 have e:IntKind.u64.wrap ((h:Int)*2^min (Int.toNat 63) IntKind.u64.bits)=((h%2*9223372036854775808:Nat):Int):=by
  rw [dK]
  show (h:Int)*9223372036854775808%18446744073709551616=_
  omega
 have:=u64_or_nat (l/2) (h%2*9223372036854775808) (by omega) (by omega)
 rw [Nat.or_comm,nat_join 63 (h%2*9223372036854775808) (l/2) (by omega) (by omega),Nat.add_comm] at this
 rw [e,this]
theorem Jf (k:Nat) (h:k<128):IntKind.i64.wrap (63-(Int.tmod (k:Int) 64))=((63-k%64:Nat):Int):=by
 have e:Int.tmod (k:Int) 64=((k%64:Nat):Int):=ox
 rw [e,dl]
 omega
def uY (xh xl k:Nat):Nat:=(if 63<k then xl else xh)/2^(63-k%64)%2
def gL (xh xl yh yl:Nat):Nat→Nat×Nat×Nat×Nat
 | 0=>(0,0,yh,yl)
 | k+1=>
  let s:=gL xh xl yh yl k
  (if uY xh xl k=1 then s.1^^^s.2.2.1 else s.1,if uY xh xl k=1 then s.2.1^^^s.2.2.2 else s.2.1,s.2.2.1/2^^^(if s.2.2.2%2=1 then 16212958658533785600 else 0),s.2.2.2/2+s.2.2.1%2*9223372036854775808)
def HK (s:Nat×Nat×Nat×Nat):Vl:=.agg #[u64 s.1,u64 s.2.1]
theorem m6 (g h e f:Nat) (h1:e<2^64) (h2:f<2^64):∀ k,(gL g h e f k).1<2^64∧(gL g h e f k).2.1<2^64∧(gL g h e f k).2.2.1<2^64∧(gL g h e f k).2.2.2<2^64
 | 0=>⟨by simp [gL],by simp [gL],h1,h2⟩
 | k+1=>by
  obtain ⟨a,b,c,d⟩:=m6 g h e f h1 h2 k
  simp only [gL]
  refine ⟨?_,?_,?_,by omega⟩
  · split
    · exact Nat.xor_lt_two_pow a c
    · exact a
  · split
    · exact Nat.xor_lt_two_pow b d
    · exact b
  · apply Nat.xor_lt_two_pow
    · omega
    · split <;> decide
theorem s9 (b a c d:Nat) (o:b<2^64) (p:a<2^64) (h1:c<2^64) (h2:d<2^64):Same 370 #[.agg #[u64 b,u64 a],.agg #[u64 c,u64 d]] [] (HK (gL b a c d 128)):=by
 refine cJ func370 (by kernel_rfl) fun w0 ho=>bu [9999,9999,9999,3] 4 fun nm=>cY (X:=Nat) (fun k=>k≤128) (fun k=>128-k) 61 (fun k=>[(2,bi (nm 0)),(3,bi (nm 1)),(4,bi (nm 2)),(5,bi (nm 3)),(10,i64 k)]) (fun k=>[(nm 0,.cl [u64 b,u64 a] 466),(nm 1,.cl [u64 ((gL b a c d k).2.2.1:Int),u64 ((gL b a c d k).2.2.2:Int)] 466),(nm 2,.cl [u64 0,u64 0] 466),(nm 3,.cl [u64 ((gL b a c d k).1:Int),u64 ((gL b a c d k).2.1:Int)] 466)]) 0 (by kernel_rfl) (by omega) fun k u J m back=>?_
 have m:k≤128:=m
 rcases Nat.lt_or_ge k 128 with hlt | hge
 · obtain ⟨i,f,j,e⟩:=m6 b a c d h1 h2 k
   have h:=gL.eq_2 b a c d k
   generalize gL b a c d k=s at i f j e h ⊢
   obtain ⟨zh,zl,ph,pl⟩:=s
   obtain ⟨xw,hxw⟩:∃ v,v=if 63<k then a else b:=⟨_,rfl⟩
   have l:xw<18446744073709551616:=by rw [hxw];split <;> omega
   have n:(bits .and .u64 ((xw/2^(63-k%64):Nat):Int) 1 != 0)=decide (uY b a k=1):=by
    rw [HI _ (Nat.lt_of_le_of_lt (Nat.div_le_self _ _) l),hxw];rfl
   obtain ⟨a0,ha0⟩:∃ v,v=if uY b a k=1 then zh^^^ph else zh:=⟨_,rfl⟩
   obtain ⟨a1,ha1⟩:∃ v,v=if uY b a k=1 then zl^^^pl else zl:=⟨_,rfl⟩
   obtain ⟨e0,he0⟩:∃ v,v=ph/2^^^(if pl%2=1 then 16212958658533785600 else 0):=⟨_,rfl⟩
   rw [← ha0,← ha1,← he0] at h
   have h:gL b a c d (k+1)=(a0,a1,e0,pl/2+ph%2*9223372036854775808):=h
   have i:zh<18446744073709551616:=i
   have f:zl<18446744073709551616:=f
   have j:ph<18446744073709551616:=j
   have e:pl<18446744073709551616:=e
   by_cases h63:63<k
   rotate_left
   rw [if_neg h63] at hxw
   refine ib 35 [1,0,0,2,0] 0 _ (br (show (decide ((↑k:Int)>63))=false by (simp;omega)) (br (show (decide ((↑k:Int)<128))=true by (simp;omega)) bt)) fun _=>⟨by kernel_rfl,?_⟩
   refine vE 19 (u64 b) (u64 xw) (by rw [hxw]) ?_
   rotate_left
   rw [if_pos h63] at hxw
   refine bK [1,0,0,1,0] (br (dT ((↑k:Int)>63)) (br (dT ((↑k:Int)<128)) bt))<|rE (dM (T:=25) (nm 0) 1 ([u64 b,u64 a]) 466 (u64 a)) [0]<|ib 9 [] 0 _ bt fun _=>⟨by kernel_rfl,?_⟩
   refine vE 19 (u64 a) (u64 xw) (by rw [hxw]) ?_
   all_goals
    clear hxw h63
    refine vE 22 (i64 (IntKind.wrap .i64 (63-Int.tmod (↑k:Int) 64))) (i64 ↑(63-k%64)) (by rw [Jf k hlt])<|rE (wN 25 (.tmp 19) (.tmp 22) xw (63-k%64) (by omega)) [] ?_
    by_cases hb:uY b a k=1
    rotate_left
    rw [if_neg hb] at ha0 ha1
    have g:=n.trans (decide_eq_false hb)
    refine bK [2,0,1,0,1,1,1,1,1] (br g bt)<|qE 3 (nm 3) (.cl [u64 zh,u64 zl] 466) (.cl [u64 a0,u64 a1] 466) (by rw [ha0,ha1]) ?_
    rotate_left
    rw [if_pos hb] at ha0 ha1
    have g:=n.trans (decide_eq_true hb)
    refine bK [1,0] (br g bt)<|bj [11,0,3,1,3]<|ef Unit (fun _=>True) 61 (fun _=>[(2,bi (nm 0)),(3,bi (nm 1)),(4,bi (nm 2)),(5,bi (nm 3)),(10,i64 k),(54,.bool (bits .and .u64 pl 1 != 0))]) [.code (cZ f370 39),.blk 1,.code (cZ f370 42),.lp J,.blk 0,.code (cZ f370 43)] (fun _=>[(nm 0,.cl [u64 b,u64 a] 466),(nm 1,.cl [u64 (Int.fdiv (↑ph:Int) (2^min (Int.toNat 1) (IntKind.bits .u64))),u64 (bits .or .u64 (Int.fdiv (↑pl:Int) (2^min (Int.toNat 1) (IntKind.bits .u64))) (IntKind.wrap .u64 ((↑ph:Int)*2^min (Int.toNat 63) (IntKind.bits .u64))))] 466),(nm 2,.cl [u64 0,u64 0] 466),(nm 3,.cl [u64 (bits .xor .u64 zh (↑ph:Int)),u64 (bits .xor .u64 zl (↑pl:Int))] 466)]) ([]) 0 (fun key=>?_) ?_
    · refine dq 8 10 ?_ ?_
      · exact rE (dM (T:=25) (nm 1) 1 ([u64 ph,u64 pl]) 466 (u64 pl)) [1]<|bj [3,3,1,0,1,1,1,1,1]<|jT [0,1,2,3] (fun u=>key () u trivial)
      · refine zE<|dq 8 11 ?_ ?_
        · exact rE (dM (T:=25) (nm 1) 1 ([u64 ph,u64 pl]) 466 (u64 pl)) [1]<|bj [3,3,1,0,1,1,1,1,1]<|jT [0,1,2,3] (fun u=>key () u trivial)
        · exact bj [3]<|oE 8<|bj [1,3,1,0,1,1,1,1,1]<|jT [0,1,2,3] (fun u=>key () u trivial)
    rintro _ u1 _
    refine qE 3 (nm 3) (.cl [u64 (bits .xor .u64 zh (ph:Int)),u64 (bits .xor .u64 zl (pl:Int))] 466) (.cl [u64 a0,u64 a1] 466) (by rw [u64_xor_nat _ _ i j,u64_xor_nat _ _ f e,ha0,ha1]) ?_
    all_goals
     refine vE 54 (.bool (bits .and .u64 pl 1 != 0)) (.bool (decide (pl%2=1))) (by rw [HI pl e])<|qE 1 (nm 1) (.cl [u64 ((ph:Int).fdiv (2^min (Int.toNat 1) IntKind.u64.bits)),u64 (bits .or .u64 ((pl:Int).fdiv (2^min (Int.toNat 1) IntKind.u64.bits)) (IntKind.u64.wrap ((ph:Int)*2^min (Int.toNat 63) IntKind.u64.bits)))] 466) (.cl [u64 ((ph/2:Nat):Int),u64 ((pl/2+ph%2*9223372036854775808:Nat):Int)] 466) (by rw [HD,HD,Im ph pl e]) ?_
     by_cases ho:pl%2=1
     rotate_left
     rw [if_neg ho,Nat.xor_zero] at he0
     refine bK [2] (br (decide_eq_false ho) bt)<|qE 1 (nm 1) (.cl [u64 ((ph/2:Nat):Int),u64 ((pl/2+ph%2*9223372036854775808:Nat):Int)] 466) (.cl [u64 e0,u64 ((pl/2+ph%2*9223372036854775808:Nat):Int)] 466) (by rw [he0]) ?_
     rotate_left
     rw [if_pos ho] at he0
     refine bK [1,1,1] (br (decide_eq_true ho) bt)<|qE 1 (nm 1) (.cl [u64 (bits .xor .u64 ((ph/2:Nat):Int) 16212958658533785600),u64 ((pl/2+ph%2*9223372036854775808:Nat):Int)] 466) (.cl [u64 e0,u64 ((pl/2+ph%2*9223372036854775808:Nat):Int)] 466) (by rw [he0];exact congrArg (fun z:Int=>SB.cl [u64 z,u64 ((pl/2+ph%2*9223372036854775808:Nat):Int)] 466) (u64_xor_nat (ph/2) 16212958658533785600 (by omega) (by decide))) ?_
     all_goals
      exact qE 1 (nm 1) (.cl [u64 e0,u64 ((pl/2+ph%2*9223372036854775808:Nat):Int)] 466) (.cl [u64 ((gL b a c d (k+1)).2.2.1:Int),u64 ((gL b a c d (k+1)).2.2.2:Int)] 466) (by rw [h])<|qE 3 (nm 3) (.cl [u64 a0,u64 a1] 466) (.cl [u64 ((gL b a c d (k+1)).1:Int),u64 ((gL b a c d (k+1)).2.1:Int)] 466) (by rw [h])<|vC 10 i64 (wI ((↑k:Int)+1) (k+1))<|back _ (k+1) (by omega) (by omega) (by kernel_rfl)
 · obtain rfl:k=128:=by omega
   unfold HK
   exact bj [0,0,3,2]<|rT () 2
def fY (l:Bs):Bs:=l.take 16++List.replicate (16-l.length) 0
def Ig (h s:Nat×Nat) (l:Bs):Nat×Nat:=
 let r:=gL (s.1^^^b8 (((fY l).drop 0).take 8)) (s.2^^^b8 (((fY l).drop 8).take 8)) h.1 h.2 128
 (r.1,r.2.1)
def d7 (h s:Nat×Nat) (l:Bs):Nat→Nat×Nat
 | 0=>s
 | j+1=>Ig h (d7 h s l j) (l.drop (16*j))
def zD (h s:Nat×Nat) (l:Bs):Nat×Nat:=d7 h s l ((l.length+15)/16)
def n3 (hb a t:Bs):Bs:=
 let h:=(b8 ((hb.drop 0).take 8),b8 ((hb.drop 8).take 8))
 let s:=zD h (zD h (0,0) a) t
 let r:=gL (s.1^^^8*a.length) (s.2^^^8*t.length) h.1 h.2 128
 xj r.1 r.2.1
theorem u5 (f h b g m d p l a:Nat) (c L:Bs) (t:TypeId) (o:c.length=16) (i:p=Nat.min m 16) (q:p=L.length) (h0:0<p) :
 gq prog (vS (Builtin.copy_ #[27,27] 3 #[sA f 16 h,sO b g m d])) [(a,.fa (BF (pO b g) p l L))] [(f,.cl (c.map B8) t)] uT (fun _=>i64 p) (fun _=>[(f,.cl ((part c 0 L).map B8) t)]) (fun _=>[]):=by
 refine nT (n:=p) ?_ h0 (fun _=>bD bH id) (fun _ _=>rfl)
 have j:Nat.min m 16≤16:=Nat.min_le_right _ _
 have:=gF (P:=prog) (dT:=27) (sT:=27) (ty:=3) (k:=1) underlying27 f 0 16 h b g m d (c.map B8) (L.map B8) t (by rw [List.length_map,← i];omega) (by simp only [List.length_map];omega) (dB _)
 rw [← i] at this
 have e:cW (c.map B8) 0 (L.map B8)=(part c 0 L).map B8:=by simp [cW,part,List.map_drop]
 rw [e] at this
 exact this
theorem sz (l:Bs) (p:Nat) (a:p=Nat.min l.length 16):part (List.replicate 16 0) 0 (l.take p)=fY l:=by
 have e:l.take p=l.take 16:=by
  rw [a]
  rcases Nat.le_total l.length 16 with h | h
  · rw [show Nat.min l.length 16=l.length from Nat.min_eq_left h,List.take_of_length_le (Nat.le_refl _),List.take_of_length_le h]
  · rw [show Nat.min l.length 16=16 from Nat.min_eq_right h]
 rw [e]
 simp only [part,fY,List.take_zero,List.nil_append,List.drop_replicate,List.length_take]
 congr 2
 omega
theorem rY (l:Bs):(fY l).length=16:=by simp [fY];omega
theorem ng (h s:Nat×Nat) (l:Bs) (h1:h.1<18446744073709551616) (h2:h.2<18446744073709551616) (a:s.1<18446744073709551616) (b:s.2<18446744073709551616):∀ j,(d7 h s l j).1<18446744073709551616∧(d7 h s l j).2<18446744073709551616
 | 0=>⟨a,b⟩
 | j+1=>⟨(m6 _ _ _ _ h1 h2 128).1,(m6 _ _ _ _ h1 h2 128).2.1⟩
theorem FU (hb:Bs) (M:hb.length=16) (b o q i n c f m a z:Nat) (l g:Bs) (h4:n≤65536) (N:f≤65536) :
 Same 291 #[.agg (hb.map B8).toArray,sO b o n c,sO q i f m] [(a,.fa (BF (pO b o) n c l)),(z,.fa (BF (pO q i) f m g))] (.agg ((n3 hb l g).map B8).toArray):=by
 refine iE func291<|fP 0 a (BF (pO b o) n c l) db fun ⟨fl,fc,fm⟩=>fP 1 z (BF (pO q i) f m g) db fun ⟨fl',fc',fm'⟩=>?_
 obtain ⟨H,hH⟩:∃ H,H=(b8 ((hb.drop 0).take 8),b8 ((hb.drop 8).take 8)):=⟨_,rfl⟩
 have r:H.1<18446744073709551616:=by rw [hH];exact kH _ (by simp;omega)
 have s:H.2<18446744073709551616:=by rw [hH];exact kH _ (by simp;omega)
 refine bu [9999] 2 fun nm=>rE (cI (T:=278) underlying278 (nm 0) hb 278 16) [2]<|cE (Fg hb M) [] [] fun _ _=>?_
 rw [show b8 (List.take 8 (List.drop 0 hb))=H.1 by rw [hH],show b8 (List.take 8 (List.drop 8 hb))=H.2 by rw [hH]]
 refine bu [9999,4,5,9999,3,0,0,9999,6] 3 fun nm1=>cY (X:=Nat×Vl) (fun x=>x.1≤(n+15)/16∧(x.1<(n+15)/16→x.2=sO b (o+16*x.1) (n-16*x.1) (c-16*x.1))∧(x.1=(n+15)/16→∃ A d,x.2 = .slice A 0 d)) (fun x=>(n+15)/16-x.1) 68 (fun x=>[(1,sO b o n c),(2,sO q i f m),(6,bi (nm 1)),(7,bi (nm1 0)),(8,bi (nm1 1)),(10,x.2),(19,sA (nm1 2) 2 2),(20,i64 2),(21,i64 0)]) (fun x=>[(a,.fa (BF (pO b o) n c l)),(z,.fa (BF (pO q i) f m g)),(nm 0,.cl (hb.map B8) 278),(nm 1,.cl ((List.replicate 16 0).map B8) 278),(nm1 0,.cl [u64 H.1,u64 H.2] 466),(nm1 1,.cl [u64 ((d7 H (0,0) l x.1).1:Int),u64 ((d7 H (0,0) l x.1).2:Int)] 466),(nm1 2,.cl [sO b o n c,sO q i f m] 27)]) (0,sO b o n c) (by kernel_rfl) ⟨Nat.zero_le _,fun _=>rfl,fun h=>⟨_,_,by rw [show n=0 by omega]⟩⟩ fun ⟨j,v⟩ u J ⟨C,hs,he⟩ back=>?_
 have C:j≤(n+15)/16:=C
 rcases Nat.lt_or_ge j ((n+15)/16) with hlt | hge
 · obtain rfl:v = .slice (some ⟨b,o+16*j,none⟩) (n-16*j) (c-16*j):=hs hlt
   obtain ⟨p,hp⟩:∃ p,p=Nat.min (n-16*j) 16:=⟨_,rfl⟩
   have E:p≤n-16*j:=by rw [hp];exact Nat.min_le_left _ _
   have F:p≤16:=by rw [hp];exact Nat.min_le_right _ _
   have B:0<p:=by rw [hp];exact Nat.lt_min.2 ⟨by omega,by omega⟩
   have G:p=n-16*j∨p=16:=by rw [hp];exact (Nat.le_total (n-16*j) 16).elim (fun h=>.inl (Nat.min_eq_left h)) fun h=>.inr (Nat.min_eq_right h)
   obtain ⟨g1,g2⟩:=ng H (0,0) l r s (by decide) (by decide) j
   have I:=rY (l.drop (16*j))
   have w:=kH ((fY (l.drop (16*j))).drop 0 |>.take 8) (by simp;omega)
   have y:=kH ((fY (l.drop (16*j))).drop 8 |>.take 8) (by simp;omega)
   refine fe [1,0,9999] 1 _ (br (show (decide ((↑(n-16*j):Int)>0))=true by (simp;omega)) bt) fun nm2=>⟨by kernel_rfl,?_⟩
   refine iI (u5 (nm2 0) 16 b (o+16*j) (n-16*j) (c-16*j) p p a (List.replicate 16 0) ((l.drop (16*j)).take p) 278 rfl hp (by rw [List.length_take,List.length_drop];omega) B) [0] [7] (Views.fact (a:=a) (BF (pO b o) n c l) (by kernel_rfl) (cF (16*j) p p (by omega) (by omega) (by omega)) Views.nil) fun _ _=>qE 7 (nm2 0) (.cl ((part (List.replicate 16 0) 0 ((l.drop (16*j)).take p)).map B8) 278) (.cl ((fY (l.drop (16*j))).map B8) 278) (by rw [sz _ p (by rw [List.length_drop,← fl];exact hp)])<|zE<|rE (jW (t:=27) (e:=5) (k:=1) underlying27 b (o+16*j) (n-16*j) (c-16*j) p) []<|zE<|rE (cI (T:=278) underlying278 (nm2 0) (fY (List.drop (16*j) l)) 278 16) [7]<|bv (Fg (fY (List.drop (16*j) l)) I) [] []<|bu [8,5,8,5,8,9999,4] 1 fun nm3=>vE 46 (.agg ⟨[u64 (bits .xor .u64 ↑(Prod.fst (d7 H (0,0) l j)) (↑(b8 (List.take 8 (List.drop 0 (fY (List.drop (16*j) l))))):Int)),u64 (bits .xor .u64 ↑(Prod.snd (d7 H (0,0) l j)) (↑(b8 (List.take 8 (List.drop 8 (fY (List.drop (16*j) l))))):Int))]⟩) (.agg #[u64 ↑(Prod.fst (d7 H (0,0) l j)^^^b8 (List.take 8 (List.drop 0 (fY (List.drop (16*j) l))))),u64 ↑(Prod.snd (d7 H (0,0) l j)^^^b8 (List.take 8 (List.drop 8 (fY (List.drop (16*j) l)))))]) (by rw [u64_xor_nat _ _ g1 w,u64_xor_nat _ _ g2 y])<|bv (s9 _ _ _ _ (Nat.xor_lt_two_pow g1 w) (Nat.xor_lt_two_pow g2 y) r s) [] []<|bj [5] ?_
   exact wE [0,1,2,3,4,5,6] 2 [(a,.fa (BF (pO b o) n c l)),(z,.fa (BF (pO q i) f m g)),(nm 0,.cl (hb.map B8) 278),(nm 1,.cl ((List.replicate 16 0).map B8) 278),(nm1 0,.cl [u64 H.1,u64 H.2] 466),(nm1 1,.cl [u64 ((d7 H (0,0) l (j+1)).1:Int),u64 ((d7 H (0,0) l (j+1)).2:Int)] 466),(nm1 2,.cl [sO b o n c,sO q i f m] 27)]<|back _ (j+1,sO b (if c-16*j=p then o+16*j else o+16*j+p*1) (n-16*j-p) (c-16*j-p)) ⟨hlt,fun h=>by
    have h:j+1<(n+15)/16:=h
    show Value.slice (some ⟨b,if c-16*j=p then o+16*j else o+16*j+p*1,none⟩) (n-16*j-p) (c-16*j-p) = .slice (some ⟨b,o+16*(j+1),none⟩) (n-16*(j+1)) (c-16*(j+1))
    rw [if_neg (by omega),show o+16*j+p*1=o+16*(j+1) by omega,show n-16*j-p=n-16*(j+1) by omega,show c-16*j-p=c-16*(j+1) by omega],fun h=>⟨_,_,by
    have h:j+1=(n+15)/16:=h
    show Value.slice _ (n-16*j-p) _=_
    rw [show n-16*j-p=0 by omega]⟩⟩ (by show (n+15)/16-(j+1)<(n+15)/16-j;omega) (by kernel_rfl)
 obtain rfl:j=(n+15)/16:=by omega
 obtain ⟨A0,d0,rfl⟩:∃ A d,v = .slice A 0 d:=he rfl
 refine bj [0,0,0,0,9999,6] ?_
 obtain ⟨S,hS⟩:∃ S,S=d7 H (0,0) l ((n+15)/16):=⟨_,rfl⟩
 have K:S.1<18446744073709551616:=by rw [hS];exact (ng H (0,0) l r s (by decide) (by decide) _).1
 have L:S.2<18446744073709551616:=by rw [hS];exact (ng H (0,0) l r s (by decide) (by decide) _).2
 refine qE 5 (nm1 1) (.cl [u64 ((d7 H (0,0) l ((n+15)/16)).1:Int),u64 ((d7 H (0,0) l ((n+15)/16)).2:Int)] 466) (.cl [u64 S.1,u64 S.2] 466) (by rw [hS])<|cY (X:=Nat×Vl) (fun x=>x.1≤(f+15)/16∧(x.1<(f+15)/16→x.2=sO q (i+16*x.1) (f - 16*x.1) (m - 16*x.1))∧(x.1=(f+15)/16→∃ A d,x.2 = .slice A 0 d)) (fun x=>(f+15)/16-x.1) 68 (fun x=>[(1,sO b o n c),(2,sO q i f m),(6,bi (nm 1)),(7,bi (nm1 0)),(8,bi (nm1 1)),(10,x.2),(19,sA (nm1 2) 2 2),(20,i64 2),(21,i64 1)]) (fun x=>[(a,.fa (BF (pO b o) n c l)),(z,.fa (BF (pO q i) f m g)),(nm 0,.cl (hb.map B8) 278),(nm 1,.cl ((List.replicate 16 0).map B8) 278),(nm1 0,.cl [u64 H.1,u64 H.2] 466),(nm1 1,.cl [u64 ((d7 H S g x.1).1:Int),u64 ((d7 H S g x.1).2:Int)] 466),(nm1 2,.cl [sO b o n c,sO q i f m] 27)]) (0,sO q i f m) (by kernel_rfl) ⟨Nat.zero_le _,fun _=>rfl,fun h=>⟨_,_,by rw [show f=0 by omega]⟩⟩ fun ⟨j,v⟩ u J ⟨C,hs,he⟩ back=>?_
 have C:j≤(f+15)/16:=C
 rcases Nat.lt_or_ge j ((f+15)/16) with hlt | hge
 · obtain rfl:v = .slice (some ⟨q,i+16*j,none⟩) (f - 16*j) (m - 16*j):=hs hlt
   obtain ⟨p,hp⟩:∃ p,p=Nat.min (f - 16*j) 16:=⟨_,rfl⟩
   have E:p≤f - 16*j:=by rw [hp];exact Nat.min_le_left _ _
   have F:p≤16:=by rw [hp];exact Nat.min_le_right _ _
   have B:0<p:=by rw [hp];exact Nat.lt_min.2 ⟨by omega,by omega⟩
   have G:p=f - 16*j∨p=16:=by rw [hp];exact (Nat.le_total (f - 16*j) 16).elim (fun h=>.inl (Nat.min_eq_left h)) fun h=>.inr (Nat.min_eq_right h)
   obtain ⟨g1,g2⟩:=ng H S g r s K L j
   have I:=rY (g.drop (16*j))
   have w:=kH ((fY (g.drop (16*j))).drop 0 |>.take 8) (by simp;omega)
   have y:=kH ((fY (g.drop (16*j))).drop 8 |>.take 8) (by simp;omega)
   refine fe [1,0,9999] 1 _ (br (show (decide ((↑(f - 16*j):Int)>0))=true by (simp;omega)) bt) fun nm2=>⟨by kernel_rfl,?_⟩
   refine iI (u5 (nm2 0) 16 q (i+16*j) (f - 16*j) (m - 16*j) p p z (List.replicate 16 0) ((g.drop (16*j)).take p) 278 rfl hp (by rw [List.length_take,List.length_drop];omega) B) [1] [7] (Views.fact (a:=z) (BF (pO q i) f m g) (by kernel_rfl) (cF (16*j) p p (by omega) (by omega) (by omega)) Views.nil) fun _ _=>qE 7 (nm2 0) (.cl ((part (List.replicate 16 0) 0 ((g.drop (16*j)).take p)).map B8) 278) (.cl ((fY (g.drop (16*j))).map B8) 278) (by rw [sz _ p (by rw [List.length_drop,← fl'];exact hp)])<|zE<|rE (jW (t:=27) (e:=5) (k:=1) underlying27 q (i+16*j) (f - 16*j) (m - 16*j) p) []<|zE<|rE (cI (T:=278) underlying278 (nm2 0) (fY (List.drop (16*j) g)) 278 16) [7]<|bv (Fg (fY (List.drop (16*j) g)) I) [] []<|bu [8,5,8,5,8,9999,4] 1 fun nm3=>vE 46 (.agg ⟨[u64 (bits .xor .u64 ↑(Prod.fst (d7 H S g j)) (↑(b8 (List.take 8 (List.drop 0 (fY (List.drop (16*j) g))))):Int)),u64 (bits .xor .u64 ↑(Prod.snd (d7 H S g j)) (↑(b8 (List.take 8 (List.drop 8 (fY (List.drop (16*j) g))))):Int))]⟩) (.agg #[u64 ↑(Prod.fst (d7 H S g j)^^^b8 (List.take 8 (List.drop 0 (fY (List.drop (16*j) g))))),u64 ↑(Prod.snd (d7 H S g j)^^^b8 (List.take 8 (List.drop 8 (fY (List.drop (16*j) g)))))]) (by rw [u64_xor_nat _ _ g1 w,u64_xor_nat _ _ g2 y])<|bv (s9 _ _ _ _ (Nat.xor_lt_two_pow g1 w) (Nat.xor_lt_two_pow g2 y) r s) [] []<|bj [5] ?_
   exact wE [0,1,2,3,4,5,6] 2 [(a,.fa (BF (pO b o) n c l)),(z,.fa (BF (pO q i) f m g)),(nm 0,.cl (hb.map B8) 278),(nm 1,.cl ((List.replicate 16 0).map B8) 278),(nm1 0,.cl [u64 H.1,u64 H.2] 466),(nm1 1,.cl [u64 ((d7 H S g (j+1)).1:Int),u64 ((d7 H S g (j+1)).2:Int)] 466),(nm1 2,.cl [sO b o n c,sO q i f m] 27)]<|back _ (j+1,sO q (if m - 16*j=p then i+16*j else i+16*j+p*1) (f - 16*j-p) (m - 16*j-p)) ⟨hlt,fun h=>by
    have h:j+1<(f+15)/16:=h
    show Value.slice (some ⟨q,if m - 16*j=p then i+16*j else i+16*j+p*1,none⟩) (f - 16*j-p) (m - 16*j-p) = .slice (some ⟨q,i+16*(j+1),none⟩) (f - 16*(j+1)) (m - 16*(j+1))
    rw [if_neg (by omega),show i+16*j+p*1=i+16*(j+1) by omega,show f - 16*j-p=f - 16*(j+1) by omega,show m - 16*j-p=m - 16*(j+1) by omega],fun h=>⟨_,_,by
    have h:j+1=(f+15)/16:=h
    show Value.slice _ (f - 16*j-p) _=_
    rw [show f - 16*j-p=0 by omega]⟩⟩ (by show (f+15)/16-(j+1)<(f+15)/16-j;omega) (by kernel_rfl)
 obtain rfl:j=(f+15)/16:=by omega
 obtain ⟨A1,d1,rfl⟩:∃ A d,v = .slice A 0 d:=he rfl
 refine bj [0,0,0,0,5,9999,5,9999,9999,4]<|vE 64 (.agg ⟨[u64 (bits .xor .u64 ↑(Prod.fst (d7 H S g ((f+15)/16))) (IntKind.wrap .u64 (8*IntKind.wrap .u64 n))),u64 (bits .xor .u64 ↑(Prod.snd (d7 H S g ((f+15)/16))) (IntKind.wrap .u64 (8*IntKind.wrap .u64 f)))]⟩) (.agg ⟨[u64 (bits .xor .u64 ↑(Prod.fst (d7 H S g ((f+15)/16))) (↑(8*n):Int)),u64 (bits .xor .u64 ↑(Prod.snd (d7 H S g ((f+15)/16))) (↑(8*f):Int))]⟩) (by rw [show IntKind.wrap .u64 (8*IntKind.wrap .u64 n)=(↑(8*n):Int) from (dj (j5 rfl (dj rfl (by omega)))),show IntKind.wrap .u64 (8*IntKind.wrap .u64 f)=(↑(8*f):Int) from (dj (j5 rfl (dj rfl (by omega))))]) ?_
 obtain ⟨g1,g2⟩:=ng H S g r s K L ((f+15)/16)
 have D:n3 hb l g=xj (gL ((d7 H S g ((f+15)/16)).1^^^8*n) ((d7 H S g ((f+15)/16)).2^^^8*f) H.1 H.2 128).1 (gL ((d7 H S g ((f+15)/16)).1^^^8*n) ((d7 H S g ((f+15)/16)).2^^^8*f) H.1 H.2 128).2.1:=by
  simp only [n3,zD,← fl,← fl',← hH,← hS]
  rw [hH]
 refine vE 64 (.agg ⟨[u64 (bits .xor .u64 ↑(Prod.fst (d7 H S g ((f+15)/16))) (↑(8*n):Int)),u64 (bits .xor .u64 ↑(Prod.snd (d7 H S g ((f+15)/16))) (↑(8*f):Int))]⟩) (.agg #[u64 ↑(Prod.fst (d7 H S g ((f+15)/16))^^^8*n),u64 ↑(Prod.snd (d7 H S g ((f+15)/16))^^^8*f)]) (by rw [u64_xor_nat _ _ g1 (by omega),u64_xor_nat _ _ g2 (by omega)]) ?_
 obtain ⟨t1,t2,_⟩:=m6 ((d7 H S g ((f+15)/16)).1^^^8*n) ((d7 H S g ((f+15)/16)).2^^^8*f) H.1 H.2 r s 128
 exact bv (s9 ((d7 H S g ((f+15)/16)).1^^^8*n) ((d7 H S g ((f+15)/16)).2^^^8*f) H.1 H.2 (Nat.xor_lt_two_pow g1 (by omega)) (Nat.xor_lt_two_pow g2 (by omega)) r s) [] []<|zE<|bv (Eb (gL ((d7 H S g ((f+15)/16)).1^^^8*n) ((d7 H S g ((f+15)/16)).2^^^8*f) H.1 H.2 128).1 (gL ((d7 H S g ((f+15)/16)).1^^^8*n) ((d7 H S g ((f+15)/16)).2^^^8*f) H.1 H.2 128).2.1 t1 t2) [] []<|bj [3]<|rT (v:=(.agg ((xj (gL ((d7 H S g ((f+15)/16)).1^^^8*n) ((d7 H S g ((f+15)/16)).2^^^8*f) H.1 H.2 128).1 (gL ((d7 H S g ((f+15)/16)).1^^^8*n) ((d7 H S g ((f+15)/16)).2^^^8*f) H.1 H.2 128).2.1).map B8).toArray)) () 3 [] (by rw [D])
theorem nU (h a t:Bs):(n3 h a t).length=16:=by kernel_rfl
end Go.Proofs.YtlkeemedalncoaaGreat.En
