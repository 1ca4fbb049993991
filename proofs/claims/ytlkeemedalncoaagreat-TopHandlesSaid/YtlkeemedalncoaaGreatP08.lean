/- TopHandles, part 8: no condition. -/
import Derived.Lib.BufferRead
import Derived.Lib.MakeNoZero
import Derived.Lib.BytesEntry
import Derived.Lib.Bytealg
import Derived.Test.YtlkeemedalncoaaGreatP07
set_option linter.all false
set_option maxHeartbeats 16000000
set_option maxRecDepth 100000
namespace Go.Proofs.YtlkeemedalncoaaGreat.En
open Go Go.RowKit Go.Proofs.YtlkeemedalncoaaGreat Go.Proofs.Tryz
def ee (key nonce aad b:Bs):Bs:=eM (n3 (cA key (List.replicate 16 0)) aad b) (cA key (cQ nonce))
theorem kP (key a c b:Bs) (h:a.length=12):(ee key a c b).length=16:=by
 unfold ee eM
 rw [List.length_zipWith,nU,d8 _ _ (jo a h)]
 rfl
theorem xZ (kb g kn kc h no i j k m o tb e n p w y z A:Nat) (key a c b:Bs) (B:kn=16∨kn=32) (q:kn=key.length) (r:12=a.length) (C:m≤65536) (D:n≤65536) (s:kn≤kc) :
 TT 184 #[sO kb g kn kc,sO h no 12 i,sO j k m o,sO tb e n p] [(w,.fa (BF (pO kb g) kn kc key)),(y,.fa (BF (pO h no) 12 i a)),(z,.fa (BF (pO j k) m o c)),(A,.fa (BF (pO tb e) n p b))] [] (fun _:Nat×Nat=>True) (fun x=>.returned (.tuple #[sA x.1 16 x.2,i64 0])) (fun _=>[]) (fun x=>[(x.1,.pr (bn 5 1 16 x.2 ((ee key a c b).map B8)))]):=by
 unfold ee
 refine cJ func184 (by kernel_rfl) fun w0 ho=>?_
 have f:=jo a r.symm
 have d:key.length=16∨key.length=32:=by omega
 have u:=d8 key (cQ a) f
 have v:=d8 key (List.replicate 16 0) rfl
 refine zE<|cE (pt key kn B q w kb g kc s) [0] [] fun ⟨x,x1⟩ _=>bj [0,0]<|bv (uU h no i y a (by omega)) [1] []<|bu [] 1 fun nm=>xE (c8 (T:=278) (nm 0) (cQ a) iQ 278 16 (by kernel_rfl) (by omega)) [] [5] fun _ _=>bj [0,0,9999]<|bv (nG x x1 0 key (List.replicate 16 0) d (by kernel_rfl)) [4] []<|bu [] 1 fun nm1=>xE (c8 (T:=278) (nm1 0) (cA key (List.replicate 16 0)) iQ 278 16 (by kernel_rfl) (by omega)) [] [6] fun _ _=>zE ?_
 refine rE (cI (T:=278) underlying278 (nm 0) (cQ a) 278 16) [5]<|bv (nG x x1 0 key (cQ a) d f) [4] []<|bu [] 1 fun nm2=>xE (c8 (T:=278) (nm2 0) (cA key (cQ a)) iQ 278 16 (by kernel_rfl) (by omega)) [] [7] fun _ _=>zE<|rE (cI (T:=278) underlying278 (nm1 0) (cA key (List.replicate 16 0)) 278 16) [6]<|zE<|bv (FU (cA key (List.replicate 16 0)) v j k tb e m o n p z A c b (by omega) (by omega)) [2,3] []<|bu [] 1 fun nm3=>xE (c8 (T:=278) (nm3 0) (n3 (cA key (List.replicate 16 0)) c b) iQ 278 16) [] [8] fun _ _=>zE ?_
 exact gW (t:=278) (l:=n3 (cA key (List.replicate 16 0)) c b) 8 (nm3 0) 16 (by rw [nU]) (by decide)<|gW (t:=278) (l:=cA key (cQ a)) 7 (nm2 0) 16 (by rw [u]) (by decide)<|bj [9999,0,9999,9999]<|cE (Gs (nm3 0) 0 (nm2 0) 0 16 16 16 (nm3 0) (nm2 0) (n3 (cA key (List.replicate 16 0)) c b) (cA key (cQ a)) (by omega) (by omega)) [8,7] [] fun ⟨x2,x3⟩ _=>zE<|rT ((x2,x3)) 9999 [9]
def gl (key nonce aad text:Bs):Bs:=ej key nonce text++ee key nonce aad (ej key nonce text)
theorem AG (kb g kn kc h no i p q m r tb d n s u v y z:Nat) (key a c b:Bs) (w:kn=16∨kn=32) (j:kn=key.length) (B:n=b.length) (o:kn≤kc) (f:12=a.length:=by kernel_rfl) (C:m≤65536:=by omega) (h0:0<n:=by omega) (A:n≤65536:=by omega) :
 TT 198 #[.slice (some ⟨kb,g,none⟩) kn kc,.slice (some ⟨h,no,none⟩) 12 i,.slice (some ⟨p,q,none⟩) m r,.slice (some ⟨tb,d,none⟩) n s] [(u,.fa (BF (some ⟨kb,g,none⟩) kn kc key)),(v,.fa (BF (some ⟨h,no,none⟩) 12 i a)),(y,.fa (BF (some ⟨p,q,none⟩) m r c)),(z,.fa (BF (some ⟨tb,d,none⟩) n s b))] [] (fun _:Nat×Nat=>True) (fun x=>.returned (.tuple #[.slice (some ⟨x.1,0,none⟩) (n+16) x.2,i64 0])) (fun _=>[]) (fun x=>[(x.1,.pr (bn 5 1 (n+16) x.2 ((gl key a c b).map B8)))]):=by
 refine cJ func198 (by kernel_rfl) fun w0 ho=>?_
 have D:=fF key a b
 have E:=kP key a c (ej key a b) f.symm
 unfold gl
 refine zE<|bv (rI (pO kb g) (pO h no) kn kc i w) [] []<|bK [0,0,2,2,0] (br (dF ((↑n:Int)>65536)) (br (dF ((↑m:Int)>65536)) bt))<|cE (xf kb g kn kc h no i tb d n s u v z key a b w j f B h0 A o) [0,1,3] [] fun x _=>bj [0,0]<|gW (t:=5) (l:=ej key a b) 4 x n (by omega) (by first | decide | (simp only [maxLen];omega))<|cE (xZ kb g kn kc h no i p q m r x 0 n n u v y x key a c (ej key a b) w j f C A o) [0,1,2,4] [] fun ⟨x1,x2⟩ _=>fE 5 x1 (bn 5 1 16 x2 (List.map B8 (ee key a c (ej key a b)))) bx fun hc=>zE<|rE (lI (t:=27) (e:=5) (k:=1) underlying27 x 0 n n n n (by omega)) []<|zE ?_
 exact iI (Cm x 0 n n x1 0 16 x2 x n (ej key a b) (ee key a c (ej key a b)) (by omega) (by omega) (by omega) (by omega)) [4,5] [] (Views.facts (Views.less (.pr (bn 5 1 16 x2 (List.map B8 (ee key a c (ej key a b))))) ci Views.nil)) fun ⟨x3,x4⟩ _=>fE 6 x3 (bn 5 1 (n+16) x4 (List.map B8 (ej key a b++ee key a c (ej key a b)))) bx fun hc1=>zE<|rT ((x3,x4)) 9999 [6]
theorem uF (kb o kn kc p no q u v m w tb f n g y z C i:Nat) (key d h b:Bs) (A:kn=16∨kn=32) (r:kn=key.length) (J:n=b.length) (B:n≤g) (s:kn≤kc) (D:ee key d h (b.take (n-16))=b.drop (n-16)) (j:12=d.length:=by kernel_rfl) (E:m≤65536:=by omega) (h0:16<n:=by omega) (K:n≤65536:=by omega) :
 TT 101 #[.slice (some ⟨kb,o,none⟩) kn kc,.slice (some ⟨p,no,none⟩) 12 q,.slice (some ⟨u,v,none⟩) m w,.slice (some ⟨tb,f,none⟩) n g] [(y,.fa (BF (some ⟨kb,o,none⟩) kn kc key)),(z,.fa (BF (some ⟨p,no,none⟩) 12 q d)),(C,.fa (BF (some ⟨u,v,none⟩) m w h)),(i,.fa (BF (some ⟨tb,f,none⟩) n g b))] [] (fun _:Nat=>True) (fun x=>.returned (.tuple #[.slice (some ⟨x,0,none⟩) (n-16) (n-16),i64 0])) (fun _=>[]) (fun x=>[(x,.cl ((ej key d (b.take (n-16))).map B8) 5)]):=by
 rw [show List.take (n-16) b=List.take (n-16) (List.drop 0 b) from rfl]
 have h5:(!(ee key d h (List.take (n-16) (List.drop 0 b))==List.take 16 (List.drop (n-16) b)))=false:=by
  have F:(b.drop (n-16)).length≤16:=by simp;omega
  rw [List.drop_zero,D,List.take_of_length_le F];simp
 refine cJ func101 (by kernel_rfl) fun w0 ho=>?_
 have G:(b.take (n-16)).length=n-16:=by simp;omega
 have H:(b.drop (n-16)).length=16:=by simp;omega
 have I:=kP key d h (b.take (n-16)) j.symm
 refine zE<|bv (rI (pO kb o) (pO p no) kn kc q A) [] []<|bK [0,0,2,2,0,2,0] (br (show (decide (IntKind.wrap .i64 ((↑n:Int)-16)<0))=false by (simp only [eE,dP,d6,dK,dl,decide_eq_true_eq,decide_eq_false_iff_not];omega)) (br (dF ((↑n:Int)>65552)) (br (dF ((↑m:Int)>65536)) bt)))<|vC 38 i64 (wI ((↑n:Int)-16) (n-16))<|rE (pm (t:=27) (e:=5) (k:=1) underlying27 tb f n g (n-16)) []<|cV (xZ kb o kn kc p no q u v m w tb f (n-16) g y z C i key d h (List.take (n-16) (List.drop 0 b)) A r j E (by omega) s) [0,1,2,3] [] (Views.facts (Views.facts (Views.facts (Views.fact (a:=i) (BF (pO tb f) n g b) (by kernel_rfl) (cF 0 (n-16) g) Views.nil)))) fun ⟨x,x1⟩ _=>fE 4 x (bn 5 1 16 x1 (List.map B8 (ee key d h (List.take (n-16) (List.drop 0 b))))) bx fun hc=>bj [0]<|vC 48 i64 (wI ((↑n:Int)-16) (n-16))<|rE (kD (t:=27) (e:=5) (k:=1) underlying27 tb f n g (n-16) B) []<|vE 49 (sO tb (f+(n-16)*1) (n-(n-16)) (g-(n-16))) (sO tb (f+(n-16)) 16 (g-(n-16))) (by rw [Nat.mul_one,show n-(n-16)=16 by omega]) ?_
 exact eh (e:=5) (n:=16) (c:=x1) (l:=ee key d h (List.take (n-16) (List.drop 0 b))) 4 x (by (simp;omega))<|cV (oX x 0 tb (f+(n-16)) 16 x1 (g-(n-16)) x i (ee key d h (List.take (n-16) (List.drop 0 b))) (List.take 16 (List.drop (n-16) b))) [4,3] [] (Views.facts (Views.fact (a:=i) (BF (pO tb f) n g b) (by kernel_rfl) (cF (n-16) 16 (g-(n-16))) Views.nil)) fun _ _=>bK [2] (br h5 bt)<|vC 56 i64 (wI ((↑n:Int)-16) (n-16))<|rE (pm (t:=27) (e:=5) (k:=1) underlying27 tb f n g (n-16)) []<|cV (xf kb o kn kc p no q tb f (n-16) g y z i key d (List.take (n-16) (List.drop 0 b)) A r j (by (simp [part];omega)) (by omega) (by omega) s) [0,1,3] [] (Views.facts (Views.facts (Views.fact (a:=i) (BF (pO tb f) n g b) (by kernel_rfl) (cF 0 (n-16) g) Views.nil))) fun x2 _=>zE<|rT x2 9999 [5]
theorem zA (kb o kn kc p no q r s m u tb f n h z A B i:Nat) (key d g b:Bs) (C:kn=16∨kn=32) (v:kn=key.length) (j:12=d.length) (D:m≤65536) (J:n=b.length) (h0:16<n) (K:n≤65536) (w:n≤h) (y:kn≤kc) (E:¬ ee key d g (b.take (n-16))=b.drop (n-16)) :
 TT 101 #[sO kb o kn kc,sO p no 12 q,sO r s m u,sO tb f n h] [(z,.fa (BF (pO kb o) kn kc key)),(A,.fa (BF (pO p no) 12 q d)),(B,.fa (BF (pO r s) m u g)),(i,.fa (BF (pO tb f) n h b))] [] uT (fun _=>.returned (.tuple #[.slice none 0 0,i64 60])) (fun _=>[]) (fun _=>[]):=by
 have h5:(!(ee key d g (List.take (n-16) (List.drop 0 b))==List.take 16 (List.drop (n-16) b)))=true:=by
  have F:(b.drop (n-16)).length≤16:=by simp;omega
  rw [List.drop_zero,List.take_of_length_le F];simpa using E
 refine cJ func101 (by kernel_rfl) fun w0 ho=>?_
 have G:(b.take (n-16)).length=n-16:=by simp;omega
 have H:(b.drop (n-16)).length=16:=by simp;omega
 have I:=kP key d g (b.take (n-16)) j.symm
 refine zE<|bv (rI (pO kb o) (pO p no) kn kc q C) [] []<|bK [0,0,2,2,0,2,0] (br (show (decide (IntKind.wrap .i64 ((↑n:Int)-16)<0))=false by (simp only [eE,dP,d6,dK,dl,decide_eq_true_eq,decide_eq_false_iff_not];omega)) (br (dF ((↑n:Int)>65552)) (br (dF ((↑m:Int)>65536)) bt)))<|vC 38 i64 (wI ((↑n:Int)-16) (n-16))<|rE (pm (t:=27) (e:=5) (k:=1) underlying27 tb f n h (n-16)) []<|cV (xZ kb o kn kc p no q r s m u tb f (n-16) h z A B i key d g (List.take (n-16) (List.drop 0 b)) C v j D (by omega) y) [0,1,2,3] [] (Views.facts (Views.facts (Views.facts (Views.fact (a:=i) (BF (pO tb f) n h b) (by kernel_rfl) (cF 0 (n-16) h) Views.nil)))) fun ⟨x,x1⟩ _=>fE 4 x (bn 5 1 16 x1 (List.map B8 (ee key d g (List.take (n-16) (List.drop 0 b))))) bx fun hc=>bj [0]<|vC 48 i64 (wI ((↑n:Int)-16) (n-16))<|rE (kD (t:=27) (e:=5) (k:=1) underlying27 tb f n h (n-16) w) []<|vE 49 (sO tb (f+(n-16)*1) (n-(n-16)) (h-(n-16))) (sO tb (f+(n-16)) 16 (h-(n-16))) (by rw [Nat.mul_one,show n-(n-16)=16 by omega]) ?_
 exact eh (e:=5) (n:=16) (c:=x1) (l:=ee key d g (List.take (n-16) (List.drop 0 b))) 4 x (by (simp;omega))<|cV (oX x 0 tb (f+(n-16)) 16 x1 (h-(n-16)) x i (ee key d g (List.take (n-16) (List.drop 0 b))) (List.take 16 (List.drop (n-16) b))) [4,3] [] (Views.facts (Views.fact (a:=i) (BF (pO tb f) n h b) (by kernel_rfl) (cF (n-16) 16 (h-(n-16))) Views.nil)) fun _ _=>bK [1] (br h5 bt)<|rT ()
theorem gd (b n:Nat) (l:Bs) (h:n=l.length:=by kernel_rfl) :
 RunTri prog (vS (convert 27 27 (.slice (some ⟨b,0,none⟩) n n))) [] [(b,.cl (l.map B8) 5)] (fun _:Unit=>True) (fun _=>.slice (some ⟨b,0,none⟩) n n) (fun _=>[(b,.pr (bG 0 (l.map B8)))]) (fun _=>[]):=by
 intro w ho
 obtain ⟨o,hb,a⟩:=ho.at_ 0 b _ rfl rfl
 have a:o = .cells (l.map B8).toArray 5 (0,0):=a
 subst a
 have g:=dR hb
 have d:w.shape? b=some (5,(l.map B8).length):=by simp [World.shape?,hb]
 have f:(w.freeze ⟨b,(l.map B8).length,none⟩ 1).heap[b]?=some (.cells (l.map B8).toArray 5 ((l.map B8).length,(l.map B8).length+1)):=by
  simp [World.freeze,Array.getElem?_modify,hb]
 have c:∀ i,i≠b→(w.freeze ⟨b,(l.map B8).length,none⟩ 1).heap[i]?=w.heap[i]?:=fun i hi=>by
  simp [World.freeze,Array.getElem?_modify,Ne.symm hi]
 refine ⟨_,w.freeze ⟨b,(l.map B8).length,none⟩ 1,⟨(),trivial,.inl rfl,?_,⟨?_,?_,?_,?_,fun i hi hM=>c i (fun e=>hM (by simp [lv,SB.live,e]))⟩,fun b hb=>by cases hb⟩,ce ?_⟩
 · have:=ho.put (j:=0) (s:=.cl (l.map B8) 5) (s':=.pr (bG 0 (l.map B8))) rfl rfl (w':=w.freeze ⟨b,(l.map B8).length,none⟩ 1) ⟨_,f,_,_,_,rfl,fun j u hu=>by simpa using hu⟩ c
   simpa using this
 · simp [World.freeze]
 · simp [World.freeze]
 · simp [World.freeze]
 · simp [World.freeze]
 · simp [convert,run_underlying underlying27,run_underlying underlying5,markStringish,d]
section
variable {P:Program} {Q:QR} {K0:Nat→Prop} {w0:World} {M:List Nat} {st:ES}
theorem nq (j b n:Nat) {l:Bs} (c:n=l.length) (d:n≤maxLen) (h:GW P Q K0 w0 M ⟨st.todo,st.ts,st.ds,st.H.set j (b,.fa (BF (pA b) n n l)),st.nr⟩) (a:(st.H[j]?,eF st.todo,st.nr.ble j)=(some (b,.pr (bG 0 (l.map B8))),true,true):=by kernel_rfl):GW P Q K0 w0 M st:=by
 simp only [Prod.mk.injEq] at a
 obtain ⟨h1,h2,h3⟩:=a
 refine ip j b (.pr (bG 0 (l.map B8))) (BF (pA b) n n l) (fun w hw=>?_) h (by rw [h1,h2,h3];rfl)
 obtain ⟨o,ho,hc⟩:=hw
 refine ⟨c,Nat.le_refl _,d,fun h0=>⟨b,0,rfl,fun k hk=>?_⟩⟩
 have:=dU ho hc k (B8 (l.getD k 0)) (by rw [List.getElem?_map,List.getD_eq_getElem?_getD,List.getElem?_eq_getElem (show k<l.length by omega)];rfl)
 rw [Addr.add_lit] at this
 exact this
end
theorem fy (a b o n c:Nat) (l:Bs) :
 Reads prog (vS (convert 27 9 (sO b o n c))) [(a,.fa (BF (pO b o) n c l))] (.string ⟨l.toArray⟩):=fun w _ hf=>by
 have h:=hf 0 a _ rfl
 rw [h.len]
 refine ce (run_convert_bytes_back w 27 9 5 ⟨b,o,none⟩ c l underlying27 underlying5 underlying9 fun j hj=>?_)
 obtain ⟨b',o',e,hc⟩:=h.at_ (by have:=h.len;omega)
 injection e with e
 injection e with e1 e2
 subst e1;subst e2
 have:=hc j (by have:=h.len;omega)
 rw [List.getD_eq_getElem?_getD,List.getElem?_eq_getElem hj] at this
 rw [Addr.add_lit]
 exact this
abbrev mr (t k l p c g:Nat):Vl:=.agg #[u32 (t:Int),u8 (k:Int),u8 (l:Int),u32 (p:Int),u64 (c:Int),u16 (g:Int)]
theorem Hu (a d p c:Nat) (b:p<4294967296) (hc:c<18446744073709551616) :
 TT 358 #[sA a 4 d] [(a,.cl [u64 p,u64 4,u64 c,u64 8] 25)] [] (fun _:Nat×Nat=>True) (fun x=>.returned (sA x.1 12 x.2)) (fun _=>[]) (fun x=>[(x.1,.pr (bn 5 1 12 x.2 ((be p 4++be c 8).map B8)))]):=by
 refine iE func358<|bj [3,0,0]<|bj [9999,0,9999,0,9999,0,9999]<|cE (gr p 4) [] [] fun ⟨x,x1⟩ _=>zE<|xV (gT x 0 4 x1 (be p 4)) [1] [] (Views.less (.pr (bn 5 1 4 x1 (List.map B8 (be p 4)))) ci Views.nil) fun ⟨x2,x3⟩ _=>fE 2 x2 (bn 5 1 4 x3 (List.map B8 (be p 4))) bx fun hc1=>bj [0,0]<|bj [9999,0,9999,0,9999,0,9999]<|cE (gr c 8 hc) [] [] fun ⟨x4,x5⟩ _=>zE ?_
 exact xV (dy x2 4 x3 x4 0 8 x5 (be p 4) (be c 8)) [3] [2] (Views.less (.pr (bn 5 1 8 x5 (List.map B8 (be c 8)))) ci Views.nil) fun ⟨x6,x7⟩ _=>fE 4 x6 (bn 5 1 (4+8) x7 (List.map B8 (be p 4++be c 8))) bx fun hc2=>bj [0,0]<|rT ((x6,x7)) 9999 [4]
theorem Gc (a d t k l g:Nat) (b:t<4294967296) (c:k<256) (e:l<256) (f:g<65536) :
 TT 358 #[sA a 8 d] [(a,.cl [u64 t,u64 4,u64 k,u64 1,u64 l,u64 1,u64 g,u64 2] 25)] [] (fun _:Nat×Nat=>True) (fun x=>.returned (sA x.1 8 x.2)) (fun _=>[]) (fun x=>[(x.1,.pr (bn 5 1 8 x.2 ((be t 4++be k 1++be l 1++be g 2).map B8)))]):=by
 refine iE func358<|bj [5,0,0]<|bj [9999,0,9999,0,9999,0,9999]<|cE (gr t 4) [] [] fun ⟨x,x1⟩ _=>zE<|xV (gT x 0 4 x1 (be t 4)) [1] [] (Views.less (.pr (bn 5 1 4 x1 (List.map B8 (be t 4)))) ci Views.nil) fun ⟨x2,x3⟩ _=>fE 2 x2 (bn 5 1 4 x3 (List.map B8 (be t 4))) bx fun hc=>bj [0,0]<|bj [9999,0,9999,0,9999,0,9999]<|cE (gr k 1) [] [] fun ⟨x4,x5⟩ _=>zE ?_
 refine xV (dy x2 4 x3 x4 0 1 x5 (be t 4) (be k 1)) [3] [2] (Views.less (.pr (bn 5 1 1 x5 (List.map B8 (be k 1)))) ci Views.nil) fun ⟨x6,x7⟩ _=>fE 4 x6 (bn 5 1 (4+1) x7 (List.map B8 (be t 4++be k 1))) bx fun hc1=>bj [0,0]<|bj [9999,0,9999,0,9999,0,9999]<|cE (gr l 1) [] [] fun ⟨x8,x9⟩ _=>zE<|xV (dy x6 5 x7 x8 0 1 x9 (be t 4++be k 1) (be l 1)) [5] [4] (Views.less (.pr (bn 5 1 1 x9 (List.map B8 (be l 1)))) ci Views.nil) fun ⟨x10,x11⟩ _=>fE 6 x10 (bn 5 1 (5+1) x11 (List.map B8 (be t 4++be k 1++be l 1))) bx fun hc2=>bj [0,0]<|bj [9999,0,9999,0,9999,0,9999]<|cE (gr g 2) [] [] ?_
 rintro ⟨x12,x13⟩ _
 exact zE<|xV (dy x10 6 x11 x12 0 2 x13 (be t 4++be k 1++be l 1) (be g 2)) [7] [6] (Views.less (.pr (bn 5 1 2 x13 (List.map B8 (be g 2)))) ci Views.nil) fun ⟨x14,x15⟩ _=>fE 8 x14 (bn 5 1 (6+2) x15 (List.map B8 (be t 4++be k 1++be l 1++be g 2))) bx fun hc3=>bj [0,0]<|rT ((x14,x15)) 9999 [8]
theorem Ae (a d k l g c:Nat) (b:k<256) (e:l<256) (f:g<65536) (hc:c<18446744073709551616) :
 TT 358 #[sA a 8 d] [(a,.cl [u64 k,u64 1,u64 l,u64 1,u64 g,u64 2,u64 c,u64 8] 25)] [] (fun _:Nat×Nat=>True) (fun x=>.returned (sA x.1 12 x.2)) (fun _=>[]) (fun x=>[(x.1,.pr (bn 5 1 12 x.2 ((be k 1++be l 1++be g 2++be c 8).map B8)))]):=by
 refine iE func358<|bj [5,0,0]<|bj [9999,0,9999,0,9999,0,9999]<|cE (gr k 1) [] [] fun ⟨x,x1⟩ _=>zE<|xV (gT x 0 1 x1 (be k 1)) [1] [] (Views.less (.pr (bn 5 1 1 x1 (List.map B8 (be k 1)))) ci Views.nil) fun ⟨x2,x3⟩ _=>fE 2 x2 (bn 5 1 1 x3 (List.map B8 (be k 1))) bx fun hc1=>bj [0,0]<|bj [9999,0,9999,0,9999,0,9999]<|cE (gr l 1) [] [] fun ⟨x4,x5⟩ _=>zE ?_
 refine xV (dy x2 1 x3 x4 0 1 x5 (be k 1) (be l 1)) [3] [2] (Views.less (.pr (bn 5 1 1 x5 (List.map B8 (be l 1)))) ci Views.nil) fun ⟨x6,x7⟩ _=>fE 4 x6 (bn 5 1 (1+1) x7 (List.map B8 (be k 1++be l 1))) bx fun hc2=>bj [0,0]<|bj [9999,0,9999,0,9999,0,9999]<|cE (gr g 2) [] [] fun ⟨x8,x9⟩ _=>zE<|xV (dy x6 2 x7 x8 0 2 x9 (be k 1++be l 1) (be g 2)) [5] [4] (Views.less (.pr (bn 5 1 2 x9 (List.map B8 (be g 2)))) ci Views.nil) fun ⟨x10,x11⟩ _=>fE 6 x10 (bn 5 1 (2+2) x11 (List.map B8 (be k 1++be l 1++be g 2))) bx fun hc3=>bj [0,0]<|bj [9999,0,9999,0,9999,0,9999]<|cE (gr c 8 hc) [] [] ?_
 rintro ⟨x12,x13⟩ _
 exact zE<|xV (dy x10 4 x11 x12 0 8 x13 (be k 1++be l 1++be g 2) (be c 8)) [7] [6] (Views.less (.pr (bn 5 1 8 x13 (List.map B8 (be c 8)))) ci Views.nil) fun ⟨x14,x15⟩ _=>fE 8 x14 (bn 5 1 (4+8) x15 (List.map B8 (be k 1++be l 1++be g 2++be c 8))) bx fun hc4=>bj [0,0]<|rT ((x14,x15)) 9999 [8]
def eo (k l g c:Nat):Bs:=[67,72,84,49]++(be k 1++be l 1++be g 2++be c 8)
def cK (p c:Nat):Bs:=be p 4++be c 8
def d9 (t k l g:Nat):Bs:=be t 4++be k 1++be l 1++be g 2
theorem ja (k l g c:Nat):(eo k l g c).length=16:=by simp [eo,cc]
theorem kl (p c:Nat):(cK p c).length=12:=by simp [cK,cc]
theorem oA (t k l g:Nat):(d9 t k l g).length=8:=by simp [d9,cc]
theorem Ge (t k l p c g:Nat) (a:k<256) (b:l<256) (d:g<65536) (hc:c<18446744073709551616) :
 TT 265 #[mr t k l p c g] [] [] (fun _:Nat×Nat=>True) (fun x=>.returned (sA x.1 16 x.2)) (fun _=>[]) (fun x=>[(x.1,.pr (bn 5 1 16 x.2 ((eo k l g c).map B8)))]):=by
 unfold eo
 exact iE func265<|bu [9999,9999] 2 fun nm=>xE (gd (nm 1) 4 ([67,72,84,49])) [] [1] fun _ _=>bu [0,9999,0,9999,0,9999,0,9999] 1 fun nm1=>qE 2 (nm1 0) (.cl [u64 (IntKind.wrap .u64 k),u64 1,u64 (IntKind.wrap .u64 l),u64 1,u64 (IntKind.wrap .u64 g),u64 2,u64 c,u64 8] 25) (.cl [u64 k,u64 1,u64 l,u64 1,u64 g,u64 2,u64 c,u64 8] 25) (by rw [show IntKind.wrap .u64 k=(↑k:Int) from (dj),show IntKind.wrap .u64 l=(↑l:Int) from (dj),show IntKind.wrap .u64 g=(↑g:Int) from (dj)])<|cE (Ae (nm1 0) 8 k l g c a b d hc) [2] [] fun ⟨x,x1⟩ _=>fE 3 x (bn 5 1 12 x1 (List.map B8 (be k 1++be l 1++be g 2++be c 8))) bx fun hc1=>iI (nC (nm 1) 0 4 4 x 0 12 x1 ([67,72,84,49]) (be k 1++be l 1++be g 2++be c 8) (by omega) (by omega)) [1,3] [] (Views.same (by kernel_rfl) (Views.less (.pr (bn 5 1 12 x1 (List.map B8 (be k 1++be l 1++be g 2++be c 8)))) ci Views.nil)) fun ⟨x2,x3⟩ _=>fE 4 x2 (bn 5 1 (4+12) x3 (List.map B8 ([67,72,84,49]++(be k 1++be l 1++be g 2++be c 8)))) bx fun hc2=>zE<|rT ((x2,x3)) 9999 [4]
theorem tw (t k l p c g:Nat) (a:p<4294967296) (hc:c<18446744073709551616) :
 TT 266 #[mr t k l p c g] [] [] (fun _:Nat×Nat=>True) (fun x=>.returned (sA x.1 12 x.2)) (fun _=>[]) (fun x=>[(x.1,.fa (BF (pA x.1) 12 x.2 (cK p c)))]):=by
 unfold cK
 exact iE func266<|bu [9999,0,9999,0,9999] 2 fun nm=>qE 1 (nm 1) (.cl [u64 (IntKind.wrap .u64 p),u64 4,u64 c,u64 8] 25) (.cl [u64 p,u64 4,u64 c,u64 8] 25) (by rw [show IntKind.wrap .u64 p=(↑p:Int) from (dj)])<|cE (Hu (nm 1) 4 p c a hc) [1] [] fun ⟨x,x1⟩ _=>fE 2 x (bn 5 1 12 x1 (List.map B8 (be p 4++be c 8))) bx fun hc1=>zE<|eh (e:=5) (n:=12) (c:=x1) (l:=be p 4++be c 8) 2 x (by (simp [cc];done))<|rT ((x,x1)) 9999 [2]
theorem yW (t k l p c g:Nat) (a:t<4294967296) (b:k<256) (d:l<256) (f:g<65536) :
 TT 267 #[mr t k l p c g] [] [] (fun _:Nat×Nat=>True) (fun x=>.returned (sA x.1 8 x.2)) (fun _=>[]) (fun x=>[(x.1,.fa (BF (pA x.1) 8 x.2 (d9 t k l g)))]):=by
 unfold d9
 exact iE func267<|bu [9999,0,9999,0,9999,0,9999,0,9999,9999] 2 fun nm=>qE 1 (nm 1) (.cl [u64 (IntKind.wrap .u64 t),u64 4,u64 (IntKind.wrap .u64 k),u64 1,u64 (IntKind.wrap .u64 l),u64 1,u64 (IntKind.wrap .u64 g),u64 2] 25) (.cl [u64 t,u64 4,u64 k,u64 1,u64 l,u64 1,u64 g,u64 2] 25) (by rw [show IntKind.wrap .u64 t=(↑t:Int) from (dj),show IntKind.wrap .u64 k=(↑k:Int) from (dj),show IntKind.wrap .u64 l=(↑l:Int) from (dj),show IntKind.wrap .u64 g=(↑g:Int) from (dj)])<|cE (Gc (nm 1) 8 t k l g a b d f) [1] [] fun ⟨x,x1⟩ _=>fE 2 x (bn 5 1 8 x1 (List.map B8 (be t 4++be k 1++be l 1++be g 2))) bx fun hc=>zE<|eh (e:=5) (n:=8) (c:=x1) (l:=be t 4++be k 1++be l 1++be g 2) 2 x (by (simp [cc];done))<|rT ((x,x1)) 9999 [2]
def bI (key:Bs) (t k l p c g:Nat) (pl:Bs):Bs:=eo k l g c++gl key (cK p c) (d9 t k l g) pl
theorem ms (key a c b:Bs) (h:a.length=12):(gl key a c b).length=b.length+16:=by
 unfold gl
 rw [List.length_append,fF,kP _ _ _ _ h]
theorem fi (key:Bs) (t k l p c g:Nat) (pl:Bs) (h:pl.length=224):(bI key t k l p c g pl).length=256:=by
 unfold bI
 rw [List.length_append,ja,ms _ _ _ _ (kl _ _),h]
theorem Gp (kb a kn kc b d f q r t k l p c g:Nat) (key pl:Bs) (s:kn=16∨kn=32) (h:kn=key.length) (i:kn≤kc) (j:224=pl.length) (w:t<4294967296) (m:1≤k) (o:k≤4) (u:l<256) (y:p<4294967296) (hc:c<18446744073709551616) (v:g<65536) :
 TT 400 #[sO kb a kn kc,mr t k l p c g,sO b d 224 f] [(q,.fa (BF (pO kb a) kn kc key)),(r,.fa (BF (pO b d) 224 f pl))] [] (fun _:Nat×Nat=>True) (fun x=>.returned (.tuple #[sA x.1 256 x.2,i64 0])) (fun _=>[]) (fun x=>[(x.1,.fa (BF (pA x.1) 256 x.2 (bI key t k l p c g pl)))]):=by
 unfold bI
 have z:=kl p c
 have ha:=oA t k l g
 have A:=ja k l g c
 have hs:=ms key (cK p c) (d9 t k l g) pl z
 refine iE func400<|bu [9999,2] 1 fun nm=>bv (vz (pO kb a) kn kc k s m o) [] []<|bj [0,0]<|bj [9999,0,2,2]<|cE (tw t k l p c g y hc) [] [] fun ⟨x,x1⟩ _=>zE<|cE (yW t k l p c g w (by omega) u v) [] [] fun ⟨x2,x3⟩ _=>zE<|cE (AG kb a kn kc x 0 x1 x2 0 8 x3 b d 224 f q x x2 r key (cK p c) (d9 t k l g) pl s h j i) [0,3,4,1] [] fun ⟨x4,x5⟩ _=>bj [0,0,2] ?_
 exact cE (Ge t k l p c g (by omega) u v hc) [] [] fun ⟨x6,x7⟩ _=>fE 6 x6 (bn 5 1 16 x7 (List.map B8 (eo k l g c))) bx fun hc1=>zE<|xV (dy x6 16 x7 x4 0 240 x5 (eo k l g c) (gl key (cK p c) (d9 t k l g) pl) (by omega)) [5] [6] (Views.less (.pr (bn 5 1 (224+16) x5 (List.map B8 (gl key (cK p c) (d9 t k l g) pl)))) ci Views.nil) fun ⟨x8,x9⟩ _=>fE 7 x8 (bn 5 1 (16+240) x9 (List.map B8 (eo k l g c++gl key (cK p c) (d9 t k l g) pl))) bx fun hc2=>zE<|eh (e:=5) (n:=16+240) (c:=x9) (l:=eo k l g c++gl key (cK p c) (d9 t k l g) pl) 7 x8 (by (simp;omega))<|rT ((x8,x9)) 9999 [7]
theorem xe (t k l p c g:Nat) (a:k<256) (b:l<256) (d:g<65536) (hc:c<18446744073709551616) :
 TT 265 #[mr t k l p c g] [] [] (fun _:Nat×Nat=>True) (fun x=>.returned (sA x.1 16 x.2)) (fun _=>[]) (fun x=>[(x.1,.fa (BF (pA x.1) 16 x.2 (eo k l g c)))]):=by
 unfold eo
 refine iE func265<|bu [9999,9999] 2 fun nm=>xE (gd (nm 1) 4 ([67,72,84,49])) [] [1] fun _ _=>bu [0,9999,0,9999,0,9999,0,9999] 1 fun nm1=>qE 2 (nm1 0) (.cl [u64 (IntKind.wrap .u64 k),u64 1,u64 (IntKind.wrap .u64 l),u64 1,u64 (IntKind.wrap .u64 g),u64 2,u64 c,u64 8] 25) (.cl [u64 k,u64 1,u64 l,u64 1,u64 g,u64 2,u64 c,u64 8] 25) (by rw [show IntKind.wrap .u64 k=(↑k:Int) from (dj),show IntKind.wrap .u64 l=(↑l:Int) from (dj),show IntKind.wrap .u64 g=(↑g:Int) from (dj)])<|cE (Ae (nm1 0) 8 k l g c a b d hc) [2] [] fun ⟨x,x1⟩ _=>fE 3 x (bn 5 1 12 x1 (List.map B8 (be k 1++be l 1++be g 2++be c 8))) bx fun hc1=>iI (nC (nm 1) 0 4 4 x 0 12 x1 ([67,72,84,49]) (be k 1++be l 1++be g 2++be c 8) (by omega) (by omega)) [1,3] [] (Views.same (by kernel_rfl) (Views.less (.pr (bn 5 1 12 x1 (List.map B8 (be k 1++be l 1++be g 2++be c 8)))) ci Views.nil)) fun ⟨x2,x3⟩ _=>fE 4 x2 (bn 5 1 (4+12) x3 (List.map B8 ([67,72,84,49]++(be k 1++be l 1++be g 2++be c 8)))) bx fun hc2=>zE<|eh (e:=5) (n:=4+12) (c:=x3) (l:=[67,72,84,49]++(be k 1++be l 1++be g 2++be c 8)) 4 x2 (by (simp [cc];done)) ?_
 exact rT ((x2,x3)) 9999 [4]
theorem rh (key a c b:Bs) (h:a.length=12):ee key a c ((gl key a c b).take b.length)=(gl key a c b).drop b.length:=by
 unfold gl
 have d:=fF key a b
 rw [List.take_append_of_le_length (by omega),List.drop_append_of_le_length (by omega),List.take_of_length_le (by omega),List.drop_of_length_le (by omega),List.nil_append]
theorem qG (key a c b:Bs):(gl key a c b).take b.length=ej key a b:=by
 unfold gl
 have d:=fF key a b
 rw [List.take_append_of_le_length (by omega),List.take_of_length_le (by omega)]
theorem vi (key:Bs) (t k l p c g:Nat) (pl:Bs):(bI key t k l p c g pl).drop 16=gl key (cK p c) (d9 t k l g) pl:=by
 unfold bI
 rw [List.drop_append_of_le_length (by rw [ja];exact Nat.le_refl _),List.drop_of_length_le (by rw [ja];exact Nat.le_refl _),List.nil_append]
theorem uQ (kb i kn kc d e s f t k l p c g:Nat) (key pl:Bs) (u:kn=16∨kn=32) (j:kn=key.length) (m:kn≤kc) (b:224=pl.length) (z:t<4294967296) (n:1≤k) (o:k≤4) (v:l<256) (A:p<4294967296) (hc:c<18446744073709551616) (w:g<65536) :
 TT 170 #[sO kb i kn kc,mr t k l p c g,sO d e 256 256] [(s,.fa (BF (pO kb i) kn kc key)),(f,.fa (BF (pO d e) 256 256 (bI key t k l p c g pl)))] [] (fun _:Nat=>True) (fun x=>.returned (.tuple #[sA x 224 224,i64 0])) (fun _=>[]) (fun x=>[(x,.cl (pl.map B8) 5)]):=by
 have y:=kl p c
 have ha:=oA t k l g
 have B:=ja k l g c
 have hs:=ms key (cK p c) (d9 t k l g) pl y
 have C:=fi key t k l p c g pl b.symm
 have h5:(!List.take 16 (List.drop 0 (bI key t k l p c g pl))==eo k l g c)=false:=by simp [bI,B]
 have D:(gl key (cK p c) (d9 t k l g) pl).length=240:=by rw [hs,← b]
 have h:List.take 240 (List.drop 16 (bI key t k l p c g pl))=gl key (cK p c) (d9 t k l g) pl:=by rw [vi,List.take_of_length_le (by omega)]
 have q:ee key (cK p c) (d9 t k l g) (List.take (240-16) (List.take 240 (List.drop 16 (bI key t k l p c g pl))))=List.drop (240-16) (List.take 240 (List.drop 16 (bI key t k l p c g pl))):=by have:=rh key (cK p c) (d9 t k l g) pl y;rw [← b] at this;rw [h];exact this
 have r:ej key (cK p c) (List.take (240-16) (List.take 240 (List.drop 16 (bI key t k l p c g pl))))=pl:=by have:=qG key (cK p c) (d9 t k l g) pl;rw [← b] at this;rw [h,this,pa]
 refine iE func170<|bu [9999,2] 1 fun nm=>bv (vz (pO kb i) kn kc k u n o) [] []<|bj [0,0]<|bj [9999,0,9999,2]<|cE (xe t k l p c g (by omega) v w hc) [] [] fun ⟨x,x1⟩ _=>zE<|cV (oX d e x 0 16 256 x1 f x (List.take 16 (List.drop 0 (bI key t k l p c g pl))) (eo k l g c)) [1,3] [] (Views.fact (a:=f) (BF (pO d e) 256 256 (bI key t k l p c g pl)) (by kernel_rfl) (cF 0 16 256) (Views.facts Views.nil)) fun _ _=>bK [2] (br h5 bt)<|bj [9999,0,2,2,9999]<|cE (tw t k l p c g A hc) [] [] ?_
 rintro ⟨x2,x3⟩ _
 exact zE<|cE (yW t k l p c g z (by omega) v w) [] [] fun ⟨x4,x5⟩ _=>zE<|cV (uF kb i kn kc x2 0 x3 x4 0 8 x5 d (e+16) 240 240 s x2 x4 f key (cK p c) (d9 t k l g) (List.take 240 (List.drop 16 (bI key t k l p c g pl))) u j (by (simp [part];omega)) (by omega) m q) [0,4,5,1] [] (Views.facts (Views.facts (Views.facts (Views.fact (a:=f) (BF (pO d e) 256 256 (bI key t k l p c g pl)) (by kernel_rfl) (cF 16 240 240) Views.nil)))) fun x6 _=>zE<|qE 6 x6 (.cl (List.map B8 (ej key (cK p c) (List.take (240-16) (List.take 240 (List.drop 16 (bI key t k l p c g pl)))))) 5) (.cl (List.map B8 pl) 5) (by rw [r])<|rT x6 9999 [6]
theorem xY (kb i kn kc b d r e t k l p c g:Nat) (key B:Bs) (s:kn=16∨kn=32) (j:kn=key.length) (m:kn≤kc) (z:256=B.length) (w:t<4294967296) (n:1≤k) (o:k≤4) (u:l<256) (y:p<4294967296) (hc:c<18446744073709551616) (v:g<65536)
 (q:B.take 16=eo k l g c) (f:¬ ee key (cK p c) (d9 t k l g) (List.take (240-16) (List.take 240 (List.drop 16 B)))=List.drop (240-16) (List.take 240 (List.drop 16 B))) :
 TT 170 #[sO kb i kn kc,mr t k l p c g,sO b d 256 256] [(r,.fa (BF (pO kb i) kn kc key)),(e,.fa (BF (pO b d) 256 256 B))] [] uT (fun _=>.returned (.tuple #[.slice none 0 0,i64 60])) (fun _=>[]) (fun _=>[]):=by
 have A:=kl p c
 have ha:=oA t k l g
 have C:=ja k l g c
 have h5:(!List.take 16 (List.drop 0 B)==eo k l g c)=false:=by rw [List.drop_zero,q];simp
 have h:240=(List.take 240 (List.drop 16 B)).length:=by rw [List.length_take,List.length_drop];omega
 refine iE func170<|bu [9999,2] 1 fun nm=>bv (vz (pO kb i) kn kc k s n o) [] []<|bj [0,0]<|bj [9999,0,9999,2]<|cE (xe t k l p c g (by omega) u v hc) [] [] fun ⟨x,x1⟩ _=>zE<|cV (oX b d x 0 16 256 x1 e x (List.take 16 (List.drop 0 B)) (eo k l g c)) [1,3] [] (Views.fact (a:=e) (BF (pO b d) 256 256 B) (by kernel_rfl) (cF 0 16 256) (Views.facts Views.nil)) fun _ _=>bK [2] (br h5 bt)<|bj [9999,0,2,2,9999]<|cE (tw t k l p c g y hc) [] [] ?_
 rintro ⟨x2,x3⟩ _
 exact zE<|cE (yW t k l p c g w (by omega) u v) [] [] fun ⟨x4,x5⟩ _=>zE<|cV (zA kb i kn kc x2 0 x3 x4 0 8 x5 b (d+16) 240 240 r x2 x4 e key (cK p c) (d9 t k l g) (List.take 240 (List.drop 16 B)) s j (by kernel_rfl) (by omega) h (by omega) (by omega) (by omega) m f) [0,4,5,1] [] (Views.facts (Views.facts (Views.facts (Views.fact (a:=e) (BF (pO b d) 256 256 B) (by kernel_rfl) (cF 16 240 240) Views.nil)))) fun _ _=>zE<|rT ()
theorem za {B:Bs} (h:B.take 4≠[67,72,84,49]):(!((⟨(List.take 4 (List.drop 0 B)).toArray⟩:ByteArray).toList==(⟨#[67,72,84,49]⟩:ByteArray).toList))=true:=by
 rw [Lib.toList_data,Lib.toList_data]
 simpa using h
theorem yR {B:Bs} (h:B.take 4=[67,72,84,49]):(!((⟨(List.take 4 (List.drop 0 B)).toArray⟩:ByteArray).toList==(⟨#[67,72,84,49]⟩:ByteArray).toList))=false:=by
 rw [Lib.toList_data,Lib.toList_data]
 simp [h]
theorem tY (b c a:Nat) (B:Bs) (f:256=B.length) (d:B.take 4≠[67,72,84,49]) :
 TT 44 #[sO b c 256 256] [(a,.fa (BF (pO b c) 256 256 B))] [] uT (fun _=>.returned (.tuple #[u8 0,u8 0,u16 0,u64 0,i64 100])) (fun _=>[]) (fun _=>[]):=by
 have e:=za d
 exact iE func44<|bj [0,0,9999]<|mK (fy a b c 4 256 (List.take 4 (List.drop 0 B))) [0] (Views.fact (a:=a) (BF (pO b c) 256 256 B) (by kernel_rfl) (cF 0 4 256) Views.nil)<|bK [1,0] (br e bt)<|rT ()
theorem HH (k:Nat) (h:k<256):be k 1=[UInt8.ofNat k]:=by
 simp [be]
 try omega
theorem vL (key:Bs) (t k l p c g:Nat) (pl:Bs):bI key t k l p c g pl=[67,72,84,49]++(be k 1++(be l 1++(be g 2++(be c 8++gl key (cK p c) (d9 t k l g) pl)))):=by
 simp [bI,eo]
theorem ru (b d a t k l p c g:Nat) (key pl:Bs) (e:224=pl.length) (hc:c<18446744073709551616) (f:g<65536) (h:1≤k:=by omega) (i:k≤4:=by omega) (j:l<256:=by omega) :
 TT 44 #[.slice (some ⟨b,d,none⟩) 256 256] [(a,.fa (BF (some ⟨b,d,none⟩) 256 256 (bI key t k l p c g pl)))] [] (fun _:Unit=>True) (fun _=>.returned (.tuple #[u8 (k:Int),u8 (l:Int),u16 (g:Int),u64 (c:Int),i64 0])) (fun _=>[]) (fun _=>[]):=by
 have m:=fi key t k l p c g pl e.symm
 have h0:=vL key t k l p c g pl
 rw [HH k (by omega),HH l j] at h0
 have n:=yR (B:=bI key t k l p c g pl) (by rw [h0];rfl)
 have h4:((bI key t k l p c g pl).getD 4 0).toNat=k:=by rw [h0];simp;omega
 have h5:((bI key t k l p c g pl).getD 5 0).toNat=l:=by rw [h0];simp;omega
 have o:b8 (List.take 2 (List.drop 6 (bI key t k l p c g pl)))=g:=by rw [h0];simp [List.take_append,List.drop_append,cc];exact gc g 2
 have q:b8 (List.take 8 (List.drop 8 (bI key t k l p c g pl)))=c:=by rw [h0];simp [List.take_append,List.drop_append,cc];exact gc c 8
 clear h0
 refine iE func44<|bj [0,0,9999]<|mK (fy a b d 4 256 (List.take 4 (List.drop 0 (bI key t k l p c g pl)))) [0] (Views.fact (a:=a) (BF (pO b d) 256 256 (bI key t k l p c g pl)) (by kernel_rfl) (cF 0 4 256) Views.nil)<|bK [2,9999] (br n bt)<|rE (dH (T:=5) a b d 256 256 4 (bI key t k l p c g pl)) [0]<|bK [2,9999] (br (show (decide ((↑(UInt8.toNat (List.getD (bI key t k l p c g pl) 4 0)):Int)<1))=false by (simp only [decide_eq_true_eq,decide_eq_false_iff_not];omega)) bt)<|rE (dH (T:=5) a b d 256 256 4 (bI key t k l p c g pl)) [0]<|bK [2,0,9999] (br (show (decide ((↑(UInt8.toNat (List.getD (bI key t k l p c g pl) 4 0)):Int)>4))=false by (simp only [decide_eq_true_eq,decide_eq_false_iff_not];omega)) bt)<|cV (gm b (d+6) 2 250 a (List.take 2 (List.drop 6 (bI key t k l p c g pl)))) [0] [] (Views.fact (a:=a) (BF (pO b d) 256 256 (bI key t k l p c g pl)) (by kernel_rfl) (cF 6 2 250) Views.nil) fun _ _=>bj [9999]<|cV (gm b (d+8) 8 248 a (List.take 8 (List.drop 8 (bI key t k l p c g pl)))) [0] [] (Views.fact (a:=a) (BF (pO b d) 256 256 (bI key t k l p c g pl)) (by kernel_rfl) (cF 8 8 248) Views.nil) ?_
 intro _ _
 exact zE<|bj [9999,0,9999]<|tE (B8 (List.getD (bI key t k l p c g pl) 4 0)) [0] [(a,.fa (BF (pO b d) 256 256 (bI key t k l p c g pl)))] (dH (T:=5) a b d 256 256 4 (bI key t k l p c g pl))<|bj [9999]<|tE (B8 (List.getD (bI key t k l p c g pl) 5 0)) [0] [(a,.fa (BF (pO b d) 256 256 (bI key t k l p c g pl)))] (dH (T:=5) a b d 256 256 5 (bI key t k l p c g pl))<|bj [9999]<|vE 2 (u8 ↑(UInt8.toNat (List.getD (bI key t k l p c g pl) 4 0))) (u8 k) (by rw [h4])<|vE 3 (u8 ↑(UInt8.toNat (List.getD (bI key t k l p c g pl) 5 0))) (u8 l) (by rw [h5])<|vE 4 (u16 (IntKind.wrap .u16 ↑(b8 (List.take 2 (List.drop 6 (bI key t k l p c g pl)))))) (u16 g) (by rw [o,yB rfl f])<|vE 5 (u64 ↑(b8 (List.take 8 (List.drop 8 (bI key t k l p c g pl))))) (u64 c) (by rw [q])<|rT ()
def mB:Bs:=[99,124,119,123,242,107,111,197,48,1,103,43,254,215,171,118,202,130,201,125,250,89,71,240,173,212,162,175,156,164,114,192,183,253,147,38,54,63,247,204,52,165,229,241,113,216,49,21,4,199,35,195,24,150,5,154,7,18,128,226,235,39,178,117,9,131,44,26,27,110,90,160,82,59,214,179,41,227,47,132,83,209,0,237,32,252,177,91,106,203,190,57,74,76,88,207,208,239,170,251,67,77,51,133,69,249,2,127,80,60,159,168,81,163,64,143,146,157,56,245,188,182,218,33,16,255,243,210,205,12,19,236,95,151,68,23,196,167,126,61,100,93,25,115,96,129,79,220,34,42,144,136,70,238,184,20,222,94,11,219,224,50,58,10,73,6,36,92,194,211,172,98,145,149,228,121,231,200,55,109,141,213,78,169,108,86,244,234,101,122,174,8,186,120,37,46,28,166,180,198,232,221,116,31,75,189,139,138,112,62,181,102,72,3,246,14,97,53,87,185,134,193,29,158,225,248,152,17,105,217,142,148,155,30,135,233,206,85,40,223,140,161,137,13,191,230,66,104,65,153,45,15,176,84,187,22]
theorem tq:cz=mB:=by decide +kernel
theorem zv (x:UInt8):mB.getD x.toNat 0=cv x:=by
 rw [← tq]
 have h:=x.toNat_lt
 unfold cz
 rw [List.getD_eq_getElem?_getD,List.getElem?_map,List.getElem?_range (by exact h)]
 simp
def v5 (k i:Nat) (v:Bs):Bs:=
 if i%k=0 then [mB.getD (v.getD 1 0).toNat 0^^^rc (i/k-1),mB.getD (v.getD 2 0).toNat 0,mB.getD (v.getD 3 0).toNat 0,mB.getD (v.getD 0 0).toNat 0] else if k=8∧i%8=4 then [mB.getD (v.getD 0 0).toNat 0,mB.getD (v.getD 1 0).toNat 0,mB.getD (v.getD 2 0).toNat 0,mB.getD (v.getD 3 0).toNat 0] else v
theorem ya (k i:Nat) (v:Bs):v5 k i v=fX k i v:=by
 unfold v5 fX
 simp only [zv]
def Ek (key:Bs) (k N:Nat):Nat→Bs
 | 0=>List.replicate (4*N) 0
 | i+1=>
  let L:=Ek key k N i
  if i<k then kN L (4*i) (key.getD (4*i) 0) (key.getD (4*i+1) 0) (key.getD (4*i+2) 0) (key.getD (4*i+3) 0)
  else gp L i k (v5 k i (w4 L (0+(i-1)*4))) 4
theorem xo (key:Bs) (k N:Nat):∀ i,Ek key k N i=wk key k N i
 | 0=>rfl
 | i+1=>by
  rw [Ek,wk,xo key k N i]
  simp only [ya]
def lQ:Bs:=[1,0,0,0,0,0,0,0,0,0,0,0,0,0,0,0]
def D7:Bs:=[1,0,0,0,0,0,0,0,0,0,0,0,0,0,0,0,99,99,99,99,99,99,99,99,99,99,99,99,99,99,99,99,154,152,152,152,249,251,251,251,154,152,152,152,249,251,251,251,145,151,151,1,104,108,108,250,242,244,244,98,11,15,15,153,239,225,121,42,135,141,21,208,117,121,225,178,126,118,238,43,199,201,136,217,64,68,157,9,53,61,124,187,75,75,146,144,84,134,232,106,20,194,117,99,33,255,9,216,106,180,155,72,153,146,186,104,141,80,207,11,172,175,198,211,198,27,93,155,182,222,174,220,59,142,97,215,151,33,167,4,81,58,250,159,45,243,117,13,22,125,20,218,129,92,179,222,208,102,73,65,40,200,246,125,62,181,226,167,191,233,81,121,111,143,24,56]
theorem Et:wk lQ 4 44 44=D7:=by
 rw [← xo]
 decide +kernel
theorem qk:∀ x:UInt8,fv 8 1 x 0=x:=jg (by decide +kernel)
theorem AP:∀ x:UInt8,fv 8 2 x 0=jz x:=jg (by decide +kernel)
theorem zV:∀ x:UInt8,fv 8 3 x 0=jz x^^^x:=jg (by decide +kernel)
def E1 (a b c d:UInt8):Nat→UInt8
 | 0=>jz a^^^(jz b^^^b)^^^c^^^d
 | 1=>a^^^jz b^^^(jz c^^^c)^^^d
 | 2=>a^^^b^^^jz c^^^(jz d^^^d)
 | _=>jz a^^^a^^^b^^^c^^^jz d
theorem CA (a b c d:UInt8) (i:Nat) (h:i<4):jl a b c d i=E1 a b c d i:=by
 obtain rfl | rfl | rfl | rfl:i=0∨i=1∨i=2∨i=3:=by omega
 · rw [show jl a b c d 0=0^^^fv 8 2 a 0^^^fv 8 3 b 0^^^fv 8 1 c 0^^^fv 8 1 d 0 by kernel_rfl,qk,qk,AP,zV,UInt8.zero_xor];rfl
 · rw [show jl a b c d 1=0^^^fv 8 1 a 0^^^fv 8 2 b 0^^^fv 8 3 c 0^^^fv 8 1 d 0 by kernel_rfl,qk,qk,AP,zV,UInt8.zero_xor];rfl
 · rw [show jl a b c d 2=0^^^fv 8 1 a 0^^^fv 8 1 b 0^^^fv 8 2 c 0^^^fv 8 3 d 0 by kernel_rfl,qk,qk,AP,zV,UInt8.zero_xor];rfl
 · rw [show jl a b c d 3=0^^^fv 8 3 a 0^^^fv 8 1 b 0^^^fv 8 1 c 0^^^fv 8 2 d 0 by kernel_rfl,qk,qk,AP,zV,UInt8.zero_xor];rfl
def Ff (s:Bs):Bs:=(List.range 16).map fun i=>E1 (s.getD (i/4*4) 0) (s.getD (i/4*4+1) 0) (s.getD (i/4*4+2) 0) (s.getD (i/4*4+3) 0) (i%4)
theorem CJ (s:Bs):ed s=Ff s:=List.map_congr_left fun i _=>CA _ _ _ _ _ (Nat.mod_lt _ (by decide))
def pY (T W b:Bs) (last:Nat):Nat→Bs
 | 0=>b
 | 1=>dI b ((W.drop 0).take 16) 16
 | j+2=>dI (if j+1<last then Ff (cw (cC (pY T W b last (j+1)) T 16)) else cw (cC (pY T W b last (j+1)) T 16)) ((W.drop (16*(j+1))).take 16) 16
theorem t4 (W b:Bs) (a:Nat):∀ j,pY cz W b a j=fI W b a j
 | 0=>rfl
 | 1=>rfl
 | j+2=>by rw [pY,fI,t4 W b a (j+1),← CJ]
theorem tS (b:Bs):cA lQ b=pY mB D7 b 10 11:=by
 rw [cA,if_pos (by decide),Et,hP,← t4,tq]
theorem FT:cA lQ (List.replicate 16 0)=[220,14,216,93,249,97,26,187,114,73,205,209,104,197,70,126]:=by
 rw [tS]
 decide +kernel
theorem mI:∀ (n t:Nat) (acc:Array Vl),∃ l:Bs,(Extern.BytealgMakeNoZero.digits n t acc).toList=acc.toList++l.map B8∧l.length=n
 | 0,_,acc=>⟨[],by simp [Extern.BytealgMakeNoZero.digits],rfl⟩
 | n+1,t,acc=>by
  obtain ⟨l,h1,h2⟩:=mI n (t/256) (acc.push (.int .u8 (Int.ofNat (t%256))))
  refine ⟨UInt8.ofNat (t%256)::l,?_,by simp [h2]⟩
  rw [Extern.BytealgMakeNoZero.digits,h1]
  have a:B8 (UInt8.ofNat (t%256)) = .int .u8 (Int.ofNat (t%256)):=by unfold B8;congr 1;simp
  simp [a]
theorem DL {P:Program} (w:World) (a:Array TypeId) (t e:TypeId) (b:P.underlying t=some (.slice e)) (n:Nat) (f:n≤1000000) :
 ∃ l:Bs,(Extern.BytealgMakeNoZero.makeNoZero a #[t] #[.int .i64 n]).run P w = .ok (sA w.heap.size n l.length) (w.drew.drew.alloc (.cells (l.map B8).toArray e))∧n≤l.length∧l.length≤maxLen:=by
 obtain ⟨cs,h1,h2,h3⟩:=Lib.run_makeNoZero (P:=P) w a t e b n (by omega)
 have k1:¬ (n:Int)<0:=by omega
 have c:¬ (281474976710656:Int)<(n:Int):=by omega
 have h4:∃ k,(Extern.BytealgMakeNoZero.makeNoZero a #[t] #[.int .i64 n]).run P w = .ok (sA w.heap.size n (grownCap w n 0 e)) (w.drew.drew.alloc (.cells (Extern.BytealgMakeNoZero.digits (grownCap w n 0 e) k #[]) e)):=by
  apply Exists.intro
  show Sem.run P (underlying t >>= _) w=_
  simp [run_underlying b,k1,c,Question.forced,newRow,Lib.size_digits,grownCap]
  rfl
 obtain ⟨k,h4⟩:=h4
 obtain ⟨l,h5,h6⟩:=mI (grownCap w n 0 e) k #[]
 have d:Extern.BytealgMakeNoZero.digits (grownCap w n 0 e) k #[]=(l.map B8).toArray:=by
  apply Array.toList_inj.1
  simpa using h5
 rw [d] at h4
 rw [h1] at h4
 injection h4 with e1 e2
 injection e1 with e3 e4 e5
 refine ⟨l,?_,by omega,by rw [h6,← e5];exact h3 (by simp only [maxLen];omega)⟩
 rw [h1,e2,h6,← e5]
theorem Fo (n:Nat) (d:n≤1000000):RunTri prog (callFunc 367 #[.int .i64 n]) [] [] (fun x:Nat×Bs=>n≤x.2.length∧x.2.length≤maxLen) (fun x=>sA x.1 n x.2.length) (fun _=>[]) (fun x=>[(x.1,.cl (x.2.map B8) 5)]):=by
 intro w ho
 obtain ⟨l,h1,h2,h3⟩:=DL (P:=prog) w #[3] 27 5 underlying27 n d
 have a:(callFunc 367 #[.int .i64 n]).run prog w=((Extern.BytealgMakeNoZero.makeNoZero #[3] #[27] #[.int .i64 n]) >>= fun v=>pure (.value v)).run prog w:=by kernel_rfl
 rw [a,Sem.run_bind,h1]
 refine ⟨_,_,⟨(w.heap.size,l),⟨h2,h3⟩,.inl rfl,?_,?_,?_⟩,rfl⟩
 · have c:Own [] w.drew.drew:=ho.heap rfl
   have:=c.app (.cells (l.map B8).toArray 5 (0,0)) (s:=.cl (l.map B8) 5) rfl
   exact this
 · exact ⟨rfl,rfl,rfl,by simp [World.alloc],fun b hb _=>by
    show (w.heap.push _)[b]?=_
    rw [Array.getElem?_push,if_neg (by omega)]⟩
 · intro b hb
   simp [lv,SB.live] at hb
   subst hb
   exact .inl (Nat.le_refl _)
theorem r5 (l:Bs):Lib.bytesOf (l.map fun x=>(x.toNat:Int))=l:=by
 unfold Lib.bytesOf
 rw [List.map_map]
 have:(fun n:Int=>UInt8.ofNat n.toNat)∘(fun x:UInt8=>(x.toNat:Int))=id:=by
  funext x;simp
 rw [this,List.map_id]
theorem nW {P:Program} {w:World} {A:Option Addr} {n c:Nat} {l:Bs} (h:Rd w A n c l):(Extern.Bytes.bytesOf (.slice A n c)).run P w = .ok ⟨l.toArray⟩ w:=by
 have f:(⟨ByteArray.empty.data++l.toArray⟩:ByteArray)=⟨l.toArray⟩:=by
  apply ByteArray.ext
  show (#[]:Array UInt8)++l.toArray=l.toArray
  simp
 by_cases h0:0<n
 · obtain ⟨b,o,rfl,hc⟩:=h.at_ h0
   have e:=Lib.run_loadBytesX (P:=P) w (l.map fun x=>(x.toNat:Int)) ⟨b,o,none⟩ .empty (fun j x hj=>by
    have d:j<l.length:=by simpa using (List.getElem?_eq_some_iff.1 hj).1
    rw [Addr.add_lit,hc j (by rw [h.len];exact d)]
    simp only [List.getElem?_map,List.getElem?_eq_getElem d,Option.map_some,Option.some.injEq] at hj
    subst hj
    simp [List.getD,List.getElem?_eq_getElem d])
   rw [r5,List.length_map,← h.len,f] at e
   exact e
 · obtain rfl:n=0:=by omega
   obtain rfl:l=[]:=List.eq_nil_of_length_eq_zero h.len.symm
   cases A with
   | none=>rfl
   | some a=>rfl
theorem rR {P:Program} {w:World} {A:Option Addr} {n c:Nat} {l:Bs} {a:Option Addr} {b d:Nat} {e:Bs} (h:Rd w A n c l) (f:Rd w a b d e) :
 (Extern.BytealgCompare.compare #[.slice A n c,.slice a b d]).run P w = .ok (.int .i64 (Lib.compareBytes l e)) w:=by
 change Sem.run P (do pure (goInt (Extern.BytealgCompare.cmp (← Extern.Bytes.bytesOf (.slice A n c)) (← Extern.Bytes.bytesOf (.slice a b d))))) w=_
 simp only [Sem.run_bind,nW h,nW f,Sem.run_pure,Result.andThen]
 rw [Lib.cmp_eq]
 rfl
theorem GF (a g n d c e:Nat) (A f:Option Addr) (l h:Bs):Reads prog (callFunc 364 #[.slice A n c,.slice f d e]) [(a,.fa (BF A n c l)),(g,.fa (BF f d e h))] (i64 (Lib.compareBytes l h)):=fun w _ hf=>by
 have b:(callFunc 364 #[.slice A n c,.slice f d e]).run prog w=((Extern.BytealgCompare.compare #[.slice A n c,.slice f d e]) >>= fun v=>pure (.value v)).run prog w:=by kernel_rfl
 rw [b,Sem.run_bind,rR (hf 0 a _ rfl) (hf 1 g _ rfl)]
 rfl
theorem ol (a g n b c d:Nat) (A e:Option Addr) (l f:Bs):Same 277 #[.slice A n c,.slice e b d] [(a,.fa (BF A n c l)),(g,.fa (BF e b d f))] (i64 (Lib.compareBytes l f)):=iE func277<|zE<|rE (GF a g n b c d A e l f) [0,1]<|zE<|rT ()
end Go.Proofs.YtlkeemedalncoaaGreat.En
namespace Go.Proofs.YtlkeemedalncoaaGreat.En
open Go Go.Proofs.YtlkeemedalncoaaGreat
open Go.ChangeMaps (setBlock)
section
def fW (bm:Nat) (es:Array MapEntry) (clock:Nat) (vs:List MapEntry) (o:Obj):Prop:=
 ∃ since,o = .mapIter (some bm) since ((vs.map (·.born)).toArray) clock∧since≤clock∧∀ x∈es.toList,x.born<since
variable {P:Program}
theorem fj {t kt et:TypeId} (f:P.underlying t=some (.map kt et)) (d:Nat) (e:Array MapEntry) (a:Nat) (hc:∀ x∈e.toList,x.born<a) :
 RunTri P (vS (Instr.range t (.map (some d)))) [(d,.ob (.map e a))] [] (fun _:Nat=>True) (fun b=>.pointer (pA b)) (fun _=>[]) (fun b=>[(b,.pr (fW d e a []))]):=by
 intro w ho
 obtain ⟨o,hb,c⟩:=ho.at_ 0 d _ rfl rfl
 have c:o = .map e a:=c
 subst c
 refine ⟨.value (.pointer (pA w.heap.size)),_,⟨w.heap.size,trivial,.inl rfl,iG (w1:=w) (s:=.pr (fW d e a [])) (o:=.mapIter (some d) a #[] a) ho rfl ⟨a,rfl,Nat.le_refl _,hc⟩ [] bH (fun k b s hk hs=>by simp at hk),jw (w1:=w) (w:=w) rfl ⟨rfl,rfl,rfl⟩ _,fun b hb=>?_⟩,ce ?_⟩
 · simp [lv,SB.live] at hb
   exact .inl (by omega)
 · simp only [Instr.range,run_underlying f w,getObj,Sem.run_bind,Sem.run,hb,Result.andThen,newObj]
   rfl
theorem el (ty:TypeId) (g d:Nat) (f:Array MapEntry) (a:Nat) (vs:List MapEntry) :
 RunTri P (vS (Instr.next (.pointer (pA g)) false ty)) [(d,.ob (.map f a))] [(g,.pr (fW d f a vs))] (fun x:Option MapEntry=>(x=none→∀ e∈f.toList,e.born∈vs.map (·.born))∧∀ e,x=some e→e∈f.toList∧e.born∉vs.map (·.born))
  (fun x=>match x with | none=>.tuple #[.bool false] | some e=>.tuple #[.bool true,e.key,e.val]) (fun x=>[(g,.pr (fW d f a (vs++x.toList)))]) (fun _=>[]):=by
 intro w ho
 obtain ⟨o,hb,j⟩:=ho.at_ 0 d _ rfl rfl
 have j:o = .map f a:=j
 subst j
 obtain ⟨o,hr,since,rfl,hsc,hold⟩:=ho.at_ 1 g _ rfl rfl
 have n:d≠g:=fun e=>ho.nd 0 1 d _ _ (by decide) rfl (by rw [e];rfl) rfl rfl
 rcases run_next_at (P:=P) w ty g d since a _ f a hr hb hold hsc with ⟨h0,hrun⟩ | ⟨e,he,w1,hw1,hrun⟩
 · refine ⟨_,w,⟨none,⟨fun _ e he=>?_,fun e he=>by cases he⟩,.inl rfl,?_,Fr.refl _ _,fun b hb=>by cases hb⟩,ce hrun⟩
   · have h1:leftOf f ((vs.map (·.born)).toArray) = #[]:=Array.eq_empty_of_size_eq_zero h0
     unfold leftOf at h1
     rw [Array.filter_eq_empty_iff] at h1
     have:=h1 e (by simpa using he)
     simp only [Bool.not_eq_true',Bool.not_eq_false] at this
     simpa using this
   · simpa using ho
 · have k:e∈f.toList∧e.born∉vs.map (·.born):=by
    unfold leftOf at he
    simp at he
    refine ⟨by simpa using he.1,?_⟩
    simpa using he.2
   have c:w1.heap=w.heap:=by rcases hw1 with rfl | rfl <;> rfl
   have m:g<w.heap.size:=dR hr
   refine ⟨_,_,⟨some e,⟨(fun h=>by cases h),(fun e' he'=>by injection he' with he';subst he';exact k)⟩,.inl rfl,?_,?_,fun b hb=>by cases hb⟩,ce hrun⟩
   · have l:Own ([(d,SB.ob (.map f a)),(g,.pr (fW d f a vs))].set 1 (g,.pr (fW d f a (vs++[e])))) (setBlock w1 g (.mapIter (some d) since (((vs.map (·.born)).toArray).push e.born) a)):=by
      refine ho.put (s:=.pr (fW d f a vs)) rfl rfl ⟨.mapIter (some d) since (((vs.map (·.born)).toArray).push e.born) a,?_,since,?_,hsc,hold⟩ (fun i hi=>?_)
      · simp [setBlock,c,Array.getElem?_setIfInBounds_self_of_lt,m]
      · simp
      · simp only [setBlock,c]
        rw [Array.getElem?_setIfInBounds_ne (Ne.symm hi)]
     simpa using l
   · refine ⟨?_,?_,?_,?_,fun b hb hM=>?_⟩
     · rcases hw1 with rfl | rfl <;> rfl
     · rcases hw1 with rfl | rfl <;> rfl
     · rcases hw1 with rfl | rfl <;> rfl
     · simp [setBlock,c]
     · have hi:g≠b:=fun e=>hM (by simp [lv,SB.live,e])
       simp only [setBlock,c]
       rw [Array.getElem?_setIfInBounds_ne hi]
theorem eH (d f:Nat) (c:Array MapEntry) (a:Nat) (vs:List MapEntry) (e:MapEntry) (g:e∈c.toList) (h:(c.toList.map (·.born)).Nodup) :
 Reads P (vS (Instr.entry (.pointer (pA d)))) [(f,.ob (.map c a)),(d,.pr (fW f c a (vs++[e])))] (.tuple #[e.key,e.val]):=by
 intro w hl _
 obtain ⟨o,hb,b⟩:=hl 0 f _ rfl rfl
 have b:o = .map c a:=b
 subst b
 obtain ⟨o,hr,since,rfl,hsc,hold⟩:=hl 1 d _ rfl rfl
 have i:((vs++[e]).map (·.born)).toArray=((vs.map (·.born)).toArray).push e.born:=by simp
 rw [i] at hr
 exact ce (run_entry_at (P:=P) w d f since _ c a e hr hb g h)
end
end Go.Proofs.YtlkeemedalncoaaGreat.En
