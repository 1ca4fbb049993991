/- TopHandles, part 11: no condition. -/
import Derived.Test.YtlkeemedalncoaaGreatP09
set_option linter.all false
set_option maxHeartbeats 16000000
set_option maxRecDepth 100000
namespace Go.Proofs.YtlkeemedalncoaaGreat.En
open Go Go.RowKit Go.Proofs.YtlkeemedalncoaaGreat Go.Proofs.Tryz
abbrev gu (l:Bs):Vl:=.string ⟨l.toArray⟩
abbrev eS:Bs→Vl:=fun l=>.string ⟨l.toArray⟩
theorem Gg (a b:Bs):((ByteArray.mk a.toArray)==(ByteArray.mk b.toArray))=decide (a=b):=by
 by_cases h:a=b
 · subst h
   rw [decide_eq_true rfl]
   exact (Go.MapKept.bytes_beq _ _).2 rfl
 · rw [decide_eq_false h,Bool.eq_false_iff]
   intro e
   have e:=(Go.MapKept.bytes_beq _ _).1 e
   injection e with e
   have:=congrArg Array.toList e
   simp at this
   exact h this
theorem vj {P:Program} {kt:TypeId} (a:P.underlying kt=some .string):KeyLaw P kt eS:=by
 refine ⟨fun e k w=>?_,fun k es l w h=>?_,fun k w=>?_⟩
 · unfold Instr.checkKey
   simp only [Sem.run_bind,run_underlying a w,Result.andThen]
   rfl
 · have key:∀ (es:List MapEntry) (l:List (Bs×Vl)) (i:Nat),es.map (fun e=>(e.key,e.val))=l.map (fun p=>(eS p.1,p.2))→Instr.findNow .string (eS k) es i=some (eV l k i):=by
    intro es
    induction es with
    | nil=>
     intro l i h
     cases l with
     | nil=>rfl
     | cons x l=>simp at h
    | cons e es ih=>
     intro l i h
     cases l with
     | nil=>simp at h
     | cons x l=>
      simp only [List.map_cons,List.cons.injEq,Prod.mk.injEq] at h
      obtain ⟨⟨h1,h2⟩,h3⟩:=h
      unfold Instr.findNow eV
      rw [h1]
      have hb:=Gg k x.1
      by_cases hkx:k=x.1
      · rw [decide_eq_true hkx] at hb
        subst hkx
        simp only [Instr.sameNow,hb,h2,if_true]
      · rw [decide_eq_false hkx] at hb
        simp [Instr.sameNow,hkx,hb,ih l (i+1) h3]
   unfold Instr.findKey
   simp only [Sem.run_bind,run_underlying a w,Result.andThen,key es l 0 h]
   rfl
 · unfold Instr.keyThatStays
   rw [if_pos (by unfold Instr.sameBits;exact (Go.MapKept.bytes_beq _ _).2 rfl)]
   rfl
section
variable {P:Program} {T kt et:TypeId} (ht:P.underlying T=some (.map kt et)) (hk:P.underlying kt=some .string)
include ht hk
theorem oh (r:Nat) (l:List (Bs×Vl)) (n:Bs) (v:Vl) (h:lk l n=some v):Reads P (vS (Instr.lookup T (.map (some r)) (.string ⟨n.toArray⟩) false)) [(r,.pr (bB eS l))] v:=fun w hl _=>by
 obtain ⟨o,h1,es,clock,rfl,h2,h3,h4⟩:=hl 0 r _ rfl rfl
 have a:=vj hk
 have b:=a.find n es.toList l w h2
 have hc:=a.chk es.isEmpty n w
 unfold lk at h
 cases hh:eV l n 0 with
 | none=>rw [hh] at h;cases h
 | some x=>
  obtain ⟨i,u⟩:=x
  rw [hh] at h
  injection h with h
  have h:u=v:=h
  subst h
  apply ce
  unfold Instr.lookup
  simp only [Sem.run_bind,run_underlying ht w,Result.andThen,getObj,Sem.run,h1,hc,b,hh,pure,eS] at *
  simp [Sem.run_bind,Result.andThen,Sem.run]
end
theorem xG {K:Type} {enc:K→Vl} {a:Array MapEntry} {k:K} {v:Vl} (h:a.toList.map (fun e=>(e.key,e.val))=[(k,v)].map (fun p=>(enc p.1,p.2))):∃ e,a.toList=[e]∧e.key=enc k∧e.val=v:=by
 cases hh:a.toList with
 | nil=>rw [hh] at h;cases h
 | cons e l=>
  rw [hh] at h
  cases l with
  | nil=>
   simp at h
   exact ⟨e,rfl,h.1,h.2⟩
  | cons x l=>simp at h
theorem oq (l:Bs) (k:Nat) (v:Nat) (b:l.getD k 0=UInt8.ofNat v) (h:v<256) (a:k<l.length:=by omega):b8 ((l.drop (k*1)).take 1)=v:=by
 rw [Nat.mul_one]
 have:(l.drop k).take 1=[UInt8.ofNat v]:=by
  rw [← b,List.getD_eq_getElem?_getD,List.getElem?_eq_getElem a,List.drop_eq_getElem_cons a]
  rfl
 rw [this]
 simp [b8]
 omega
abbrev fk (x:Int):List Vl:=[i64 x]
theorem IW (v:Nat) (a:v=1):Same 330 #[u64 v] [] (.bool true):=by
 refine cJ func330 (by kernel_rfl) fun w0 ho=>?_
 subst a
 exact bj [0]<|rT ()
theorem I5 (g d wb h:Nat) (b o c k a:Nat) (B:Bs) (v:Nat) (l:v=1) (m:224=B.length) (hc:224≤c) (n:k<224) (i:B.getD k 0=UInt8.ofNat v):TT 325 #[i64 1,.func (.func 330) #[] #[],bi g,bi d,bi wb,bi h] [(g,.cl (fk (-1)) 3),(h,.cl [sO b o 224 c] 27),(a,.fa (BF (pO b o) 224 c B))] [(d,.cl (fk (k:Int)) 3)] uT (fun _=>.returned (u64 v)) (fun _=>[(d,.cl (fk ((k+1:Nat):Int)) 3)]) (fun _=>[]):=by
 have f:v<256:=by omega
 have j:=oq B k v i f
 exact iE func325<|bK [0,0,0,3,2,0,1,3,3] (br (show (decide (1>IntKind.wrap .i64 (224-(↑k:Int))))=false by (simp only [eE,dP,d6,dK,dl,decide_eq_true_eq,decide_eq_false_iff_not];omega)) bt)<|vC 24 i64 (wI ((↑k:Int)+1) (k+1))<|rE (eY (t:=27) (e:=5) (k:=1) underlying27 b o 224 c k 1) []<|cV (gm b (o+k*1) 1 (c-k) a (List.take 1 (List.drop (k*1) B))) [2] [] (Views.fact (a:=a) (BF (pO b o) 224 c B) (by kernel_rfl) (cF (k*1) 1 (c-k)) Views.nil) fun _ _=>zE<|bv (IW (b8 (List.take 1 (List.drop (k*1) B))) (by omega)) [] []<|bj [0,3,3]<|qC 3 d (fun z9:Int=>(.cl [i64 z9] 3)) (wI ((↑k:Int)+1) (k+1))<|vE 8 (u64 ↑(b8 (List.take 1 (List.drop (k*1) B)))) (u64 v) (by rw [j];try rfl)<|rT ()
theorem I2 (c:Nat) (a b:Vl) (v:Nat) (d:v=0):Same 331 #[u64 v,bi c] [(c,.cl [u8 1,a,b] 261)] (.bool true):=by
 refine cJ func331 (by kernel_rfl) fun w0 ho=>?_
 subst d
 exact bj [0,9999]<|bv rD [] []<|zE<|rT ()
theorem IY (j g wb l:Nat) (b o c k a:Nat) (h:Nat) (d f:Vl) (B:Bs) (v:Nat) (p:v=0) (q:224=B.length) (hc:224≤c) (r:k<224) (m:B.getD k 0=UInt8.ofNat v):TT 325 #[i64 1,.func (.func 331) #[] #[bi h],bi j,bi g,bi wb,bi l] [(j,.cl (fk (-1)) 3),(l,.cl [sO b o 224 c] 27),(a,.fa (BF (pO b o) 224 c B)),(h,.cl [u8 1,d,f] 261)] [(g,.cl (fk (k:Int)) 3)] uT (fun _=>.returned (u64 v)) (fun _=>[(g,.cl (fk ((k+1:Nat):Int)) 3)]) (fun _=>[]):=by
 have i:v<256:=by omega
 have n:=oq B k v m i
 exact iE func325<|bK [0,0,0,4,2,0,1,4,4] (br (show (decide (1>IntKind.wrap .i64 (224-(↑k:Int))))=false by (simp only [eE,dP,d6,dK,dl,decide_eq_true_eq,decide_eq_false_iff_not];omega)) bt)<|vC 24 i64 (wI ((↑k:Int)+1) (k+1))<|rE (eY (t:=27) (e:=5) (k:=1) underlying27 b o 224 c k 1) []<|cV (gm b (o+k*1) 1 (c-k) a (List.take 1 (List.drop (k*1) B))) [2] [] (Views.fact (a:=a) (BF (pO b o) 224 c B) (by kernel_rfl) (cF (k*1) 1 (c-k)) Views.nil) fun _ _=>zE<|bv (I2 h d f (b8 (List.take 1 (List.drop (k*1) B))) (by omega)) [3] []<|bj [0,4,4]<|qC 4 g (fun z9:Int=>(.cl [i64 z9] 3)) (wI ((↑k:Int)+1) (k+1))<|vE 8 (u64 ↑(b8 (List.take 1 (List.drop (k*1) B)))) (u64 v) (by rw [n];try rfl)<|rT ()
theorem H4 (c:Nat) (a b:Vl) (v:Nat) (d:v=1):Same 333 #[u64 v,bi c] [(c,.cl [u8 1,a,b] 261)] (.bool true):=by
 refine cJ func333 (by kernel_rfl) fun w0 ho=>?_
 subst d
 exact bj [0]<|rT ()
theorem IR (j g wb l:Nat) (b o c k a:Nat) (h:Nat) (d f:Vl) (B:Bs) (v:Nat) (p:v=1) (q:224=B.length) (hc:224≤c) (r:k<224) (m:B.getD k 0=UInt8.ofNat v):TT 325 #[i64 1,.func (.func 333) #[] #[bi h],bi j,bi g,bi wb,bi l] [(j,.cl (fk (-1)) 3),(l,.cl [sO b o 224 c] 27),(a,.fa (BF (pO b o) 224 c B)),(h,.cl [u8 1,d,f] 261)] [(g,.cl (fk (k:Int)) 3)] uT (fun _=>.returned (u64 v)) (fun _=>[(g,.cl (fk ((k+1:Nat):Int)) 3)]) (fun _=>[]):=by
 have i:v<256:=by omega
 have n:=oq B k v m i
 exact iE func325<|bK [0,0,0,4,2,0,1,4,4] (br (show (decide (1>IntKind.wrap .i64 (224-(↑k:Int))))=false by (simp only [eE,dP,d6,dK,dl,decide_eq_true_eq,decide_eq_false_iff_not];omega)) bt)<|vC 24 i64 (wI ((↑k:Int)+1) (k+1))<|rE (eY (t:=27) (e:=5) (k:=1) underlying27 b o 224 c k 1) []<|cV (gm b (o+k*1) 1 (c-k) a (List.take 1 (List.drop (k*1) B))) [2] [] (Views.fact (a:=a) (BF (pO b o) 224 c B) (by kernel_rfl) (cF (k*1) 1 (c-k)) Views.nil) fun _ _=>zE<|bv (H4 h d f (b8 (List.take 1 (List.drop (k*1) B))) (by omega)) [3] []<|bj [0,4,4]<|qC 4 g (fun z9:Int=>(.cl [i64 z9] 3)) (wI ((↑k:Int)+1) (k+1))<|vE 8 (u64 ↑(b8 (List.take 1 (List.drop (k*1) B)))) (u64 v) (by rw [n];try rfl)<|rT ()
theorem Il (v:Nat) (a:v=0):Same 336 #[u64 v] [] (.bool true):=by
 refine cJ func336 (by kernel_rfl) fun w0 ho=>?_
 subst a
 exact bj [0]<|rT ()
theorem H6 (g d wb h:Nat) (b o c k a:Nat) (B:Bs) (v:Nat) (l:v=0) (m:224=B.length) (hc:224≤c) (n:k<224) (i:B.getD k 0=UInt8.ofNat v):TT 325 #[i64 1,.func (.func 336) #[] #[],bi g,bi d,bi wb,bi h] [(g,.cl (fk (-1)) 3),(h,.cl [sO b o 224 c] 27),(a,.fa (BF (pO b o) 224 c B))] [(d,.cl (fk (k:Int)) 3)] uT (fun _=>.returned (u64 v)) (fun _=>[(d,.cl (fk ((k+1:Nat):Int)) 3)]) (fun _=>[]):=by
 have f:v<256:=by omega
 have j:=oq B k v i f
 exact iE func325<|bK [0,0,0,3,2,0,1,3,3] (br (show (decide (1>IntKind.wrap .i64 (224-(↑k:Int))))=false by (simp only [eE,dP,d6,dK,dl,decide_eq_true_eq,decide_eq_false_iff_not];omega)) bt)<|vC 24 i64 (wI ((↑k:Int)+1) (k+1))<|rE (eY (t:=27) (e:=5) (k:=1) underlying27 b o 224 c k 1) []<|cV (gm b (o+k*1) 1 (c-k) a (List.take 1 (List.drop (k*1) B))) [2] [] (Views.fact (a:=a) (BF (pO b o) 224 c B) (by kernel_rfl) (cF (k*1) 1 (c-k)) Views.nil) fun _ _=>zE<|bv (Il (b8 (List.take 1 (List.drop (k*1) B))) (by omega)) [] []<|bj [0,3,3]<|qC 3 d (fun z9:Int=>(.cl [i64 z9] 3)) (wI ((↑k:Int)+1) (k+1))<|vE 8 (u64 ↑(b8 (List.take 1 (List.drop (k*1) B)))) (u64 v) (by rw [j];try rfl)<|rT ()
theorem HZ (v:Nat) (a:v=0):Same 339 #[u64 v] [] (.bool true):=by
 refine cJ func339 (by kernel_rfl) fun w0 ho=>?_
 subst a
 exact bj [0]<|rT ()
theorem Ih (g d wb h:Nat) (b o c k a:Nat) (B:Bs) (v:Nat) (l:v=0) (m:224=B.length) (hc:224≤c) (n:k<224) (i:B.getD k 0=UInt8.ofNat v):TT 325 #[i64 1,.func (.func 339) #[] #[],bi g,bi d,bi wb,bi h] [(g,.cl (fk (-1)) 3),(h,.cl [sO b o 224 c] 27),(a,.fa (BF (pO b o) 224 c B))] [(d,.cl (fk (k:Int)) 3)] uT (fun _=>.returned (u64 v)) (fun _=>[(d,.cl (fk ((k+1:Nat):Int)) 3)]) (fun _=>[]):=by
 have f:v<256:=by omega
 have j:=oq B k v i f
 exact iE func325<|bK [0,0,0,3,2,0,1,3,3] (br (show (decide (1>IntKind.wrap .i64 (224-(↑k:Int))))=false by (simp only [eE,dP,d6,dK,dl,decide_eq_true_eq,decide_eq_false_iff_not];omega)) bt)<|vC 24 i64 (wI ((↑k:Int)+1) (k+1))<|rE (eY (t:=27) (e:=5) (k:=1) underlying27 b o 224 c k 1) []<|cV (gm b (o+k*1) 1 (c-k) a (List.take 1 (List.drop (k*1) B))) [2] [] (Views.fact (a:=a) (BF (pO b o) 224 c B) (by kernel_rfl) (cF (k*1) 1 (c-k)) Views.nil) fun _ _=>zE<|bv (HZ (b8 (List.take 1 (List.drop (k*1) B))) (by omega)) [] []<|bj [0,3,3]<|qC 3 d (fun z9:Int=>(.cl [i64 z9] 3)) (wI ((↑k:Int)+1) (k+1))<|vE 8 (u64 ↑(b8 (List.take 1 (List.drop (k*1) B)))) (u64 v) (by rw [j];try rfl)<|rT ()
theorem IT (c d:Nat) (a b:Vl) (v:Nat) (h1:1≤v) (e:v≤32):Same 334 #[u64 v,bi c,bi d] [(c,.cl [u8 1,a,b] 261),(d,.cl (fk 0) 3)] (.bool true):=iE func334<|bj [0,1,9999]<|vC 9 i64 (nI v)<|bv (Da 0 v h1 e) [] []<|zE<|rT ()
theorem IQ (mb e k:Nat) (c d:Nat) (a b:Vl) (v:Nat) (h1:1≤v) (f:v≤32) (g:k+1+v≤224):Same 327 #[u64 v,bi mb,bi e] [(mb,.cl [.func (.func 334) #[] #[bi c,bi d]] 178),(e,.cl (fk (k:Int)) 3),(c,.cl [u8 1,a,b] 261),(d,.cl (fk 0) 3)] (.bool true):=iE func327<|bj [0]<|bv (IT c d a b v h1 f) [2,3] []<|bK [9999,1,1] (br (show (decide (IntKind.wrap .i64 v≤IntKind.wrap .i64 (IntKind.wrap .i64 (224-(↑k:Int))-1)))=true by (simp only [eE,dP,d6,dK,dl,decide_eq_true_eq,decide_eq_false_iff_not];omega)) bt)<|rT ()
theorem IS (mb l b wb m:Nat) (d o c k a:Nat) (h i:Nat) (f g:Vl) (B:Bs) (v:Nat) (h1:1≤v) (q:v≤32) (r:224=B.length) (hc:224≤c) (s:k+1+v≤224) (n:B.getD k 0=UInt8.ofNat v):TT 325 #[i64 1,.func (.func 327) #[] #[bi mb,bi b],bi l,bi b,bi wb,bi m] [(mb,.cl [.func (.func 334) #[] #[bi h,bi i]] 178),(l,.cl (fk (-1)) 3),(m,.cl [sO d o 224 c] 27),(a,.fa (BF (pO d o) 224 c B)),(h,.cl [u8 1,f,g] 261),(i,.cl (fk 0) 3)] [(b,.cl (fk (k:Int)) 3)] uT (fun _=>.returned (u64 v)) (fun _=>[(b,.cl (fk ((k+1:Nat):Int)) 3)]) (fun _=>[]):=by
 have j:v<256:=by omega
 have p:=oq B k v n j
 exact iE func325<|bK [1,0,0,6,2,0,2,6,6] (br (show (decide (1>IntKind.wrap .i64 (224-(↑k:Int))))=false by (simp only [eE,dP,d6,dK,dl,decide_eq_true_eq,decide_eq_false_iff_not];omega)) bt)<|vC 24 i64 (wI ((↑k:Int)+1) (k+1))<|rE (eY (t:=27) (e:=5) (k:=1) underlying27 d o 224 c k 1) []<|cV (gm d (o+k*1) 1 (c-k) a (List.take 1 (List.drop (k*1) B))) [3] [] (Views.fact (a:=a) (BF (pO d o) 224 c B) (by kernel_rfl) (cF (k*1) 1 (c-k)) Views.nil) fun _ _=>zE<|bv (IQ mb b k h i f g (b8 (List.take 1 (List.drop (k*1) B))) (by omega) (by omega) (by omega)) [0,6,4,5] []<|bj [0,6,6]<|qC 6 b (fun z9:Int=>(.cl [i64 z9] 3)) (wI ((↑k:Int)+1) (k+1))<|vE 8 (u64 ↑(b8 (List.take 1 (List.drop (k*1) B)))) (u64 v) (by rw [p];try rfl)<|rT ()
theorem HO (tb h b wb i:Nat) (d o c k a:Nat) (j m:Nat) (f g:Vl) (B:Bs) (v:Nat) (h1:1≤v) (q:v≤32) (r:224=B.length) (hc:224≤c) (s:k+1+v≤224) (u:B.getD k 0=UInt8.ofNat v):TT 326 #[.func (.func 334) #[] #[bi j,bi m],bi tb,bi b,bi h,bi i] [(tb,.cl [.func (.func 325) #[] #[bi h,bi b,bi wb,bi i]] 435),(h,.cl (fk (-1)) 3),(i,.cl [sO d o 224 c] 27),(a,.fa (BF (pO d o) 224 c B)),(j,.cl [u8 1,f,g] 261),(m,.cl (fk 0) 3)] [(b,.cl (fk (k:Int)) 3)] (fun _:Nat×Nat=>True) (fun x=>.returned (ck x.1 v x.2)) (fun _=>[(b,.cl (fk ((k+1+v:Nat):Int)) 3)]) (fun x=>[(x.1,.fa (BF (pA x.1) v x.2 ((B.drop (k+1)).take v)))]):=by
 have p:k+1+v-(k+1+v-v)=v:=by omega
 have e2:(k+1+v-v)*1=k+1:=by omega
 have w:v=((B.drop (k+1)).take v).length:=by rw [List.length_take,List.length_drop];omega
 refine iE func326<|bu [9999,0] 1 fun nm=>bv (IS (nm 0) h b wb i d o c k a j m f g B v h1 q r hc s u) [7,1,2,3,4,5] [6]<|bu [1,0,0,6,9999,6,9999,2,6,9999,6] 1 fun nm1=>vC 22 i64 (show IntKind.wrap .i64 (IntKind.wrap .i64 ((↑(k+1):Int)+IntKind.wrap .i64 v)-IntKind.wrap .i64 v)=(↑(k+1+v-v):Int) from (di (pF (di (eT rfl (di rfl (by omega)))) (di rfl (by omega)))))<|vC 23 i64 (show IntKind.wrap .i64 ((↑(k+1):Int)+IntKind.wrap .i64 v)=(↑(k+1+v):Int) from (di (eT rfl (di rfl (by omega)))))<|qC 6 b (fun z9:Int=>(.cl [i64 z9] 3)) (show IntKind.wrap .i64 ((↑(k+1):Int)+IntKind.wrap .i64 v)=(↑(k+1+v):Int) from (di (eT rfl (di rfl (by omega)))))<|rE (gR (t:=27) (e:=5) (k:=1) underlying27 d o 224 c (k+1+v-v) (k+1+v)) []<|iI (dY (nm1 0) d (o+(k+1+v-v)*1) (k+1+v-(k+1+v-v)) (c-(k+1+v-v)) a (List.take (k+1+v-(k+1+v-v)) (List.drop ((k+1+v-v)*1) B)) (by (simp [part];omega))) [3] [8] (Views.fact (a:=a) (BF (pO d o) 224 c B) (by kernel_rfl) (cF ((k+1+v-v)*1) (k+1+v-(k+1+v-v)) (c-(k+1+v-v))) Views.nil) fun ⟨x,x1⟩ _=>fE 9 x (bn 5 1 (k+1+v-(k+1+v-v)) x1 (List.map B8 (List.take (k+1+v-(k+1+v-v)) (List.drop ((k+1+v-v)*1) B)))) bx fun hc1=>zE ?_
 exact vE 6 (sA x (k+1+v-(k+1+v-v)) x1) (ck x v x1) (by rw [p];try rfl)<|qE 9 x (.pr (bn 5 1 (k+1+v-(k+1+v-v)) x1 (((B.drop ((k+1+v-v)*1)).take (k+1+v-(k+1+v-v))).map B8))) (.pr (bn 5 1 v x1 (((B.drop (k+1)).take v).map B8))) (by rw [p,e2])<|eh (e:=5) (n:=v) (c:=x1) (l:=(B.drop (k+1)).take v) 9 x w<|rT ((x,x1)) 9999 [9]
theorem I9 (v:Nat) (h1:1≤v) (a:v≤64):Same 338 #[u64 v] [] (.bool true):=iE func338<|bK [1] (br (dT ((↑v:Int)≤64)) bt)<|rT ()
theorem IG (mb a k:Nat) (v:Nat) (h1:1≤v) (b:v≤64) (c:k+1+v≤224):Same 327 #[u64 v,bi mb,bi a] [(mb,.cl [.func (.func 338) #[] #[]] 178),(a,.cl (fk (k:Int)) 3)] (.bool true):=iE func327<|bj [0]<|bv (I9 v h1 b) [] []<|bK [9999,1,1] (br (show (decide (IntKind.wrap .i64 v≤IntKind.wrap .i64 (IntKind.wrap .i64 (224-(↑k:Int))-1)))=true by (simp only [eE,dP,d6,dK,dl,decide_eq_true_eq,decide_eq_false_iff_not];omega)) bt)<|rT ()
theorem Iq (mb g b wb h:Nat) (d o c k a:Nat) (B:Bs) (v:Nat) (h1:1≤v) (l:v≤64) (m:224=B.length) (hc:224≤c) (n:k+1+v≤224) (i:B.getD k 0=UInt8.ofNat v):TT 325 #[i64 1,.func (.func 327) #[] #[bi mb,bi b],bi g,bi b,bi wb,bi h] [(mb,.cl [.func (.func 338) #[] #[]] 178),(g,.cl (fk (-1)) 3),(h,.cl [sO d o 224 c] 27),(a,.fa (BF (pO d o) 224 c B))] [(b,.cl (fk (k:Int)) 3)] uT (fun _=>.returned (u64 v)) (fun _=>[(b,.cl (fk ((k+1:Nat):Int)) 3)]) (fun _=>[]):=by
 have f:v<256:=by omega
 have j:=oq B k v i f
 exact iE func325<|bK [1,0,0,4,2,0,2,4,4] (br (show (decide (1>IntKind.wrap .i64 (224-(↑k:Int))))=false by (simp only [eE,dP,d6,dK,dl,decide_eq_true_eq,decide_eq_false_iff_not];omega)) bt)<|vC 24 i64 (wI ((↑k:Int)+1) (k+1))<|rE (eY (t:=27) (e:=5) (k:=1) underlying27 d o 224 c k 1) []<|cV (gm d (o+k*1) 1 (c-k) a (List.take 1 (List.drop (k*1) B))) [3] [] (Views.fact (a:=a) (BF (pO d o) 224 c B) (by kernel_rfl) (cF (k*1) 1 (c-k)) Views.nil) fun _ _=>zE<|bv (IG mb b k (b8 (List.take 1 (List.drop (k*1) B))) (by omega) (by omega) (by omega)) [0,4] []<|bj [0,4,4]<|qC 4 b (fun z9:Int=>(.cl [i64 z9] 3)) (wI ((↑k:Int)+1) (k+1))<|vE 8 (u64 ↑(b8 (List.take 1 (List.drop (k*1) B)))) (u64 v) (by rw [j];try rfl)<|rT ()
theorem If (tb f b wb g:Nat) (d o c k a:Nat) (B:Bs) (v:Nat) (h1:1≤v) (i:v≤64) (j:224=B.length) (hc:224≤c) (m:k+1+v≤224) (p:B.getD k 0=UInt8.ofNat v):TT 326 #[.func (.func 338) #[] #[],bi tb,bi b,bi f,bi g] [(tb,.cl [.func (.func 325) #[] #[bi f,bi b,bi wb,bi g]] 435),(f,.cl (fk (-1)) 3),(g,.cl [sO d o 224 c] 27),(a,.fa (BF (pO d o) 224 c B))] [(b,.cl (fk (k:Int)) 3)] (fun _:Nat×Nat=>True) (fun x=>.returned (ck x.1 v x.2)) (fun _=>[(b,.cl (fk ((k+1+v:Nat):Int)) 3)]) (fun x=>[(x.1,.fa (BF (pA x.1) v x.2 ((B.drop (k+1)).take v)))]):=by
 have h:k+1+v-(k+1+v-v)=v:=by omega
 have e2:(k+1+v-v)*1=k+1:=by omega
 have q:v=((B.drop (k+1)).take v).length:=by rw [List.length_take,List.length_drop];omega
 refine iE func326<|bu [9999,0] 1 fun nm=>bv (Iq (nm 0) f b wb g d o c k a B v h1 i j hc m p) [5,1,2,3] [4]<|bu [1,0,0,4,9999,4,9999,2,4,9999,4] 1 fun nm1=>vC 22 i64 (show IntKind.wrap .i64 (IntKind.wrap .i64 ((↑(k+1):Int)+IntKind.wrap .i64 v)-IntKind.wrap .i64 v)=(↑(k+1+v-v):Int) from (di (pF (di (eT rfl (di rfl (by omega)))) (di rfl (by omega)))))<|vC 23 i64 (show IntKind.wrap .i64 ((↑(k+1):Int)+IntKind.wrap .i64 v)=(↑(k+1+v):Int) from (di (eT rfl (di rfl (by omega)))))<|qC 4 b (fun z9:Int=>(.cl [i64 z9] 3)) (show IntKind.wrap .i64 ((↑(k+1):Int)+IntKind.wrap .i64 v)=(↑(k+1+v):Int) from (di (eT rfl (di rfl (by omega)))))<|rE (gR (t:=27) (e:=5) (k:=1) underlying27 d o 224 c (k+1+v-v) (k+1+v)) []<|iI (dY (nm1 0) d (o+(k+1+v-v)*1) (k+1+v-(k+1+v-v)) (c-(k+1+v-v)) a (List.take (k+1+v-(k+1+v-v)) (List.drop ((k+1+v-v)*1) B)) (by (simp [part];omega))) [3] [6] (Views.fact (a:=a) (BF (pO d o) 224 c B) (by kernel_rfl) (cF ((k+1+v-v)*1) (k+1+v-(k+1+v-v)) (c-(k+1+v-v))) Views.nil) fun ⟨x,x1⟩ _=>fE 7 x (bn 5 1 (k+1+v-(k+1+v-v)) x1 (List.map B8 (List.take (k+1+v-(k+1+v-v)) (List.drop ((k+1+v-v)*1) B)))) bx fun hc1=>zE ?_
 exact vE 6 (sA x (k+1+v-(k+1+v-v)) x1) (ck x v x1) (by rw [h];try rfl)<|qE 7 x (.pr (bn 5 1 (k+1+v-(k+1+v-v)) x1 (((B.drop ((k+1+v-v)*1)).take (k+1+v-(k+1+v-v))).map B8))) (.pr (bn 5 1 v x1 (((B.drop (k+1)).take v).map B8))) (by rw [h,e2])<|eh (e:=5) (n:=v) (c:=x1) (l:=(B.drop (k+1)).take v) 7 x q<|rT ((x,x1)) 9999 [7]
theorem ge (key val:Bs) (h2:key.length≤32) (h3:val.length≤64):224=(bw key val).length:=by
 have:=qi key val
 unfold bw
 rw [List.length_append,this,List.length_replicate]
 omega
theorem Be (key val:Bs) (h2:key.length≤32) (h3:val.length≤64) (k:Nat) (a:k=0) :
 (bw key val).getD k 0=UInt8.ofNat 1∧(bw key val).getD (k+1) 0=UInt8.ofNat 0∧(bw key val).getD (k+1+1) 0=UInt8.ofNat 1∧(bw key val).getD (k+1+1+1) 0=UInt8.ofNat key.length∧((bw key val).drop (k+1+1+1+1)).take key.length=key ∧
 (bw key val).getD (k+1+1+1+1+key.length) 0=UInt8.ofNat 0∧(bw key val).getD (k+1+1+1+1+key.length+1) 0=UInt8.ofNat val.length∧((bw key val).drop (k+1+1+1+1+key.length+1+1)).take val.length=val ∧
 ∀ j,k+1+1+1+1+key.length+1+1+val.length≤j→(bw key val).getD j 0=UInt8.ofNat 0:=by
 subst a
 have e:bw key val=[1,0,1,UInt8.ofNat key.length]++(key++([0,UInt8.ofNat val.length]++(val++List.replicate (224-(6+key.length+val.length)) 0))):=by simp [bw,iw]
 rw [e]
 refine ⟨rfl,rfl,rfl,rfl,?_,?_,?_,?_,fun j hj=>?_⟩
 · simp
 · rw [List.getD_eq_getElem?_getD,List.getElem?_append_right (by simp <;> omega),List.getElem?_append_right (by simp <;> omega)]
   simp
 · rw [List.getD_eq_getElem?_getD,List.getElem?_append_right (by simp <;> omega),List.getElem?_append_right (by simp <;> omega)]
   have:0+1+1+1+1+key.length+1 - [1,0,1,UInt8.ofNat key.length].length-key.length=1:=by simp;omega
   rw [this]
   rfl
 · have:0+1+1+1+1+key.length+1+1=4+(key.length+2):=by omega
   rw [this,← List.drop_drop]
   show (List.drop (key.length+2) (key++_)).take val.length=val
   rw [← List.drop_drop,List.drop_left]
   simp
 · rw [List.getD_eq_getElem?_getD,List.getElem?_append_right (by simp <;> omega),List.getElem?_append_right (by simp <;> omega),List.getElem?_append_right (by simp <;> omega),List.getElem?_append_right (by simp <;> omega),List.getElem?_replicate]
   split <;> rfl
theorem xu {b n c size:Nat} {e:TypeId} {xs:List Vl} (w:World) (h:At b (.pr (bn e size n c xs)) w):CF b 0 xs w:=by
 obtain ⟨o,h1,h2⟩:=h
 exact ⟨o,h1,ci o h2⟩
abbrev o6:Type:=(Nat×Nat)×(Nat×Nat)×(Nat×Nat)
theorem mT (b o c a:Nat) (key val:Bs) (hc:224≤c) (h1:1≤key.length) (h2:key.length≤32) (h0:1≤val.length) (h3:val.length≤64):TT 227 #[sO b o 224 c] [(a,.fa (BF (pO b o) 224 c (bw key val)))] [] (fun _:o6=>True) (fun x=>.returned (.tuple #[jj x.1.1 x.1.2,i64 0,i64 0])) (fun _=>[])
 (fun x=>[(x.1.1,.pr (bn 265 9 1 x.1.2 (cq x.2.1.1 key.length x.2.1.2 x.2.2.1 val.length x.2.2.2))),(x.2.1.1,.fa (BF (pA x.2.1.1) key.length x.2.1.2 key)),(x.2.2.1,.fa (BF (pA x.2.2.1) val.length x.2.2.2 val))]):=by
 have d:=ge key val h2 h3
 obtain ⟨k0,hk0⟩:∃ k0:Nat,k0=0:=⟨0,rfl⟩
 obtain ⟨s0,s1,s2,s3,s4,s5,s6,s7,s8⟩:=Be key val h2 h3 k0 hk0
 generalize bw key val=B at *
 refine iE func227<|bu [9999,1,0,0,3,4,5,6,7,6] 7 fun nm=>qE 3 (nm 2) (.cl [i64 0] 3) (.cl (fk (↑k0:Int)) 3) (by rw [hk0];try rfl)<|bv (I5 (nm 3) (nm 2) (nm 4) (nm 0) b o c k0 a B 1 (by kernel_rfl) d hc (by omega) s0) [4,1,0] [3]<|bj [9999,2,6]<|bv (IY (nm 3) (nm 2) (nm 4) (nm 0) b o c (k0+1) a (nm 1) (u8 0) (.slice none 0 0) B 0 (by kernel_rfl) d hc (by omega) s1) [4,1,0,2] [3]<|bj [9999,2,6]<|bv (IR (nm 3) (nm 2) (nm 4) (nm 0) b o c (k0+1+1) a (nm 1) (u8 0) (.slice none 0 0) B 1 (by kernel_rfl) d hc (by omega) s2) [4,1,0,2] [3]<|bu [8,2,8,9999,0,4,0,0] 2 fun nm1=>cE (HO (nm 5) (nm 3) (nm 2) (nm 4) (nm 0) b o c (k0+1+1+1) a (nm 1) (nm1 0) (u8 0) (.slice none 0 0) B key.length h1 h2 d hc (by omega) s3) [6,4,1,0,2,8] [3] fun ⟨x,x1⟩ _=>bj [9] ?_
 refine bj [9999,0,4,0,8,0,0,2,0,0,6]<|bv (H6 (nm 3) (nm 2) (nm 4) (nm 0) b o c (k0+1+1+1+1+List.length key) a B 0 (by kernel_rfl) d hc (by omega) s5) [4,1,0] [3]<|bj [0,0]<|cE (If (nm 5) (nm 3) (nm 2) (nm 4) (nm 0) b o c (k0+1+1+1+1+List.length key+1) a B val.length h0 h3 d hc (by omega) s6) [6,4,1,0] [3] fun ⟨x2,x3⟩ _=>bu [9,2,9,9999] 1 fun nm2=>xV (gZ (t:=259) (e:=265) (ty:=259) (k:=9) (by_:=104) (z:=.agg #[.slice none 0 0,.slice none 0 0,i64 0,u32 0,u64 0,u16 0,u32 0,u64 0,u16 0]) underlying259 (nm2 0) 0 1 1 ([sA x key.length x1,sA x2 val.length x3,i64 0,u32 0,u64 0,u16 0,u32 0,u64 0,u16 0])) [12] [] (Views.less (.cl [sA x key.length x1,sA x2 val.length x3,i64 0,u32 0,u64 0,u16 0,u32 0,u64 0,u16 0] 265) bA Views.nil) fun ⟨x4,x5⟩ _=>fE 13 x4 (bn 265 9 1 x5 [sA x key.length x1,sA x2 val.length x3,i64 0,u32 0,u64 0,u16 0,u32 0,u64 0,u16 0]) bx fun hc1=>bu [2,8,14,14,14,14,9999,0,0] 1 fun nm3=>qE 10 x (.fa (BF (pA x) key.length x1 ((B.drop (k0+1+1+1+1)).take key.length))) (.fa (BF (pA x) key.length x1 key)) (by rw [s4])<|qE 11 x2 (.fa (BF (pA x2) val.length x3 ((B.drop (k0+1+1+1+1+key.length+1+1)).take val.length))) (.fa (BF (pA x2) val.length x3 val)) (by rw [s7])<|wE [0,1,2,3,4,6,10,11,13] 1 [(a,.fa (BF (pO b o) 224 c B)),(nm 0,.cl [sO b o 224 c] 27),(nm 1,.cl [u8 1,u8 0,ck x4 1 x5] 261),(nm 2,.cl (fk ((k0+1+1+1+1+key.length+1+1+val.length:Nat):Int)) 3),(nm 3,.cl (fk (-1)) 3),(nm 5,.cl [.func (.func 325) #[] #[bi (nm 3),bi (nm 2),bi (nm 4),bi (nm 0)]] 435),(x,.fa (BF (pA x) key.length x1 key)),(x2,.fa (BF (pA x2) val.length x3 val)),(x4,.pr (bn 265 9 1 x5 (cq x key.length x1 x2 val.length x3)))] ?_
 refine cY (X:=Nat) (fun k=>k≤224∧k0+1+1+1+1+key.length+1+1+val.length≤k) (fun k=>224-k) 114 (fun k=>[(2,bi (nm 1)),(5,bi (nm 2)),(6,bi (nm 3)),(8,bi (nm 5))])
  (fun k=>[(a,.fa (BF (some ⟨b,o,none⟩) 224 c B)),(nm 0,.cl [.slice (some ⟨b,o,none⟩) 224 c] 27),(nm 1,.cl [u8 1,u8 0,ck x4 1 x5] 261),(nm 2,.cl (fk ((k:Nat):Int)) 3),(nm 3,.cl (fk (-1)) 3),(nm 5,.cl [.func (.func 325) #[] #[bi (nm 3),bi (nm 2),bi (nm 4),bi (nm 0)]] 435),(x,.fa (BF (some ⟨x,0,none⟩) key.length x1 key)),(x2,.fa (BF (some ⟨x2,0,none⟩) val.length x3 val)),(x4,.pr (bn 265 9 1 x5 (cq x key.length x1 x2 val.length x3)))]) (k0+1+1+1+1+key.length+1+1+val.length) (by kernel_rfl) ⟨by omega,Nat.le_refl _⟩ fun k u J hpre back=>?_
 obtain ⟨hk1,hk2⟩:k≤224∧k0+1+1+1+1+key.length+1+1+val.length≤k:=hpre
 rcases Nat.lt_or_ge k 224 with hlt | hge
 · have f:=s8 k hk2
   exact bK [4,0,3,1,0,5] (br (dT ((↑k:Int)<224)) bt)<|bv (Ih (nm 3) (nm 2) (nm 4) (nm 0) b o c k a B 0 (by kernel_rfl) d hc hlt f) [4,1,0] [3]<|zE<|back _ (k+1) (by omega) (by omega) (by kernel_rfl)
 · exact bK [4,0,3,2,0,4,0,0,2,2] (br (dF ((↑k:Int)<224)) bt)<|rT (((x4,x5),(x,x1),x2,x3)) 2 [8,6,7]
abbrev bV:Type:=List (Nat×Nat)
def cG (l:bV):List Vl:=l.flatMap fun r=>[.int .u32 r.1,.int .u32 r.2]
theorem kW (l:bV):(cG l).length=l.length*2:=by
 induction l with
 | nil=>rfl
 | cons r l ih=>simp only [cG,List.flatMap_cons] at ih ⊢;rw [List.length_append,ih];simp;omega
theorem sq (a b:bV):cG (a++b)=cG a++cG b:=by simp [cG]
theorem kR {l:bV} {i f t:Nat} (h:l[i]?=some (f,t)):(cG l)[i*2]?=some (.int .u32 f)∧(cG l)[i*2+1]?=some (.int .u32 t):=by
 induction l generalizing i with
 | nil=>simp at h
 | cons r l ih=>
  cases i with
  | zero=>simp at h;subst h;simp [cG]
  | succ i=>
   have:=ih (i:=i) (by simpa using h)
   simp only [cG,List.flatMap_cons] at this ⊢
   rw [show (i+1)*2=i*2+2 by omega]
   exact ⟨by simpa using this.1,by rw [show i*2+2+1=i*2+1+2 by omega];simpa using this.2⟩
def bN (A:Option Addr) (n c:Nat) (l:bV):World→Prop:=fun w=>n=l.length∧n≤c∧c≤maxLen∧(0<n→∃ b o,A=some ⟨b,o,none⟩∧CF b o (cG l) w)
theorem iv {A:Option Addr} {n c:Nat} {l:bV} (w:World) (h:bN A n c l w):n=l.length∧n≤c∧c≤maxLen:=⟨h.1,h.2.1,h.2.2.1⟩
theorem mY {A:Option Addr} {n c:Nat} {l:bV} (h0:0<n) (w:World) (h:bN A n c l w):∃ b o,A=some ⟨b,o,none⟩:=by
 obtain ⟨b,o,e,_⟩:=h.2.2.2 h0
 exact ⟨b,o,e⟩
theorem lf (a b o n c i f t:Nat) (l:bV) (h:l[i]?=some (f,t)):Reads prog (vS (Instr.loadAt 202 (.pointer (pO b (o+i*2))))) [(a,.fa (bN (pO b o) n c l))] (.agg #[.int .u32 f,.int .u32 t]):=fun w _ hf=>by
 obtain ⟨hn,_,_,h4⟩:=hf 0 a _ rfl
 have d:=cj h
 obtain ⟨b',o',e,ob,h1,h2⟩:=h4 (by omega)
 have g:b=b':=congrArg Addr.block (Option.some.inj e)
 have e2:o=o':=congrArg Addr.off (Option.some.inj e)
 subst g;subst e2
 obtain ⟨g1,g2⟩:=kR h
 have:=gI (P:=prog) (T:=202) h1 (c7 o (i*2) (us:=[.int .u32 f,.int .u32 t]) (fun j u hu=>by
  match j with
  | 0=>simp at hu;rw [← hu];exact g1
  | 1=>simp at hu;rw [← hu];exact g2
  | j+2=>simp at hu) ob h2) underlying202 rfl (by kernel_rfl)
 exact ce this
theorem rO (a b o n c f t:Nat) (l:bV) (h:l[0]?=some (f,t)):Reads prog (vS (Instr.loadAt 202 (.pointer (pO b o)))) [(a,.fa (bN (pO b o) n c l))] (.agg #[.int .u32 f,.int .u32 t]):=by
 have:=lf a b o n c 0 f t l h
 rwa [Nat.zero_mul,Nat.add_zero] at this
theorem rQ (a b o n c i f t:Nat) (l:bV) (h:l[i]?=some (f,t)):Reads prog (vS (Instr.loadAt 37 (.pointer (pO b (o+i*2))))) [(a,.fa (bN (pO b o) n c l))] (.int .u32 f):=fun w _ hf=>by
 obtain ⟨hn,_,_,h4⟩:=hf 0 a _ rfl
 have d:=cj h
 obtain ⟨b',o',e,ob,h1,h2⟩:=h4 (by omega)
 have g:b=b':=congrArg Addr.block (Option.some.inj e)
 have e2:o=o':=congrArg Addr.off (Option.some.inj e)
 subst g;subst e2
 exact ce (fD h1 (c7 o (i*2) (fG (kR h).1) ob h2) (fun w=>by kernel_rfl))
theorem C3 (a b o n c i f t:Nat) (l:bV) (h:l[i]?=some (f,t)):Reads prog (vS (Instr.loadAt 37 (.pointer (pO b (o+i*2+1))))) [(a,.fa (bN (pO b o) n c l))] (.int .u32 t):=fun w _ hf=>by
 obtain ⟨hn,_,_,h4⟩:=hf 0 a _ rfl
 have d:=cj h
 obtain ⟨b',o',e,ob,h1,h2⟩:=h4 (by omega)
 have g:b=b':=congrArg Addr.block (Option.some.inj e)
 have e2:o=o':=congrArg Addr.off (Option.some.inj e)
 subst g;subst e2
 have:=fD (P:=prog) (T:=37) h1 (c7 o (i*2+1) (fG (kR h).2) ob h2) (fun w=>by kernel_rfl)
 rw [← Nat.add_assoc] at this
 exact ce this
def ik (l:bV):Prop:=∀ (i:Nat) (r:Nat×Nat),l[i]?=some r→r.1<r.2∧∀ q:Nat×Nat,0<i→l[i-1]?=some q→q.2<r.1
theorem kF (A:Option Addr) (n c a:Nat) (l:bV) (g:ik l) (h:n≤100000) :
 TT 95 #[.slice A n c] [(a,.fa (bN A n c l))] [] uT (fun x=>.returned (.bool true)) (fun _=>[]) (fun _=>[]):=by
 refine iE func95<|fP 0 a (bN A n c l) iv fun ⟨hnl,hnc,hcm⟩=>?_
 rcases Nat.eq_zero_or_pos n with h0 | h0
 · subst h0
   exact bj [1,0,0]<|rT ()
 · refine fP 0 a (bN A n c l) (mY h0) fun ⟨b,o,hA⟩=>?_
   subst hA
   refine zE<|cY (X:=Nat) (fun i=>i≤n) (fun i=>n-i) 33 (fun i=>[(0,sO b o n c),(5,sO b o n c),(6,i64 n),(7,i64 i)]) (fun i=>[(a,.fa (bN (pO b o) n c l))]) 0 (by kernel_rfl) (Nat.zero_le _) fun i u J hi back=>?_
   have hi:i≤n:=hi
   by_cases hlt:i<n
   · have h1:decide ((i:Int)<(n:Int))=true:=decide_eq_true (by omega)
     obtain ⟨⟨f,t⟩,hr⟩:∃ r,l[i]?=some r:=⟨l[i],List.getElem?_eq_getElem (by omega)⟩
     obtain ⟨d,hpr⟩:=g i _ hr
     have d:f<t:=d
     have h2:decide ((f:Int)≥(t:Int))=false:=decide_eq_false (by omega)
     rcases Nat.eq_zero_or_pos i with hz | hz
     · have h3:decide ((i:Int)>0)=false:=decide_eq_false (by omega)
       exact bK [1,0] (br h1 bt)<|rE (bL (t:=194) (e:=202) (k:=2) underlying194 .i64 b o n c i hlt) []<|rE (lf a b o n c i f t l hr) [0]<|bu [1] 1 fun nm=>bK [9999,0,1,1,2,2,0] (br h3 (br h2 bt))<|vC 7 i64 (wI ((↑i:Int)+1) (i+1))<|wE [0] 1 [(a,.fa (bN (pO b o) n c l))]<|back _ (i+1) (by omega) (by omega) (by kernel_rfl)
     · have h3:decide ((i:Int)>0)=true:=decide_eq_true (by omega)
       obtain ⟨⟨f',t'⟩,hr'⟩:∃ r,l[i-1]?=some r:=⟨l[i-1],List.getElem?_eq_getElem (by omega)⟩
       have j:t'<f:=hpr _ hz hr'
       have h4:decide ((f:Int)≤(t':Int))=false:=decide_eq_false (by omega)
       refine bK [1,0] (br h1 bt)<|rE (bL (t:=194) (e:=202) (k:=2) underlying194 .i64 b o n c i hlt) []<|rE (lf a b o n c i f t l hr) [0]<|bu [1] 1 fun nm=>bK [9999,0,1,1,2,1,1] (br h3 (br h2 bt))<|vC 25 i64 (wI ((↑i:Int)-1) (i-1))<|tE (.pointer (pO b (o+(i-1)*2))) [] [] (bL (t:=194) (e:=202) (k:=2) underlying194 .i64 b o n c (i-1) (by omega))<|zE<|tE (u32 t') [0] [(a,.fa (bN (pO b o) n c l))] (C3 a b o n c (i-1) f' t' l hr')<|bK [2,0] (br h4 bt)<|vC 7 i64 (wI ((↑i:Int)+1) (i+1)) ?_
       exact wE [0] 1 [(a,.fa (bN (pO b o) n c l))]<|back _ (i+1) (by omega) (by omega) (by kernel_rfl)
   · have h1:decide ((i:Int)<(n:Int))=false:=decide_eq_false (by omega)
     exact bK [2,0] (br h1 bt)<|rT ()
theorem sU {t e ty:TypeId} (b:prog.underlying t=some (.slice e)) {k:Nat} (A B:Option Addr) (n c d:Nat) (f:(prog.info? e).map (·.size)=some k:=by kernel_rfl) (a:n≤c:=by omega) :
 Reads prog (vS (Builtin.append_ #[t,t] ty #[.slice A n c,.slice B 0 d])) [] (.slice A n c):=Reads.pure fun w=>by
 obtain ⟨i,hi,_⟩:=Option.map_eq_some_iff.1 f
 cases A <;> cases B <;> simp [Builtin.append_,run_underlying b,sizeOf,typeInfo,hi,Builtin.lenOf,Builtin.firstCells,loadCells,loadCellsFrom,a,storeCells]
theorem y5 {t e ty:TypeId} (a:prog.underlying t=some (.slice e)) {k:Nat} (b:(prog.info? e).map (·.size)=some k):Reads prog (vS (Builtin.append_ #[t,t] ty #[.slice none 0 0,.slice none 0 0])) [] (.slice none 0 0):=sU a none none 0 0 0 b (Nat.le_refl _)
def Ap (l:bV) (p:Nat):Prop:=∃ (i:Nat) (r:Nat×Nat),l[i]?=some r∧r.1≤p∧p<r.2
theorem Cb (A:Option Addr) (n c a p:Nat) (l:bV) (g:n≤100000) :
 TT 374 #[.slice A n c,.int .u32 p] [(a,.fa (bN A n c l))] [] (fun k:Nat=>k≤n∧∀ r,l[k]?=some r→p<r.2) (fun k=>.returned (i64 k)) (fun _=>[]) (fun _=>[]):=by
 refine iE func374<|fP 0 a (bN A n c l) iv fun ⟨hnl,hnc,hcm⟩=>?_
 rcases Nat.eq_zero_or_pos n with h0 | h0
 · subst h0
   have d:l=[]:=List.eq_nil_of_length_eq_zero hnl.symm
   subst d
   exact bj [1,0,0]<|rT 0 9999 [] rfl (by (simp;done))
 · refine fP 0 a (bN A n c l) (mY h0) fun ⟨b,o,hA⟩=>?_
   subst hA
   refine zE<|cY (X:=Nat) (fun i=>i≤n) (fun i=>n-i) 22 (fun i=>[(0,sO b o n c),(1,.int .u32 p),(7,sO b o n c),(8,i64 n),(9,i64 i)]) (fun i=>[(a,.fa (bN (pO b o) n c l))]) 0 (by kernel_rfl) (Nat.zero_le _) fun i u J hi back=>?_
   have hi:i≤n:=hi
   by_cases hlt:i<n
   · have h1:decide ((i:Int)<(n:Int))=true:=decide_eq_true (by omega)
     obtain ⟨⟨f,t⟩,hr⟩:∃ r,l[i]?=some r:=⟨l[i],List.getElem?_eq_getElem (by omega)⟩
     by_cases hpt:p<t
     · have h2:decide ((p:Int)<(t:Int))=true:=decide_eq_true (by omega)
       refine bK [1,0] (br h1 bt)<|rE (bL (t:=194) (e:=202) (k:=2) underlying194 .i64 b o n c i hlt) []<|rE (lf a b o n c i f t l hr) [0]<|fe [1,1,1,0] 1 _ (br h2 bt) fun nm=>⟨by kernel_rfl,?_⟩
       -- φ
       exact rT i 9999 [] rfl ⟨hi,fun r hr2=>by rw [hr] at hr2;injection hr2 with hr2;rw [← hr2];exact hpt⟩
     · have h2:decide ((p:Int)<(t:Int))=false:=decide_eq_false (by omega)
       refine bK [1,0] (br h1 bt)<|rE (bL (t:=194) (e:=202) (k:=2) underlying194 .i64 b o n c i hlt) []<|rE (lf a b o n c i f t l hr) [0]<|fe [1,1,2,0] 1 _ (br h2 bt) fun nm=>⟨by kernel_rfl,?_⟩
       exact vC 9 i64 (wI ((↑i:Int)+1) (i+1))<|wE [0] 1 [(a,.fa (bN (pO b o) n c l))]<|back _ (i+1) (by omega) (by omega) (by kernel_rfl)
   · have h1:decide ((i:Int)<(n:Int))=false:=decide_eq_false (by omega)
     refine bK [2,0] (br h1 bt) ?_
     -- φ
     exact rT n 9999 [] rfl ⟨Nat.le_refl _,fun r hr2=>by rw [List.getElem?_eq_none (by omega)] at hr2;cases hr2⟩
theorem uw (A:Option Addr) (n c a p:Nat) (l:bV) (j:ik l) (i:n≤100000) (d:¬ Ap l p) :
 TT 294 #[.slice A n c,.int .u32 p] [(a,.fa (bN A n c l))] [] uT (fun _=>.returned (.tuple #[.bool false,i64 0])) (fun _=>[]) (fun _=>[]):=by
 refine iE func294<|fP 0 a (bN A n c l) iv fun ⟨hnl,hnc,hcm⟩=>zE<|bv (kF A n c a l j i) [0] []<|bj [0]<|cE (Cb A n c a p l i) [0] [] fun x ⟨hx,hx1⟩=>zE ?_
 by_cases hxn:x<n
 · have h1:decide ((x:Int)<(n:Int))=true:=decide_eq_true (by omega)
   obtain ⟨⟨f,t⟩,hr⟩:∃ r,l[x]?=some r:=⟨l[x],List.getElem?_eq_getElem (by omega)⟩
   have m:p<f:=by
    have g:p<t:=hx1 _ hr
    rcases Nat.lt_or_ge p f with h | h
    · exact h
    · exact absurd ⟨x,_,hr,h,g⟩ d
   have h2:decide ((p:Int)≥(f:Int))=false:=decide_eq_false (by omega)
   refine fP 0 a (bN A n c l) (mY (by omega)) fun ⟨b,o,hA⟩=>?_
   subst hA
   exact bK [1] (br h1 bt)<|rE (bL (t:=194) (e:=202) (k:=2) underlying194 .i64 b o n c x hxn) []<|zE<|rE (rQ a b o n c x f t l hr) [0]<|bK [2] (br h2 bt)<|rT ()
 · have h1:decide ((x:Int)<(n:Int))=false:=decide_eq_false (by omega)
   exact bK [2] (br h1 bt)<|rT ()
theorem Cx (f t:Nat) (h:t≤f):TT 296 #[.int .u32 f,.int .u32 t] [] [] uT (fun _=>.returned (.slice none 0 0)) (fun _=>[]) (fun _=>[]):=by
 have h1:decide ((f:Int)≥(t:Int))=true:=decide_eq_true (by omega)
 exact iE func296<|bK [1,0] (br h1 bt)<|rT ()
theorem pK (f t:Nat) (h:f<t):TT 296 #[.int .u32 f,.int .u32 t] [] [] (fun _:Nat=>True) (fun x=>.returned (sA x 1 1)) (fun _=>[]) (fun x=>[(x,.cl [.int .u32 f,.int .u32 t] 202)]):=by
 have h1:decide ((f:Int)≥(t:Int))=false:=decide_eq_false (by omega)
 refine iE func296<|fe [2,0,9999,9999] 1 _ (br h1 bt) fun nm=>⟨by kernel_rfl,?_⟩
 exact rT (nm 0) 9999 [0]
theorem GH {K:Nat→Prop} {w:World} {b off:Nat} {vs:List Vl} (h:Stab K (CF b off vs) w):K b:=by
 apply Classical.byContradiction
 intro hb
 have h1:=h {w with heap:=w.heap.setIfInBounds b (.map #[] 0)} (fun b' hb'=>by
  have:b'≠b:=fun e=>hb (e▸hb')
  rw [Array.getElem?_setIfInBounds_ne (Ne.symm this)])
 obtain ⟨o,h2,cur,e,fr,h3,_⟩:=h1
 subst h3
 rcases Nat.lt_or_ge b w.heap.size with hl | hl
 · simp [hl] at h2
 · simp [hl,Array.getElem?_eq_none hl] at h2
theorem Aq {P:Program} {s:Sem Next} {b off a:Nat} {vs:List Vl} {HW:HP} {X:Type} {φ:X→Prop} {v:X→Vl} {HW' HN:X→HP} (h:RunTri P s [(b,.pr (bG off vs))] HW φ v HW' HN) (k:∀ x,de HW (HW' x)) (d:∀ x,φ x→noFa (HW' x++HN x)=true) :
 gq P s [(a,.fa (CF b off vs))] HW φ v HW' HN:=by
 intro K w ho hk
 have f:=hk.fac 0 a _ rfl
 have hb:=hk.off b (GH f)
 obtain ⟨o,ho1,ho2⟩:=f.now
 have e:lv ([(a,SB.fa (CF b off vs))]++HW)=lv HW:=by rw [cy];rfl
 rw [e] at hb
 have c:Own ([(b,.pr (bG off vs))]++HW) w:=by
  constructor
  · intro i j c' s' t hij hi hj hs ht
    cases i with
    | zero=>
     cases j with
     | zero=>exact hij rfl
     | succ j=>
      simp at hi hj
      obtain ⟨rfl,rfl⟩:=hi
      exact hb.2 (da hj ht)
    | succ i=>
     cases j with
     | zero=>
      simp at hi hj
      obtain ⟨rfl,rfl⟩:=hj
      exact hb.2 (da hi hs)
     | succ j=>
      exact ho.nd (i+1) (j+1) c' s' t hij (by simpa using hi) (by simpa using hj) hs ht
  · intro j c' s' hj hs
    cases j with
    | zero=>
     simp at hj
     obtain ⟨rfl,rfl⟩:=hj
     exact ⟨o,ho1,ho2⟩
    | succ j=>exact ho.at_ (j+1) c' s' (by simpa using hj) hs
 obtain ⟨nx,w',⟨x,h1,h2,h3,h4,h5⟩,hr⟩:=h w c
 obtain ⟨h6,h7⟩:=hk.calls h4 (k x) h5 (d x h1)
 refine ⟨nx,w',⟨x,K,h1,h2,?_,h4,h5,h6,h7⟩,hr⟩
 constructor
 · intro i j c' s' t hij hi hj hs ht
   have g:∀ (i:Nat) (c':Nat) (s':SB),([(a,SB.fa (CF b off vs))]++HW' x++HN x)[i]?=some (c',s')→s'.live=true→([(b,SB.pr (bG off vs))]++HW' x++HN x)[i]?=some (c',s'):=by
    intro i c' s' hi hs
    cases i with
    | zero=>simp at hi;obtain ⟨rfl,rfl⟩:=hi;cases hs
    | succ i=>simpa using hi
   exact h3.nd i j c' s' t hij (g i c' s' hi hs) (g j c' t hj ht) hs ht
 · intro j c' s' hj hs
   cases j with
   | zero=>simp at hj;obtain ⟨rfl,rfl⟩:=hj;cases hs
   | succ j=>exact h3.at_ (j+1) c' s' (by simpa using hj) hs
theorem qF (l:bV):(cG l).all (fun u=>u.oneCell')=true:=by
 induction l with
 | nil=>rfl
 | cons r l ih=>simp only [cG,List.flatMap_cons] at ih ⊢;rw [List.all_append,ih];rfl
theorem Em (b n c0 d o m c a:Nat) (xs ys:bV) (g:ys.length=m) (i:n≤1000000) (j:m≤1000000) (h0:0<m) :
 gq prog (vS (Builtin.append_ #[194,194] 194 #[sA b n c0,sO d o m c])) [(a,.fa (CF d o (cG ys)))] [(b,.pr (bn 202 2 n c0 (cG xs)))] (fun _:Nat×Nat=>True) (fun y=>sA y.1 (n+m) y.2) (fun _=>[(b,.dead)]) (fun y=>[(y.1,.pr (bn 202 2 (n+m) y.2 (cG (xs++ys))))]):=by
 have f:(n+m)*8≤140737488355328:=by omega
 have:=gw (P:=prog) (t:=194) (e:=202) (ty:=194) (k:=2) (by_:=8) (z:=.agg #[.int .u32 0,.int .u32 0]) underlying194 _ (b,_) n (cG xs) (SlE.row 202 2 n (cG xs) b c0) d o m c (cG ys) (by rw [kW,g]) (lJ (qF ys)) (i7) (by kernel_rfl) (by kernel_rfl) (by kernel_rfl) (by omega) f
 rw [← sq] at this
 exact Aq this (fun _=>bD bH (by intro h;cases h)) (fun _ _=>rfl)
theorem Cw (b c0 d o m c a f t:Nat) (ys:bV) (e:ys.length=m) (g:m≤1000000) (h0:0<m) :
 gq prog (vS (Builtin.append_ #[194,194] 194 #[sA b 1 c0,sO d o m c])) [(a,.fa (CF d o (cG ys)))] [(b,.pr (bn 202 2 1 c0 [.int .u32 f,.int .u32 t]))] (fun _:Nat×Nat=>True) (fun y=>sA y.1 (1+m) y.2) (fun _=>[(b,.dead)]) (fun y=>[(y.1,.pr (bn 202 2 (1+m) y.2 (cG ((f,t)::ys))))]):=
 Em b 1 c0 d o m c a [(f,t)] ys e (by omega) g h0
theorem BU (b o m c a:Nat) (ys:bV) (d:ys.length=m) (f:m≤1000000) (h0:0<m) :
 gq prog (vS (Builtin.append_ #[194,194] 194 #[.slice none 0 0,sO b o m c])) [(a,.fa (CF b o (cG ys)))] [] (fun _:Nat×Nat=>True) (fun y=>sA y.1 m y.2) (fun _=>[]) (fun y=>[(y.1,.pr (bn 202 2 m y.2 (cG ys)))]):=by
 have:=kS (P:=prog) (t:=194) (e:=202) (ty:=194) (k:=2) (by_:=8) (z:=.agg #[.int .u32 0,.int .u32 0]) underlying194 b o m c (cG ys) (by rw [kW,d]) (lJ (qF ys)) (i7) h0
 exact Aq this (fun _=>bH) (fun _ _=>rfl)
theorem pE {b n c:Nat} {l:bV} (a:n=l.length) (w:World) (h:At b (.pr (bn 202 2 n c (cG l))) w):bN (pA b) n c l w:=by
 obtain ⟨o,h1,h2⟩:=h
 obtain ⟨cur,e,h3,h4,h5,h6⟩:=h2
 exact ⟨a,h5,h6,fun _=>⟨b,0,rfl,o,h1,ci o ⟨cur,e,h3,h4,h5,h6⟩⟩⟩
theorem te {b o n c:Nat} {r:Nat×Nat} {l:bV} (w:World) (h:bN (pO b o) n c (r::l) w):CF b (o+1*2) (cG l) w:=by
 obtain ⟨hn,_,_,h4⟩:=h
 obtain ⟨b',o',e,ob,h1,h2⟩:=h4 (by rw [hn];simp)
 have a:b=b':=congrArg Addr.block (Option.some.inj e)
 have e2:o=o':=congrArg Addr.off (Option.some.inj e)
 subst a;subst e2
 refine ⟨ob,h1,c7 o (1*2) (fun j u hu=>?_) ob h2⟩
 rw [show 1*2+j=j+2 by omega]
 simpa [cG] using hu
def bS:bV→bV
 | []=>[]
 | (f,t)::l=>if f+1<t then (f+1,t)::l else l
theorem BH (b o n c a f t:Nat) (l:bV) (d:ik ((f,t)::l)) (g:n≤100000) (h1:f+1<t) (h2:0<l.length) (i:f<4294967295) :
 TT 460 #[sO b o n c] [(a,.fa (bN (pO b o) n c ((f,t)::l)))] [] (fun _:Nat×Nat=>True) (fun x=>.returned (.tuple #[.int .u32 f,sA x.1 n x.2,i64 0])) (fun _=>[]) (fun x=>[(x.1,.fa (bN (pA x.1) n x.2 ((f+1,t)::l)))]):=by
 refine iE func460<|fP 0 a (bN (pO b o) n c ((f,t)::l)) iv fun ⟨hnl,hnc,hcm⟩=>?_
 rw [List.length_cons] at hnl
 refine fq [0] [bN (pO b o) n c ((f,t)::l)] (CF b (o+1*2) (cG l)) (fun w h=>te w (h 0 _ rfl)) ?_
 have hr:((f,t)::l)[0]?=some (f,t):=rfl
 have h3:((n:Int)==0)=false:=by simp;omega
 refine zE<|bv (kF (pO b o) n c a ((f,t)::l) d g) [0] []<|bK [0,2,0] (br h3 bt)<|rE (bL (t:=194) (e:=202) (k:=2) underlying194 .i64 b o n c 0 (by omega)) []<|rE (lf a b o n c 0 f t ((f,t)::l) hr) [0]<|bu [2,2,2] 1 fun nm=>vC 18 u32 (An ((↑f:Int)+1) (f+1))<|cE (pK (f+1) t h1) [] [] fun x _=>xV (gZ (t:=194) (e:=202) (ty:=194) (k:=2) (by_:=8) (z:=.agg #[u32 0,u32 0]) underlying194 x 0 1 1 ([u32 ↑(f+1),u32 t])) [3] [] (Views.less (.cl [u32 ↑(f+1),u32 t] 202) bA Views.nil) fun ⟨x1,x2⟩ _=>fE 4 x1 (bn 202 2 1 x2 [u32 ↑(f+1),u32 t]) bx fun hc=>zE ?_
 exact bj [9999,16,2]<|tW (sO b (o+1*2) (n-1) (c-1)) (kD (t:=194) (e:=202) (k:=2) underlying194 b o n c 1 hnc)<|zE<|xK (Cw x1 x2 b (o+1*2) (n-1) (c-1) 0 (f+1) t l (by omega) (by omega) (by omega)) [1] [4] fun ⟨x3,x4⟩ _=>zE<|vE 3 (sA x3 (1+(n-1)) x4) (sA x3 n x4) (by rw [show 1+(n-1)=n by omega];try rfl)<|ip 5 x3 (.pr (bn 202 2 (1+(n-1)) x4 (cG ((f+1,t)::l)))) (bN (pA x3) n x4 ((f+1,t)::l)) (fun w h=>by rw [show 1+(n-1)=n by omega] at h;exact pE (by simp;omega) w h)<|rT ((x3,x4)) 9999 [5]
theorem Cz (b o n c a f t:Nat) (d:ik [(f,t)]) (h1:f+1<t) (g:f<4294967295) :
 TT 460 #[sO b o 1 c] [(a,.fa (bN (pO b o) 1 c [(f,t)]))] [] (fun _:Nat×Nat=>True) (fun x=>.returned (.tuple #[.int .u32 f,sA x.1 1 x.2,i64 0])) (fun _=>[]) (fun x=>[(x.1,.fa (bN (pA x.1) 1 x.2 [(f+1,t)]))]):=by
 refine iE func460<|fP 0 a (bN (pO b o) 1 c [(f,t)]) iv fun ⟨hnl,hnc,hcm⟩=>?_
 have hr:[(f,t)][0]?=some (f,t):=rfl
 refine zE<|bv (kF (pO b o) 1 c a ([(f,t)]) d (by omega)) [0] []<|bj [0,0,0,9999]<|rE (rO a b o 1 c f t ([(f,t)]) hr) [0]<|bu [1,1,1] 1 fun nm=>vC 18 u32 (An ((↑f:Int)+1) (f+1))<|cE (pK (f+1) t h1) [] [] fun x _=>xV (gZ (t:=194) (e:=202) (ty:=194) (k:=2) (by_:=8) (z:=.agg #[u32 0,u32 0]) underlying194 x 0 1 1 ([u32 ↑(f+1),u32 t])) [2] [] (Views.less (.cl [u32 ↑(f+1),u32 t] 202) bA Views.nil) fun ⟨x1,x2⟩ _=>fE 3 x1 (bn 202 2 1 x2 [u32 ↑(f+1),u32 t]) bx fun hc=>zE<|bj [9999,0,1] ?_
 exact tW (sO b (if c=1 then o else o+1*2) (1-1) (c-1)) (jW (t:=194) (e:=202) (k:=2) underlying194 b o 1 c 1 (by kernel_rfl) (by omega) hnc)<|zE<|rE (sU (t:=194) (e:=202) (ty:=194) underlying194 (k:=2) (pA x1) (pO b (if c=1 then o else o+1*2)) 1 x2 (c-1) (by kernel_rfl) hc) []<|zE<|ip 3 x1 (.pr (bn 202 2 1 x2 [u32 ((f+1:Nat):Int),u32 t])) (bN (pA x1) 1 x2 [(f+1,t)]) (fun w h=>pE (l:=[(f+1,t)]) rfl w h)<|rT ((x1,x2)) 9999 [3]
theorem BX (b o n c a f:Nat) (l:bV) (d:ik ((f,f+1)::l)) (g:n≤100000) (h2:0<l.length) (i:f<4294967295) :
 TT 460 #[sO b o n c] [(a,.fa (bN (pO b o) n c ((f,f+1)::l)))] [] (fun _:Nat×Nat=>True) (fun x=>.returned (.tuple #[.int .u32 f,sA x.1 (n-1) x.2,i64 0])) (fun _=>[]) (fun x=>[(x.1,.fa (bN (pA x.1) (n-1) x.2 l))]):=by
 refine iE func460<|fP 0 a (bN (pO b o) n c ((f,f+1)::l)) iv fun ⟨hnl,hnc,hcm⟩=>?_
 rw [List.length_cons] at hnl
 refine fq [0] [bN (pO b o) n c ((f,f+1)::l)] (CF b (o+1*2) (cG l)) (fun w h=>te w (h 0 _ rfl)) ?_
 have hr:((f,f+1)::l)[0]?=some (f,f+1):=rfl
 have h3:((n:Int)==0)=false:=by simp;omega
 refine zE<|bv (kF (pO b o) n c a ((f,f+1)::l) d g) [0] []<|bK [0,2,0] (br h3 bt)<|rE (bL (t:=194) (e:=202) (k:=2) underlying194 .i64 b o n c 0 (by omega)) []<|rE (lf a b o n c 0 f (f+1) ((f,f+1)::l) hr) [0]<|bu [2,2,2] 1 fun nm=>vC 18 u32 (An ((↑f:Int)+1) (f+1))<|bv (Cx (f+1) (f+1) (by omega)) [] []<|rE (y5 (t:=194) (e:=202) (ty:=194) underlying194 (k:=2) (by kernel_rfl)) []<|zE<|bj [9999,0,2] ?_
 exact tW (sO b (o+1*2) (n-1) (c-1)) (kD (t:=194) (e:=202) (k:=2) underlying194 b o n c 1 hnc)<|zE<|xK (BU b (o+1*2) (n-1) (c-1) 0 l (by omega) (by omega) (by omega)) [1] [] fun ⟨x,x1⟩ _=>zE<|ip 3 x (.pr (bn 202 2 (n-1) x1 (cG l))) (bN (pA x) (n-1) x1 l) (fun w h=>pE (by omega) w h)<|rT ((x,x1)) 9999 [3]
end Go.Proofs.YtlkeemedalncoaaGreat.En
