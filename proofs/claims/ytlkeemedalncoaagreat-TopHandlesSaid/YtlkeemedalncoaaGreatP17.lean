/- TopHandles, part 17: no condition. -/
import Derived.Test.YtlkeemedalncoaaGreatP09
set_option linter.all false
set_option maxHeartbeats 16000000
set_option maxRecDepth 100000
namespace Go.Proofs.YtlkeemedalncoaaGreat.En
open Go Go.RowKit Go.Proofs.YtlkeemedalncoaaGreat Go.Proofs.Tryz
theorem lj (n:Nat) (h:n<128):TT 284 #[u64 n] [] [] (fun _:Nat×Nat=>True) (fun x=>.returned (sA x.1 1 x.2)) (fun _=>[]) (fun x=>[(x.1,.pr (bn 5 1 1 x.2 ([UInt8.ofNat n].map B8)))]):=by
 refine cJ func284 (by kernel_rfl) fun w0 ho=>?_
 have a:B8 (UInt8.ofNat n) = .int .u8 n:=by unfold B8;congr 2;simp;omega
 refine fe [1,2,0,9999,9999] 1 _ (br (show (decide ((↑n:Int)>127))=false by (simp;omega)) bt) fun nm=>⟨by kernel_rfl,?_⟩
 exact qE 0 (nm 0) (.cl [u8 (IntKind.wrap .u8 n)] 5) (.cl [u8 n] 5) (by rw [show IntKind.wrap .u8 n=(↑n:Int) from (k5)])<|xV (gZ (t:=27) (e:=5) (ty:=27) (k:=1) (by_:=1) (z:=u8 0) underlying27 (nm 0) 0 1 1 ([u8 n])) [0] [] (Views.less (.cl [u8 n] 5) bA Views.nil) fun ⟨x,x1⟩ _=>fE 1 x (bn 5 1 1 x1 [u8 n]) bx fun hc=>zE<|qE 1 x (.pr (bn 5 1 1 x1 [.int .u8 n])) (.pr (bn 5 1 1 x1 ([UInt8.ofNat n].map B8))) (by rw [← a];rfl)<|rT ((x,x1)) 9999 [1]
theorem ni (b o n c a:Nat) (l:Bs) (d:n=l.length) (h0:0<n:=by omega) (h:n<128:=by omega):TT 286 #[sO b o n c] [(a,.fa (BF (pO b o) n c l))] [] (fun _:Nat×Nat=>True) (fun x=>.returned (sA x.1 (1+n) x.2)) (fun _=>[]) (fun x=>[(x.1,.fa (BF (pA x.1) (1+n) x.2 ([UInt8.ofNat n]++l)))]):=iE func286<|bj [9999]<|vC 5 u64 (DP n)<|cE (lj n h) [] [] fun ⟨x,x1⟩ _=>fE 1 x (bn 5 1 1 x1 (List.map B8 [UInt8.ofNat n])) bx fun hc=>zE<|xK (vV x 1 x1 b o n c a ([UInt8.ofNat n]) l d h0 (by omega)) [0] [1] fun ⟨x2,x3⟩ _=>fE 2 x2 (bn 5 1 (1+n) x3 (List.map B8 ([UInt8.ofNat n]++l))) bx fun hc1=>zE<|eh (e:=5) (n:=1+n) (c:=x3) (l:=[UInt8.ofNat n]++l) 2 x2 (by simp;omega)<|rT ((x2,x3)) 9999 [2]
abbrev iM (A:Option Addr) (n c at_:Nat):List Vl:=[.slice A n c,i64 (at_:Int),i64 0]
theorem Fy (b o n c a:Nat) (l:Bs) (d:n=l.length) (h0:0<n) (f:n<65536):TT 176 #[sO b o n c] [(a,.fa (BF (pO b o) n c l))] [] (fun x:Nat×Nat×Nat×Nat=>x.2.2.2=0) (fun x=>.returned (bi x.1)) (fun _=>[]) (fun x=>[(x.1,.cl (iM (pA x.2.1) n x.2.2.1 x.2.2.2) 395),(x.2.1,.fa (BF (pA x.2.1) n x.2.2.1 l))]):=iE func176<|bu [9999] 1 fun nm=>xK (dY (nm 0) b o n c a l d h0) [0] [1] fun ⟨x,x1⟩ _=>fE 2 x (bn 5 1 n x1 (List.map B8 l)) bx fun hc=>bu [9999,9999] 1 fun nm1=>eh (e:=5) (n:=n) (c:=x1) (l:=l) 2 x d<|rT ((nm1 0,x,x1,0)) 9999 [3,2]
theorem Eu (r:Nat) (A:Option Addr) (n c k:Nat):Same 278 #[bi r] [(r,.cl (iM A n c k) 395)] (.bool true):=iE func278<|bj [0,0,0]<|rT ()
theorem H2:∀ m:Nat,m<128→bits .or .u64 0 (IntKind.u64.wrap (IntKind.u64.wrap (bits .and .u8 m 127)*2^min (IntKind.i64.wrap (7*0)).toNat IntKind.u64.bits))=(m:Int):=by decide +kernel
theorem sd (r b n c k a:Nat) (l:Bs) (v:UInt8) (j:n=l.length) (m:k<n) (i:l.getD k 0=v) (g:v.toNat<128) (o:n<65536):TT 279 #[bi r,i64 k] [(r,.cl (iM (pA b) n c k) 395),(a,.fa (BF (pA b) n c l))] [] uT (fun x=>.returned (.tuple #[u64 v.toNat,i64 ((k+1:Nat):Int),i64 0])) (fun _=>[]) (fun x=>[]):=by
 refine cJ func279 (by kernel_rfl) fun w0 ho=>?_
 have d:l.getD (k+0) 0=v:=i
 refine bK [1,0,2,0,0] (br (show (decide (IntKind.wrap .i64 ((↑k:Int)+0)≥(↑n:Int)))=false by (simp only [eE,dP,d6,dK,dl,decide_eq_true_eq,decide_eq_false_iff_not];omega)) bt)<|vC 27 i64 (wI ((↑k:Int)+0) (k+0))<|rE (bL (t:=27) (e:=5) (k:=1) underlying27 .i64 b 0 n c (k+0) (by omega)) []<|rE (dH (T:=5) a b 0 n c (k+0) l) [1]<|bK [0,0,9999,2,0] (br (show (decide ((↑(UInt8.toNat (List.getD l (k+0) 0)):Int)>127))=false by (simp_all;omega)) bt)<|vE 46 (u8 ↑(UInt8.toNat (List.getD l (k+0) 0))) (u8 ↑(UInt8.toNat v)) (by rw [d];try rfl) ?_
 have h:=H2 v.toNat g
 rw [← d] at h
 have f:IntKind.i64.wrap (IntKind.i64.wrap ((k:Int)+0)+1)=((k+1:Nat):Int):=by rw [dl,dl];omega
 rcases Nat.eq_zero_or_pos v.toNat with hz | hz
 · exact bK [1,0,0] (br (tT ((↑(UInt8.toNat v):Int)==0)) bt)<|vE 4 (u64 (bits .or .u64 0 (IntKind.wrap .u64 (IntKind.wrap .u64 (bits .and .u8 ↑(UInt8.toNat (List.getD l (k+0) 0)) 127)*2^min (Int.toNat (IntKind.wrap .i64 (7*0))) (IntKind.bits .u64))))) (u64 ↑(UInt8.toNat v)) (by rw [h,d];try rfl)<|vE 5 (i64 (IntKind.wrap .i64 (IntKind.wrap .i64 ((↑k:Int)+0)+1))) (i64 ↑(k+1)) (by rw [f];try rfl)<|rT ()
 · exact bK [2,0] (br (tF ((↑(UInt8.toNat v):Int)==0)) bt)<|vE 4 (u64 (bits .or .u64 0 (IntKind.wrap .u64 (IntKind.wrap .u64 (bits .and .u8 ↑(UInt8.toNat (List.getD l (k+0) 0)) 127)*2^min (Int.toNat (IntKind.wrap .i64 (7*0))) (IntKind.bits .u64))))) (u64 ↑(UInt8.toNat v)) (by rw [h,d];try rfl)<|vE 5 (i64 (IntKind.wrap .i64 (IntKind.wrap .i64 ((↑k:Int)+0)+1))) (i64 ↑(k+1)) (by rw [f];try rfl)<|rT ()
theorem C2 (r b n c:Nat):Same 180 #[bi r] [(r,.cl (iM (pA b) n c n) 395)] (.tuple #[i64 0,i64 n]):=iE func180<|bj [0,0]<|bK [9999,0,0,0,0,0,2,0] (br (dF ((↑n:Int)<(↑n:Int))) bt)<|bj [9999,0,0,0]<|rT ()
theorem sQ (r b n c k a:Nat) (l:Bs) (v:UInt8) (e:n=l.length) (f:k<n) (g:l.getD k 0=v) (d:v.toNat<128) (h:n<65536):TT 178 #[bi r] [(a,.fa (BF (pA b) n c l))] [(r,.cl (iM (pA b) n c k) 395)] uT (fun x=>.returned (u64 v.toNat)) (fun _=>[(r,.cl (iM (pA b) n c (k+1)) 395)]) (fun x=>[]):=iE func178<|zE<|bv (Eu r (pA b) n c k) [1] []<|bj [0,1]<|bv (sd r b n c k a l v e f g d h) [1,0] []<|bj [0,0,1]<|rT ()
theorem Cg (r b n c k a d:Nat) (l:Bs) (v:UInt8) (h:n=l.length) (o:k+1+v.toNat≤n) (h0:0<v.toNat) (i:l.getD k 0=v) (g:v.toNat<128) (j:n<65536) (p:v.toNat≤d) (m:d<65536):TT 179 #[bi r,i64 d] [(a,.fa (BF (pA b) n c l))] [(r,.cl (iM (pA b) n c k) 395)] (fun _:Nat×Nat=>True) (fun x=>.returned (sA x.1 v.toNat x.2)) (fun _=>[(r,.cl (iM (pA b) n c (k+1+v.toNat)) 395)]) (fun x=>[(x.1,.fa (BF (pA x.1) v.toNat x.2 ((l.drop (k+1)).take v.toNat)))]):=by
 refine iE func179<|zE<|bv (Eu r (pA b) n c k) [1] []<|bj [0,1]<|bv (sd r b n c k a l v h (by omega) i g j) [1,0] []<|bK [0,0,9999,2,0,1,9999,2,0,0,0,9999,1] (br (show (decide ((↑(UInt8.toNat v):Int)>IntKind.wrap .u64 (IntKind.wrap .i64 ((↑n:Int)-(↑(k+1):Int)))))=false by (simp only [eE,dP,d6,dK,dl,decide_eq_true_eq,decide_eq_false_iff_not];omega)) (br (show (decide ((↑(UInt8.toNat v):Int)>IntKind.wrap .u64 (if 0>(↑d:Int) then 0 else (↑d:Int))))=false by (simp only [eE,dP,d6,dK,dl];simp;omega)) bt))<|bj [9999,0,1,1]<|vC 63 i64 (show IntKind.wrap .i64 ((↑(k+1):Int)+IntKind.wrap .i64 ↑(UInt8.toNat v))=(↑(k+1+UInt8.toNat v):Int) from (di (eT rfl (di rfl (by omega)))))<|fP 0 a (BF (pA b) n c l) db fun ⟨fl,fc,fm⟩=>tW (sO b (0+(k+1)*1) (UInt8.toNat v) (c-(k+1))) (eY (t:=27) (e:=5) (k:=1) underlying27 b 0 n c (k+1) (UInt8.toNat v) (by kernel_rfl) (by omega) h0)<|bu [9999] 1 fun nm=>?_
 refine iI (dY (nm 0) b (0+(k+1)*1) (UInt8.toNat v) (c-(k+1)) a (List.take (UInt8.toNat v) (List.drop ((k+1)*1) l)) (by (simp [part];omega)) h0) [0] [2] (Views.fact (a:=a) (BF (pA b) n c l) (by kernel_rfl) (cF ((k+1)*1) (UInt8.toNat v) (c-(k+1))) Views.nil) fun ⟨x,x1⟩ _=>zE<|qC 1 r (fun z9:Int=>(.cl [sA b n c,i64 z9,i64 0] 395)) (show IntKind.wrap .i64 ((↑(k+1):Int)+IntKind.wrap .i64 ↑(UInt8.toNat v))=(↑(k+1+UInt8.toNat v):Int) from (di (eT rfl (di rfl (by omega))))) ?_
 have f:v.toNat=((l.drop (k+1)).take v.toNat).length:=by simp;omega
 exact qE 3 x (.pr (bn 5 1 v.toNat x1 (((l.drop ((k+1)*1)).take v.toNat).map B8))) (.pr (bn 5 1 v.toNat x1 (((l.drop (k+1)).take v.toNat).map B8))) (by rw [Nat.mul_one])<|eh (e:=5) (n:=UInt8.toNat v) (c:=x1) (l:=List.take (UInt8.toNat v) (List.drop (k+1) l)) 3 x f<|rT ((x,x1)) 9999 [3]
abbrev bY (b n c:Nat):Vl:=sA b n c
abbrev gK (n:Nat):List Vl:=[UInt8.ofNat n].map B8
theorem pf (A:Option Addr) (n c:Nat):Reads prog (vS (Builtin.copy_ #[27,27] 3 #[.slice A n c,.slice none 0 0])) [] (i64 0):=fun w _ _=>by
 obtain ⟨f,hf1,hf2⟩:=Option.map_eq_some_iff.1 (show (prog.info? 5).map (·.size)=some 1 by kernel_rfl)
 apply ce
 unfold Builtin.copy_
 simp [Sem.run_bind,run_underlying underlying27,Result.andThen,Builtin.lenOf,Builtin.firstCells,sizeOf,typeInfo,hf1]
 cases A with
 | none=>rfl
 | some a=>rfl
theorem F0 (b c a d:Nat) (h0:a<128) (h1:d<128):TT 283 #[bY b 2 c,.func (.func 284) #[] #[]] [(b,.cl [u64 a,u64 d] 25)] [] (fun _:(Nat×Nat)×(Nat×Nat)×(Nat×Nat)=>True) (fun x=>.returned (bY x.1.1 2 x.1.2)) (fun _=>[]) (fun x=>[(x.1.1,.pr (bn 27 1 2 x.1.2 [bY x.2.1.1 1 x.2.1.2,bY x.2.2.1 1 x.2.2.2])),(x.2.1.1,.pr (bn 5 1 1 x.2.1.2 (gK a))),(x.2.2.1,.pr (bn 5 1 1 x.2.2.2 (gK d)))]):=by
 refine iE func283<|bj [3,0,0,9999,0]<|cE (lj a h0) [] [] fun ⟨x,x1⟩ _=>fE 1 x (bn 5 1 1 x1 (List.map B8 [UInt8.ofNat a])) bx fun hc=>bu [9999] 1 fun nm=>xV (gZ (t:=26) (e:=27) (ty:=26) (k:=1) (by_:=24) (z:=.slice none 0 0) underlying26 (nm 0) 0 1 1 ([sA x 1 x1])) [2] [] (Views.less (.cl [sA x 1 x1] 27) bA Views.nil) fun ⟨x2,x3⟩ _=>fE 3 x2 (bn 27 1 1 x3 [sA x 1 x1]) bx fun hc1=>bj [0,0,9999,0]<|cE (lj d h1) [] [] fun ⟨x4,x5⟩ _=>fE 4 x4 (bn 5 1 1 x5 (List.map B8 [UInt8.ofNat d])) bx fun hc2=>bu [9999] 1 fun nm1=>?_
 exact xV (gH (t:=26) (e:=27) (ty:=26) (k:=1) (by_:=24) (z:=.slice none 0 0) underlying26 x2 1 x3 ([sA x 1 x1]) (nm1 0) 1 1 ([sA x4 1 x5])) [5] [3] (Views.less (.cl [sA x4 1 x5] 27) bA Views.nil) fun ⟨x6,x7⟩ _=>fE 6 x6 (bn 27 1 (1+1) x7 ([sA x 1 x1]++[sA x4 1 x5])) bx fun hc3=>bj [0,0]<|rT (((x6,x7),(x,x1),x4,x5)) 9999 [6,1,4]
theorem Ct (b c d c0 f a g h:Nat):TT 282 #[bY b 2 c,.slice none 0 0] [(b,.pr (bn 27 1 2 c [bY d 1 c0,bY f 1 a])),(d,.pr (bn 5 1 1 c0 (gK g))),(f,.pr (bn 5 1 1 a (gK h)))] [] (fun _:Nat=>True) (fun x=>.returned (bY x 2 2)) (fun _=>[]) (fun x=>[(x,.fa (BF (pA x) 2 2 [UInt8.ofNat g,UInt8.ofNat h]))]):=by
 refine iE func282<|fE 0 b (bn 27 1 2 c [bY d 1 c0,bY f 1 a]) bx fun hc=>bj [0,0,0,0,0,0,3,0,0,9999]<|rE (cx (T:=27) (e:=27) b 0 1 2 c ([bY d 1 c0,bY f 1 a]) (bY d 1 c0)) [0]<|bj [0,0,0,0,9999]<|rE (cx (T:=27) (e:=27) b 1 1 2 c ([bY d 1 c0,bY f 1 a]) (bY f 1 a)) [0]<|bj [0,0,0,0]<|vE 59 (i64 2) (i64 ↑2) (by rfl)<|xE (Fo 2 (by omega)) [] [] fun ⟨x,zl⟩ ⟨hz1,hz2⟩=>?_
 dsimp only at hz1 hz2
 refine zE<|rE (lI (t:=27) (e:=5) (k:=1) underlying27 x 0 2 zl.length 2 2 hz1) []<|bj [9999]<|rE (cx (T:=27) (e:=27) b 0 1 2 c ([bY d 1 c0,bY f 1 a]) (bY d 1 c0)) [0]<|xV (e9 x 0 2 2 d 0 1 c0 zl ([UInt8.ofNat g]) 5 (by omega)) [1] [3] (Views.less (.pr (bn 5 1 1 c0 (gK g))) ci Views.nil) fun _ _=>zE<|rE (kD (t:=26) (e:=27) (k:=1) underlying26 b 0 2 c 1 hc) []<|bj [3,0,0,9999]<|rE (cx (T:=27) (e:=27) b 1 1 2 c ([bY d 1 c0,bY f 1 a]) (bY f 1 a)) [0]<|bj [9999]<|rE (pf (pO x 1) 1 1) [] ?_
 exact bj [9999]<|xV (e9 x 1 1 1 f 0 1 a (part zl 0 [UInt8.ofNat g]) ([UInt8.ofNat h]) 5 (by (simp [part];omega))) [2] [3] (Views.less (.pr (bn 5 1 1 a (gK h))) ci Views.nil) fun _ _=>bj [0,0]<|xA (t:=5) (L:=part (part zl 0 [UInt8.ofNat g]) 1 [UInt8.ofNat h]) 3 x [UInt8.ofNat g,UInt8.ofNat h] 2 (by kernel_rfl) (by rcases zl with _ | ⟨z0,_ | ⟨z1,zl⟩⟩ <;> simp [part] at hz1 ⊢) (by rcases zl with _ | ⟨z0,_ | ⟨z1,zl⟩⟩ <;> simp [part] at hz1 ⊢) (by simp only [maxLen];omega)<|rT x 9999 [3]
theorem G8 (b c a d f g h:Nat) (h0:a<128) (h1:d<128) (h2:f<128) (h3:g<128) (h4:h<128):TT 283 #[bY b 5 c,.func (.func 284) #[] #[]] [(b,.cl [u64 a,u64 d,u64 f,u64 g,u64 h] 25)] [] (fun _:(Nat×Nat)×(Nat×Nat)×(Nat×Nat)×(Nat×Nat)×(Nat×Nat)×(Nat×Nat)=>True) (fun x=>.returned (bY x.1.1 5 x.1.2)) (fun _=>[]) (fun x=>[(x.1.1,.pr (bn 27 1 5 x.1.2 [bY x.2.1.1 1 x.2.1.2,bY x.2.2.1.1 1 x.2.2.1.2,bY x.2.2.2.1.1 1 x.2.2.2.1.2,bY x.2.2.2.2.1.1 1 x.2.2.2.2.1.2,bY x.2.2.2.2.2.1 1 x.2.2.2.2.2.2])),(x.2.1.1,.pr (bn 5 1 1 x.2.1.2 (gK a))),(x.2.2.1.1,.pr (bn 5 1 1 x.2.2.1.2 (gK d))),(x.2.2.2.1.1,.pr (bn 5 1 1 x.2.2.2.1.2 (gK f))),(x.2.2.2.2.1.1,.pr (bn 5 1 1 x.2.2.2.2.1.2 (gK g))),(x.2.2.2.2.2.1,.pr (bn 5 1 1 x.2.2.2.2.2.2 (gK h)))]):=by
 refine iE func283<|bj [6,0,0,9999,0]<|cE (lj a h0) [] [] fun ⟨x,x1⟩ _=>fE 1 x (bn 5 1 1 x1 (List.map B8 [UInt8.ofNat a])) bx fun hc=>bu [9999] 1 fun nm=>xV (gZ (t:=26) (e:=27) (ty:=26) (k:=1) (by_:=24) (z:=.slice none 0 0) underlying26 (nm 0) 0 1 1 ([sA x 1 x1])) [2] [] (Views.less (.cl [sA x 1 x1] 27) bA Views.nil) fun ⟨x2,x3⟩ _=>fE 3 x2 (bn 27 1 1 x3 [sA x 1 x1]) bx fun hc1=>bj [0,0,9999,0]<|cE (lj d h1) [] [] fun ⟨x4,x5⟩ _=>fE 4 x4 (bn 5 1 1 x5 (List.map B8 [UInt8.ofNat d])) bx fun hc2=>bu [9999] 1 fun nm1=>?_
 refine xV (gH (t:=26) (e:=27) (ty:=26) (k:=1) (by_:=24) (z:=.slice none 0 0) underlying26 x2 1 x3 ([sA x 1 x1]) (nm1 0) 1 1 ([sA x4 1 x5])) [5] [3] (Views.less (.cl [sA x4 1 x5] 27) bA Views.nil) fun ⟨x6,x7⟩ _=>fE 6 x6 (bn 27 1 (1+1) x7 ([sA x 1 x1]++[sA x4 1 x5])) bx fun hc3=>bj [0,0,9999,0]<|cE (lj f h2) [] [] fun ⟨x8,x9⟩ _=>fE 7 x8 (bn 5 1 1 x9 (List.map B8 [UInt8.ofNat f])) bx fun hc4=>bu [9999] 1 fun nm2=>xV (gH (t:=26) (e:=27) (ty:=26) (k:=1) (by_:=24) (z:=.slice none 0 0) underlying26 x6 2 x7 ([sA x 1 x1]++[sA x4 1 x5]) (nm2 0) 1 1 ([sA x8 1 x9])) [8] [6] (Views.less (.cl [sA x8 1 x9] 27) bA Views.nil) fun ⟨x10,x11⟩ _=>fE 9 x10 (bn 27 1 (2+1) x11 ([sA x 1 x1]++[sA x4 1 x5]++[sA x8 1 x9])) bx fun hc5=>bj [0,0,9999,0]<|cE (lj g h3) [] [] fun ⟨x12,x13⟩ _=>fE 10 x12 (bn 5 1 1 x13 (List.map B8 [UInt8.ofNat g])) bx fun hc6=>?_
 exact bu [9999] 1 fun nm3=>xV (gH (t:=26) (e:=27) (ty:=26) (k:=1) (by_:=24) (z:=.slice none 0 0) underlying26 x10 3 x11 ([sA x 1 x1]++[sA x4 1 x5]++[sA x8 1 x9]) (nm3 0) 1 1 ([sA x12 1 x13])) [11] [9] (Views.less (.cl [sA x12 1 x13] 27) bA Views.nil) fun ⟨x14,x15⟩ _=>fE 12 x14 (bn 27 1 (3+1) x15 ([sA x 1 x1]++[sA x4 1 x5]++[sA x8 1 x9]++[sA x12 1 x13])) bx fun hc7=>bj [0,0,9999,0]<|cE (lj h h4) [] [] fun ⟨x16,x17⟩ _=>fE 13 x16 (bn 5 1 1 x17 (List.map B8 [UInt8.ofNat h])) bx fun hc8=>bu [9999] 1 fun nm4=>xV (gH (t:=26) (e:=27) (ty:=26) (k:=1) (by_:=24) (z:=.slice none 0 0) underlying26 x14 4 x15 ([sA x 1 x1]++[sA x4 1 x5]++[sA x8 1 x9]++[sA x12 1 x13]) (nm4 0) 1 1 ([sA x16 1 x17])) [14] [12] (Views.less (.cl [sA x16 1 x17] 27) bA Views.nil) fun ⟨x18,x19⟩ _=>fE 15 x18 (bn 27 1 (4+1) x19 ([sA x 1 x1]++[sA x4 1 x5]++[sA x8 1 x9]++[sA x12 1 x13]++[sA x16 1 x17])) bx fun hc9=>bj [0,0]<|rT (((x18,x19),(x,x1),(x4,x5),(x8,x9),(x12,x13),x16,x17)) 9999 [15,1,4,7,10,13]
theorem Ba (b c h c0 i a j d l f m g n o p q r:Nat):TT 282 #[bY b 5 c,.slice none 0 0] [(b,.pr (bn 27 1 5 c [bY h 1 c0,bY i 1 a,bY j 1 d,bY l 1 f,bY m 1 g])),(h,.pr (bn 5 1 1 c0 (gK n))),(i,.pr (bn 5 1 1 a (gK o))),(j,.pr (bn 5 1 1 d (gK p))),(l,.pr (bn 5 1 1 f (gK q))),(m,.pr (bn 5 1 1 g (gK r)))] [] (fun _:Nat=>True) (fun x=>.returned (bY x 5 5)) (fun _=>[]) (fun x=>[(x,.fa (BF (pA x) 5 5 [UInt8.ofNat n,UInt8.ofNat o,UInt8.ofNat p,UInt8.ofNat q,UInt8.ofNat r]))]):=by
 refine iE func282<|fE 0 b (bn 27 1 5 c [bY h 1 c0,bY i 1 a,bY j 1 d,bY l 1 f,bY m 1 g]) bx fun hc=>bj [0,0,0,0,0,0,6,0,0,9999]<|rE (cx (T:=27) (e:=27) b 0 1 5 c ([bY h 1 c0,bY i 1 a,bY j 1 d,bY l 1 f,bY m 1 g]) (bY h 1 c0)) [0]<|bj [0,0,0,0,9999]<|rE (cx (T:=27) (e:=27) b 1 1 5 c ([bY h 1 c0,bY i 1 a,bY j 1 d,bY l 1 f,bY m 1 g]) (bY i 1 a)) [0]<|bj [0,0,0,0,9999]<|rE (cx (T:=27) (e:=27) b 2 1 5 c ([bY h 1 c0,bY i 1 a,bY j 1 d,bY l 1 f,bY m 1 g]) (bY j 1 d)) [0]<|bj [0,0,0,0,9999]<|rE (cx (T:=27) (e:=27) b 3 1 5 c ([bY h 1 c0,bY i 1 a,bY j 1 d,bY l 1 f,bY m 1 g]) (bY l 1 f)) [0]<|bj [0,0,0,0,9999] ?_
 refine rE (cx (T:=27) (e:=27) b 4 1 5 c ([bY h 1 c0,bY i 1 a,bY j 1 d,bY l 1 f,bY m 1 g]) (bY m 1 g)) [0]<|bj [0,0,0,0]<|vE 59 (i64 5) (i64 ↑5) (by rfl)<|xE (Fo 5 (by omega)) [] [] fun ⟨x,zl⟩ ⟨hz1,hz2⟩=>?_
 dsimp only at hz1 hz2
 refine zE<|rE (lI (t:=27) (e:=5) (k:=1) underlying27 x 0 5 zl.length 5 5 hz1) []<|bj [9999]<|rE (cx (T:=27) (e:=27) b 0 1 5 c ([bY h 1 c0,bY i 1 a,bY j 1 d,bY l 1 f,bY m 1 g]) (bY h 1 c0)) [0]<|xV (e9 x 0 5 5 h 0 1 c0 zl ([UInt8.ofNat n]) 5 (by omega)) [1] [6] (Views.less (.pr (bn 5 1 1 c0 (gK n))) ci Views.nil) fun _ _=>zE<|rE (kD (t:=26) (e:=27) (k:=1) underlying26 b 0 5 c 1 hc) []<|bj [6,0,0,9999]<|rE (cx (T:=27) (e:=27) b 1 1 5 c ([bY h 1 c0,bY i 1 a,bY j 1 d,bY l 1 f,bY m 1 g]) (bY i 1 a)) [0]<|bj [9999]<|rE (pf (pO x 1) 4 4) [] ?_
 refine bj [9999]<|xV (e9 x 1 4 4 i 0 1 a (part zl 0 [UInt8.ofNat n]) ([UInt8.ofNat o]) 5 (by (simp [part];omega))) [2] [6] (Views.less (.pr (bn 5 1 1 a (gK o))) ci Views.nil) fun _ _=>bj [0,0,9999]<|rE (cx (T:=27) (e:=27) b 2 1 5 c ([bY h 1 c0,bY i 1 a,bY j 1 d,bY l 1 f,bY m 1 g]) (bY j 1 d)) [0]<|bj [9999]<|rE (pf (pO x 2) 3 3) []<|bj [9999]<|xV (e9 x 2 3 3 j 0 1 d (part (part zl 0 [UInt8.ofNat n]) 1 [UInt8.ofNat o]) ([UInt8.ofNat p]) 5 (by (simp [part];omega))) [3] [6] (Views.less (.pr (bn 5 1 1 d (gK p))) ci Views.nil) fun _ _=>bj [0,0,9999]<|rE (cx (T:=27) (e:=27) b 3 1 5 c ([bY h 1 c0,bY i 1 a,bY j 1 d,bY l 1 f,bY m 1 g]) (bY l 1 f)) [0]<|bj [9999] ?_
 refine rE (pf (pO x 3) 2 2) []<|bj [9999]<|xV (e9 x 3 2 2 l 0 1 f (part (part (part zl 0 [UInt8.ofNat n]) 1 [UInt8.ofNat o]) 2 [UInt8.ofNat p]) ([UInt8.ofNat q]) 5 (by (simp [part];omega))) [4] [6] (Views.less (.pr (bn 5 1 1 f (gK q))) ci Views.nil) fun _ _=>bj [0,0,9999]<|rE (cx (T:=27) (e:=27) b 4 1 5 c ([bY h 1 c0,bY i 1 a,bY j 1 d,bY l 1 f,bY m 1 g]) (bY m 1 g)) [0]<|bj [9999]<|rE (pf (pO x 4) 1 1) []<|bj [9999]<|xV (e9 x 4 1 1 m 0 1 g (part (part (part (part zl 0 [UInt8.ofNat n]) 1 [UInt8.ofNat o]) 2 [UInt8.ofNat p]) 3 [UInt8.ofNat q]) ([UInt8.ofNat r]) 5 (by (simp [part];omega))) [5] [6] (Views.less (.pr (bn 5 1 1 g (gK r))) ci Views.nil) fun _ _=>bj [0,0]<|xA (t:=5) (L:=part (part (part (part (part zl 0 [UInt8.ofNat n]) 1 [UInt8.ofNat o]) 2 [UInt8.ofNat p]) 3 [UInt8.ofNat q]) 4 [UInt8.ofNat r]) 6 x [UInt8.ofNat n,UInt8.ofNat o,UInt8.ofNat p,UInt8.ofNat q,UInt8.ofNat r] 5 (by kernel_rfl) (by rcases zl with _ | ⟨z0,_ | ⟨z1,_ | ⟨z2,_ | ⟨z3,_ | ⟨z4,zl⟩⟩⟩⟩⟩ <;> simp [part] at hz1 ⊢) (by rcases zl with _ | ⟨z0,_ | ⟨z1,_ | ⟨z2,_ | ⟨z3,_ | ⟨z4,zl⟩⟩⟩⟩⟩ <;> simp [part] at hz1 ⊢) (by simp only [maxLen];omega) ?_
 exact rT x 9999 [6]
abbrev cX (g c wb wc:Nat):List Vl:=[u16 (g:Int),u64 (c:Int),bY wb 32 wc]
abbrev jN (t q mb mc rp rc rg rl ch hb hc:Nat):List Vl:=[u32 (t:Int),i64 (q:Int),bY mb 16 mc,u32 (rp:Int),u64 (rc:Int),u16 (rg:Int),u8 (rl:Int),i64 (ch:Int),bY hb 1 hc]
abbrev kp (t q mb mc rp rc rg rl ch hb hc:Nat):Vl:=.agg #[u32 (t:Int),i64 (q:Int),bY mb 16 mc,u32 (rp:Int),u64 (rc:Int),u16 (rg:Int),u8 (rl:Int),i64 (ch:Int),bY hb 1 hc]
theorem Fb (g c wb wc:Nat):Same 366 #[.agg #[u16 g,u64 c,bY wb 32 wc]] [] (.bool false):=iE func366<|bu [9999,0,0] 1 fun nm=>rT ()
theorem Gw (hb hc g c wb wc a:Nat):Same 399 #[bY hb 1 hc,.func (.func 366) #[] #[]] [(a,.fa (CF hb 0 (cX g c wb wc)))] (i64 (-1)):=iE func399<|bj [2,0,0,9999]<|rE (gh (T:=155) underlying155 a hb 0 3 (cX g c wb wc) (by (simp;done))) [0]<|bv (Fb g c wb wc) [] []<|bj [0,0,0]<|rT ()
theorem xS (hb hc g c wb wc a:Nat):Same 365 #[bY hb 1 hc,.func (.func 366) #[] #[]] [(a,.fa (CF hb 0 (cX g c wb wc)))] (.bool false):=iE func365<|zE<|bv (Gw hb hc g c wb wc a) [0] []<|bj [0]<|rT ()
theorem Fs (t q mb mc rp rc rg b ch hb hc g c wb wc a:Nat) (i:0<t) (j:1≤q) (d:q≤1000) (e:0<ch) (f:ch≤q) (h:0<rp):Same 280 #[kp t q mb mc rp rc rg b ch hb hc] [(a,.fa (CF hb 0 (cX g c wb wc)))] (.bool true):=by
 refine iE func280<|fe [9999,1,1,2,1,2,1,2,1,0,0] 1 _ (br (show (decide ((↑q:Int)>1000))=false by (simp;omega)) (br (show (decide ((↑q:Int)<1))=false by (simp;omega)) (br (show ((↑t:Int)==0)=false by (simp;omega)) bt))) fun nm=>⟨by kernel_rfl,?_⟩
 exact bK [9999,0,1,2,1,1,2,1,2,1,9999] (br (tF ((↑ch:Int)==0)) (br (dF ((↑ch:Int)>(↑q:Int))) (br (show (decide ((↑ch:Int)<0))=false by kernel_rfl) bt)))<|tE (.bool false) [] [] (gS (Operand.tmp 43) (Operand.tmp 44) ((↑rp:Int)) ((↑rc:Int)) ((↑rg:Int)) ((↑b:Int)) 0 0 0 0 (by omega))<|bj [0,0]<|bj [9999,0,0,0,0,0,1]<|bv (xS hb hc g c wb wc a) [0] []<|zE<|rT ()
theorem DK (t q mb mc hb hc g c wb wc a:Nat) (d:0<t) (e:1≤q) (b:q≤1000):Same 280 #[kp t q mb mc 0 0 0 0 0 hb hc] [(a,.fa (CF hb 0 (cX g c wb wc)))] (.bool true):=by
 refine iE func280<|fe [9999,1,1,2,1,2,1,2,1,0,0] 1 _ (br (show (decide ((↑q:Int)>1000))=false by (simp;omega)) (br (show (decide ((↑q:Int)<1))=false by (simp;omega)) (br (show ((↑t:Int)==0)=false by (simp;omega)) bt))) fun nm=>⟨by kernel_rfl,?_⟩
 exact bK [9999,0,1,0,1,1,2,1,0,1,9999,0,0,0] (br (show (decide (0>(↑q:Int)))=false by kernel_rfl) bt)<|bj [9999,0,0,0,0,0,1]<|bv (xS hb hc g c wb wc a) [0] []<|zE<|rT ()
theorem wy (b c a d:Nat) (h0:a<128) (h1:d<128):TT 281 #[bY b 2 c] [(b,.cl [u64 a,u64 d] 25)] [] (fun _:Nat=>True) (fun x=>.returned (bY x 2 2)) (fun _=>[]) (fun x=>[(x,.fa (BF (pA x) 2 2 [UInt8.ofNat a,UInt8.ofNat d]))]):=iE func281<|zE<|cE (F0 b c a d h0 h1) [0] [] fun ⟨⟨x,x1⟩,⟨x2,x3⟩,x4,x5⟩ _=>fE 1 x (bn 27 1 2 x1 [bY x2 1 x3,bY x4 1 x5]) bx fun hc=>fE 2 x2 (bn 5 1 1 x3 (gK a)) bx fun hc=>fE 3 x4 (bn 5 1 1 x5 (gK d)) bx fun hc=>cE (Ct x x1 x2 x3 x4 x5 a d) [1,2,3] [] fun x6 _=>zE<|rT x6 9999 [4]
theorem EF (b c a d e f g:Nat) (h0:a<128) (h1:d<128) (h2:e<128) (h3:f<128) (h4:g<128):TT 281 #[bY b 5 c] [(b,.cl [u64 a,u64 d,u64 e,u64 f,u64 g] 25)] [] (fun _:Nat=>True) (fun x=>.returned (bY x 5 5)) (fun _=>[]) (fun x=>[(x,.fa (BF (pA x) 5 5 [UInt8.ofNat a,UInt8.ofNat d,UInt8.ofNat e,UInt8.ofNat f,UInt8.ofNat g]))]):=by
 refine iE func281<|zE<|cE (G8 b c a d e f g h0 h1 h2 h3 h4) [0] [] fun ⟨⟨x,x1⟩,⟨x2,x3⟩,⟨x4,x5⟩,⟨x6,x7⟩,⟨x8,x9⟩,x10,x11⟩ _=>fE 1 x (bn 27 1 5 x1 [bY x2 1 x3,bY x4 1 x5,bY x6 1 x7,bY x8 1 x9,bY x10 1 x11]) bx fun hc=>fE 2 x2 (bn 5 1 1 x3 (gK a)) bx fun hc=>fE 3 x4 (bn 5 1 1 x5 (gK d)) bx fun hc=>fE 4 x6 (bn 5 1 1 x7 (gK e)) bx fun hc=>fE 5 x8 (bn 5 1 1 x9 (gK f)) bx fun hc=>fE 6 x10 (bn 5 1 1 x11 (gK g)) bx fun hc=>cE (Ba x x1 x2 x3 x4 x5 x6 x7 x8 x9 x10 x11 a d e f g) [1,2,3,4,5,6] [] fun x12 _=>zE ?_
 exact rT x12 9999 [7]
def fC (g c:Nat) (wr:Bs):Bs:=[UInt8.ofNat g,UInt8.ofNat c]++(UInt8.ofNat 32::wr)
theorem Ed (d g c wb wc a:Nat) (wr:Bs) (b:32=wr.length) (f:g<128) (hc:c<128):TT 288 #[.agg #[u16 g,u64 c,bY wb 32 wc],bi d] [(d,.cl [.func (.func 281) #[] #[]] 402),(a,.fa (BF (pA wb) 32 wc wr))] [] (fun _:Nat×Nat=>True) (fun x=>.returned (bY x.1 35 x.2)) (fun _=>[]) (fun x=>[(x.1,.fa (BF (pA x.1) 35 x.2 (fC g c wr)))]):=by
 refine cJ func288 (by kernel_rfl) fun w0 ho=>?_
 have h:IntKind.u64.wrap (g:Int)=(g:Int):=dj
 exact bu [9999] 1 fun nm=>bu [9999,0,0,2,9999,2,2,9999] 1 fun nm1=>qE 3 (nm1 0) (.cl [u64 (IntKind.wrap .u64 g),u64 c] 25) (.cl [u64 g,u64 c] 25) (by rw [h];try rfl)<|cE (wy (nm1 0) 2 g c f hc) [3] [] fun x _=>zE<|cE (ni wb 0 32 wc a wr b) [1] [] fun ⟨x1,x2⟩ _=>zE<|xK (Bk x 0 2 2 x1 0 33 x2 x x1 2 ([UInt8.ofNat g,UInt8.ofNat c]) ([UInt8.ofNat 32]++wr) (by kernel_rfl) (by (simp [part];omega)) (by omega) (by omega)) [4,5] [] fun ⟨x3,x4⟩ _=>zE<|eh (e:=5) (n:=35) (c:=x4) (l:=fC g c wr) 6 x3 (by simp [fC,← b])<|rT ((x3,x4)) 9999 [6]
theorem qa (b c a d:Nat) (h0:a<128) (h1:d<128):TT 281 #[bY b 2 c] [(b,.cl [u64 (IntKind.u64.wrap (a:Int)),u64 (IntKind.u64.wrap (d:Int))] 25)] [] (fun _:Nat=>True) (fun x=>.returned (bY x 2 2)) (fun _=>[]) (fun x=>[(x,.fa (BF (pA x) 2 2 [UInt8.ofNat a,UInt8.ofNat d]))]):=by
 have w0:IntKind.u64.wrap (a:Int)=(a:Int):=dj
 have w1:IntKind.u64.wrap (d:Int)=(d:Int):=dj
 rw [w0,w1]
 exact wy b c a d h0 h1
theorem nM (b c a f d e:Nat) (h0:a<128) (h1:f<128) (h2:d<128) (h3:e<128):TT 281 #[bY b 5 c] [(b,.cl [u64 (IntKind.u64.wrap (a:Int)),u64 f,u64 (IntKind.u64.wrap (d:Int)),u64 (IntKind.u64.wrap (e:Int)),u64 1] 25)] [] (fun _:Nat=>True) (fun x=>.returned (bY x 5 5)) (fun _=>[]) (fun x=>[(x,.fa (BF (pA x) 5 5 [UInt8.ofNat a,UInt8.ofNat f,UInt8.ofNat d,UInt8.ofNat e,UInt8.ofNat 1]))]):=by
 have w0:IntKind.u64.wrap (a:Int)=(a:Int):=dj
 have g:IntKind.u64.wrap (d:Int)=(d:Int):=dj
 have h:IntKind.u64.wrap (e:Int)=(e:Int):=dj
 rw [w0,g,h]
 exact EF b c a f d e 1 h0 h1 h2 h3 (by omega)
end Go.Proofs.YtlkeemedalncoaaGreat.En
namespace Go.Proofs.YtlkeemedalncoaaGreat
open Go.RowKit
theorem vI (w:World) (o:Obj):Below w.heap.size w (w.alloc o):=(Below.refl _ _).alloc (Nat.le_refl _) _
theorem x0 (n:Nat) (w:World) (g:n≤140737488355328) :
 Calls Tryz.prog 368 #[.slice none 0 0,.int .i64 n] w fun e w'=>∃ A c,e = .returned (.slice A 0 c)∧Own w' w.heap.size A 0 c []∧Below w.heap.size w w':=by
 obtain ⟨i0,hi,hz0,hz1,hz2⟩:=info_parts tc
 rcases Nat.eq_zero_or_pos n with h0 | h0
 · subst h0
   clear hi hz0 hz1 hz2
   go_enter Tryz.func368,Tryz.ntmps368
   go_wp2
   go_ret
   exact ⟨none,0,rfl,Own.nil _ _,Below.refl _ _⟩
 · have HR:=fun W:World=>Lib.run_append_nil_zeros (P:=Tryz.prog) W 27 3 27 5 i0 (.int .u8 0) .i64 .i64 Tryz.underlying27 Tryz.underlying3 hi hz0 n h0 (by rw [hz1];decide) (by omega) (by rw [hz2];omega)
   have b:=Lib.hid HR
   have hd:decide ((n:Int)>0)=true:=by simp;omega
   have d:decide ((n:Int)<0)=false:=by simp
   clear hi hz0 hz1 hz2 HR
   go_enter Tryz.func368,Tryz.ntmps368
   go_wp2_with (at_builtin;refine Lib.wpList_append_run _ rfl (.tmp 20) (.tmp 21) 27 3 rfl _ _ rfl rfl _ _ (b.out _) ?_)
   go_ret
   refine ⟨_,_,rfl,?_,(vI w _).drew⟩
   have h:=grownCap_ge w n 0 5
   have f:=grownCap_le_maxLen w n 0 5 (by unfold maxLen;omega)
   have a:(Builtin.zeroCells #[Value.int .u8 0] n++Builtin.zeroCells #[Value.int .u8 0] (grownCap w n 0 5-n)).size=grownCap w n 0 5*1:=by
    rw [Array.size_append,size_zeroCells,size_zeroCells]
    show n*1+(grownCap w n 0 5-n)*1=_
    omega
   have:=World.ownsRow_made (base:=w.heap.size) (e:=5) (size:=1) w _ _ (Nat.le_refl _) f a
   exact this
theorem vU (A:Option Addr) (k c:Nat) (a:List (List UInt8)) (w:World) (h:RdS w A k c a) (s:a.flatten.length≤140737488355328) :
 Calls Tryz.prog 285 #[.slice A k c] w fun e w'=>∃ A' c',e = .returned (.slice A' a.flatten.length c')∧Own w' w.heap.size A' a.flatten.length c' a.flatten∧Below w.heap.size w w':=by
 have HR:=Lib.hid h
 have u:=h.cap
 have f:=h.max
 unfold maxLen at f
 obtain ⟨N,HN⟩:∃ N,Hid (N=a.flatten.length):=⟨_,rfl⟩
 rw [← HN.out] at s ⊢
 have g:Hid (k=a.length):=h.len
 clear h
 go_enter Tryz.func285,Tryz.ntmps285
 go_wp2
 go_loop [3,11] (fun z i=>∃ j:Nat,j≤k∧i = .int .i64 j∧z = .int .i64 (mC a j:Nat)) (fun _ i=>k-(intOf i).toNat)
 case atStart=>exact ⟨0,Nat.zero_le _,rfl,rfl⟩
 case round=>
  obtain ⟨j,hj,rfl,rfl⟩:=hrel
  by_cases hlt:j<k
  · obtain ⟨b,o,rfl,hc⟩:=HR.out.at_ (by omega)
    obtain ⟨A1,n1,c1,hcell,hrd⟩:=hc j hlt
    have d:=Lib.hid (rF a j (by rw [← g.out];exact hlt))
    have h1:=wo a (j+1)
    rw [d.out,← HN.out,← hrd.len] at h1
    have l:=Lib.hid hrd.len
    clear hc hrd
    obtain ⟨t,Ht⟩:∃ t,Hid (t=mC a j):=⟨_,rfl⟩
    rw [← Ht.out] at h1 ⊢
    have x:IntKind.i64.wrap ((t:Int)+(n1:Int))=(t:Int)+(n1:Int):=IntWalk.i64_in _ (by omega)
    have hd:decide ((t:Int)+(n1:Int)<0)=false:=decide_eq_false (by omega)
    go_wp2
    go_round
    case rel=>exact ⟨j+1,by omega,by go_num,by rw [d.out,← l.out,← Ht.out];go_num⟩
    case measure=>first | (simp [intOf];done) | (simp [intOf];omega)
  · obtain rfl:k=j:=by omega
    have v:Hid (mC a k=N):=by
     show _=_
     unfold mC
     rw [g.out,List.take_length,HN.out]
    rw [v.out]
    go_wp2_with (go_at_call 368;refine (x0 N _ s).mono ?_;rintro e w1 ⟨A1,c1,rfl,hown,hb1⟩)
    go_loopw [6,27] (fun z i wr=>∃ (j:Nat) (A2:Option Addr) (c2:Nat),j≤k∧i = .int .i64 j∧z = .slice A2 (mC a j) c2∧Own wr w.heap.size A2 (mC a j) c2 (a.take j).flatten∧Below w.heap.size w wr) (fun _ i _=>k-(intOf i).toNat)
    case atStart=>exact ⟨0,A1,c1,Nat.zero_le _,rfl,rfl,hown,hb1⟩
    case round=>
     clear hown hb1
     obtain ⟨j,A2,c2,hj,rfl,rfl,hown,hbel⟩:=hrel
     have m:=Lib.hid hown
     clear hown
     by_cases hlt:j<k
     · obtain ⟨b,o,rfl,hc⟩:=HR.out.at_ (by omega)
       obtain ⟨A3,n1,c3,hcell,hrd⟩:=hc j hlt
       have d:=Lib.hid (rF a j (by rw [← g.out];exact hlt))
       have h1:=wo a (j+1)
       rw [d.out,← HN.out,← hrd.len] at h1
       have l:=Lib.hid hrd
       have p:=Lib.hid (ka a j (by rw [← g.out];exact hlt))
       have n:=(hbel.cell (World.block_lt_of_cell? w _ hcell)).trans hcell
       clear hc hrd hcell
       obtain ⟨t,Ht⟩:∃ t,Hid (t=mC a j):=⟨_,rfl⟩
       rw [← Ht.out] at h1 m ⊢
       go_wp2_with (at_builtin;refine v7 27 Tryz.underlying27 rfl (.tmp 31) (.tmp 32) rfl rfl rfl m.out (l.out.below hbel) hbel.size (by omega) ?_;intro A4 c4 w4 hown4 hg4 hb4)
       have q:=Lib.hid hown4
       have r:=Lib.hid hb4
       clear hown4 hg4 hb4
       go_wp2
       go_roundw
       case rel=>
        refine ⟨j+1,A4,c4,by omega,by go_num,?_,?_,hbel.trans r.out⟩
        · rw [d.out,← l.out.len,← Ht.out]
        · rw [d.out,← l.out.len,← Ht.out,p.out]
          exact q.out
       case measure=>first | (simp [intOf];done) | (simp [intOf];omega)
     · obtain rfl:k=j:=by omega
       rw [v.out] at m ⊢
       have p:Hid ((a.take k).flatten=a.flatten):=by rw [g.out,List.take_length];rfl
       go_wp2
       go_ret
       refine ⟨A2,c2,rfl,?_,hbel⟩
       have:=m.out
       rw [p.out] at this
       exact this
end Go.Proofs.YtlkeemedalncoaaGreat
namespace Go.Proofs.YtlkeemedalncoaaGreat.En
open Go Go.RowKit Go.Proofs.YtlkeemedalncoaaGreat Go.Proofs.Tryz
theorem Own.below {H:HP} {w w':World} (h:Own H w) (hb:Below w.heap.size w w'):Own H w':=
 ⟨h.nd,fun j b s hj hs=>by
  obtain ⟨o,h1,h2⟩:=h.at_ j b s hj hs
  exact ⟨o,by rw [hb.block b (dR h1)];exact h1,h2⟩⟩
theorem nP (b c d c0 a:Nat) (l:Bs) (f:35=l.length):TT 282 #[bY b 1 c,.slice none 0 0] [(b,.pr (bn 27 1 1 c [bY d 35 c0])),(a,.fa (BF (pA d) 35 c0 l))] [] (fun _:Nat×Nat=>True) (fun x=>.returned (bY x.1 35 x.2)) (fun _=>[]) (fun x=>[(x.1,.fa (BF (pA x.1) 35 x.2 l))]):=iE func282<|bj [0,0,0,0,9999]<|rE (cx (T:=27) (e:=27) b 0 1 1 c ([bY d 35 c0]) (bY d 35 c0)) [0]<|xK (tx d 0 35 c0 a l f (by omega) (by omega)) [1] [] fun ⟨x,x1⟩ _=>fE 2 x (bn 5 1 35 x1 (List.map B8 l)) bx fun hc=>zE<|eh (e:=5) (n:=35) (c:=x1) (l:=l) 2 x f<|rT ((x,x1)) 9999 [2]
theorem q7 (hb hc b g c wb wc a h:Nat) (wr:Bs) (d:32=wr.length) (i:g<128) (f:c<128):TT 287 #[bY hb 1 hc,.func (.func 288) #[] #[bi b]] [(b,.cl [.func (.func 281) #[] #[]] 402),(a,.fa (CF hb 0 (cX g c wb wc))),(h,.fa (BF (pA wb) 32 wc wr))] [] (fun _:Nat×Nat×Nat×Nat=>True) (fun x=>.returned (bY x.1 1 x.2.1)) (fun _=>[]) (fun x=>[(x.1,.pr (bn 27 1 1 x.2.1 [bY x.2.2.1 35 x.2.2.2])),(x.2.2.1,.fa (BF (pA x.2.2.1) 35 x.2.2.2 (fC g c wr)))]):=by
 refine iE func287<|bj [2,0,0,9999]<|rE (gh (T:=155) underlying155 a hb 0 3 (cX g c wb wc) (by (simp;done))) [1]<|bu [] 1 fun nm=>vE 13 (.agg ⟨List.take 3 (List.drop 0 (cX g c wb wc))⟩) (.agg #[u16 g,u64 c,bY wb 32 wc]) (by rfl)<|bj [3,3]<|cE (Ed b g c wb wc h wr d i f) [0,2] [] fun ⟨x,x1⟩ _=>bu [9999] 1 fun nm1=>xV (gZ (t:=26) (e:=27) (ty:=26) (k:=1) (by_:=24) (z:=.slice none 0 0) underlying26 (nm1 0) 0 1 1 ([sA x 35 x1])) [5] [] (Views.less (.cl [sA x 35 x1] 27) bA Views.nil) fun ⟨x2,x3⟩ _=>fE 6 x2 (bn 27 1 1 x3 [sA x 35 x1]) bx fun hc1=>bj [0,0] ?_
 exact rT ((x2,x3,x,x1)) 9999 [6,4]
theorem yX {f:FuncId} {args:Array Vl} {HR:HP} {e:TypeId} {size n:Nat} {xs:List Vl} {g:Option Addr→Nat→Vl} (q:0<n)
 (h:∀ w,Own HR w→FA HR w→Calls prog f args w fun en w'=>∃ A c,en = .returned (g A c)∧w'.ownsRow w.heap.size e size (.slice A n c) n xs∧Below w.heap.size w w') :
 TT f args HR [] (fun _:Nat×Nat=>True) (fun x=>.returned (g (pA x.1) x.2)) (fun _=>[]) (fun x=>[(x.1,.pr (bn e size n x.2 xs))]):=by
 intro K w ho d
 rw [List.append_nil] at ho
 refine (h w ho (FA.iff.2 fun k a p hp=>(d.fac k a p (by rw [List.append_nil];exact hp)).now)).mono fun en w' ⟨A,c,h1,h2,h3⟩=>?_
 obtain ⟨b,rfl,hb,o,ho1,ho2⟩:=yO h2 q
 obtain ⟨k1,k2⟩:=d.calls (HW':=[]) (HN:=[(b,.pr (bn e size n c xs))]) (rP h3) bH (fun b' hb'=>by simp [lv,SB.live] at hb';subst hb';exact .inl hb) rfl
 refine ⟨(b,c),K,trivial,h1,?_,rP h3,?_,k1,k2⟩
 · have m:=ho.below h3
   rw [List.append_nil]
   constructor
   · intro i j a s t hij hi hj hs ht
     have l:∀ (k a:Nat) (s:SB),HR[k]?=some (a,s)→s.live=true→a<w.heap.size:=fun k a s d hs=>by
      obtain ⟨o,h1,_⟩:=ho.at_ k a s d hs
      exact dR h1
     have d:∀ (k a:Nat) (s:SB),(HR++[(b,.pr (bn e size n c xs))])[k]?=some (a,s)→(k<HR.length∧HR[k]?=some (a,s))∨(k=HR.length∧a=b):=fun k a s d=>by
      rcases Nat.lt_or_ge k HR.length with h | h
      · rw [List.getElem?_append_left h] at d;exact .inl ⟨h,d⟩
      · rw [List.getElem?_append_right h] at d
        have h0:k-HR.length=0:=by have:=cj d;simp at this;omega
        rw [h0] at d
        simp at d
        exact .inr ⟨by omega,d.1.symm⟩
     rcases d i a s hi with ⟨h1,h2⟩ | ⟨h1,h2⟩ <;> rcases d j a t hj with ⟨h3,h4⟩ | ⟨h3,h4⟩
     · exact ho.nd i j a s t hij h2 h4 hs ht
     · have:=l i a s h2 hs;omega
     · have:=l j a t h4 ht;omega
     · omega
   · intro j a s hj hs
     rcases Nat.lt_or_ge j HR.length with h | h
     · rw [List.getElem?_append_left h] at hj;exact m.at_ j a s hj hs
     · rw [List.getElem?_append_right h] at hj
       have h0:j-HR.length=0:=by have:=cj hj;simp at this;omega
       rw [h0] at hj
       simp at hj
       obtain ⟨rfl,rfl⟩:=hj
       exact ⟨o,ho1,ho2⟩
 · intro b' hb'
   simp [lv,SB.live] at hb'
   subst hb'
   exact .inl hb
theorem pk (b c r m c0 s n t u p y z q B E F G H:Nat) (d f h i:Bs) (I:m+n+p+q=59:=by kernel_rfl) (hc:4≤c:=by omega) (hcm:c≤1000:=by omega):TT 285 #[bY b 4 c] [(b,.cl [bY r m c0,bY s n t,bY u p y,bY z q B] 27),(E,.fa (BF (pA r) m c0 d)),(F,.fa (BF (pA s) n t f)),(G,.fa (BF (pA u) p y h)),(H,.fa (BF (pA z) q B i))] [] (fun _:Nat×Nat=>True) (fun x=>.returned (bY x.1 59 x.2)) (fun _=>[]) (fun x=>[(x.1,.pr (bn 5 1 59 x.2 ((d++f++h++i).map B8)))]):=by
 refine yX (g:=fun A c=>.slice A 59 c) (by omega) fun w ho hf=>?_
 obtain ⟨hf0,hf1,hf2,hf3,-⟩:BF (some ⟨r,0,none⟩) m c0 d w∧BF (some ⟨s,0,none⟩) n t f w∧BF (some ⟨u,0,none⟩) p y h w∧BF (some ⟨z,0,none⟩) q B i w∧True:=hf
 obtain ⟨o,h1,h2⟩:=ho.at_ 0 b _ rfl rfl
 have h2:o = .cells [bY r m c0,bY s n t,bY u p y,bY z q B].toArray 27 (0,0):=h2
 have l:[d,f,h,i].flatten.length=59:=by
  simp
  have J:=hf0.len;have K:=hf1.len;have e2:=hf2.len;have L:=hf3.len
  omega
 have C:RdS w (pA b) 4 c [d,f,h,i]:=by
  refine ⟨rfl,hc,by simp only [maxLen];omega,fun _=>⟨b,0,rfl,fun j hj=>?_⟩⟩
  have a:∀ k v,[bY r m c0,bY s n t,bY u p y,bY z q B][k]?=some v→w.cell? ⟨b,0+k,none⟩=some v:=fun k v hk=>by
   have:=dU h1 (bA o h2) k v hk
   rw [Addr.add_lit] at this
   exact this
  match j with
  | 0=>exact ⟨_,_,_,a 0 _ rfl,hf0⟩
  | 1=>exact ⟨_,_,_,a 1 _ rfl,hf1⟩
  | 2=>exact ⟨_,_,_,a 2 _ rfl,hf2⟩
  | 3=>exact ⟨_,_,_,a 3 _ rfl,hf3⟩
  | j+4=>omega
 refine (vU (pA b) 4 c [d,f,h,i] w C (by rw [l];omega)).mono fun e w' ⟨A',c',h3,h4,h5⟩=>?_
 rw [l] at h3 h4
 have D:[d,f,h,i].flatten=d++f++h++i:=by simp
 rw [D] at h4
 exact ⟨A',c',h3,h4,h5⟩
def bJ (q ch:Nat) (mark:Bs) (rp rc rg rl hg hcm:Nat) (wr:Bs):Bs:=[UInt8.ofNat q,UInt8.ofNat ch]++([UInt8.ofNat 16]++mark)++[UInt8.ofNat rp,UInt8.ofNat rc,UInt8.ofNat rg,UInt8.ofNat rl,UInt8.ofNat 1]++fC hg hcm wr
theorem io (q ch:Nat) (mark:Bs) (rp rc rg a b hcm:Nat) (wr:Bs) (c:16=mark.length) (d:32=wr.length):59=(bJ q ch mark rp rc rg a b hcm wr).length:=by
 simp [bJ,fC,← c,← d]
theorem GO (t q mb mc rp rc rg e ch hb hc g c wb wc a:Nat) (h:0<t) (i:1≤q) (d:q≤1000) (f:ch≤q) (b:(ch=0∧rp=0∧rc=0∧rg=0∧e=0)∨(0<ch∧0<rp)):Same 280 #[kp t q mb mc rp rc rg e ch hb hc] [(a,.fa (CF hb 0 (cX g c wb wc)))] (.bool true):=by
 rcases b with ⟨rfl,rfl,rfl,rfl,rfl⟩ | ⟨hc0,hrp⟩
 · exact DK t q mb mc hb hc g c wb wc a h i d
 · exact Fs t q mb mc rp rc rg e ch hb hc g c wb wc a h i d hc0 f hrp
theorem pR (t q mb mc rp rc rg b ch hb hc g c wb wc a k m:Nat) (mark wr:Bs) (f:16=mark.length) (d:32=wr.length) (s:0<t) (v:1≤q) (i:q<128) (p:ch≤q) (j:(ch=0∧rp=0∧rc=0∧rg=0∧b=0)∨(0<ch∧0<rp)) (h1:rp<128) (h2:rc<128) (h3:rg<128) (h4:b<128) (o:g<128) (hcm:c<128) :
 TT 181 #[kp t q mb mc rp rc rg b ch hb hc] [(a,.fa (CF hb 0 (cX g c wb wc))),(k,.fa (BF (pA mb) 16 mc mark)),(m,.fa (BF (pA wb) 32 wc wr))] [] (fun _:Nat×Nat=>True) (fun x=>.returned (.tuple #[bY x.1 59 x.2,i64 0])) (fun _=>[]) (fun x=>[(x.1,.fa (BF (pA x.1) 59 x.2 (bJ q ch mark rp rc rg b g c wr)))]):=by
 have r:=io q ch mark rp rc rg b g c wr f d
 refine cJ func181 (by kernel_rfl) fun w0 ho=>?_
 have h:35=(fC g c wr).length:=by simp [fC,← d]
 have w:IntKind.u64.wrap (q:Int)=(q:Int):=dj
 have y:IntKind.u64.wrap (ch:Int)=(ch:Int):=dj
 have z:IntKind.u64.wrap (rp:Int)=(rp:Int):=dj
 have A:IntKind.u64.wrap (rg:Int)=(rg:Int):=dj
 have B:IntKind.u64.wrap (b:Int)=(b:Int):=dj
 refine bu [9999,3] 1 fun nm=>bv (GO t q mb mc rp rc rg b ch hb hc g c wb wc a s v (by omega) p j) [0] []<|bu [0,3,4,5] 2 fun nm1=>bj [9999,0,5,3,9999,3,9999,3,5,4,9999,4,4,9999,4,9999,3,9999,3]<|ef (Nat×Nat×Nat×Nat×Nat×Nat×Nat×Nat×Nat×Nat×Nat×Nat×Nat×Nat×Nat) (fun ⟨nm2q,x,x1,x2,nm3q,x3,x4,x5,x6,x7,x8,x9,nm4q,x10,x11⟩=>True) 51 (fun ⟨nm2q,x,x1,x2,nm3q,x3,x4,x5,x6,x7,x8,x9,nm4q,x10,x11⟩=>[(2,sA x10 59 x11),(3,i64 0)]) [.code (cZ f181 8)] (fun ⟨nm2q,x,x1,x2,nm3q,x3,x4,x5,x6,x7,x8,x9,nm4q,x10,x11⟩=>[(a,.fa (CF hb 0 (cX g c wb wc))),(k,.fa (BF (pA mb) 16 mc mark)),(m,.fa (BF (pA wb) 32 wc wr)),(nm 0,.cl [u32 t,i64 q,sA mb 16 mc,u32 rp,u64 rc,u16 rg,u8 b,i64 ch,sA hb 1 hc] 109),(nm1 0,.cl [u32 rp,u64 rc,u16 rg,u8 b] 85),(nm1 1,.cl [.func (Fn.func 281) ⟨[]⟩ ⟨[]⟩] 402),(nm2q,.cl [u64 (IntKind.wrap .u64 q),u64 (IntKind.wrap .u64 ch)] 25),(x,.fa (BF (pA x) 2 2 [UInt8.ofNat q,UInt8.ofNat ch])),(x1,.fa (BF (pA x1) (1+16) x2 ([UInt8.ofNat 16]++mark))),(nm3q,.cl [u64 (IntKind.wrap .u64 rp),u64 rc,u64 (IntKind.wrap .u64 rg),u64 (IntKind.wrap .u64 b),u64 1] 25),(x3,.fa (BF (pA x3) 5 5 [UInt8.ofNat rp,UInt8.ofNat rc,UInt8.ofNat rg,UInt8.ofNat b,UInt8.ofNat 1])),(x4,.pr (bn 27 1 1 x5 [bY x6 35 x7])),(x6,.fa (BF (pA x6) 35 x7 (fC g c wr))),(x8,.fa (BF (pA x8) 35 x9 (fC g c wr))),(nm4q,.cl [sA x 2 2,sA x1 17 x2,sA x3 5 5,sA x8 35 x9] 27),(x10,.pr (bn 5 1 59 x11 (List.map B8 ([UInt8.ofNat q,UInt8.ofNat ch]++([UInt8.ofNat 16]++mark)++[UInt8.ofNat rp,UInt8.ofNat rc,UInt8.ofNat rg,UInt8.ofNat b,UInt8.ofNat 1]++fC g c wr))))]) ([]) 3 (fun key=>?_) ?_
 · refine dq 7 31 ?_ ?_
   · refine bu [9999] 1 fun nm2=>dq 8 31 ?_ ?_
     · refine cE (qa (nm2 0) 2 q ch i (by omega)) [6] [] fun x _=>dq 11 31 ?_ ?_
       · exact cE (ni mb 0 16 mc k mark f) [1] [] fun ⟨x1,x2⟩ _=>bu [9999] 1 fun nm3=>cE (nM (nm3 0) 5 rp rc rg b h1 h2 h3 h4) [9] [] fun x3 _=>zE<|cE (q7 hb hc (nm1 1) g c wb wc a m wr d o hcm) [5,0,2] [] fun ⟨x4,x5,x6,x7⟩ _=>zE<|cE (nP x4 x5 x6 x7 x6 (fC g c wr) h) [11,12] [] fun ⟨x8,x9⟩ _=>bu [9999] 1 fun nm4=>cE (pk (nm4 0) 4 x 2 2 x1 17 x2 x3 5 5 x8 35 x9 x x1 x3 x8 ([UInt8.ofNat q,UInt8.ofNat ch]) ([UInt8.ofNat 16]++mark) ([UInt8.ofNat rp,UInt8.ofNat rc,UInt8.ofNat rg,UInt8.ofNat b,UInt8.ofNat 1]) (fC g c wr)) [14,7,8,10,13] [] fun ⟨x10,x11⟩ _=>zE<|jT [0,1,2,3,4,5,6,7,8,9,10,11,12,13,14,15] (fun u=>key (nm2 0,x,x1,x2,nm3 0,x3,x4,x5,x6,x7,x8,x9,nm4 0,x10,x11) u trivial)
       · refine bu [9999] 1 fun nm3=>cE (ni mb 0 16 mc k mark f) [1] [] fun ⟨x1,x2⟩ _=>zE<|cE (nM (nm3 0) 5 rp rc rg b h1 h2 h3 h4) [8] [] fun x3 _=>zE<|cE (q7 hb hc (nm1 1) g c wb wc a m wr d o hcm) [5,0,2] [] fun ⟨x4,x5,x6,x7⟩ _=>zE<|cE (nP x4 x5 x6 x7 x6 (fC g c wr) h) [11,12] [] fun ⟨x8,x9⟩ _=>bu [9999] 1 fun nm4=>cE (pk (nm4 0) 4 x 2 2 x1 17 x2 x3 5 5 x8 35 x9 x x1 x3 x8 ([UInt8.ofNat q,UInt8.ofNat ch]) ([UInt8.ofNat 16]++mark) ([UInt8.ofNat rp,UInt8.ofNat rc,UInt8.ofNat rg,UInt8.ofNat b,UInt8.ofNat 1]) (fC g c wr)) [14,7,9,10,13] [] fun ⟨x10,x11⟩ _=>zE ?_
         exact jT [0,1,2,3,4,5,6,7,9,8,10,11,12,13,14,15] (fun u=>key (nm2 0,x,x1,x2,nm3 0,x3,x4,x5,x6,x7,x8,x9,nm4 0,x10,x11) u trivial)
     · refine bu [9999] 1 fun nm3=>cE (qa (nm2 0) 2 q ch i (by omega)) [6] [] fun x _=>zE<|cE (ni mb 0 16 mc k mark f) [1] [] fun ⟨x1,x2⟩ _=>zE<|cE (nM (nm3 0) 5 rp rc rg b h1 h2 h3 h4) [7] [] fun x3 _=>zE<|cE (q7 hb hc (nm1 1) g c wb wc a m wr d o hcm) [5,0,2] [] fun ⟨x4,x5,x6,x7⟩ _=>zE<|cE (nP x4 x5 x6 x7 x6 (fC g c wr) h) [11,12] [] fun ⟨x8,x9⟩ _=>bu [9999] 1 fun nm4=>?_
       exact cE (pk (nm4 0) 4 x 2 2 x1 17 x2 x3 5 5 x8 35 x9 x x1 x3 x8 ([UInt8.ofNat q,UInt8.ofNat ch]) ([UInt8.ofNat 16]++mark) ([UInt8.ofNat rp,UInt8.ofNat rc,UInt8.ofNat rg,UInt8.ofNat b,UInt8.ofNat 1]) (fC g c wr)) [14,8,9,10,13] [] fun ⟨x10,x11⟩ _=>zE<|jT [0,1,2,3,4,5,6,8,9,7,10,11,12,13,14,15] (fun u=>key (nm2 0,x,x1,x2,nm3 0,x3,x4,x5,x6,x7,x8,x9,nm4 0,x10,x11) u trivial)
   · refine bu [9999,9999] 2 fun nm2=>cE (qa (nm2 1) 2 q ch i (by omega)) [7] [] fun x _=>zE<|cE (ni mb 0 16 mc k mark f) [1] [] fun ⟨x1,x2⟩ _=>zE<|cE (nM (nm2 0) 5 rp rc rg b h1 h2 h3 h4) [6] [] fun x3 _=>zE<|cE (q7 hb hc (nm1 1) g c wb wc a m wr d o hcm) [5,0,2] [] fun ⟨x4,x5,x6,x7⟩ _=>zE<|cE (nP x4 x5 x6 x7 x6 (fC g c wr) h) [11,12] [] fun ⟨x8,x9⟩ _=>bu [9999] 1 fun nm3=>?_
     exact cE (pk (nm3 0) 4 x 2 2 x1 17 x2 x3 5 5 x8 35 x9 x x1 x3 x8 ([UInt8.ofNat q,UInt8.ofNat ch]) ([UInt8.ofNat 16]++mark) ([UInt8.ofNat rp,UInt8.ofNat rc,UInt8.ofNat rg,UInt8.ofNat b,UInt8.ofNat 1]) (fC g c wr)) [14,8,9,10,13] [] fun ⟨x10,x11⟩ _=>zE<|jT [0,1,2,3,4,5,7,8,9,6,10,11,12,13,14,15] (fun u=>key (nm2 1,x,x1,x2,nm2 0,x3,x4,x5,x6,x7,x8,x9,nm3 0,x10,x11) u trivial)
 rintro ⟨nm2q,x,x1,x2,nm3q,x3,x4,x5,x6,x7,x8,x9,nm4q,x10,x11⟩ u _
 exact qE 6 nm2q (.cl [u64 (IntKind.wrap .u64 q),u64 (IntKind.wrap .u64 ch)] 25) (.cl [u64 q,u64 ch] 25) (by rw [show IntKind.wrap .u64 q=(↑q:Int) from (dj),show IntKind.wrap .u64 ch=(↑ch:Int) from (dj)])<|qE 9 nm3q (.cl [u64 (IntKind.wrap .u64 rp),u64 rc,u64 (IntKind.wrap .u64 rg),u64 (IntKind.wrap .u64 b),u64 1] 25) (.cl [u64 rp,u64 rc,u64 rg,u64 b,u64 1] 25) (by rw [show IntKind.wrap .u64 rp=(↑rp:Int) from (dj),show IntKind.wrap .u64 rg=(↑rg:Int) from (dj),show IntKind.wrap .u64 b=(↑b:Int) from (dj)])<|eh (e:=5) (n:=59) (c:=x11) (l:=bJ q ch mark rp rc rg b g c wr) 15 x10 r<|rT ((x10,x11)) 9999 [15]
end Go.Proofs.YtlkeemedalncoaaGreat.En
