/- TopHandles, part 12: no condition. -/
import Derived.Lib.Tables
import Derived.Test.YtlkeemedalncoaaGreatP11
set_option linter.all false
set_option maxHeartbeats 16000000
set_option maxRecDepth 100000
namespace Go.Proofs.YtlkeemedalncoaaGreat.En
open Go Go.RowKit Go.Proofs.YtlkeemedalncoaaGreat Go.Proofs.Tryz
section
variable {P:Program} {Q:QR} {K0:Nat→Prop} {w0:World} {M:List Nat} {st:ES}
theorem Am (j b:Nat) {e:TypeId} {size n cap:Nat} {xs:List Vl} (d:(st.H[j]?,eF st.todo)=(some (b,.pr (bn e size n cap xs)),true)) (h:∀ rest,rest.length+n*size=cap*size→cap≤maxLen→n≤cap→xs.length=n*size→GW P Q K0 w0 M ⟨st.todo,st.ts,st.ds,st.H.set j (b,.cl (xs++rest) e),st.nr⟩):GW P Q K0 w0 M st:=by
 refine iT j b _ d fun o c=>?_
 obtain ⟨cur,rfl,h1,h2,h3,h4⟩:=c
 have a:cur.toList.length=cap*size:=by simpa using h1
 have g:n*size≤cap*size:=Nat.mul_le_mul_right _ h3
 have h5:=h (cur.toList.drop (n*size)) (by rw [List.length_drop,a];omega) h4 h3 (by rw [← h2,List.length_take,a];omega)
 rw [← h2,List.take_append_drop] at h5
 simp only [Prod.mk.injEq] at d
 obtain ⟨hj,hn⟩:=d
 have f:=cj hj
 refine vJ j b (.ob (.cells cur e (0,0))) (.cl cur.toList e) ?_ (fun o c=>?_) ?_
 · simp [f,hn,SB.live]
 · have c:o = .cells cur e (0,0):=c
   subst c
   show _=_
   simp
 · simpa using h5
end
theorem z8 {e:TypeId} {size n cap:Nat} {xs a:List Vl} (h1:a.length+n*size=cap*size) (h2:cap≤maxLen) (h4:n≤cap) (h3:xs.length=n*size):∀ o,(SB.cl (xs++a) e).ok o→(SB.pr (bn e size n cap xs)).ok o:=by
 intro o h
 have h:o = .cells (xs++a).toArray e (0,0):=h
 subst h
 refine ⟨_,rfl,?_,?_,h4,h2⟩
 · simp;omega
 · simp [← h3]
theorem w8 (b i f t:Nat) (L:bV) (a:List Vl) (h:L[i]?=some (f,t)):Reads prog (vS (Instr.loadAt 37 (.pointer (pO b (0+i*2+1))))) [(b,.cl (cG L++a) 202)] (.int .u32 t):=by
 have c:=cj h
 rw [Nat.zero_add]
 exact dM b (i*2+1) _ 202 _ (fun w=>by kernel_rfl) (by rw [List.getElem?_append_left (by rw [kW];omega)];exact (kR h).2)
theorem zo (L:bV) (i f t m:Nat) (h:L[i]?=some (f,t)):(cG L).set (i*2+1) (.int .u32 m)=cG (L.set i (f,m)):=by
 induction L generalizing i with
 | nil=>simp at h
 | cons r L ih=>
  cases i with
  | zero=>simp at h;subst h;simp [cG]
  | succ i=>
   have:=ih i (by simpa using h)
   simp only [cG,List.flatMap_cons,List.set_cons_succ] at this ⊢
   rw [← this,show (i+1)*2+1=i*2+1+2 by omega]
   simp
theorem CT (b i f t m:Nat) (L:bV) (a:List Vl) (h:L[i]?=some (f,t)) :
 RunTri prog (uS (Instr.storeAt 37 (.pointer (pO b (0+i*2+1))) (.int .u32 m))) [] [(b,.cl (cG L++a) 202)] uT (fun _=>undef) (fun _=>[(b,.cl (cG (L.set i (f,m))++a) 202)]) (fun _=>[]):=by
 have c:=cj h
 have hc:=kW L
 rw [Nat.zero_add]
 have:=gy (P:=prog) (T:=37) b (i*2+1) (.int .u32 (m:Int)) [.int .u32 (m:Int)] (cG L++a) 202 rfl (by kernel_rfl) (by intro v hv;rw [List.mem_singleton.1 hv];rfl) (by rw [List.length_append,hc];simp;omega)
 have e:cW (cG L++a) (i*2+1) [.int .u32 m]=cG (L.set i (f,m))++a:=by
  rw [← zo L i f t m h]
  simp only [cW,List.length_cons,List.length_nil]
  rw [List.take_append_of_le_length (by omega),List.drop_append_of_le_length (by omega),← List.append_assoc]
  congr 1
  rw [List.set_eq_take_append_cons_drop,if_pos (by omega),List.append_assoc,List.singleton_append]
 rw [e] at this
 exact this
theorem C9 (b i f t c:Nat) (L:bV) (a:List Vl) (h:L[i]?=some (f,c)) (d:c<t) :
 RunTri prog (uS (Instr.storeAt 37 (.pointer (pO b (0+i*2+1))) (.int .u32 (if (t:Int)>(c:Int) then (t:Int) else (c:Int))))) [] [(b,.cl (cG L++a) 202)] uT (fun _=>undef) (fun _=>[(b,.cl (cG (L.set i (f,t))++a) 202)]) (fun _=>[]):=by
 rw [if_pos (by omega)]
 exact CT b i f c t L a h
theorem Dq (b i f t n c:Nat) (L:bV) (h:L[i]?=some (f,t)):Reads prog (vS (Instr.loadAt 37 (.pointer (pO b (0+i*2+1))))) [(b,.pr (bn 202 2 n c (cG L)))] (.int .u32 t):=by
 rw [Nat.zero_add]
 exact cx b (i*2+1) 2 n c (cG L) _ (fun w=>by kernel_rfl) (kR h).2
def gj (L:bV) (r:Nat×Nat):bV:=
 match L[L.length-1]? with
 | some q=>if q.2=r.1 then L.set (L.length-1) (q.1,r.2) else L++[r]
 | none=>L++[r]
theorem qU (v:Vl) (lb f t:Nat) (lsb:SB) (L:bV) (c:SlE 202 2 L.length (cG L) v (lb,lsb)) (j:L.length≤100000) (d:f<t) (l:t<4294967296) (g:∀ q,L[L.length-1]?=some q→q.2≤f) :
 TT 375 #[v,.agg #[.int .u32 f,.int .u32 t]] [] [(lb,lsb)] (fun x:Vl×Nat×SB=>SlE 202 2 (gj L (f,t)).length (cG (gj L (f,t))) x.1 (x.2.1,x.2.2)) (fun x=>.returned x.1) (fun _=>[(lb,.dead)]) (fun x=>[(x.2.1,x.2.2)]):=by
 refine cJ func375 (by kernel_rfl) fun w0 ho=>?_
 rcases Nat.eq_zero_or_pos L.length with h0 | h0
 · have a:L=[]:=List.eq_nil_of_length_eq_zero h0
   subst a
   rcases c with ⟨rfl,-,-,rfl⟩ | ⟨cap,rfl,rfl⟩
   · exact bu [9999] 1 fun nm=>bu [9999,0,0,0,1,9999] 1 fun nm1=>xV (gZ (t:=194) (e:=202) (ty:=194) (k:=2) (by_:=8) (z:=.agg #[u32 0,u32 0]) underlying194 (nm1 0) 0 1 1 ([u32 f,u32 t])) [2] [] (Views.less (.cl [u32 f,u32 t] 202) bA Views.nil) fun ⟨x,x1⟩ _=>fE 3 x (bn 202 2 1 x1 [u32 f,u32 t]) bx fun hc=>zE<|rT (sA x 1 x1,x,.pr (bn 202 2 1 x1 [u32 f,u32 t])) 9999 [3] rfl (.inr ⟨x1,rfl,rfl⟩)
   · exact bu [9999] 1 fun nm=>bu [9999,0,0,0,1,9999] 1 fun nm1=>xV (gH (t:=194) (e:=202) (ty:=194) (k:=2) (by_:=8) (z:=.agg #[u32 0,u32 0]) underlying194 lb 0 cap (cG []) (nm1 0) 1 1 ([u32 f,u32 t])) [2] [0] (Views.less (.cl [u32 f,u32 t] 202) bA Views.nil) fun ⟨x,x1⟩ _=>fE 3 x (bn 202 2 (0+1) x1 (cG []++[u32 f,u32 t])) bx fun hc=>zE<|rT (sA x 1 x1,x,.pr (bn 202 2 1 x1 [u32 f,u32 t])) 9999 [3] rfl (.inr ⟨x1,rfl,rfl⟩)
 · obtain ⟨⟨f',t'⟩,hlast⟩:∃ r,L[L.length-1]?=some r:=⟨L[L.length-1],List.getElem?_eq_getElem (by omega)⟩
   have i:t'≤f:=g _ hlast
   have h1:decide ((L.length:Int)>0)=true:=decide_eq_true (by omega)
   rcases c with ⟨rfl,h,-,rfl⟩ | ⟨cap,rfl,rfl⟩
   · omega
   · by_cases htf:t'=f
     · have h2:decide ((f:Int)≤(t':Int))=true:=decide_eq_true (by omega)
       have b:t'<t:=by omega
       have ha:gj L (f,t)=L.set (L.length-1) (f',t):=by unfold gj;rw [hlast];simp [htf]
       refine Am (e:=202) (size:=2) (n:=L.length) (cap:=cap) (xs:=cG L) 0 lb (by kernel_rfl) fun rest hr hm hnc hx=>bu [9999] 1 fun nm=>bK [9999,0,1,1] (br h1 bt)<|vC 15 i64 (wI ((↑L.length:Int)-1) (List.length L-1))<|tE (.pointer (pO lb (0+(List.length L-1)*2))) [] [] (bL (t:=194) (e:=202) (k:=2) underlying194 .i64 lb 0 L.length cap (List.length L-1) (by omega))<|zE<|tE (u32 t') [0] [(lb,.cl (cG L++rest) 202)] (w8 lb (List.length L-1) f' t' L rest hlast)<|bK [1,0] (br h2 bt)<|bj [14,0]<|vC 26 i64 (wI ((↑L.length:Int)-1) (List.length L-1))<|tW (.pointer (pO lb (0+(List.length L-1)*2))) (bL (t:=194) (e:=202) (k:=2) underlying194 .i64 lb 0 L.length cap (List.length L-1) (by omega)) ?_
       refine zE<|tE (u32 t') [0] [(lb,.cl (cG L++rest) 202)] (w8 lb (List.length L-1) f' t' L rest hlast)<|bj [1]<|vC 23 i64 (wI ((↑L.length:Int)-1) (List.length L-1))<|rE (bL (t:=194) (e:=202) (k:=2) underlying194 .i64 lb 0 L.length cap (List.length L-1) (by omega)) []<|zE<|xE (C9 lb (List.length L-1) f' t t' L rest hlast b) [] [0] fun _ _=>zE<|lE 0 lb (.cl (cG (L.set (L.length-1) (f',t))++rest) 202) (.pr (bn 202 2 L.length cap (cG (L.set (L.length-1) (f',t))))) (z8 hr hm hnc (by rw [kW,List.length_set]))<|y8 lb<|wE [2,0] 0 [(lb,.dead),(lb,.pr (bn 202 2 L.length cap (cG (L.set (L.length-1) (f',t)))))] ?_
       exact rT (sA lb L.length cap,lb,.pr (bn 202 2 L.length cap (cG (L.set (L.length-1) (f',t))))) 9999 [1] rfl (by dsimp only;rw [ha];refine .inr ⟨cap,?_,?_⟩ <;> rw [List.length_set])
     · have h2:decide ((f:Int)≤(t':Int))=false:=decide_eq_false (by omega)
       have ha:gj L (f,t)=L++[(f,t)]:=by unfold gj;rw [hlast];simp [htf]
       refine bu [9999] 1 fun nm=>bK [9999,0,1,1] (br h1 bt)<|vC 15 i64 (wI ((↑L.length:Int)-1) (List.length L-1))<|tE (.pointer (pO lb (0+(List.length L-1)*2))) [] [] (bL (t:=194) (e:=202) (k:=2) underlying194 .i64 lb 0 L.length cap (List.length L-1) (by omega))<|zE<|tE (u32 t') [0] [(lb,.pr (bn 202 2 L.length cap (cG L)))] (Dq lb (List.length L-1) f' t' L.length cap L hlast)<|fe [2,0,1,9999] 1 _ (br h2 bt) fun nm1=>⟨by kernel_rfl,?_⟩
       exact xV (gH (t:=194) (e:=202) (ty:=194) (k:=2) (by_:=8) (z:=.agg #[u32 0,u32 0]) underlying194 lb L.length cap (cG L) (nm1 0) 1 1 ([u32 f,u32 t])) [2] [0] (Views.less (.cl [u32 f,u32 t] 202) bA Views.nil) fun ⟨x,x1⟩ _=>fE 3 x (bn 202 2 (List.length L+1) x1 (cG L++[u32 f,u32 t])) bx fun hc=>zE<|rT (sA x (L.length+1) x1,x,.pr (bn 202 2 (L.length+1) x1 (cG L++[u32 f,u32 t]))) 9999 [3] rfl (by dsimp only;rw [ha,sq];exact .inr ⟨x1,by rw [List.length_append];rfl,by rw [List.length_append];rfl⟩)
structure RunsP (L:bV):Prop where
 pos:∀ r∈L,r.1<r.2
 gap:L.Pairwise fun a b=>a.2<b.1
def bR (L:bV) (m:Nat):Prop:=∃ r∈L,r.1≤m∧m<r.2
theorem wF {L:bV} {m:Nat} (h:Ap L m):bR L m:=by
 obtain ⟨i,r,h1,h2⟩:=h
 exact ⟨r,List.mem_of_getElem? h1,h2⟩
theorem RunsP.ok {L:bV} (h:RunsP L):ik L:=by
 intro i r hr
 refine ⟨h.pos r (List.mem_of_getElem? hr),fun q hi hq=>?_⟩
 have h1:=cj hr
 have h2:=cj hq
 have:=List.pairwise_iff_getElem.1 h.gap (i-1) i h2 h1 (by omega)
 rw [List.getElem?_eq_getElem h1] at hr
 rw [List.getElem?_eq_getElem h2] at hq
 rw [← Option.some.inj hr,← Option.some.inj hq]
 exact this
theorem RunsP.nil:RunsP []:=⟨fun r h=>(List.not_mem_nil h).elim,List.Pairwise.nil⟩
def jp (L:bV):Nat:=
 match L[L.length-1]? with
 | some q=>q.2
 | none=>0
theorem kx (L:bV) (q:Nat×Nat):jp (L++[q])=q.2:=by simp [jp]
theorem mX {L:bV} {f:Nat} (h:jp L≤f):∀ q,L[L.length-1]?=some q→q.2≤f:=by
 intro q hq
 unfold jp at h
 rw [hq] at h
 exact h
theorem l8 (r:Nat×Nat):gj [] r=[r]:=rfl
theorem lU (L:bV) (q r:Nat×Nat):gj (L++[q]) r=if q.2=r.1 then L++[(q.1,r.2)] else L++[q]++[r]:=by
 unfold gj
 simp
theorem ki (L:bV):L=[]∨∃ L0 q,L=L0++[q]:=by
 rcases List.eq_nil_or_concat L with h | ⟨L0,q,h⟩
 · exact .inl h
 · exact .inr ⟨L0,q,by rw [h,List.concat_eq_append]⟩
theorem mM (L:bV) (r:Nat×Nat):jp (gj L r)=r.2:=by
 rcases ki L with rfl | ⟨L0,q,rfl⟩
 · rfl
 · rw [lU]
   split
   · exact kx _ _
   · exact kx _ _
theorem rx (L:bV) (r:Nat×Nat):(gj L r).length≤L.length+1:=by
 rcases ki L with rfl | ⟨L0,q,rfl⟩
 · simp [l8]
 · rw [lU]
   split <;> simp
theorem t7 {L:bV} {r:Nat×Nat} (h:RunsP L) (d:jp L≤r.1) (hr:r.1<r.2):RunsP (gj L r):=by
 rcases ki L with rfl | ⟨L0,q,rfl⟩
 · exact ⟨by simpa [l8] using hr,by simp [l8]⟩
 · rw [kx] at d
   rw [lU]
   have f:=h.pos q (by simp)
   have c:=h.gap
   rw [List.pairwise_append] at c
   obtain ⟨g1,_,g3⟩:=c
   split
   · rename_i e
     refine ⟨fun x hx=>?_,?_⟩
     · rcases List.mem_append.1 hx with hx | hx
       · exact h.pos x (by simp [hx])
       · rw [List.mem_singleton.1 hx];dsimp only;omega
     · rw [List.pairwise_append]
       refine ⟨g1,by simp,fun a ha b hb=>?_⟩
       rw [List.mem_singleton.1 hb]
       exact g3 a ha q (by simp)
   · rename_i e
     refine ⟨fun x hx=>?_,?_⟩
     · rcases List.mem_append.1 hx with hx | hx
       · exact h.pos x hx
       · rw [List.mem_singleton.1 hx];exact hr
     · rw [List.pairwise_append]
       refine ⟨h.gap,by simp,fun a ha b hb=>?_⟩
       rw [List.mem_singleton.1 hb]
       rcases List.mem_append.1 ha with ha | ha
       · have:=g3 a ha q (by simp)
         omega
       · rw [List.mem_singleton.1 ha];omega
theorem t6 {L:bV} {r:Nat×Nat} (h:RunsP L) (a:jp L≤r.1) (hr:r.1<r.2) (m:Nat):bR (gj L r) m↔bR L m∨(r.1≤m∧m<r.2):=by
 rcases ki L with rfl | ⟨L0,q,rfl⟩
 · simp [l8,bR]
 · rw [kx] at a
   rw [lU]
   have b:=h.pos q (by simp)
   split
   · rename_i e
     constructor
     · rintro ⟨x,hx,h1,h2⟩
       rcases List.mem_append.1 hx with hx | hx
       · exact .inl ⟨x,by simp [hx],h1,h2⟩
       · rw [List.mem_singleton.1 hx] at h1 h2
         dsimp only at h1 h2
         by_cases hm:m<q.2
         · exact .inl ⟨q,by simp,h1,hm⟩
         · exact .inr ⟨by omega,h2⟩
     · rintro (⟨x,hx,h1,h2⟩ | ⟨h1,h2⟩)
       · rcases List.mem_append.1 hx with hx | hx
         · exact ⟨x,by simp [hx],h1,h2⟩
         · rw [List.mem_singleton.1 hx] at h1 h2
           exact ⟨(q.1,r.2),by simp,h1,by dsimp only;omega⟩
       · exact ⟨(q.1,r.2),by simp,by dsimp only;omega,h2⟩
   · constructor
     · rintro ⟨x,hx,h1,h2⟩
       rcases List.mem_append.1 hx with hx | hx
       · exact .inl ⟨x,hx,h1,h2⟩
       · rw [List.mem_singleton.1 hx] at h1 h2
         exact .inr ⟨h1,h2⟩
     · rintro (⟨x,hx,h1,h2⟩ | ⟨h1,h2⟩)
       · exact ⟨x,List.mem_append_left _ hx,h1,h2⟩
       · exact ⟨r,by simp,h1,h2⟩
theorem xt (a b o n c i f t:Nat) (l:bV) (h:l[i]?=some (f,t)):Reads prog (vS (Instr.loadAt 202 (.pointer (pO b (o+i*2+0*2))))) [(a,.fa (bN (pO b o) n c l))] (.agg #[.int .u32 f,.int .u32 t]):=lf a b o n c i f t l h
theorem uq (a b o n c i f t:Nat) (l:bV) (h:l[i]?=some (f,t)):Reads prog (vS (Instr.loadAt 37 (.pointer (pO b (o+i*2+0*2))))) [(a,.fa (bN (pO b o) n c l))] (.int .u32 f):=rQ a b o n c i f t l h
theorem ue (a b o n c f t:Nat) (l:bV) (h:l[0]?=some (f,t)):Reads prog (vS (Instr.loadAt 37 (.pointer (pO b o)))) [(a,.fa (bN (pO b o) n c l))] (.int .u32 f):=by
 have:=rQ a b o n c 0 f t l h
 rwa [Nat.zero_mul,Nat.add_zero] at this
abbrev gX:Type:=Nat×Nat×Option Addr×Nat×Option Addr×Nat×bV×Vl×Nat×SB
structure GvI (l:bV) (p n c b o g:Nat) (i d:Nat) (Aa:Option Addr) (ca:Nat) (Ab:Option Addr) (cb:Nat) (L:bV) (v:Vl) (lb:Nat) (lsb:SB):Prop where
 hi:i≤n
 hd:d≤1
 ha:i<n→Aa=some ⟨b,o+i*2,none⟩∧ca=c-i
 hb:d=0→Ab=some ⟨g,0,none⟩∧cb=1
 ok:RunsP L
 len:L.length≤i+d
 mem:∀ m,bR L m↔bR (l.take i) m∨(d=1∧m=p)
 la:∀ r∈l.drop i,jp L≤r.1
 lb_:d=0→jp L≤p
 sl:SlE 202 2 L.length (cG L) v (lb,lsb)
theorem Bm {l:bV} {i f t p:Nat} (d:RunsP l) (hr:l[i]?=some (f,t)) (e:p<f):∀ r∈l.drop i,p<r.1:=by
 intro r hr2
 have a:=cj hr
 have b:l[i]=(f,t):=by rw [List.getElem?_eq_getElem a] at hr;exact Option.some.inj hr
 obtain ⟨j,hj⟩:=List.mem_iff_getElem?.1 hr2
 rw [List.getElem?_drop] at hj
 have c:=cj hj
 rw [List.getElem?_eq_getElem c] at hj
 rw [← Option.some.inj hj]
 cases j with
 | zero=>simp only [Nat.add_zero];rw [b];exact e
 | succ j=>
  have:=List.pairwise_iff_getElem.1 d.gap i (i+(j+1)) a c (by omega)
  have h2:=d.pos (f,t) (List.mem_of_getElem? hr)
  rw [b] at this
  dsimp only at this h2
  omega
theorem GvI.addA {l:bV} {p n c b o g i d:Nat} {D B:Option Addr} {ca cb:Nat} {L:bV} {v v':Vl} {lb e:Nat} {lsb a:SB} {f t:Nat} (h:GvI l p n c b o g i d D ca B cb L v lb lsb) (C:RunsP l) (E:n=l.length) (F:n≤c) (hr:l[i]?=some (f,t)) (x:¬ bR l p) (G:d=1∨f≤p)
 (hs:SlE 202 2 (gj L (f,t)).length (cG (gj L (f,t))) v' (e,a)):GvI l p n c b o g (i+1) d (pO b (if c-i=1 then o+i*2 else o+i*2+1*2)) (c-i-1) B cb (gj L (f,t)) v' e a:=by
 have k:=cj hr
 have q:(f,t)∈l:=List.mem_of_getElem? hr
 have s:f<t:=C.pos _ q
 have y:l[i]=(f,t):=by rw [List.getElem?_eq_getElem k] at hr;exact Option.some.inj hr
 have z:(f,t)∈l.drop i:=List.mem_of_getElem? (i:=0) (by rw [List.getElem?_drop];exact hr)
 have u:=h.la _ z
 refine ⟨by omega,h.hd,fun hin=>⟨?_,by omega⟩,h.hb,t7 h.ok u s,?_,fun m=>?_,fun r hr2=>?_,fun hd0=>?_,hs⟩
 · rw [if_neg (by omega),show o+i*2+1*2=o+(i+1)*2 by omega]
 · have:=rx L (f,t);have:=h.len;omega
 · rw [t6 h.ok u s,h.mem,List.take_add_one,hr]
   simp only [bR,Option.toList_some,List.mem_append,List.mem_singleton]
   constructor
   · rintro ((⟨r,h1,h2⟩ | h1) | h1)
     · exact .inl ⟨r,.inl h1,h2⟩
     · exact .inr h1
     · exact .inl ⟨(f,t),.inr rfl,h1⟩
   · rintro (⟨r,h1 | rfl,h2⟩ | h1)
     · exact .inl (.inl ⟨r,h1,h2⟩)
     · exact .inr h2
     · exact .inl (.inr h1)
 · rw [mM]
   obtain ⟨j,hj⟩:=List.mem_iff_getElem?.1 hr2
   rw [List.getElem?_drop] at hj
   have w:=cj hj
   have:=List.pairwise_iff_getElem.1 C.gap i (i+1+j) k w (by omega)
   rw [List.getElem?_eq_getElem w] at hj
   rw [y,Option.some.inj hj] at this
   exact Nat.le_of_lt this
 · rw [mM]
   have A:f≤p:=by omega
   rcases Nat.lt_or_ge p t with h1 | h1
   · exact absurd ⟨_,q,A,h1⟩ x
   · exact h1
theorem GvI.addB {l:bV} {p n c b o g i:Nat} {k q f:Option Addr} {ca cb j:Nat} {L:bV} {v v':Vl} {lb d:Nat} {lsb a:SB} (h:GvI l p n c b o g i 0 k ca q cb L v lb lsb) (s:∀ r∈l.drop i,p<r.1)
 (hs:SlE 202 2 (gj L (p,p+1)).length (cG (gj L (p,p+1))) v' (d,a)):GvI l p n c b o g i 1 k ca f j (gj L (p,p+1)) v' d a:=by
 have e:=h.lb_ rfl
 refine ⟨h.hi,Nat.le_refl _,h.ha,fun hd=>by omega,t7 h.ok e (Nat.lt_succ_self _),?_,fun m=>?_,fun r hr=>?_,fun hd=>by omega,hs⟩
 · have:=rx L (p,p+1);have:=h.len;omega
 · rw [t6 h.ok e (Nat.lt_succ_self _),h.mem]
   constructor
   · rintro ((h1 | h1) | h1)
     · exact .inl h1
     · omega
     · exact .inr ⟨rfl,by omega⟩
   · rintro (h1 | h1)
     · exact .inl (.inl h1)
     · exact .inr (by omega)
 · rw [mM]
   exact s r hr
theorem C1 (b o n c a j g p:Nat) (A:Option Addr) (hA:0<n→A=some ⟨b,o,none⟩) (l:bV) (D:RunsP l) (S:n≤50000) (T:p<4294967295) (E:¬ bR l p) (K:∀ r∈l,r.2<4294967296) :
 TT 295 #[.slice A n c,sA g 1 1] [(a,.fa (bN A n c l)),(j,.fa (bN (pA g) 1 1 [(p,p+1)]))] [] (fun x:bV×Vl×Nat×SB=>RunsP x.1∧x.1.length≤n+1∧(∀ m,bR x.1 m↔bR l m∨m=p)∧SlE 202 2 x.1.length (cG x.1) x.2.1 (x.2.2.1,x.2.2.2)) (fun x=>.returned (.tuple #[x.2.1,i64 0])) (fun _=>[]) (fun x=>[(x.2.2.1,x.2.2.2)]):=by
 have M:=D.ok
 have N:ik [(p,p+1)]:=RunsP.ok ⟨fun r hr=>by rw [List.mem_singleton.1 hr];dsimp only;omega,by simp⟩
 refine iE func295<|fP 0 a (bN A n c l) iv fun ⟨hnl,hnc,hcm⟩=>zE<|bv (kF A n c a l M (by omega)) [0] []<|zE<|bv (kF (pA g) 1 1 j ([(p,p+1)]) N (by omega)) [1] []<|bj [0]<|lV<|cY (X:=gX) (fun ⟨i,d,Aa,ca,Ab,cb,L,v,lb,lsb⟩=>GvI l p n c b o g i d Aa ca Ab cb L v lb lsb) (fun x=>(n-x.1)+(1-x.2.1)) 57 (fun x=>[(0,.slice x.2.2.1 (n-x.1) x.2.2.2.1),(1,.slice x.2.2.2.2.1 (1-x.2.1) x.2.2.2.2.2.1),(6,x.2.2.2.2.2.2.2.1)]) (fun x=>[(a,.fa (bN A n c l)),(j,.fa (bN (pA g) 1 1 [(p,p+1)])),(x.2.2.2.2.2.2.2.2.1,x.2.2.2.2.2.2.2.2.2)]) (0,0,A,c,some ⟨g,0,none⟩,1,[],.slice none 0 0,0,.dead) (by kernel_rfl) ?_ fun ⟨i,d,Aa,ca,Ab,cb,L,v,lb,lsb⟩ u J q back=>?_
 · exact ⟨Nat.zero_le _,Nat.zero_le _,fun h=>⟨by rw [hA h];simp,by simp⟩,fun _=>⟨rfl,rfl⟩,RunsP.nil,Nat.le_refl _,fun m=>by simp [bR],fun r _=>Nat.zero_le _,fun _=>Nat.zero_le _,SlE.nil 202 2⟩
 have q:GvI l p n c b o g i d Aa ca Ab cb L v lb lsb:=q
 have I:=q
 obtain ⟨hi,hd,ha,hb,hok,hlen,hmem,hla,hlb,hsl⟩:=q
 have y:L.length≤100000:=by omega
 by_cases hin:i<n
 · obtain ⟨hAa,hca⟩:=ha hin
   subst hAa;subst hca
   have O:=hA (by omega)
   subst O
   have s:[(p,p+1)][0]?=some (p,p+1):=rfl
   obtain ⟨⟨f,t⟩,hr⟩:∃ r,l[i]?=some r:=⟨l[i],List.getElem?_eq_getElem (by omega)⟩
   have F:(f,t)∈l:=List.mem_of_getElem? hr
   have G:f<t:=D.pos _ F
   have B:t<4294967296:=K _ F
   have P:(f,t)∈l.drop i:=List.mem_of_getElem? (i:=0) (by rw [List.getElem?_drop];exact hr)
   have R:=mX (hla _ P)
   have z:decide (((n-i:Nat):Int)>0)=true:=decide_eq_true (by omega)
   rcases Nat.eq_zero_or_pos d with hd0 | hd1
   · subst hd0
     obtain ⟨hAb,hcb⟩:=hb rfl
     subst hAb;subst hcb
     by_cases hfp:f≤p
     · have Q:decide ((f:Int)≤(p:Int))=true:=decide_eq_true (by omega)
       refine bK [1,0] (br z bt)<|bK [9999,0,0,1] (br z bt)<|tE (.pointer (pO b (o+i*2+0*2))) [] [] (bL (t:=194) (e:=202) (k:=2) underlying194 .i64 b (o+i*2) (n-i) (c-i) 0 (by omega))<|zE<|tE (u32 f) [0] [(a,.fa (bN (pO b o) n c l))] (uq a b o n c i f t l hr)<|bj [9999]<|tE (u32 p) [1] [(j,.fa (bN (pA g) 1 1 [(p,p+1)]))] (ue j g 0 1 1 p (p+1) ([(p,p+1)]) s)<|bK [1,0] (br Q bt)<|bj [9999,4]<|tW (.pointer (pO b (o+i*2+0*2))) (bL (t:=194) (e:=202) (k:=2) underlying194 .i64 b (o+i*2) (n-i) (c-i) 0 (by omega))<|tE (.agg #[u32 f,u32 t]) [0] [(a,.fa (bN (pO b o) n c l))] (xt a b o n c i f t l hr) ?_
       refine zE<|tW (sO b (if c-i=1 then o+i*2 else o+i*2+1*2) (n-i-1) (c-i-1)) (jW (t:=194) (e:=202) (k:=2) underlying194 b (o+i*2) (n-i) (c-i) 1)<|zE<|cE (qU v lb f t lsb L hsl y G B R) [] [2] fun ⟨x,x1,x2⟩ hx=>?_
       try dsimp only at hx
       exact zE<|wE [0,1,3] 2 [(a,.fa (bN (pO b o) n c l)),(j,.fa (bN (pA g) 1 1 [(p,p+1)])),(x1,x2)]<|back _ (i+1,0,some ⟨b,if c-i=1 then o+i*2 else o+i*2+1*2,none⟩,c-i-1,some ⟨g,0,none⟩,1,gj L (f,t),x,x1,x2) (I.addA D hnl hnc hr E (.inr hfp) hx) (by dsimp only;omega) (by kernel_rfl)
     · have Q:decide ((f:Int)≤(p:Int))=false:=decide_eq_false (by omega)
       have C:=mX (hlb rfl)
       refine bK [1,0] (br z bt)<|bK [9999,0,0,1] (br z bt)<|tE (.pointer (pO b (o+i*2+0*2))) [] [] (bL (t:=194) (e:=202) (k:=2) underlying194 .i64 b (o+i*2) (n-i) (c-i) 0 (by omega))<|zE<|tE (u32 f) [0] [(a,.fa (bN (pO b o) n c l))] (uq a b o n c i f t l hr)<|bj [9999]<|tE (u32 p) [1] [(j,.fa (bN (pA g) 1 1 [(p,p+1)]))] (ue j g 0 1 1 p (p+1) ([(p,p+1)]) s)<|bK [2,0] (br Q bt)<|bj [9999,4,9999]<|tE (.agg #[u32 p,u32 ↑(p+1)]) [1] [(j,.fa (bN (pA g) 1 1 [(p,p+1)]))] (rO j g 0 1 1 p (p+1) ([(p,p+1)]) s)<|bj [9999] ?_
       refine cE (qU v lb p (p+1) lsb L hsl y (by omega) (by omega) C) [] [2] fun ⟨x,x1,x2⟩ hx=>?_
       try dsimp only at hx
       exact zE<|wE [0,1,3] 2 [(a,.fa (bN (pO b o) n c l)),(j,.fa (bN (pA g) 1 1 [(p,p+1)])),(x1,x2)]<|back _ (i,1,some ⟨b,o+i*2,none⟩,c-i,some ⟨g,0,none⟩,0,gj L (p,p+1),x,x1,x2) (I.addB (Bm D hr (by omega)) hx) (by dsimp only;omega) (by kernel_rfl)
   · have w:d=1:=by omega
     subst w
     refine bK [1,0] (br z bt)<|bj [9999,0,0,0]<|bj [9999,4]<|tW (.pointer (pO b (o+i*2+0*2))) (bL (t:=194) (e:=202) (k:=2) underlying194 .i64 b (o+i*2) (n-i) (c-i) 0 (by omega))<|tE (.agg #[u32 f,u32 t]) [0] [(a,.fa (bN (pO b o) n c l))] (xt a b o n c i f t l hr)<|zE<|tW (sO b (if c-i=1 then o+i*2 else o+i*2+1*2) (n-i-1) (c-i-1)) (jW (t:=194) (e:=202) (k:=2) underlying194 b (o+i*2) (n-i) (c-i) 1)<|zE<|cE (qU v lb f t lsb L hsl y G B R) [] [2] fun ⟨x,x1,x2⟩ hx=>?_
     try dsimp only at hx
     exact zE<|wE [0,1,3] 2 [(a,.fa (bN (pO b o) n c l)),(j,.fa (bN (pA g) 1 1 [(p,p+1)])),(x1,x2)]<|back _ (i+1,1,some ⟨b,if c-i=1 then o+i*2 else o+i*2+1*2,none⟩,c-i-1,Ab,cb,gj L (f,t),x,x1,x2) (I.addA D hnl hnc hr E (.inl rfl) hx) (by dsimp only;omega) (by kernel_rfl)
 · have H:i=n:=by omega
   subst H
   have z:decide (((i-i:Nat):Int)>0)=false:=decide_eq_false (by omega)
   rcases Nat.eq_zero_or_pos d with hd0 | hd1
   · subst hd0
     obtain ⟨hAb,hcb⟩:=hb rfl
     subst hAb;subst hcb
     have C:=mX (hlb rfl)
     have s:[(p,p+1)][0]?=some (p,p+1):=rfl
     refine bK [2,0,0] (br z bt)<|bK [9999,0,0,2,0] (br z bt)<|bj [9999,4,9999]<|tE (.agg #[u32 p,u32 ↑(p+1)]) [1] [(j,.fa (bN (pA g) 1 1 [(p,p+1)]))] (rO j g 0 1 1 p (p+1) ([(p,p+1)]) s)<|bj [9999]<|cE (qU v lb p (p+1) lsb L hsl y (by omega) (by omega) C) [] [2] fun ⟨x,x1,x2⟩ hx=>?_
     try dsimp only at hx
     exact zE<|wE [0,1,3] 2 [(a,.fa (bN A i c l)),(j,.fa (bN (pA g) 1 1 [(p,p+1)])),(x1,x2)]<|back _ (i,1,Aa,ca,some ⟨g,0,none⟩,0,gj L (p,p+1),x,x1,x2) (I.addB (fun r hr=>by rw [List.drop_of_length_le (by omega)] at hr;cases hr) hx) (by dsimp only;omega) (by kernel_rfl)
   · have w:d=1:=by omega
     subst w
     exact bK [2,0,0] (br z bt)<|rT (L,v,lb,lsb) 9999 [2] rfl ⟨hok,by dsimp only;omega,fun m=>by dsimp only;rw [hmem,List.take_of_length_le (by omega)];simp,hsl⟩
theorem Dr (n c a p:Nat) (A:Option Addr) (l:bV) (s:RunsP l) (t:n≤50000) (u:p<4294967295) (d:¬ bR l p) (g:∀ r∈l,r.2<4294967296) :
 TT 188 #[.slice A n c,.int .u32 p] [(a,.fa (bN A n c l))] [] (fun x:bV×Nat×Nat=>RunsP x.1∧x.1.length≤n+1∧∀ m,bR x.1 m↔bR l m∨m=p) (fun x=>.returned (.tuple #[sA x.2.1 x.1.length x.2.2,i64 0])) (fun _=>[]) (fun x=>[(x.2.1,.fa (bN (pA x.2.1) x.1.length x.2.2 x.1))]):=by
 have i:=s.ok
 have f:¬ Ap l p:=fun h=>d (wF h)
 have j:p<p+1:=Nat.lt_succ_self p
 have k:((p:Int)==4294967295)=false:=by simp;omega
 refine cJ func188 (by kernel_rfl) fun w0 ho=>?_
 have q:∀ w,bN A n c l w→∃ b o,0<n→A=some ⟨b,o,none⟩:=fun w h=>by
  rcases Nat.eq_zero_or_pos n with h0 | h0
  · exact ⟨0,0,fun h=>by omega⟩
  · obtain ⟨b,o,e⟩:=mY h0 w h
    exact ⟨b,o,fun _=>e⟩
 refine fP 0 a (bN A n c l) q fun ⟨b,o,hA⟩=>zE<|bv (uw A n c a p l i (by omega) f) [0] []<|bK [0,0,2,0,0] (br k bt)<|vC 26 u32 (An ((↑p:Int)+1) (p+1))<|cE (pK p (p+1) j) [] [] fun x _=>ip 1 x (.cl [.int .u32 p,.int .u32 ((p+1:Nat):Int)] 202) (bN (pA x) 1 1 [(p,p+1)]) (fun w h=>by
  obtain ⟨ob,g1,g2⟩:=h
  exact ⟨rfl,Nat.le_refl _,by simp only [maxLen];omega,fun _=>⟨x,0,rfl,ob,g1,bA ob g2⟩⟩) ?_
 refine cE (C1 b o n c a x x p A hA l s t u d g) [0,1] [] fun ⟨L,v,lb,lsb⟩ ⟨h1,h2,h3,h4⟩=>?_
 dsimp only at h1 h2 h3 h4
 have y:0<L.length:=by
  obtain ⟨r,hr,_⟩:=(h3 p).2 (.inr rfl)
  exact List.length_pos_of_mem hr
 rcases h4 with ⟨_,h0,_,_⟩ | ⟨cap,rfl,rfl⟩
 · omega
 exact zE<|ip 2 lb (.pr (bn 202 2 L.length cap (cG L))) (bN (pA lb) L.length cap L) (fun w h=>pE rfl w h)<|rT (L,lb,cap) 9999 [2] rfl ⟨h1,h2,h3⟩
theorem vD:TT 41 #[] [] [] (fun _:Nat×Nat=>True) (fun x=>.returned (bi x.1)) (fun _=>[]) (fun x=>[(x.1,.cl [.map (some x.2)] 182),(x.2,.pr (bB eW []))]):=iE func41<|bu [9999,9999] 2 fun nm=>lE 0 (nm 0) (.ob (Obj.map #[] 0)) (.pr (bB eW [])) (dL eW 0)<|rT ((nm 1,nm 0)) 9999 [1,0]
theorem mn (r m t g kb d kn kc a:Nat) (key:Bs) (l:List ((Nat×Nat)×Vl)) (h:lk l (t,g)=some (sO kb d kn kc)) (b:kn=key.length) (h0:0<kn:=by omega) (f:kn≤65536:=by omega) :
 TT 58 #[bi r,u32 (t:Int),u16 (g:Int)] [(r,.cl [.map (some m)] 182),(m,.pr (bB eW l)),(a,.fa (BF (some ⟨kb,d,none⟩) kn kc key))] [] (fun _:Nat×Nat=>True) (fun x=>.returned (.tuple #[.slice (some ⟨x.1,0,none⟩) kn x.2,i64 0])) (fun _=>[]) (fun x=>[(x.1,.fa (BF (some ⟨x.1,0,none⟩) kn x.2 key))]):=iE func58<|bj [0,0,0,9999]<|rE (tZ m l t g (sO kb d kn kc) h) [1]<|bu [0,9999] 1 fun nm=>xK (dY (nm 0) kb d kn kc a key b h0) [2] [3] fun ⟨x,x1⟩ _=>fE 4 x (bn 5 1 kn x1 (List.map B8 key)) bx fun hc=>zE<|eh (e:=5) (n:=kn) (c:=x1) (l:=key) 4 x b<|rT ((x,x1)) 9999 [4]
theorem Ar (r m t g kb d kn kc a:Nat) (key:Bs) (l:List ((Nat×Nat)×Vl)) (h:lk l (t,g)=none) (b:kn=key.length) (f:kn=16∨kn=32) :
 TT 49 #[bi r,u32 t,u16 g,sO kb d kn kc] [(r,.cl [.map (some m)] 182),(a,.fa (BF (pO kb d) kn kc key))] [(m,.pr (bB eW l))] (fun _:Nat×Nat=>True) (fun x=>.returned (i64 0)) (fun x=>[(m,.pr (bB eW (up l (t,g) (sA x.1 kn x.2))))]) (fun x=>[(x.1,.fa (BF (pA x.1) kn x.2 key))]):=by
 refine iE func49<|bj [0,0]<|bv (vz (pO kb d) kn kc 1 f (by omega) (by omega)) [] []<|bj [0,0,9999]<|rE (Er m l t g h) [2]<|bj [0]<|bu [9999,4,0,9999,9999] 1 fun nm=>xK (dY (nm 0) kb d kn kc a key b) [1] [3] fun ⟨x,x1⟩ _=>zE<|xE (IN m l t g (sA x kn x1)) [] [2] fun _ _=>zE ?_
 exact eh (e:=5) (n:=kn) (c:=x1) (l:=key) 4 x b<|rT ((x,x1)) 9999 [4]
theorem D5 (r m t g:Nat) (v:Vl) (l:List ((Nat×Nat)×Vl)) (h:lk l (t,g)=some v) :
 TT 53 #[bi r,u32 t,u16 g] [(r,.cl [.map (some m)] 182)] [(m,.pr (bB eW l))] uT (fun x=>.returned (i64 0)) (fun _=>[(m,.pr (bB eW (del l (t,g))))]) (fun _=>[]):=iE func53<|bj [0,0,0,9999]<|rE (tZ m l t g v h) [1]<|bj [0,0,9999]<|xE (Ix m l t g 0) [] [1] fun _ _=>zE<|rT ()
theorem zZ:TT 22 #[] [] [] (fun _:Nat=>True) (fun x=>.returned (bi x)) (fun _=>[]) (fun x=>[(x,.cl [.slice none 0 0] 128)]):=iE func22<|bu [9999,9999] 1 fun nm=>rT (nm 0) 9999 [0]
theorem xk (j kb a kn kc b d f h i t k l p c g n lb:Nat) (lsb:SB) (lv:Vl) (xs:List Vl) (key pl:Bs) (m:SlE 502 9 n xs lv (lb,lsb)) (v:n≤1000000) (w:kn=16∨kn=32) (o:kn=key.length) (q:kn≤kc) (r:224=pl.length) (y:t<4294967296) (s:1≤k) (u:k≤4) (A:l<256) (B:p<4294967296) (hc:c<18446744073709551616) (C:g<65536) :
 TT 377 #[bi j,sO kb a kn kc,mr t k l p c g,sO b d 224 f] [(h,.fa (BF (pO kb a) kn kc key)),(i,.fa (BF (pO b d) 224 f pl))] [(j,.cl [lv] 128),(lb,lsb)]
  (fun x:(Nat×Nat)×(Option Addr×Nat×Nat×SB)=>∃ ys,SlE 502 9 (n+1) ys (.slice x.2.1 (n+1) x.2.2.1) (x.2.2.2.1,x.2.2.2.2)) (fun x=>.returned (.tuple #[sA x.1.1 256 x.1.2,i64 0])) (fun x=>[(j,.cl [.slice x.2.1 (n+1) x.2.2.1] 128),(lb,.dead)]) (fun x=>[(x.1.1,.fa (BF (pA x.1.1) 256 x.1.2 (bI key t k l p c g pl))),(x.2.2.2.1,x.2.2.2.2)]):=by
 refine iE func377<|bu [9999,0,0,4] 1 fun nm=>cE (Gp kb a kn kc b d f h i t k l p c g key pl w o q r y s u A B hc C) [0,1] [] fun ⟨x,x1⟩ _=>bj [0,0]<|bj [17,8,2,4]<|tE (Value.string {data:=List.toArray key}) [0] [(h,.fa (BF (pO kb a) kn kc key))] (fy h kb a kn kc key)<|zE<|tE (Value.string {data:=List.toArray pl}) [1] [(i,.fa (BF (pO b d) 224 f pl))] (fy i b d 224 f pl)<|zE<|tE (Value.string {data:=List.toArray (bI key t k l p c g pl)}) [5] [(x,.fa (BF (pA x) 256 x1 (bI key t k l p c g pl)))] (fy x x 0 256 x1 (bI key t k l p c g pl))<|bu [9999,9999] 1 fun nm1=>?_
 exact iI (j0 (t:=126) (e:=502) (ty:=126) (k:=9) (by_:=80) (z:=.agg #[u32 0,u8 0,u8 0,u32 0,u64 0,u16 0,Value.string {data:=#[]},Value.string {data:=#[]},Value.string {data:=#[]}]) underlying126 lv lb lsb n xs m (nm1 0) 1 1 ([u32 t,u8 k,u8 l,u32 p,u64 c,u16 g,Value.string {data:=List.toArray key},Value.string {data:=List.toArray pl},Value.string {data:=List.toArray (bI key t k l p c g pl)}]) (by kernel_rfl) (by kernel_rfl) (by kernel_rfl) (by omega) rfl rfl v) [6] [3] (Views.less (.cl [u32 t,u8 k,u8 l,u32 p,u64 c,u16 g,Value.string {data:=List.toArray key},Value.string {data:=List.toArray pl},Value.string {data:=List.toArray (bI key t k l p c g pl)}] 502) bA Views.nil) fun ⟨x2,x3,x4,x5⟩ hx=>bj [2]<|rT (((x,x1),x2,x3,x4,x5)) 9999 [5,7] rfl (by (exact ⟨_,by assumption⟩))
theorem Ie (A:Option Addr) (c:Nat):TT 90 #[.slice A 1 c] [] [] uT (fun x=>.returned (.tuple #[])) (fun _=>[]) (fun _=>[]):=by
 refine iE func90<|bj [9999]<|eA (args:=#[u64 1]) func163<|bj [0]<|eA (args:=#[u64 1]) func239<|bj [0,0,0,0,0,0,9999,9999,9999]<|eC (i64 1) 9999<|zE<|eC (i64 1) 9999<|eA (args:=#[.slice A 1 c,i64 0,i64 1,i64 1]) func166<|bj [3,0,0] ?_
 exact eA (args:=#[.slice A 1 c,i64 0,i64 1]) func249<|bj [3,0,0]<|eC (.tuple #[]) 9999<|zE<|eC (.tuple #[]) 9999<|zE<|rT ()
theorem D4 (A:Option Addr) (c:Nat):TT 90 #[.slice A 0 c] [] [] uT (fun x=>.returned (.tuple #[])) (fun _=>[]) (fun _=>[]):=by
 refine iE func90<|bj [9999]<|eA (args:=#[u64 0]) func163<|bj [0]<|eA (args:=#[u64 0]) func239<|bj [0,0,0,0,0,0,9999,9999,9999]<|eC (i64 0) 9999<|zE<|eC (i64 0) 9999<|eA (args:=#[.slice A 0 c,i64 0,i64 0,i64 0]) func166<|bj [3,0,0] ?_
 exact eA (args:=#[.slice A 0 c,i64 0,i64 0]) func249<|bj [3,0,0]<|eC (.tuple #[]) 9999<|zE<|eC (.tuple #[]) 9999<|zE<|rT ()
abbrev cr:Nat→Vl:=fun n=>.int .u32 (n:Int)
theorem wh (n:Nat) (h:n≤12):TT 163 #[.int .u64 n] [] [] (fun r:Int=>True) (fun r=>.returned (i64 r)) (fun _=>[]) (fun _=>[]):=iE func163<|bj [0]<|eA (args:=#[u64 n]) func239<|bK [2,0,2,0,2,0,9999] (br (dF ((↑n:Int)≥256)) (br (dF ((↑n:Int)≥65536)) (br (dF ((↑n:Int)≥4294967296)) bt)))<|vC 21 u8 (show IntKind.wrap .u8 n=(n:Int) from (k5))<|Eq (v:=.int .u8 (Lib.len8 (n:Int))) (Reads.pure fun w=>Lib.run_index_len8tab w 9 .u8 n (by kernel_rfl) (by omega) (by omega)) [] Views.nil (by kernel_rfl)<|bj [9999]<|eC (i64 (IntKind.wrap .i64 (0+IntKind.wrap .i64 (Lib.len8 (↑n:Int))))) 9999<|zE<|rT (IntKind.wrap .i64 (0+IntKind.wrap .i64 (Lib.len8 (↑n:Int))))
theorem AA (x y:Nat):TT 235 #[cr x,cr y] [] [] uT (fun r=>.returned (.bool (decide ((x:Int)<(y:Int))))) (fun _=>[]) (fun _=>[]):=iE func235<|zE<|eA (args:=#[u32 x]) func345<|bK [2] (br (tF ((↑x:Int) != (↑x:Int))) bt)<|eC (.bool false) 9999<|bj [0]<|rT ()
section
variable {P:Program} {Q:QR} {K0:Nat→Prop} {w0:World} {M:List Nat} {st:ES}
theorem IP (j b:Nat) {e:TypeId} {n cap:Nat} {xs:List Vl} (d:(st.H[j]?,eF st.todo)=(some (b,.pr (bn e 1 n cap xs)),true)) (h:∀ rest,rest.length+n=cap→cap≤maxLen→xs.length=n→GW P Q K0 w0 M ⟨st.todo,st.ts,st.ds,st.H.set j (b,.cl (xs++rest) e),st.nr⟩):GW P Q K0 w0 M st:=by
 refine iT j b _ d fun o c=>?_
 obtain ⟨cur,rfl,h1,h2,h3,h4⟩:=c
 rw [Nat.mul_one] at h1 h2
 have a:cur.toList.length=cap:=by simpa using h1
 have h5:=h (cur.toList.drop n) (by rw [List.length_drop,a];omega) h4 (by rw [← h2,List.length_take,a];omega)
 rw [← h2,List.take_append_drop] at h5
 simp only [Prod.mk.injEq] at d
 obtain ⟨hj,hn⟩:=d
 have f:=cj hj
 refine vJ j b (.ob (.cells cur e (0,0))) (.cl cur.toList e) ?_ (fun o c=>?_) ?_
 · simp [f,hn,SB.live]
 · have c:o = .cells cur e (0,0):=c
   subst c
   show _=_
   simp
 · simpa using h5
end
theorem IU {e:TypeId} {n cap:Nat} {xs a:List Vl} (h1:a.length+n=cap) (h2:cap≤maxLen) (h3:xs.length=n):∀ o,(SB.cl (xs++a) e).ok o→(SB.pr (bn e 1 n cap xs)).ok o:=by
 intro o h
 have h:o = .cells (xs++a).toArray e (0,0):=h
 subst h
 refine ⟨_,rfl,?_,?_,by omega,h2⟩
 · simp;omega
 · simp [Nat.mul_one,← h3]
theorem ud (b j:Nat) (L:List Nat) (a:List Vl) (h:j<L.length:=by omega):Reads prog (vS (Instr.loadAt 37 (.pointer (pO b (0+j*1))))) [(b,.cl (L.map cr++a) 37)] (cr (L.getD j 0)):=by
 rw [Nat.zero_add,Nat.mul_one]
 exact dM b j _ 37 _ (fun w=>by kernel_rfl) (by rw [List.getElem?_append_left (by simpa using h),List.getElem?_map,List.getD_eq_getElem?_getD,List.getElem?_eq_getElem h];rfl)
theorem HF (b j n:Nat) (L:List Nat) (a:List Vl) (h:j<L.length) :
 RunTri prog (uS (Instr.storeAt 37 (.pointer (pO b (0+j*1))) (cr n))) [] [(b,.cl (L.map cr++a) 37)] uT (fun _=>undef) (fun _=>[(b,.cl ((L.set j n).map cr++a) 37)]) (fun _=>[]):=by
 rw [Nat.zero_add,Nat.mul_one]
 have:=gy (P:=prog) (T:=37) b j (cr n) [cr n] (L.map cr++a) 37 rfl (by kernel_rfl) (by intro v hv;rw [List.mem_singleton.1 hv];rfl) (by simp;omega)
 have e:cW (L.map cr++a) j [cr n]=(L.set j n).map cr++a:=by
  rw [List.map_set]
  simp only [cW,List.length_cons,List.length_nil]
  rw [List.take_append_of_le_length (by simp;omega),List.drop_append_of_le_length (by simp;omega),← List.append_assoc]
  congr 1
  rw [List.set_eq_take_append_cons_drop,if_pos (by simpa using h),List.append_assoc,List.singleton_append]
 rw [e] at this
 exact this
def mN (L:List Nat) (i j:Nat):Prop:=∀ p q,p<q→q≤i→q≠j→L.getD p 0≤L.getD q 0
theorem mu (L:List Nat) (i j v:Nat) (h:i<L.length:=by omega):(L.set i v).getD j 0=if i=j then v else L.getD j 0:=by
 rw [List.getD_eq_getElem?_getD,List.getElem?_set]
 by_cases e:i=j
 · subst e;simp [h]
 · simp [e]
theorem tC {L:List Nat} {i j:Nat} (h:mN L i j) (c:0<j) (a:j≤i) (hi:i<L.length) (b:L.getD j 0<L.getD (j-1) 0):mN ((L.set j (L.getD (j-1) 0)).set (j-1) (L.getD j 0)) i (j-1):=by
 intro p q hpq hq hne
 have h1:(L.set j (L.getD (j-1) 0)).length=L.length:=by simp
 rw [mu _ _ _ _,mu _ _ _ _,mu _ _ _ _,mu _ _ _ _]
 by_cases hqj:q=j
 · subst hqj
   rw [if_neg (show ¬ (q-1=q) by omega),if_pos rfl]
   by_cases hp:q-1=p
   · rw [if_pos hp];omega
   · rw [if_neg hp,if_neg (show ¬ (q=p) by omega)]
     exact h p (q-1) (by omega) (by omega) (by omega)
 · rw [if_neg (show ¬ (j-1=q) by omega),if_neg (show ¬ (j=q) by omega)]
   by_cases hp:j-1=p
   · rw [if_pos hp];exact h j q (by omega) hq hqj
   · rw [if_neg hp]
     by_cases hp2:j=p
     · rw [if_pos hp2];exact h (j-1) q (by omega) hq hqj
     · rw [if_neg hp2];exact h p q hpq hq hqj
theorem oZ {L:List Nat} {i j:Nat} (h:mN L i j) (b:j≤i) (a:j=0∨L.getD (j-1) 0≤L.getD j 0):∀ p q,p<q→q≤i→L.getD p 0≤L.getD q 0:=by
 intro p q hpq hq
 by_cases hqj:q=j
 · subst hqj
   rcases a with a | a
   · omega
   · by_cases hp:p=q-1
     · subst hp;exact a
     · exact Nat.le_trans (h p (q-1) (by omega) (by omega) (by omega)) a
 · exact h p q hpq hq hqj
theorem xx {L:List Nat} {j:Nat} (b:0<j) (a:j<L.length):((L.set j (L.getD (j-1) 0)).set (j-1) (L.getD j 0)).Perm L:=by
 obtain ⟨k,rfl⟩:∃ k,j=k+1:=⟨j-1,by omega⟩
 simp only [Nat.add_sub_cancel]
 induction L generalizing k with
 | nil=>simp at a
 | cons x L ih=>
  cases k with
  | zero=>
   cases L with
   | nil=>simp at a
   | cons y L=>simp;exact List.Perm.swap x y L
  | succ k=>
   simp only [List.set_cons_succ,List.getD_cons_succ]
   exact List.Perm.cons x (ih k (by omega) (by simpa using a))
abbrev iS:Type:=List Nat×Nat
theorem IH (b n c:Nat) (l:List Nat) (h:n=l.length) (m:n≤12) :
 TT 229 #[sA b n c,i64 0,i64 n] [] [(b,.pr (bn 37 1 n c (l.map cr)))] (fun L:List Nat=>L.Perm l∧∀ p q,p<q→q<n→L.getD p 0≤L.getD q 0) (fun _=>.returned (.tuple #[])) (fun L=>[(b,.pr (bn 37 1 n c (L.map cr)))]) (fun _=>[]):=by
 refine iE func229<|IP (e:=37) (n:=n) (cap:=c) (xs:=l.map cr) 0 b (by kernel_rfl) fun rest hr hm hx=>zE<|cY (X:=iS) (fun x=>x.1.Perm l∧1≤x.2∧(x.2≤n∨x.2=1)∧∀ p q,p<q→q<x.2→x.1.getD p 0≤x.1.getD q 0) (fun x=>n+1-x.2) 49 (fun x=>[(0,sA b n c),(1,i64 0),(2,i64 n),(6,i64 x.2)]) (fun x=>[(b,.cl (x.1.map cr++rest) 37)]) (l,1) (by kernel_rfl) ⟨List.Perm.refl _,Nat.le_refl _,.inr rfl,fun p q h1 h2=>by omega⟩ fun ⟨L,i⟩ u J hpre back=>?_
 have g:L.Perm l:=hpre.1
 have o:1≤i:=hpre.2.1
 have r:i≤n∨i=1:=hpre.2.2.1
 have hs:∀ p q,p<q→q<i→L.getD p 0≤L.getD q 0:=hpre.2.2.2
 clear hpre
 have s:L.length=n:=by rw [g.length_eq,h]
 rcases Nat.lt_or_ge i n with hlt | hge
 · have h1:decide ((i:Int)<n)=true:=by simp;omega
   refine bK [1,0] (br h1 bt)<|cY (X:=iS) (fun x=>x.1.Perm l∧x.2≤i∧mN x.1 i x.2) (fun x=>x.2) 49 (fun x=>[(0,sA b n c),(1,i64 0),(2,i64 n),(6,i64 i),(7,i64 x.2)]) (fun x=>[(b,.cl (x.1.map cr++rest) 37)]) (L,i) (by kernel_rfl) ⟨g,Nat.le_refl _,fun p q h1 h2 h3=>hs p q h1 (by omega)⟩ fun ⟨L',j⟩ u' J' hpre' back'=>?_
   have a:L'.Perm l:=hpre'.1
   have d:j≤i:=hpre'.2.1
   have f:mN L' i j:=hpre'.2.2
   clear hpre'
   have v:L'.length=n:=by rw [a.length_eq,h]
   rcases Nat.eq_zero_or_pos j with rfl | hj
   · have h0:decide (((0:Nat):Int)>0)=false:=rfl
     exact zE<|bj [9999,0,0,0]<|vC 6 i64 (wI ((↑i:Int)+1) (i+1))<|back _ (L',i+1) ⟨a,by omega,.inl (by omega),fun p q h1 h2=>oZ f d (.inl rfl) p q h1 (by omega)⟩ (by dsimp only;omega) (by kernel_rfl)
   · have h0:decide ((j:Int)>0)=true:=by simp;omega
     have w:IntKind.i64.wrap ((j:Int)-1)=((j-1:Nat):Int):=di (by omega)
     rcases Nat.lt_or_ge (L'.getD j 0) (L'.getD (j-1) 0) with hc | hc
     · have h2:decide (((L'.getD j 0:Nat):Int)<((L'.getD (j-1) 0:Nat):Int))=true:=decide_eq_true (by omega)
       refine zE<|bK [9999,0,1] (br h0 bt)<|tE (.pointer (pO b (0+j*1))) [] [] (bL (t:=45) (e:=37) (k:=1) underlying45 .i64 b 0 n c j (by omega))<|tE (cr (List.getD L' j 0)) [0] [(b,.cl (List.map cr L'++rest) 37)] (ud b j L' rest)<|zE<|vC 26 i64 (wI ((↑j:Int)-1) (j-1))<|tE (.pointer (pO b (0+(j-1)*1))) [] [] (bL (t:=45) (e:=37) (k:=1) underlying45 .i64 b 0 n c (j-1) (by omega))<|tE (cr (List.getD L' (j-1) 0)) [0] [(b,.cl (List.map cr L'++rest) 37)] (ud b (j-1) L' rest)<|zE<|bv (AA (List.getD L' j 0) (List.getD L' (j-1) 0)) [] []<|bK [1] (br h2 bt) ?_
       refine bj [15,0]<|vC 40 i64 (wI ((↑j:Int)-1) (j-1))<|tW (.pointer (pO b (0+(j-1)*1))) (bL (t:=45) (e:=37) (k:=1) underlying45 .i64 b 0 n c (j-1) (by omega))<|tE (cr (List.getD L' (j-1) 0)) [0] [(b,.cl (List.map cr L'++rest) 37)] (ud b (j-1) L' rest)<|zE<|rE (bL (t:=45) (e:=37) (k:=1) underlying45 .i64 b 0 n c j (by omega)) []<|tE (cr (List.getD L' j 0)) [0] [(b,.cl (List.map cr L'++rest) 37)] (ud b j L' rest)<|tW (.pointer (pO b (0+j*1))) (bL (t:=45) (e:=37) (k:=1) underlying45 .i64 b 0 n c j (by omega))<|zE<|xE (HF b j (List.getD L' (j-1) 0) L' rest (by omega)) [] [0] fun _ _=>vC 37 i64 (wI ((↑j:Int)-1) (j-1)) ?_
       exact tW (.pointer (pO b (0+(j-1)*1))) (bL (t:=45) (e:=37) (k:=1) underlying45 .i64 b 0 n c (j-1) (by omega))<|zE<|xE (HF b (j-1) (List.getD L' j 0) (List.set L' j (List.getD L' (j-1) 0)) rest (by (simp [part];omega))) [] [0] fun _ _=>zE<|vC 7 i64 (wI ((↑j:Int)-1) (j-1))<|back' _ ((L'.set j (L'.getD (j-1) 0)).set (j-1) (L'.getD j 0),j-1) ⟨(xx hj (by omega)).trans a,by omega,tC f hj d (by omega) hc⟩ (by dsimp only;omega) (by kernel_rfl)
     · have h2:decide (((L'.getD j 0:Nat):Int)<((L'.getD (j-1) 0:Nat):Int))=false:=decide_eq_false (by omega)
       refine zE<|bK [9999,0,1] (br h0 bt)<|tE (.pointer (pO b (0+j*1))) [] [] (bL (t:=45) (e:=37) (k:=1) underlying45 .i64 b 0 n c j (by omega))<|tE (cr (List.getD L' j 0)) [0] [(b,.cl (List.map cr L'++rest) 37)] (ud b j L' rest)<|zE<|vC 26 i64 (wI ((↑j:Int)-1) (j-1))<|tE (.pointer (pO b (0+(j-1)*1))) [] [] (bL (t:=45) (e:=37) (k:=1) underlying45 .i64 b 0 n c (j-1) (by omega))<|tE (cr (List.getD L' (j-1) 0)) [0] [(b,.cl (List.map cr L'++rest) 37)] (ud b (j-1) L' rest)<|zE<|bv (AA (List.getD L' j 0) (List.getD L' (j-1) 0)) [] []<|bK [2] (br h2 bt) ?_
       exact vC 6 i64 (wI ((↑i:Int)+1) (i+1))<|back _ (L',i+1) ⟨a,by omega,.inl (by omega),fun p q h1 h2=>oZ f d (.inr hc) p q h1 (by omega)⟩ (by dsimp only;omega) (by kernel_rfl)
 · have h1:decide ((i:Int)<n)=false:=by simp;omega
   exact bK [2,0] (br h1 bt)<|lE 0 b (.cl (L.map cr++rest) 37) (.pr (bn 37 1 n c (L.map cr))) (IU hr hm (by rw [List.length_map,s]))<|rT L 9999 [] rfl ⟨g,fun p q h1 h2=>hs p q h1 (by omega)⟩
theorem EA (b n c:Nat) (l:List Nat) (d:n=l.length) (a:n≤12) :
 TT 81 #[sA b n c] [] [(b,.pr (bn 37 1 n c (l.map cr)))] (fun L:List Nat=>L.Perm l∧∀ p q,p<q→q<n→L.getD p 0≤L.getD q 0) (fun _=>.returned (.tuple #[])) (fun L=>[(b,.pr (bn 37 1 n c (L.map cr)))]) (fun _=>[]):=iE func81<|bj [9999]<|vC 8 u64 (DP n)<|cE (wh n a) [] [] fun x _=>eA (args:=#[sA b n c,i64 0,i64 n,i64 x]) func162<|bK [1,1,0] (br (show (decide (IntKind.wrap .i64 ((↑n:Int)-0)≤12))=true by (simp only [eE,dP,d6,dK,dl,decide_eq_true_eq,decide_eq_false_iff_not];omega)) bt)<|cE (IH b n c l d a) [] [0] fun x1 ⟨hx,hx1⟩=>zE<|eC (.tuple #[]) 9999<|zE<|rT x1
theorem G4 (A:Option Addr) (c:Nat):TT 229 #[.slice A 0 c,i64 0,i64 0] [] [] uT (fun x=>.returned (.tuple #[])) (fun _=>[]) (fun _=>[]):=iE func229<|bj [1,0,0]<|rT ()
theorem Hc (A:Option Addr) (c:Nat):TT 81 #[.slice A 0 c] [] [] uT (fun x=>.returned (.tuple #[])) (fun _=>[]) (fun _=>[]):=iE func81<|bj [9999]<|cE (wh 0 (by omega)) [] [] fun x _=>eA (args:=#[.slice A 0 c,i64 0,i64 0,i64 x]) func162<|bj [2,0,0]<|bv (G4 A c) [] []<|zE<|eC (.tuple #[]) 9999<|zE<|rT ()
theorem F9 (A:Option Addr) (c:Nat):TT 84 #[.slice A 0 c] [] [] uT (fun x=>.returned (.tuple #[])) (fun _=>[]) (fun _=>[]):=by
 refine iE func84<|bj [9999]<|cE (wh 0 (by omega)) [] [] fun x _=>eA (args:=#[.slice A 0 c,i64 0,i64 0,i64 x]) func165<|bj [2,0,0]<|eA (args:=#[.slice A 0 c,i64 0,i64 0]) func240<|bj [2,0,0]<|eC (.tuple #[]) 9999<|zE<|eC (.tuple #[]) 9999<|zE ?_
 exact rT ()
end Go.Proofs.YtlkeemedalncoaaGreat.En
