/- TopHandles, part 5: no condition. -/
import Derived.Test.YtlkeemedalncoaaGreatP04
set_option linter.all false
set_option maxHeartbeats 16000000
set_option maxRecDepth 100000
namespace Go.Proofs.YtlkeemedalncoaaGreat.En
open Go Go.Proofs.YtlkeemedalncoaaGreat Go.Proofs.Tryz
abbrev bQ (na nf N:Nat) (wv:Vl) (steps:Int):List Vl:=[sA na N N,sA nf N N,wv,u64 steps,i64 0,i64 (-1),.bool false]
abbrev bT:TypeId:=123
abbrev hY (b o:Nat):Vl:=.pointer (pO b o)
theorem qS (d na nf N:Nat) (a:Vl) (steps:Int):TT 87 #[bi d] [] [(d,.cl (bQ na nf N a steps) bT)] (fun _:Int=>True) (fun _=>.returned (i64 0)) (fun s=>[(d,.cl (bQ na nf N a s) bT)]) (fun _=>[]):=iE func87<|bj [0,0,0,0,0,0,0,0,0,0,0,0,0,0]<|rT (IntKind.u64.wrap (steps+1))
theorem z7 (d na nf N:Nat) (a:Vl) (steps:Int):TT 376 #[bi d] [] [(d,.cl (bQ na nf N a steps) bT)] (fun _:Int=>True) (fun _=>.returned (i64 0)) (fun s=>[(d,.cl (bQ na nf N a s) bT)]) (fun _=>[]):=iE func376<|bj [0,0]<|cE (qS d na nf N a steps) [] [0] fun s _=>zE<|rT s
theorem um (d na nf N:Nat) (a:Vl) (steps:Int):TT 173 #[bi d] [(d,.cl (bQ na nf N a steps) bT)] [] uT (fun _=>.returned (i64 N)) (fun _=>[]) (fun _=>[]):=iE func173<|bj [0,0,0]<|rT ()
theorem vt (d na nf N:Nat) (a:Vl) (steps:Int) (i:Nat) (hi:i<N):TT 86 #[bi d,i64 i] [(d,.cl (bQ na nf N a steps) bT)] [] uT (fun _=>.returned (.bool true)) (fun _=>[]) (fun _=>[]):=by
 have h1:decide ((i:Int)≥0)=true:=by simp
 have h2:decide ((i:Int)<(N:Int))=true:=by simp;omega
 exact iE func86<|bK [0,0,1] (br h2 bt)<|rT ()
theorem jh (d na nf N:Nat) (f:Vl) (steps:Int) (now:List Bs) (g:now.length=N) (a:bP now) (i:Nat) (hi:i<N) :
 TT 46 #[bi d,i64 i] [(d,.cl (bQ na nf N f steps) bT),(na,.cl (bE now) 166)] [] (fun _:Nat=>True) (fun b=>.returned (.tuple #[sA b 256 256,i64 0])) (fun _=>[]) (fun b=>[(b,.cl ((now.getD i []).map B8) 166)]):=by
 have c:i<now.length:=by omega
 have e:=iu a c
 exact cJ func46 (by kernel_rfl) fun w ho=>bj [0,0]<|bv (vt d na nf N f steps i hi) [0] []<|bj [0,0,0,0]<|xE (k7 (fun w=>ie (P:=prog) (t:=120) (w:=w) underlying120 (k:=256) na 0 N N i .i64 (by kernel_rfl) hi)) [] [] fun _ _=>xV (se (T:=166) na (0+i*256) ((now.getD i []).map B8) underlying166 rfl (by rw [List.length_map,e];kernel_rfl)) [1] [] (Views.less (.cl (bE now) 166) (fZ _ _ (by rw [Nat.zero_add];exact B9 a c)) Views.nil) fun _ _=>bu [] 1 fun nm=>xE (kU (T:=166) (nm 0) ((now.getD i []).map B8) (List.replicate 256 (u8 0)) 166 (by rw [List.length_map,e];kernel_rfl) (dB _) (by rw [List.length_map,e];kernel_rfl)) [] [2] fun _ _=>bj [9999]<|rT (nm 0) 9999 [2]
abbrev fJ (i:Nat) (l:Bs):List Vl:=i64 (i:Int)::l.map B8
abbrev th:Vl:=.agg (i64 0::List.replicate 256 (u8 0)).toArray
theorem wP {a:Nat→Option (Nat×Nat)} {k:Nat} {n:Int} {v:Vl} {vs:List Vl} (h0:a 0=some (0,1)) (h1:a 1=some (1,k)) (c:v.cells.toList=vs) (d:vs.length=k) (e:Vl) (b:List Vl) (f:b.length=k):Instr.fill a (e::b).toArray [(0,i64 n),(1,v)]=some (i64 n::vs).toArray:=by
 rw [m8 (off:=0) (size:=1) (vs:=[i64 n]) h0 rfl rfl (by simp),m8 (off:=1) (size:=k) (vs:=vs) h1 c d (by simp [cW];omega)]
 simp [cW,Instr.fill]
 omega
theorem rz (i:Nat) (l:Bs) (a:l.length=256) (w:World):(Instr.build 168 #[(0,i64 i),(1,.agg (l.map B8).toArray)]).run prog w = .ok (.agg (fJ i l).toArray) w:=w9 (z:=th) (places:=#[(0,1),(1,256)]) (fun w=>by kernel_rfl) underlying168 (fun w=>by kernel_rfl)<|wP (by kernel_rfl) (by kernel_rfl) (iX _) (by rw [List.length_map,a]) (i64 0) (List.replicate 256 (u8 0)) List.length_replicate
theorem ET (d na nf N:Nat) (j:Vl) (n:Nat×SB) (k:Nat) (p:List Vl) (r:SlE 168 257 k p j n) (v:k<100000) (steps:Int) (now:List Bs) (x:now.length=N) (a:bP now) (i:Nat) (hi:i<N) (g off c:Nat) (l:Bs) (f:l.length=256) :
 TT 187 #[bi d,i64 i,sO g off 256 c] [(g,.pr (bG off (l.map B8)))] [(d,.cl (bQ na nf N j steps) bT),(na,.cl (bE now) 166),n]
  (fun y:Int×Option Addr×Nat×(Nat×SB)=>SlE 168 257 (k+1) (p++fJ i l) (.slice y.2.1 (k+1) y.2.2.1) y.2.2.2) (fun _=>.returned (i64 0)) (fun y=>[(d,.cl (bQ na nf N (.slice y.2.1 (k+1) y.2.2.1) y.1) bT),(na,.cl (bE (now.set i l)) 166),(n.1,.dead)]) (fun y=>[y.2.2.2]):=by
 have q:i<now.length:=by omega
 refine cJ func187 (by kernel_rfl) fun w ho=>bj [0,0]<|bv (vt d na nf N j steps i hi) [1] []<|bj [0,0]<|cE (qS d na nf N j steps) [] [1] fun s _=>bj [0,0,9999,4,1] ?_
 have m:∀ w,(∀ (k b:Nat) (t:SB),[(g,SB.pr (bG off (l.map B8)))][k]?=some (b,t)→t.live=true→∃ o,w.heap[b]?=some o∧t.ok o)→(vS (Instr.loadAt 166 (hY g off))).run prog w = .ok (.value (.agg (l.map B8).toArray)) w:=fun w h=>by
  obtain ⟨o,h1,h2⟩:=h 0 _ _ rfl rfl
  exact ce (gI (P:=prog) (T:=166) h1 h2 underlying166 rfl (by rw [List.length_map,f];kernel_rfl))
 refine tE (.agg (l.map B8).toArray) [0] [(g,.pr (bG off (l.map B8)))] (fun w h _=>m w h)<|tE (hY na (i*256)) [] [] (fun w h _=>ce (by have:=ie (P:=prog) (t:=120) (w:=w) underlying120 (k:=256) na 0 N N i .i64;rw [Nat.zero_add] at this;exact this))<|zE<|xE (gy (T:=166) na (i*256) (.agg (l.map B8).toArray) (l.map B8) (bE now) 166 (iX _) (by rw [List.length_map,f];kernel_rfl) (dB _) (by rw [List.length_map,f,eZ a];omega)) [] [2] fun _ _=>?_
 rw [sr a q f]
 refine bj [14,8,1]<|tE (.agg (l.map B8).toArray) [0] [(g,.pr (bG off (l.map B8)))] (fun w h _=>m w h)<|tE (.agg (fJ i l).toArray) [] [] (fun w h _=>ce (rz i l f w))<|zE<|xE (ld (t:=121) (e:=168) (k:=257) (z:=th) underlying121 (.agg (fJ i l).toArray) (fJ i l) (iX _) (by simp [fJ,f])) [] [] fun nb _=>zE<|xV (jP (t:=121) (e:=168) (ty:=121) (k:=257) (by_:=264) (z:=th) underlying121 (by kernel_rfl) (by kernel_rfl) (by kernel_rfl) (by omega) j n k p r nb 0 1 1 (fJ i l) (by simp [fJ,f]) (by intro u hu;rcases List.mem_cons.1 hu with rfl | hu;rfl;exact dB _ u hu) (by omega) (by simp only [maxLen];omega)) [4] [3] (Views.less (.cl (fJ i l) 168) bA Views.nil) (fun y hy=>?_) (fun _ hy=>oi hy)
 exact bj [1]<|rT (s,y) 9999 [5] rfl hy
theorem nL (d na nf N:Nat) (c:Vl) (steps:Int) (now firm:List Bs) (b:now.length=N) (e:firm.length=N) (a:bP now) (f256:bP firm) :
 TT 43 #[bi d] [(na,.cl (bE now) 166)] [(d,.cl (bQ na nf N c steps) bT),(nf,.cl (bE firm) 166)] (fun _:Int=>True) (fun _=>.returned (i64 0)) (fun s=>[(d,.cl (bQ na nf N (.slice none 0 0) s) bT),(nf,.cl (bE now) 166)]) (fun _=>[]):=by
 refine iE func43<|bj [0,0]<|cE (qS d na nf N c steps) [] [1] fun s _=>bj [0,0,9999,4,1,1]<|xV (gF (dT:=120) (sT:=120) (ty:=3) (k:=256) underlying120 nf 0 N N na 0 N N (bE firm) (bE now) 166 (by rw [eZ a,b];simp) (by rw [eZ a,eZ f256,b,e];omega) (ql _)) [0] [2] (Views.less (.cl (bE now) 166) bA Views.nil) fun _ _=>?_
 rw [kr (by rw [eZ a,eZ f256,b,e])]
 exact bj [1]<|rT s
theorem Dw (N:Nat) (d:8≤N) (h4:N≤4096) :
 TT 19 #[i64 N] [] [] (fun _:Nat×Nat×Nat=>True) (fun x=>.returned (.tuple #[bi x.1,i64 0])) (fun _=>[]) (fun x=>[(x.1,.cl (bQ x.2.1 x.2.2 N (.slice none 0 0) 0) bT),(x.2.1,.cl (bE (List.replicate N (List.replicate 256 0))) 166),(x.2.2,.cl (bE (List.replicate N (List.replicate 256 0))) 166)]):=by
 have h1:decide ((N:Int)<8)=false:=by simp;omega
 have h2:decide ((N:Int)>4096)=false:=by simp;omega
 refine iE func19<|bK [2,2,0,9999,0] (br h2 (br h1 bt)) ?_
 have c:∀ _:Unit,RunTri prog (vS (Instr.makeSlice 120 (i64 N) (i64 N))) [] [] (fun _:Nat=>True) (fun b=>sA b N N) (fun _=>[]) (fun b=>[(b,.cl (bE (List.replicate N (List.replicate 256 0))) 166)]):=fun _=>by
  have:=og (P:=prog) (t:=120) (e:=166) (k:=256) (by_:=256) (z:=.agg (List.replicate 256 (u8 0)).toArray) (c0:=u8 0) underlying120 (by intro v hv;simp only [Value.cells,List.mem_toArray] at hv;exact (List.mem_replicate.1 hv).2) .i64 .i64 N (by simp only [maxLen];omega)
  rw [← oQ] at this
  exact this
 refine dq 1 3 ?_ ?_
 · exact xE (c ()) [] [] fun a _=>zE<|xE (c ()) [] [] fun b _=>bu [9999,9999] 1 fun nm=>rT (nm 0,a,b) 9999 [2,0,1]
 · exact xE (c ()) [] [] fun b _=>zE<|xE (c ()) [] [] fun a _=>bu [9999,9999] 1 fun nm=>rT (nm 0,a,b) 9999 [2,1,0]
theorem Ei (d na nf N:Nat) (steps:Int) (e:Option Addr) (f mc:Nat) (now firm:List Bs) (c:now.length=N) (b:firm.length=N) (a:bP now) (f256:bP firm) :
 TT 31 #[bi d,.slice e f mc] [(nf,.cl (bE firm) 166)] [(d,.cl (bQ na nf N (.slice none 0 0) steps) bT),(na,.cl (bE now) 166)] uT (fun _=>.returned (i64 0)) (fun _=>[(d,.cl (bQ na nf N (.slice none 0 0) steps) bT),(na,.cl (bE firm) 166)]) (fun _=>[]):=by
 refine iE func31<|bj [0,0,1,1,0,0,9999,4,1,1]<|xV (gF (dT:=120) (sT:=120) (ty:=3) (k:=256) underlying120 na 0 N N nf 0 N N (bE now) (bE firm) 166 (by rw [eZ f256,b];simp) (by rw [eZ a,eZ f256,c,b];omega) (ql _)) [0] [2] (Views.less (.cl (bE firm) 166) bA Views.nil) fun _ _=>?_
 rw [kr (by rw [eZ a,eZ f256,c,b])]
 exact bj [1,1,1,1]<|rT ()
theorem yZ (d na nf N:Nat) (steps:Int) (i e:Nat) (hi:i<N) (l:Bs) (f:l.length=3) (now firm:List Bs) (g:now.length=N) (h:firm.length=N) (a:bP now) (f256:bP firm) :
 TT 40 #[bi d,i64 i,i64 99,sA e 3 3] [(d,.cl (bQ na nf N (.slice none 0 0) steps) bT),(e,.pr (bG 0 (l.map B8)))] [(na,.cl (bE now) 166),(nf,.cl (bE firm) 166)] uT (fun _=>.returned (i64 0)) (fun _=>[(na,.cl (bE (now.set i (part (now.getD i []) 99 l))) 166),(nf,.cl (bE (firm.set i (part (firm.getD i []) 99 l))) 166)]) (fun _=>[]):=by
 refine cJ func40 (by kernel_rfl) fun w ho=>bj [0,0]<|bv (vt d na nf N (.slice none 0 0) steps i hi) [0] []<|bj [0,0,0,0,0] ?_
 have c:∀ b:Nat,RunTri prog (vS (Instr.indexAt 120 (sA b N N) (i64 i))) [] [] uT (fun _=>hY b (i*256)) (fun _=>[]) (fun _=>[]):=fun b=>k7 fun w=>by
  have:=ie (P:=prog) (t:=120) (w:=w) underlying120 (k:=256) b 0 N N i .i64
  rw [Nat.zero_add] at this
  exact this
 refine xE (c na) [] [] fun _ _=>bj [9999]<|xE (gF (dT:=27) (sT:=27) (ty:=3) (k:=1) underlying27 na (i*256+99) 157 157 e 0 3 3 (bE now) (l.map B8) 166 (by rw [List.length_map,f];rfl) (by rw [eZ a,List.length_map,f,g];omega) (dB _)) [1] [2] fun _ _=>?_
 rw [qH a (by omega) (by omega)]
 refine bj [0]<|xE (c nf) [] [] fun _ _=>bj [9999]<|xE (gF (dT:=27) (sT:=27) (ty:=3) (k:=1) underlying27 nf (i*256+99) 157 157 e 0 3 3 (bE firm) (l.map B8) 166 (by rw [List.length_map,f];rfl) (by rw [eZ f256,List.length_map,f,h];omega) (dB _)) [1] [3] fun _ _=>?_
 rw [qH f256 (by omega) (by omega)]
 exact zE<|rT ()
abbrev dc (d:Nat) (limit reserved committed:Int) (dv:Vl):List Vl:=[bi d,u64 limit,u64 reserved,u64 committed,dv]
abbrev df:TypeId:=125
theorem kj:∀ w,(isAgg 27).run prog w = .ok false w:=fun w=>by kernel_rfl
theorem jb (a b:Nat) (l:Bs) (h:l.length=16) {c:Nat}:RunTri prog (vS (Builtin.append_ #[27,27] 27 #[sA a 0 0,sA b 16 c])) [(b,.pr (bG 0 (l.map B8)))] [(a,.cl [] 5)] (fun _:Nat×Nat=>True) (fun y=>sA y.1 16 y.2) (fun _=>[(a,.dead)]) (fun y=>[(y.1,.pr (bn 5 1 16 y.2 (l.map B8)))]):=
 qf (P:=prog) (t:=27) (e:=5) (ty:=27) (k:=1) (by_:=1) (z:=u8 0) underlying27 a b 0 16 c (l.map B8) (by rw [List.length_map,h]) (dB _) (by simp [maxLen]) (by omega)
theorem bx {e:TypeId} {size n cap:Nat} {xs:List Vl}:∀ o,bn e size n cap xs o→n≤cap:=fun o ⟨_,_,_,_,h,_⟩=>h
theorem F6 (d dr l b f g:Nat) (a:Int) (h i j:Bs) (h0:h.length=16) (h1:i.length=16) (h2:j.length=16) :
 TT 20 #[bi d,u64 a,sA dr 3 l] [(dr,.pr (bG 0 [sA b 16 16,sA f 16 16,sA g 16 16])),(b,.pr (bG 0 (h.map B8))),(f,.pr (bG 0 (i.map B8))),(g,.pr (bG 0 (j.map B8)))] [] (fun x:Nat×Nat×Nat×Nat×Nat×List Vl=>x.2.2.2.2.2.length=2∧3≤x.2.2.1∧16≤x.2.2.2.2.1) (fun x=>.returned (.tuple #[bi x.1,i64 0])) (fun _=>[])
  (fun x=>[(x.1,.cl (dc d a 0 0 (sA x.2.1 3 x.2.2.1)) df),(x.2.1,.pr (bn 27 1 3 x.2.2.1 (sA x.2.2.2.1 16 x.2.2.2.2.1::x.2.2.2.2.2))),(x.2.2.2.1,.pr (bn 5 1 16 x.2.2.2.2.1 (h.map B8)))]):=by
 refine iE func20<|bu [0,0,9999,9999,4,0,0,9999] 1 fun nm=>xV (gC (T:=27) dr (0+0) (sA b 16 16) kj) [0] [] (Views.less (.pr (bG 0 [sA b 16 16,sA f 16 16,sA g 16 16])) (c7 0 0 (fG rfl)) Views.nil) fun _ _=>bu [12,0,4,9999] 1 fun nm1=>xE (jb (nm1 0) b h h0 (c:=16)) [1] [5] fun y0 _=>bu [9999] 1 fun nm2=>xV (kS (t:=26) (e:=27) (ty:=26) (k:=1) (by_:=24) (z:=.slice none 0 0) underlying26 (nm2 0) 0 1 1 [sA y0.1 16 y0.2] rfl (by intro u hu;rw [List.mem_singleton.1 hu];rfl) (by simp [maxLen]) (by omega)) [7] [] (Views.less (.cl [sA y0.1 16 y0.2] 27) bA Views.nil) fun z0 _=>bj [4,0,0,9999]<|xV (gC (T:=27) dr (0+1) (sA f 16 16) kj) [0] [] (Views.less (.pr (bG 0 [sA b 16 16,sA f 16 16,sA g 16 16])) (c7 0 1 (fG rfl)) Views.nil) fun _ _=>bu [12,256,4,9999] 1 fun nm3=>xE (jb (nm3 0) f i h1 (c:=16)) [2] [9] fun y1 _=>?_
 refine bu [9999] 1 fun nm4=>xV (gw (t:=26) (e:=27) (ty:=26) (k:=1) (by_:=24) (z:=.slice none 0 0) underlying26 (sA z0.1 1 z0.2) (z0.1,.pr (bn 27 1 1 z0.2 [sA y0.1 16 y0.2])) 1 [sA y0.1 16 y0.2] (SlE.row 27 1 1 [sA y0.1 16 y0.2] z0.1 z0.2) (nm4 0) 0 1 1 [sA y1.1 16 y1.2] rfl (by intro u hu;rw [List.mem_singleton.1 hu];rfl) (by simp [maxLen])) [11] [8] (Views.less (.cl [sA y1.1 16 y1.2] 27) bA Views.nil) fun z1 _=>bj [4,0,0,9999]<|xV (gC (T:=27) dr (0+2) (sA g 16 16) kj) [0] [] (Views.less (.pr (bG 0 [sA b 16 16,sA f 16 16,sA g 16 16])) (c7 0 2 (fG rfl)) Views.nil) fun _ _=>bu [12,4096,4,9999] 1 fun nm5=>xE (jb (nm5 0) g j h2 (c:=16)) [3] [13] fun y2 _=>bu [9999] 1 fun nm6=>xV (gw (t:=26) (e:=27) (ty:=26) (k:=1) (by_:=24) (z:=.slice none 0 0) underlying26 (sA z1.1 2 z1.2) (z1.1,.pr (bn 27 1 2 z1.2 [sA y0.1 16 y0.2,sA y1.1 16 y1.2])) 2 [sA y0.1 16 y0.2,sA y1.1 16 y1.2] (SlE.row 27 1 2 [sA y0.1 16 y0.2,sA y1.1 16 y1.2] z1.1 z1.2) (nm6 0) 0 1 1 [sA y2.1 16 y2.2] rfl (by intro u hu;rw [List.mem_singleton.1 hu];rfl) (by simp [maxLen])) [15] [12] (Views.less (.cl [sA y2.1 16 y2.2] 27) bA Views.nil) fun z2 _=>bj [4,0,0]<|fE 16 z2.1 (bn 27 1 3 z2.2 [sA y0.1 16 y0.2,sA y1.1 16 y1.2,sA y2.1 16 y2.2]) bx fun hc1=>fE 6 y0.1 (bn 5 1 16 y0.2 (h.map B8)) bx fun hc2=>?_
 exact rT ((nm 0),z2.1,z2.2,y0.1,y0.2,[sA y1.1 16 y1.2,sA y2.1 16 y2.2]) 9999 [4,16,6] rfl ⟨rfl,hc1,hc2⟩
theorem GS (d dr p b f g h i:Nat) (a:Int) (j l m n o:Bs) (h0:j.length=16) (h1:l.length=16) (h2:m.length=16) (h3:n.length=16) (h4:o.length=16) :
 TT 20 #[bi d,u64 a,sA dr 5 p] [(dr,.pr (bG 0 [sA b 16 16,sA f 16 16,sA g 16 16,sA h 16 16,sA i 16 16])),(b,.pr (bG 0 (j.map B8))),(f,.pr (bG 0 (l.map B8))),(g,.pr (bG 0 (m.map B8))),(h,.pr (bG 0 (n.map B8))),(i,.pr (bG 0 (o.map B8)))] [] (fun x:Nat×Nat×Nat×Nat×Nat×List Vl=>x.2.2.2.2.2.length=4∧5≤x.2.2.1∧16≤x.2.2.2.2.1) (fun x=>.returned (.tuple #[bi x.1,i64 0])) (fun _=>[])
  (fun x=>[(x.1,.cl (dc d a 0 0 (sA x.2.1 5 x.2.2.1)) df),(x.2.1,.pr (bn 27 1 5 x.2.2.1 (sA x.2.2.2.1 16 x.2.2.2.2.1::x.2.2.2.2.2))),(x.2.2.2.1,.pr (bn 5 1 16 x.2.2.2.2.1 (j.map B8)))]):=by
 refine iE func20<|bu [0,0,9999,9999,6,0,0,9999] 1 fun nm=>xV (gC (T:=27) dr (0+0) (sA b 16 16) kj) [0] [] (Views.less (.pr (bG 0 [sA b 16 16,sA f 16 16,sA g 16 16,sA h 16 16,sA i 16 16])) (c7 0 0 (fG rfl)) Views.nil) fun _ _=>bu [12,0,6,9999] 1 fun nm1=>xE (jb (nm1 0) b j h0 (c:=16)) [1] [7] fun y0 _=>bu [9999] 1 fun nm2=>xV (kS (t:=26) (e:=27) (ty:=26) (k:=1) (by_:=24) (z:=.slice none 0 0) underlying26 (nm2 0) 0 1 1 [sA y0.1 16 y0.2] rfl (by intro u hu;rw [List.mem_singleton.1 hu];rfl) (by simp [maxLen]) (by omega)) [9] [] (Views.less (.cl [sA y0.1 16 y0.2] 27) bA Views.nil) fun z0 _=>bj [6,0,0,9999]<|xV (gC (T:=27) dr (0+1) (sA f 16 16) kj) [0] [] (Views.less (.pr (bG 0 [sA b 16 16,sA f 16 16,sA g 16 16,sA h 16 16,sA i 16 16])) (c7 0 1 (fG rfl)) Views.nil) fun _ _=>bu [12,1024,6,9999] 1 fun nm3=>xE (jb (nm3 0) f l h1 (c:=16)) [2] [11] fun y1 _=>?_
 refine bu [9999] 1 fun nm4=>xV (gw (t:=26) (e:=27) (ty:=26) (k:=1) (by_:=24) (z:=.slice none 0 0) underlying26 (sA z0.1 1 z0.2) (z0.1,.pr (bn 27 1 1 z0.2 [sA y0.1 16 y0.2])) 1 [sA y0.1 16 y0.2] (SlE.row 27 1 1 [sA y0.1 16 y0.2] z0.1 z0.2) (nm4 0) 0 1 1 [sA y1.1 16 y1.2] rfl (by intro u hu;rw [List.mem_singleton.1 hu];rfl) (by simp [maxLen])) [13] [10] (Views.less (.cl [sA y1.1 16 y1.2] 27) bA Views.nil) fun z1 _=>bj [6,0,0,9999]<|xV (gC (T:=27) dr (0+2) (sA g 16 16) kj) [0] [] (Views.less (.pr (bG 0 [sA b 16 16,sA f 16 16,sA g 16 16,sA h 16 16,sA i 16 16])) (c7 0 2 (fG rfl)) Views.nil) fun _ _=>bu [12,16384,6,9999] 1 fun nm5=>xE (jb (nm5 0) g m h2 (c:=16)) [3] [15] fun y2 _=>bu [9999] 1 fun nm6=>xV (gw (t:=26) (e:=27) (ty:=26) (k:=1) (by_:=24) (z:=.slice none 0 0) underlying26 (sA z1.1 2 z1.2) (z1.1,.pr (bn 27 1 2 z1.2 [sA y0.1 16 y0.2,sA y1.1 16 y1.2])) 2 [sA y0.1 16 y0.2,sA y1.1 16 y1.2] (SlE.row 27 1 2 [sA y0.1 16 y0.2,sA y1.1 16 y1.2] z1.1 z1.2) (nm6 0) 0 1 1 [sA y2.1 16 y2.2] rfl (by intro u hu;rw [List.mem_singleton.1 hu];rfl) (by simp [maxLen])) [17] [14] (Views.less (.cl [sA y2.1 16 y2.2] 27) bA Views.nil) fun z2 _=>bj [6,0,0,9999]<|xV (gC (T:=27) dr (0+3) (sA h 16 16) kj) [0] [] (Views.less (.pr (bG 0 [sA b 16 16,sA f 16 16,sA g 16 16,sA h 16 16,sA i 16 16])) (c7 0 3 (fG rfl)) Views.nil) fun _ _=>bu [12,262144,6,9999] 1 fun nm7=>?_
 refine xE (jb (nm7 0) h n h3 (c:=16)) [4] [19] fun y3 _=>bu [9999] 1 fun nm8=>xV (gw (t:=26) (e:=27) (ty:=26) (k:=1) (by_:=24) (z:=.slice none 0 0) underlying26 (sA z2.1 3 z2.2) (z2.1,.pr (bn 27 1 3 z2.2 [sA y0.1 16 y0.2,sA y1.1 16 y1.2,sA y2.1 16 y2.2])) 3 [sA y0.1 16 y0.2,sA y1.1 16 y1.2,sA y2.1 16 y2.2] (SlE.row 27 1 3 [sA y0.1 16 y0.2,sA y1.1 16 y1.2,sA y2.1 16 y2.2] z2.1 z2.2) (nm8 0) 0 1 1 [sA y3.1 16 y3.2] rfl (by intro u hu;rw [List.mem_singleton.1 hu];rfl) (by simp [maxLen])) [21] [18] (Views.less (.cl [sA y3.1 16 y3.2] 27) bA Views.nil) fun z3 _=>bj [6,0,0,9999]<|xV (gC (T:=27) dr (0+4) (sA i 16 16) kj) [0] [] (Views.less (.pr (bG 0 [sA b 16 16,sA f 16 16,sA g 16 16,sA h 16 16,sA i 16 16])) (c7 0 4 (fG rfl)) Views.nil) fun _ _=>bu [12,4194304,6,9999] 1 fun nm9=>xE (jb (nm9 0) i o h4 (c:=16)) [5] [23] fun y4 _=>bu [9999] 1 fun nm10=>xV (gw (t:=26) (e:=27) (ty:=26) (k:=1) (by_:=24) (z:=.slice none 0 0) underlying26 (sA z3.1 4 z3.2) (z3.1,.pr (bn 27 1 4 z3.2 [sA y0.1 16 y0.2,sA y1.1 16 y1.2,sA y2.1 16 y2.2,sA y3.1 16 y3.2])) 4 [sA y0.1 16 y0.2,sA y1.1 16 y1.2,sA y2.1 16 y2.2,sA y3.1 16 y3.2] (SlE.row 27 1 4 [sA y0.1 16 y0.2,sA y1.1 16 y1.2,sA y2.1 16 y2.2,sA y3.1 16 y3.2] z3.1 z3.2) (nm10 0) 0 1 1 [sA y4.1 16 y4.2] rfl (by intro u hu;rw [List.mem_singleton.1 hu];rfl) (by simp [maxLen])) [25] [22] (Views.less (.cl [sA y4.1 16 y4.2] 27) bA Views.nil) fun z4 _=>bj [6,0,0]<|fE 26 z4.1 (bn 27 1 5 z4.2 [sA y0.1 16 y0.2,sA y1.1 16 y1.2,sA y2.1 16 y2.2,sA y3.1 16 y3.2,sA y4.1 16 y4.2]) bx fun hc1=>?_
 exact fE 8 y0.1 (bn 5 1 16 y0.2 (j.map B8)) bx fun hc2=>rT ((nm 0),z4.1,z4.2,y0.1,y0.2,[sA y1.1 16 y1.2,sA y2.1 16 y2.2,sA y3.1 16 y3.2,sA y4.1 16 y4.2]) 9999 [6,26,8] rfl ⟨rfl,hc1,hc2⟩
theorem qv (r d:Nat) (c a b:Int) (dv:Vl):Same 300 #[bi r] [(r,.cl (dc d c a b dv) df)] (u64 a):=iE func300<|bj [0,0,0]<|rT ()
theorem my (r d:Nat) (c b a:Int) (dv:Vl):Same 93 #[bi r] [(r,.cl (dc d c b a dv) df)] (u64 a):=iE func93<|bj [0,0,0]<|rT ()
theorem yQ (r d na nf N:Nat) (e:Vl) (steps c a b:Int) (dv:Vl) (h:decide (a≥c)=false) :
 TT 301 #[bi r] [] [(r,.cl (dc d c a b dv) df),(d,.cl (bQ na nf N e steps) bT)] (fun _:Int=>True) (fun _=>.returned (.tuple #[u64 (IntKind.u64.wrap (a+1)),i64 0]))
  (fun s=>[(r,.cl (dc d c (IntKind.u64.wrap (a+1)) b dv) df),(d,.cl (bQ na nf N e s) bT)]) (fun _=>[]):=iE func301<|bK [0,0,9999,0,0,0,2,0,0] (br h bt)<|cE (z7 d na nf N e steps) [] [1] fun s _=>bj [0,0,0,0,0]<|rT s
theorem zn (r d na nf N:Nat) (e:Vl) (steps c a b n:Int) (dv:Vl) (h:decide (n≤b)=false) (h2:decide (n>a)=false) :
 TT 308 #[bi r,u64 n] [] [(r,.cl (dc d c a b dv) df),(d,.cl (bQ na nf N e steps) bT)] (fun _:Int=>True) (fun _=>.returned (i64 0))
  (fun s=>[(r,.cl (dc d c a n dv) df),(d,.cl (bQ na nf N e s) bT)]) (fun _=>[]):=iE func308<|bK [0,0,0,2,0,2,0,0] (br h2 (br h bt))<|cE (z7 d na nf N e steps) [] [1] fun s _=>bj [0,0,0]<|rT s
theorem Gi (r d:Nat) (f b a:Int) (ra n c i kc:Nat) (j:1≤n) (hc:n≤c) (l:16≤kc) :
 TT 108 #[bi r,i64 16] [(ra,.pr (bG 0 [sA i 16 kc]))] [(r,.cl (dc d f b a (sA ra n c)) df)] (fun _:Nat×Nat×Nat=>True) (fun _=>.returned (.tuple #[sA i 16 16,i64 0]))
  (fun v=>[(r,.cl (dc d f b a (sO ra v.1 v.2.1 v.2.2)) df)]) (fun _=>[]):=by
 have h0:((n:Int)==0)=false:=by simp;omega
 refine cJ func108 (by kernel_rfl) fun w ho=>bK [0,0,0,0,0,1,2,1] (br h0 bt) ?_
 have g:RunTri prog (vS (Instr.indexAt 26 (sA ra n c) (i64 ((0:Nat):Int)))) [] [] uT (fun _=>bi ra) (fun _=>[]) (fun _=>[]):=k7 fun w=>ie (P:=prog) (t:=26) (w:=w) underlying26 (k:=1) ra 0 n c 0 .i64
 have h:=gC (P:=prog) (T:=27) ra 0 (.slice (some ⟨i,0,none⟩) 16 kc) kj
 refine xE g [] [] fun _ _=>zE<|xE h [0] [] fun _ _=>bj [0,0,1]<|xE g [] [] fun _ _=>zE<|xE h [0] [] fun _ _=>zE<|xE (k7 fun w=>sX (P:=prog) (t:=27) (e:=5) (k:=1) underlying27 (by kernel_rfl) i 0 16 kc none (some 16) (some 16) (by simp) (by simp) (by simp) (by simpa using l) w) [] [] fun _ _=>bj [1]<|xE (k7 fun w=>sX (P:=prog) (t:=26) (e:=27) (k:=1) underlying26 (by kernel_rfl) ra 0 n c (some 1) none none (by simp) (by simpa using j) (by simpa using hc) (by simp) w) [] [] fun _ _=>?_
 exact bj [1]<|rT (if c=1 then 0 else 0+1*1,n-1,c-1)
end Go.Proofs.YtlkeemedalncoaaGreat.En
namespace Go.Proofs.YtlkeemedalncoaaGreat.En
open Go Go.RowKit Go.Proofs.YtlkeemedalncoaaGreat Go.Proofs.Tryz
theorem i64_in (n:Int) (h:-4611686018427387904≤n) (h2:n≤4611686018427387904):IntKind.i64.wrap n=n:=IntWalk.i64_in _ (by omega)
theorem EG (x y:UInt8):Value.int .u8 (bits .xor .u8 x.toNat (y.toNat:Int))=B8 (x^^^y):=by
 rw [u8_xor_nat _ _ x.toNat_lt y.toNat_lt]
 simp
theorem si {t:TypeId} (l:Bs) (k:Nat) (h:k<l.length):∀ o,(SB.cl (l.map B8) t).ok o→(SB.pr (bG k [B8 (l.getD k 0)])).ok o:=
 fZ k _ (fG (by rw [List.getElem?_map,List.getD_eq_getElem?_getD,List.getElem?_eq_getElem h];rfl))
theorem v4:∀ w,(isAgg 5).run prog w = .ok false w:=fun w=>by kernel_rfl
theorem Iu (k:Nat) (h:k<4611686018427387904):IntKind.i64.wrap ((k:Int).tdiv 4)=((k/4:Nat):Int):=by
 have e:(k:Int).tdiv 4=((k/4:Nat):Int):=by simp [Int.tdiv_eq_ediv]
 rw [e]
 exact i64_in _ (by omega) (by omega)
theorem Db (k:Nat) (h:k<4611686018427387904):IntKind.i64.wrap ((k:Int)+1)=((k+1:Nat):Int):=by
 rw [i64_in _ (by omega) (by omega)]
 omega
theorem DD (b:Nat) (l:Bs) (h:l.length=16):RunTri prog (vS (Instr.loadAt 375 (bi b))) [(b,.pr (bG 0 (l.map B8)))] [] uT (fun _=>.agg (l.map B8).toArray) (fun _=>[]) (fun _=>[]):=
 se (P:=prog) (T:=375) b 0 (l.map B8) underlying375 rfl (by rw [List.length_map,h];kernel_rfl)
theorem C4 (b:Nat) (l:Bs) (h:l.length=16) (a:List Vl) (hc:a.length=16):RunTri prog (uS (Instr.storeAt 375 (bi b) (.agg (l.map B8).toArray))) [] [(b,.cl a 375)] uT (fun _=>undef) (fun _=>[(b,.cl (l.map B8) 375)]) (fun _=>[]):=
 kU (P:=prog) (T:=375) b (l.map B8) a 375 (by rw [List.length_map,h];kernel_rfl) (dB _) (by rw [List.length_map,h,hc])
theorem z6 (b k:Nat) (a:k<16) {w:World}:(Instr.indexAt 375 (bi b) (i64 k)).run prog w = .ok (hY b k) w:=by
 have:=jv (P:=prog) (t:=375) (w:=w) (n:=16) underlying375 (k:=1) b 0 k a .i64
 rw [Nat.zero_add,Nat.mul_one] at this
 exact this
def dI (s w:Bs):Nat→Bs
 | 0=>s
 | k+1=>(dI s w k).set k (s.getD k 0^^^w.getD k 0)
theorem c9 (s w:Bs):∀ k,(dI s w k).length=s.length
 | 0=>rfl
 | k+1=>by rw [dI,List.length_set,c9 s w k]
theorem sV (s w:Bs):∀ k j,k≤j→(dI s w k).getD j 0=s.getD j 0
 | 0,_,_=>rfl
 | k+1,j,h=>by
  rw [dI,List.getD_eq_getElem?_getD,List.getElem?_set_ne (by omega),← List.getD_eq_getElem?_getD,sV s w k j (by omega)]
theorem Ii (s w:Bs) (hs:s.length=16) (d:w.length=16) (wb off c:Nat) :
 Same 260 #[.agg (s.map B8).toArray,sO wb off 4 c] [(wb,.pr (bG off (w.map B8)))] (.agg ((dI s w 16).map B8).toArray):=by
 refine iE func260<|bu [9999] 2 fun nm=>cY (X:=Nat) (fun k=>k≤16) (fun k=>16-k) 24 (fun k=>[(1,sO wb off 4 c),(2,bi (nm 0)),(4,bi (nm 1)),(6,i64 k)]) (fun k=>[(wb,.pr (bG off (w.map B8))),(nm 0,.cl ((dI s w k).map B8) 375),(nm 1,.cl (List.replicate 16 (u8 0)) 375)]) 0 (by kernel_rfl) (by omega) fun k u J hk back=>?_
 rcases Nat.lt_or_ge k 16 with hlt | hge
 · have h1:decide ((k:Int)<16)=true:=by simp;omega
   have b:(dI s w k).getD k 0=s.getD k 0:=sV s w k k (Nat.le_refl _)
   refine bK [1,0,13,0] (br h1 bt)<|tE (hY (nm 0) k) [] [] (fun w h _=>ce (z6 (nm 0) k hlt))<|tE (B8 (s.getD k 0)) [1] [(nm 0,.cl ((dI s w k).map B8) 375)] (fun w' h _=>by
    obtain ⟨o,h1,h2⟩:=h 0 _ _ rfl rfl
    have:=fD (P:=prog) (T:=5) h1 (si _ k (by rw [c9,hs];exact hlt) o h2) v4
    rw [b] at this
    exact ce this) ?_
   refine zE<|vE 14 (i64 (IntKind.i64.wrap ((k:Int).tdiv 4))) (i64 ((k/4:Nat):Int)) (by rw [Iu k (by omega)])<|tE (hY wb (off+k/4*4)) [] [] (fun w h _=>ce (ie (P:=prog) (t:=369) (w:=w) underlying369 (k:=4) wb off 4 c (k/4) .i64))<|tE (hY wb (off+k)) [] [] (fun w h _=>ce (by
    have:=jv (P:=prog) (t:=450) (w:=w) (n:=4) underlying450 (k:=1) wb (off+k/4*4) (k%4) (by omega) .i64
    rw [show off+k/4*4+k%4*1=off+k by omega] at this
    exact this)) ?_
   refine tE (B8 (w.getD k 0)) [0] [(wb,.pr (bG off (w.map B8)))] (fun w' h _=>by
    obtain ⟨o,h1,h2⟩:=h 0 _ _ rfl rfl
    exact ce (fD (P:=prog) (T:=5) h1 (c7 off k (fG (by rw [List.getElem?_map,List.getD_eq_getElem?_getD,List.getElem?_eq_getElem (show k<w.length by omega)];rfl)) o h2) v4)) ?_
   exact zE<|tE (hY (nm 0) k) [] [] (fun w h _=>ce (z6 (nm 0) k hlt))<|zE<|vE 20 (.int .u8 (bits .xor .u8 ((s.getD k 0).toNat:Int) ((w.getD k 0).toNat:Int))) (B8 (s.getD k 0^^^w.getD k 0)) (EG _ _)<|xE (cn (nm 0) k (dI s w k) 375 (s.getD k 0^^^w.getD k 0) (by rw [c9,hs];exact hlt)) [] [1] fun _ _=>zE<|vE 6 (i64 (IntKind.i64.wrap ((k:Int)+1))) (i64 ((k+1:Nat):Int)) (by rw [Db k (by omega)])<|back _ (k+1) (by omega) (by omega) (by kernel_rfl)
 · obtain rfl:k=16:=by omega
   exact bj [0,0]<|xV (DD (nm 0) (dI s w 16) (by rw [c9,hs])) [1] [] (Views.less (.cl ((dI s w 16).map B8) 375) bA Views.nil) fun _ _=>zE<|xE (C4 (nm 1) (dI s w 16) (by rw [c9,hs]) (List.replicate 16 (u8 0)) rfl) [] [2] fun _ _=>zE<|lE 2 (nm 1) (.cl ((dI s w 16).map B8) 375) (.pr (bG 0 ((dI s w 16).map B8))) bA<|iz () (.agg ((dI s w 16).map B8).toArray) [] (Dd (a:=4) 2 (nm 1) underlying375 rfl (by rw [List.length_map,c9,hs];kernel_rfl)) rfl trivial
theorem Fx (t:Bs) (i:Nat) (h:i<t.length):(t.map B8)[i]?=some (B8 (t.getD i 0)):=by
 rw [List.getElem?_map,List.getD_eq_getElem?_getD,List.getElem?_eq_getElem h]
 rfl
def cC (s t:Bs):Nat→Bs
 | 0=>s
 | k+1=>(cC s t k).set k (t.getD (s.getD k 0).toNat 0)
theorem dh (s t:Bs):∀ k,(cC s t k).length=s.length
 | 0=>rfl
 | k+1=>by rw [cC,List.length_set,dh s t k]
theorem ss (s t:Bs):∀ k j,k≤j→(cC s t k).getD j 0=s.getD j 0
 | 0,_,_=>rfl
 | k+1,j,h=>by
  rw [cC,List.getD_eq_getElem?_getD,List.getElem?_set_ne (by omega),← List.getD_eq_getElem?_getD,ss s t k j (by omega)]
theorem G0 (s t:Bs) (hs:s.length=16) (d:t.length=256) (tb off:Nat) :
 Same 261 #[.agg (s.map B8).toArray,hY tb off] [(tb,.pr (bG off (t.map B8)))] (.agg ((cC s t 16).map B8).toArray):=by
 refine iE func261<|bu [9999] 2 fun nm=>cY (X:=Nat) (fun k=>k≤16) (fun k=>16-k) 20 (fun k=>[(1,hY tb off),(2,bi (nm 0)),(4,bi (nm 1)),(6,i64 k)]) (fun k=>[(tb,.pr (bG off (t.map B8))),(nm 0,.cl ((cC s t k).map B8) 375),(nm 1,.cl (List.replicate 16 (u8 0)) 375)]) 0 (by kernel_rfl) (by omega) fun k u J hk back=>?_
 rcases Nat.lt_or_ge k 16 with hlt | hge
 · have h1:decide ((k:Int)<16)=true:=by simp;omega
   have b:(cC s t k).getD k 0=s.getD k 0:=ss s t k k (Nat.le_refl _)
   have c:(s.getD k 0).toNat<256:=UInt8.toNat_lt _
   refine bK [1,0,9,0] (br h1 bt)<|tE (hY (nm 0) k) [] [] (fun w h _=>ce (z6 (nm 0) k hlt))<|tE (B8 (s.getD k 0)) [1] [(nm 0,.cl ((cC s t k).map B8) 375)] (fun w' h _=>by
    obtain ⟨o,h1,h2⟩:=h 0 _ _ rfl rfl
    have:=fD (P:=prog) (T:=5) h1 (si _ k (by rw [dh,hs];exact hlt) o h2) v4
    rw [b] at this
    exact ce this) ?_
   refine zE<|tE (hY tb (off+(s.getD k 0).toNat)) [] [] (fun w h _=>ce (by
    have:=jv (P:=prog) (t:=165) (w:=w) (n:=256) underlying165 (k:=1) tb off (s.getD k 0).toNat c .u8
    rw [Nat.mul_one] at this
    exact this)) ?_
   refine tE (B8 (t.getD (s.getD k 0).toNat 0)) [0] [(tb,.pr (bG off (t.map B8)))] (fun w' h _=>by
    obtain ⟨o,h1,h2⟩:=h 0 _ _ rfl rfl
    exact ce (fD (P:=prog) (T:=5) h1 (c7 off (s.getD k 0).toNat (fG (Fx t _ (by omega))) o h2) v4)) ?_
   exact zE<|tE (hY (nm 0) k) [] [] (fun w h _=>ce (z6 (nm 0) k hlt))<|zE<|xE (cn (nm 0) k (cC s t k) 375 (t.getD (s.getD k 0).toNat 0) (by rw [dh,hs];exact hlt)) [] [1] fun _ _=>zE<|vE 6 (i64 (IntKind.i64.wrap ((k:Int)+1))) (i64 ((k+1:Nat):Int)) (by rw [Db k (by omega)])<|back _ (k+1) (by omega) (by omega) (by kernel_rfl)
 · obtain rfl:k=16:=by omega
   exact bj [0,0]<|xV (DD (nm 0) (cC s t 16) (by rw [dh,hs])) [1] [] (Views.less (.cl ((cC s t 16).map B8) 375) bA Views.nil) fun _ _=>zE<|xE (C4 (nm 1) (cC s t 16) (by rw [dh,hs]) (List.replicate 16 (u8 0)) rfl) [] [2] fun _ _=>zE<|lE 2 (nm 1) (.cl ((cC s t 16).map B8) 375) (.pr (bG 0 ((cC s t 16).map B8))) bA<|iz () (.agg ((cC s t 16).map B8).toArray) [] (Dd (a:=4) 2 (nm 1) underlying375 rfl (by rw [List.length_map,dh,hs];kernel_rfl)) rfl trivial
theorem wM (s:Bs) (h:s.length=16):∃ a b c d e f g i j k l m n o p q,s=[a,b,c,d,e,f,g,i,j,k,l,m,n,o,p,q]:=by
 match s,h with
 | [a,b,c,d,e,f,g,i,j,k,l,m,n,o,p,q],_=>exact ⟨a,b,c,d,e,f,g,i,j,k,l,m,n,o,p,q,rfl⟩
def cw (s:Bs):Bs:=(List.range 16).map fun i=>s.getD (4*((i/4+i%4)%4)+i%4) 0
theorem dk (s:Bs):(cw s).length=16:=by simp [cw]
theorem o9 (s:Bs) (hs:s.length=16):Same 262 #[.agg (s.map B8).toArray,i64 1] [] (.agg ((cw s).map B8).toArray):=by
 obtain ⟨a,b,c,d,e,f,g,i,j,k,l,m,n,o,p,q,rfl⟩:=wM s hs
 refine iE func262<|fe ([9999,17]++(List.replicate 16 [0,0,9999,0,9999,2]).flatten++[0,0,2,1]) 3 _ bt fun nm=>⟨by kernel_rfl,?_⟩
 exact rT () 1
@[irreducible] def jl (a b c d:UInt8) (i:Nat):UInt8:=(gi [a,b,c,d] 16).getD i 0
theorem qP (a b c d:UInt8):Same 264 #[.agg ([a,b,c,d].map B8).toArray] [] (.agg ([jl a b c d 0,jl a b c d 1,jl a b c d 2,jl a b c d 3].map B8).toArray):=by
 have e:gi [a,b,c,d] 16=[jl a b c d 0,jl a b c d 1,jl a b c d 2,jl a b c d 3]:=by kernel_rfl
 rw [← e]
 exact II [a,b,c,d] rfl
def ed (s:Bs):Bs:=(List.range 16).map fun i=>jl (s.getD (i/4*4) 0) (s.getD (i/4*4+1) 0) (s.getD (i/4*4+2) 0) (s.getD (i/4*4+3) 0) (i%4)
theorem dZ (s:Bs):(ed s).length=16:=by simp [ed]
abbrev IX:Vl:=cT [] (.func 264)
theorem AK (s:Bs) (hs:s.length=16):Same 263 #[.agg (s.map B8).toArray,IX] [] (.agg ((ed s).map B8).toArray):=by
 obtain ⟨a,b,c,d,e,f,g,i,j,k,l,m,n,o,p,q,rfl⟩:=wM s hs
 refine iE func263<|bu [9999,5,0,0,9999,0] 2 fun nm=>bv (qP a b c d) [] []<|bu [2,9999,1,9999,9999] 1 fun nm1=>xV (gF (dT:=27) (sT:=27) (ty:=3) (k:=1) underlying27 (nm 0) 0 16 16 (nm1 0) 0 4 4 (((ed [a,b,c,d,e,f,g,i,j,k,l,m,n,o,p,q]).take 0++List.drop 0 [a,b,c,d,e,f,g,i,j,k,l,m,n,o,p,q]).map B8) ((((ed [a,b,c,d,e,f,g,i,j,k,l,m,n,o,p,q]).drop 0).take 4).map B8) 375 rfl (Nat.le_of_ble_eq_true (by kernel_rfl)) (dB _)) [2] [0] (Views.less (.cl ((((ed [a,b,c,d,e,f,g,i,j,k,l,m,n,o,p,q]).drop 0).take 4).map B8) 450) bA Views.nil) fun _ _=>bj [0,0,9999,0]<|bv (qP e f g i) [] []<|bu [3,9999,1,9999,9999] 1 fun nm2=>xV (gF (dT:=27) (sT:=27) (ty:=3) (k:=1) underlying27 (nm 0) 4 12 12 (nm2 0) 0 4 4 (((ed [a,b,c,d,e,f,g,i,j,k,l,m,n,o,p,q]).take 4++List.drop 4 [a,b,c,d,e,f,g,i,j,k,l,m,n,o,p,q]).map B8) ((((ed [a,b,c,d,e,f,g,i,j,k,l,m,n,o,p,q]).drop 4).take 4).map B8) 375 rfl (Nat.le_of_ble_eq_true (by kernel_rfl)) (dB _)) [3] [0] (Views.less (.cl ((((ed [a,b,c,d,e,f,g,i,j,k,l,m,n,o,p,q]).drop 4).take 4).map B8) 450) bA Views.nil) fun _ _=>bj [0,0,9999,0]<|bv (qP j k l m) [] []<|?_
 exact bu [4,9999,1,9999,9999] 1 fun nm3=>xV (gF (dT:=27) (sT:=27) (ty:=3) (k:=1) underlying27 (nm 0) 8 8 8 (nm3 0) 0 4 4 (((ed [a,b,c,d,e,f,g,i,j,k,l,m,n,o,p,q]).take 8++List.drop 8 [a,b,c,d,e,f,g,i,j,k,l,m,n,o,p,q]).map B8) ((((ed [a,b,c,d,e,f,g,i,j,k,l,m,n,o,p,q]).drop 8).take 4).map B8) 375 rfl (Nat.le_of_ble_eq_true (by kernel_rfl)) (dB _)) [4] [0] (Views.less (.cl ((((ed [a,b,c,d,e,f,g,i,j,k,l,m,n,o,p,q]).drop 8).take 4).map B8) 450) bA Views.nil) fun _ _=>bj [0,0,9999,0]<|bv (qP n o p q) [] []<|bu [5,9999,1,9999,9999] 1 fun nm4=>xV (gF (dT:=27) (sT:=27) (ty:=3) (k:=1) underlying27 (nm 0) 12 4 4 (nm4 0) 0 4 4 (((ed [a,b,c,d,e,f,g,i,j,k,l,m,n,o,p,q]).take 12++List.drop 12 [a,b,c,d,e,f,g,i,j,k,l,m,n,o,p,q]).map B8) ((((ed [a,b,c,d,e,f,g,i,j,k,l,m,n,o,p,q]).drop 12).take 4).map B8) 375 rfl (Nat.le_of_ble_eq_true (by kernel_rfl)) (dB _)) [5] [0] (Views.less (.cl ((((ed [a,b,c,d,e,f,g,i,j,k,l,m,n,o,p,q]).drop 12).take 4).map B8) 450) bA Views.nil) fun _ _=>bj [0,0,0,1]<|rT () 1
theorem Do (b off c a:Nat) (l:Bs) (e:12=l.length) :
 TT 290 #[sO b off 12 c] [(a,.fa (BF (pO b off) 12 c l))] [] uT (fun _=>.returned (.tuple #[.agg (((part (List.replicate 16 0) 0 l).set 15 1).map B8).toArray,i64 0])) (fun _=>[]) (fun _=>[]):=iE func290<|bu [0,0,9999] 2 fun nm=>xK (tA (nm 1) 0 16 16 b off 12 c a (List.replicate 16 0) l 278 (by assumption) (by decide) (by decide) (by decide)) [0] [2] fun _ _=>bj [9999]<|xE (cn (nm 1) 15 (part (List.replicate 16 0) 0 l) 278 1 (by (simp [part];omega))) [] [2] fun _ _=>zE<|rE (cI (T:=278) (d:=.array 16 5) underlying278 (nm 1) (List.set (part (List.replicate 16 0) 0 l) 15 1) 278 16 (by kernel_rfl) (by kernel_rfl) (by (simp [part];omega))) [2]<|xE (c8 (T:=278) (nm 0) (List.set (part (List.replicate 16 0) 0 l) 15 1) iQ 278 16 (by kernel_rfl) (by (simp [part];omega))) [] [1] fun _ _=>zE<|iz (()) (.tuple #[.agg (List.toArray (List.map B8 (List.set (part (List.replicate 16 0) 0 l) 15 1))),i64 0]) [] (pz 1 (nm 0) 16 2 3 278 278 underlying278 (by kernel_rfl) (by kernel_rfl) rfl (by kernel_rfl) (by (simp [part];omega)))
theorem Hm (l:Bs) (a:16=l.length) :
 TT 373 #[.agg (l.map B8).toArray] [] [] uT (fun _=>.returned (.agg ((part l 12 (be ((b8 (List.take 4 (List.drop 12 l))+1)%18446744073709551616%4294967296) 4)).map B8).toArray)) (fun _=>[]) (fun _=>[]):=by
 refine iE func373<|bu [9999,9999] 2 fun nm=>cV (yv (nm 0) 12 4 4 (List.take 4 (List.drop 12 l)) (by (simp [part];omega)) (by omega) (by decide) (by decide) (by decide)) [0] [] (Views.less (.cl (List.map B8 l) 278) (lY 12 4 l) Views.nil) fun _ _=>bj [9999,9999]<|vC 16 u64 (show IntKind.wrap .u64 (IntKind.wrap .u32 (IntKind.wrap .u64 ((↑(b8 (List.take 4 (List.drop 12 l))):Int)+1)))=(↑((b8 (List.take 4 (List.drop 12 l))+1)%18446744073709551616%4294967296):Int) from (show IntKind.wrap .u64 (IntKind.wrap .u32 (IntKind.wrap .u64 ((↑(b8 (List.take 4 (List.drop 12 l))):Int)+1)))=(↑((b8 (List.take 4 (List.drop 12 l))+1)%18446744073709551616%4294967296):Int) by (simp only [eE,dP,d6,dK,dl];omega)))<|cE (gr ((b8 (List.take 4 (List.drop 12 l))+1)%18446744073709551616%4294967296) 4 (by omega) (by decide) (by decide) (by (simp;done))) [] [] fun ⟨x,x1⟩ _=>bj [9999]<|xV (e9 (nm 0) 12 4 4 x 0 4 x1 l (be ((b8 (List.take 4 (List.drop 12 l))+1)%18446744073709551616%4294967296) 4) 278 (by (simp [part];omega))) [2] [0] (Views.less (.pr (bn 5 1 4 x1 (List.map B8 (be ((b8 (List.take 4 (List.drop 12 l))+1)%18446744073709551616%4294967296) 4)))) ci Views.nil) fun _ _=>zE<|rE (cI (T:=278) (d:=.array 16 5) underlying278 (nm 0) (part l 12 (be ((b8 (List.take 4 (List.drop 12 l))+1)%18446744073709551616%4294967296) 4)) 278 16 (by kernel_rfl) (by kernel_rfl) (by (simp [part,cc];omega))) [0]<|xE (c8 (T:=278) (nm 1) (part l 12 (be ((b8 (List.take 4 (List.drop 12 l))+1)%18446744073709551616%4294967296) 4)) iQ 278 16 (by kernel_rfl) (by (simp [part,cc];omega))) [] [1] ?_
 intro _ _
 exact zE<|iz (()) (.agg (List.toArray (List.map B8 (part l 12 (be ((b8 (List.take 4 (List.drop 12 l))+1)%18446744073709551616%4294967296) 4))))) [] (qX 1 (nm 1) 16 2 278 278 underlying278 (by (simp [part,cc];omega)))
theorem pM (N s:Nat) (a:s<8→N/2^(8*s)=0) (b:N<18446744073709551616:=by omega) (h1:1≤s:=by decide) (c:s≤8:=by decide) :
 TT 182 #[u64 (N:Int),i64 (s:Int)] [] [] (fun _:Nat×Nat=>True) (fun x=>.returned (.slice (some ⟨x.1,0,none⟩) s x.2)) (fun _=>[]) (fun x=>[(x.1,.pr (bn 5 1 s x.2 ((be N s).map B8)))]):=iE func182<|zE<|cE (gr N s (by assumption) (by assumption) (by assumption) (by assumption)) [] [] fun ⟨x,x1⟩ _=>zE<|rT ((x,x1)) 9999 [0]
theorem rI (A a:Option Addr) (n c b:Nat) (d:n=16∨n=32) :
 TT 183 #[.slice A n c,.slice a 12 b] [] [] uT (fun _=>.returned (i64 0)) (fun _=>[]) (fun _=>[]):=by
 refine cJ func183 (by kernel_rfl) fun w ho=>?_
 rcases d with rfl | rfl
 · exact bj [0,0,0]<|rT ()
 · exact bj [0,0,0,0]<|rT ()
theorem vz (A:Option Addr) (n c k:Nat) (a:n=16∨n=32) (b:1≤k) (h4:k≤4) :
 TT 91 #[.slice A n c,u8 k] [] [] uT (fun _=>.returned (.bool true)) (fun _=>[]) (fun _=>[]):=by
 refine cJ func91 (by kernel_rfl) fun w ho=>?_
 rcases a with rfl | rfl
 · exact bK [0,1,1] (br (dT ((↑k:Int)≤4)) (br (dT ((↑k:Int)≥1)) bt))<|rT ()
 · exact bK [0,0,1,1] (br (dT ((↑k:Int)≤4)) (br (dT ((↑k:Int)≥1)) bt))<|rT ()
theorem xm (T g C:Nat) (hT:T<4294967296) (a:g<65536) (b:C<18446744073709551616) :
 TT 100 #[u32 T,u16 g,u64 C] [] [] (fun _:Nat×Nat×Nat×Nat=>True) (fun x=>.returned (.tuple #[sA x.1 12 x.2.1,sA x.2.2.1 6 x.2.2.2])) (fun _=>[]) (fun x=>[(x.1,.pr (bn 5 1 12 x.2.1 ((be T 4++be C 8).map B8))),(x.2.2.1,.pr (bn 5 1 6 x.2.2.2 ((be T 4++be g 2).map B8)))]):=by
 refine iE func100<|bj [9999]<|vC 10 u64 (show IntKind.wrap .u64 T=(T:Int) from (show IntKind.wrap .u64 T=(↑T:Int) by (simp only [eE,dP,d6,dK,dl];omega)))<|cE (pM T 4 (by (simp [part];omega))) [] [] fun ⟨x,x1⟩ _=>fE 0 x (bn 5 1 4 x1 (List.map B8 (be T 4))) bx fun hc=>zE<|bj [9999,0]<|tE (sA x 4 4) [] [] (lI (t:=27) (e:=5) (k:=1) (by kernel_rfl) x 0 4 x1 4 4 (by assumption))<|zE<|tE (sA x 4 4) [] [] (lI (t:=27) (e:=5) (k:=1) (by kernel_rfl) x 0 4 x1 4 4 (by assumption))<|bj [9999] ?_
 exact cE (pM C 8 (by (simp;done)) (by assumption)) [] [] fun ⟨x2,x3⟩ _=>zE<|iI (nC x 0 4 4 x2 0 8 x3 (be T 4) (be C 8) (by decide) (by decide)) [0,1] [] (Views.less (.pr (bn 5 1 4 x1 (List.map B8 (be T 4)))) ci (Views.less (.pr (bn 5 1 8 x3 (List.map B8 (be C 8)))) ci Views.nil)) fun ⟨x4,x5⟩ _=>zE<|vC 20 u64 (show IntKind.wrap .u64 g=(g:Int) from (show IntKind.wrap .u64 g=(↑g:Int) by (simp only [eE,dP,d6,dK,dl];omega)))<|cE (pM g 2 (by (simp [part];omega))) [] [] fun ⟨x6,x7⟩ _=>zE<|iI (nC x 0 4 4 x6 0 2 x7 (be T 4) (be g 2) (by decide) (by decide)) [0,3] [] (Views.less (.pr (bn 5 1 4 x1 (List.map B8 (be T 4)))) ci (Views.less (.pr (bn 5 1 2 x7 (List.map B8 (be g 2)))) ci Views.nil)) fun ⟨x8,x9⟩ _=>zE<|rT ((x4,x5,x8,x9)) 9999 [2,4]
def fX (k i:Nat) (v:Bs):Bs:=
 if i%k=0 then [cv (v.getD 1 0)^^^rc (i/k-1),cv (v.getD 2 0),cv (v.getD 3 0),cv (v.getD 0 0)] else if k=8∧i%8=4 then [cv (v.getD 0 0),cv (v.getD 1 0),cv (v.getD 2 0),cv (v.getD 3 0)] else v
def gp (L:Bs) (i k:Nat) (v:Bs):Nat→Bs
 | 0=>L
 | p+1=>(gp L i k v p).set (0+i*4+p*1) (v.getD (0+p*1) 0^^^(gp L i k v p).getD (0+(i-k)*4+p*1) 0)
theorem ny (L:Bs) (i k:Nat) (v:Bs):∀ p,(gp L i k v p).length=L.length
 | 0=>rfl
 | p+1=>by rw [gp,List.length_set,ny L i k v p]
def wk (key:Bs) (k N:Nat):Nat→Bs
 | 0=>List.replicate (4*N) 0
 | i+1=>
  let L:=wk key k N i
  if i<k then kN L (4*i) (key.getD (4*i) 0) (key.getD (4*i+1) 0) (key.getD (4*i+2) 0) (key.getD (4*i+3) 0)
  else gp L i k (fX k i (w4 L (0+(i-1)*4))) 4
theorem lS (key:Bs) (k N:Nat):∀ i,(wk key k N i).length=4*N
 | 0=>by simp [wk]
 | i+1=>by
  rw [wk]
  split
  · simp only [zk,lS key k N i]
  · rw [ny,lS key k N i]
theorem qI (k i:Nat) (v:Bs) (h:v.length=4):(fX k i v).length=4:=by
 unfold fX
 split
 · rfl
 · split
   · rfl
   · exact h
theorem rP {w w':World} (hb:Below w.heap.size w w'):Fr [] w w':=⟨hb.os,hb.tape,hb.output,hb.size,fun b h _=>hb.block b h⟩
theorem yO {w:World} {base:Nat} {e:TypeId} {size n c:Nat} {A:Option Addr} {xs:List Vl} (h:w.ownsRow base e size (.slice A n c) n xs) (a:0<n):∃ g,A=some ⟨g,0,none⟩∧base≤g∧∃ o,w.heap[g]?=some o∧bn e size n c xs o:=by
 obtain ⟨_,⟨_,h2⟩ | ⟨g,cap,cur,h1,h2,h3,h4,h5,h6,h7⟩⟩:=h
 · omega
 · injection h1 with e1 e2 e3
   subst e1;subst e3
   exact ⟨g,rfl,h2,_,h3,cur,rfl,h6,h7,h4,h5⟩
theorem Gx {H:HP} {w:World} (a:Own H w) (j:Nat) {b off n c:Nat} {l:Bs} (d:H[j]?=some (b,.pr (bG off (l.map B8)))) (e:n=l.length) (hc:n≤c) (f:c≤maxLen):Rd w (pO b off) n c l:=by
 refine ⟨e,hc,f,fun h0=>⟨b,off,rfl,fun k hk=>?_⟩⟩
 obtain ⟨o,h1,h2⟩:=a.at_ j b _ d rfl
 have:=dU h1 h2 k (B8 (l.getD k 0)) (by simp [List.getD,List.getElem?_eq_getElem (show k<l.length by omega)])
 rw [Addr.add_lit] at this
 exact this
theorem tO {f:FuncId} {args:Array Vl} {b off a:Nat} {vs:List Vl} {X:Type} {φ:X→Prop} {e:X→Ending} {HN:X→HP} (h:TT f args [(b,.pr (bG off vs))] [] φ e (fun _=>[]) HN) :
 TT f args [(a,.fa (CF b off vs))] [] φ e (fun _=>[]) HN:=by
 intro K w ho hk
 obtain ⟨o,h1,h2⟩:=(hk.fac 0 a _ rfl).now
 have d:Own ([(b,.pr (bG off vs))]++[]) w:=by
  constructor
  · intro i j c s t hij hi hj _ _
    have:=cj hi;have:=cj hj;simp at *;omega
  · intro j c s hj hs
    have h0:j=0:=by have:=cj hj;simp at this;omega
    subst h0
    simp at hj
    obtain ⟨rfl,rfl⟩:=hj
    exact ⟨o,h1,h2⟩
 have k:Kn (fun _=>False) ([(b,.pr (bG off vs))]++[]) w:=⟨fun _ h=>h.elim,fun j a p hj=>by
  have h0:j=0:=by have:=cj hj;simp at this;omega
  subst h0
  simp at hj⟩
 refine (h (fun _=>False) w d k).mono fun en w' ⟨x,K',hx,he,ho',hf',hn',hk1,hk2⟩=>?_
 have l:∀ c,c<w.heap.size→w'.heap[c]?=w.heap[c]?:=fun c hc=>hf'.block c hc (by simp [lv])
 have m:∀ c,K' c→w.heap.size≤c:=fun c hc=>by
  rcases hk1.2 c hc with h | h | h
  · exact h.elim
  · exact h
  · simp [lv] at h
 have n:∀ c∈lv (HN x),w.heap.size≤c:=fun c hc=>by
  rcases hn' c hc with h | h
  · exact h
  · simp [lv] at h
 refine ⟨x,fun c=>K c∨K' c,hx,he,?_,hf',hn',⟨fun c hc=>.inl hc,fun c hc=>?_⟩,fun c hc=>?_,fun j c p hj=>?_⟩
 · have g:∀ (i c:Nat) (s:SB),([(a,SB.fa (CF b off vs))]++[]++HN x)[i]?=some (c,s)→s.live=true→([(b,SB.pr (bG off vs))]++[]++HN x)[i]?=some (c,s):=by
    intro i c s hi hs
    cases i with
    | zero=>simp at hi;obtain ⟨rfl,rfl⟩:=hi;cases hs
    | succ i=>simpa using hi
   exact ⟨fun i j c s t hij hi hj hs ht=>ho'.nd i j c s t hij (g i c s hi hs) (g j c t hj ht) hs ht,fun j c s hj hs=>ho'.at_ j c s (g j c s hj hs) hs⟩
 · rcases hc with hc | hc
   · exact .inl hc
   · exact .inr (.inl (m c hc))
 · have q:lv ([(a,SB.fa (CF b off vs))]++[]++HN x)=lv (HN x):=by rw [cy,cy];rfl
   rw [q]
   rcases hc with hc | hc
   · have h3:=(hk.off c hc).1
     exact ⟨Nat.lt_of_lt_of_le h3 hf'.size,fun hm=>by have:=n c hm;omega⟩
   · exact ⟨(hk2.off c hc).1,fun hm=>(hk2.off c hc).2 (by rw [cy];exact List.mem_append_right _ hm)⟩
 · cases j with
   | zero=>
    simp at hj
    obtain ⟨rfl,rfl⟩:=hj
    intro w'' hw
    exact hk.fac 0 a _ rfl w'' fun c hc=>(hw c (.inl hc)).trans (l c (hk.off c hc).1)
   | succ j=>
    intro w'' hw
    exact hk2.fac (j+1) c p (by simpa using hj) w'' fun c hc=>hw c (.inr hc)
end Go.Proofs.YtlkeemedalncoaaGreat.En
