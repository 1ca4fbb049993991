/- TopHandles, part 10: no condition. -/
import Derived.Test.YtlkeemedalncoaaGreatP09
set_option linter.all false
set_option maxHeartbeats 16000000
set_option maxRecDepth 100000
namespace Go.Proofs.YtlkeemedalncoaaGreat.En
open Go Go.RowKit Go.Proofs.YtlkeemedalncoaaGreat
section
attribute [local semireducible] GW QT dn ix fu co cO
section
variable {P:Program} {Q:QR} {K0:Nat→Prop} {w0:World} {M:List Nat} {st:ES}
theorem IE (v:Vl) (b:iB st=true) (hr:∀ w,((dn st).map fun o=>(execOp (cT st.ts) o).run P w)=some (.halt (.panic v) w)) (hd:((dn st).map iy)=some true)
 (h:∀ w,Inv K0 w0 M st.nr st.H w→Q.q (.panic [{v,recovered:=false}]) st.act w):GW P Q K0 w0 M st:=by
 intro hRg w hi
 have a:=hr w
 unfold iB at b
 split at b
 · rename_i ops i l k e
   cases ho:dn st with
   | none=>rw [ho] at hd;cases hd
   | some o=>
    rw [ho] at a hd
    simp only [Option.map_some,Option.some.injEq] at a hd
    unfold dn at ho
    rw [e] at ho
    dsimp only at ho
    split at ho
    · rename_i o' ho'
      split at ho
      · rename_i hw
        injection ho with ho
        subst ho
        rw [e]
        show fT P Q.rd ops (QT P Q k) (i::l) st.act w
        refine iY ho' hw (tK (.inr hd) ?_)
        unfold Oper.wp
        rw [show st.act.eval=cT st.ts from dQ _ _,a,Oper.upon_panic]
        exact gG (h w hi) k
      · cases ho
    · cases ho
 · cases b
theorem Dm {c:Func} {HR HW:HP} {X:Type} {φ:X→Prop} {e:X→Ending} {HW' HN:X→HP} {K:Nat→Prop} {w:World} (x:X) (v:Vl) (a:List Nat) (d:Ending.panicked [{v,recovered:=false}]=e x) (f:φ x:=by trivial) (hr:∀ w,((dn st).map fun o=>(execOp (cT st.ts) o).run P w)=some (.halt (.panic v) w):=by intro w;kernel_rfl) (h:(iB st,(dn st).map iy,st.ds.isEmpty,st.nr,st.H.take (HR.length+HW.length),(HW' x).length,a.map (fun i=>st.H[i]?),(a.all fun j=>(HR.length+HW.length).ble j),decide a.Nodup) =
 (true,some true,true,HR.length,HR++HW' x,HW.length,(HN x).map some,true,true):=by kernel_rfl):GW P (bodyPost P c (TriPost K HR HW φ e HW' HN w)) K w (lv HW) st:=by
 simp only [Prod.mk.injEq] at h
 obtain ⟨hp,hd,b,hm,htk,ha,hN,hi,hnd⟩:=h
 refine IE v hp hr hd fun w1 hi1=>?_
 have b:st.ds=[]:=by simpa using b
 exact ⟨b,TriPost.mk x a f d hm htk ha hN hi hnd w1 hi1⟩
theorem gB {m:Func} {f:FuncId} {args:Array Vl} {g:HP} {c:List PanicEntry} {HR HW:HP} {X:Type} {φ:X→Prop} {e:X→Ending} {HW' HN:X→HP} {K:Nat→Prop} {w:World} (k:Tri P f args g [] uT (fun _=>.panicked c) (fun _=>[]) (fun _=>[])) (a:List Nat) (x:X) (b:List Nat) (n:Ending.panicked c=e x:=by rfl) (o:φ x:=by trivial) (l:(fu P st,a.map (fun i=>st.H[i]?),e8 st a [],iB st)=(some (f,args),g.map some,true,true):=by kernel_rfl) (h:(st.ds.isEmpty,st.nr,st.H.take (HR.length+HW.length),(HW' x).length,b.map (fun i=>st.H[i]?),(b.all fun j=>(HR.length+HW.length).ble j),decide b.Nodup) =
 (true,HR.length,HR++HW' x,HW.length,(HN x).map some,true,true):=by kernel_rfl):GW P (bodyPost P m (TriPost K HR HW φ e HW' HN w)) K w (lv HW) st:=by
 simp only [Prod.mk.injEq] at h l
 obtain ⟨d,hm,htk,ha,hN,hi,hnd⟩:=h
 obtain ⟨h1,h2,h3,h4⟩:=l
 have d:st.ds=[]:=by simpa using d
 refine AQ k a [] (by rw [h1,h2,h3,h4];rfl) (fun _=>bH) fun _ _ w1 hi1=>?_
 rw [show co st.H [] ([]:HP)++[]=st.H from by unfold co;simp] at hi1
 exact ⟨d,TriPost.mk x b o n hm htk ha hN hi hnd w1 hi1⟩
theorem dG {fn:Func} {R:Ending→World→Prop} {u e:FrameMode} {f:FuncId} {HR HW:HP} {X:Type} {φ:X→Prop} {v:X→Vl} {HW' HN:X→HP} (cap a:Array Vl) (ds:List Deferred) (d:jZ P f (a++cap) u e HR HW φ v HW' HN) (c b:List Nat) (h:∀ x,φ x→LW P fn R (settle e) K0 w0 M ⟨[],st.ts,ds,co st.H b (HW' x)++HN x,st.nr⟩) (g:Views st.H c HR:=by exact Views.of_map (by kernel_rfl)) (k:(st.ds,c.length,b.map (fun i=>st.H[i]?),decide (c++b).Nodup,b.all (fun j=>st.nr.ble j))=(⟨.fn (.func f) cap,a⟩::ds,HR.length,HW.map some,true,true):=by kernel_rfl) (l:u≠.run:=by simp [settle,panR]) (hi:∀ w,(callFunc f (a++cap)).run P w = .ok (.enter f (a++cap)) w:=by intro w;kernel_rfl) (m:∀ x,de HW (HW' x):=by intro _;first | ((repeat refine bD ?_ (by first | exact fun _=>rfl | (intro h;cases h)));exact bH) | exact sameAd_dead _):LW P fn R u K0 w0 M st:=
 Ju d c b g k l hi m h
def kO (st:ES):Array Oper:=
 match st.todo with
 | .regAt _ ops _ _ _ _ _::_=>ops
 | _=>#[]
def lF (st:ES):Bool:=
 match st.todo with
 | .regAt ..::_=>true
 | _=>false
theorem wK {f:FuncId} {args:Array Vl} {HR HW:HP} {X:Type} {φ:X→Prop} {c:X→List PanicEntry} {HW' HN:X→HP} (p:Tri P f args HR HW φ (fun x=>.panicked (c x)) HW' HN) (b a:List Nat)
 (s:(fu P st,b.map (fun i=>st.H[i]?),a.map (fun i=>st.H[i]?),decide (b++a).Nodup,a.all (fun j=>st.nr.ble j),lF st)=(some (f,args),HR.map some,HW.map some,true,true,true))
 (t:∀ x,de HW (HW' x)) (h:∀ x,φ x→∀ w,Inv K0 w0 M st.nr (co st.H a (HW' x)++HN x) w→∀ a':Act,a'.defers=st.ds→(∀ i,(∀ o∈(kO st).toList,o.dst≠some i)→a'.tmps[i]?=st.ts[i]?)→Q.q (.panic (c x)) a' w):GW P Q K0 w0 M st:=by
 simp only [Prod.mk.injEq] at s
 obtain ⟨hc,hR,hW,d,g,hp⟩:=s
 have d:(b++a).Nodup:=by simpa using d
 have g:∀ j∈a,st.nr≤j:=fun j hj=>Nat.le_of_ble_eq_true (List.all_eq_true.1 g j hj)
 obtain ⟨o,ho,hrun⟩:=jM hc
 intro hRg w hi
 unfold lF at hp
 split at hp
 · rename_i r ops listed fuel n mask H0 k e
   have l:kO st=ops:=by unfold kO;rw [e]
   rw [l] at h
   unfold dn at ho
   rw [e] at ho
   dsimp only at ho
   split at ho
   · rename_i o' ho'
     split at ho
     · rename_i hw
       injection ho with ho
       subst ho
       rw [e]
       show iP P ops (PanQ ops (QT P Q k)) n (kY mask H0) fuel listed r st.act w
       unfold iP wpOp
       simp only [ho']
       rw [if_pos (show Region.wanted o' (yielded ops st.act.tmps)=true from hw)]
       left
       unfold Oper.wp
       rw [hrun w,Oper.upon_enter]
       have m:Own (HR++HW) w:=hi.own.pick (b++a) d _ (by rw [List.map_append,List.map_append,hR,hW])
       obtain ⟨K1,hk1,hk2⟩:=hi.kn
       refine Calls.mono (p K1 w m (hk2.pick (b++a) _ (by rw [List.map_append,List.map_append,hR,hW]))) ?_
       rintro en w' ⟨x,K',hx,rfl,ho',hf',hn',hx',hk'⟩
       intro a' h1 h2
       refine gG (h x hx w' (hi.after hk1 hk2 hx' hk' d g hW (t x) ho' hf' hn') a' h1 fun i hi'=>?_) k
       have:=h2 i hi'
       rw [this]
       show st.ts.toArray[i]?=_
       simp
     · cases ho
   · cases ho
 · cases hp
theorem uV {m:Func} {f:FuncId} {args:Array Vl} {g:HP} {c:List PanicEntry} {HR HW:HP} {X:Type} {φ:X→Prop} {e:X→Ending} {HW' HN:X→HP} {K:Nat→Prop} {w:World} (k:Tri P f args g [] uT (fun _=>.panicked c) (fun _=>[]) (fun _=>[])) (a:List Nat) (x:X) (b:List Nat) (n:Ending.panicked c=e x) (o:φ x:=by trivial) (l:(fu P st,a.map (fun i=>st.H[i]?),decide a.Nodup,lF st)=(some (f,args),g.map some,true,true):=by kernel_rfl) (h:(st.ds.isEmpty,st.nr,st.H.take (HR.length+HW.length),(HW' x).length,b.map (fun i=>st.H[i]?),(b.all fun j=>(HR.length+HW.length).ble j),decide b.Nodup) =
 (true,HR.length,HR++HW' x,HW.length,(HN x).map some,true,true):=by kernel_rfl):GW P (bodyPost P m (TriPost K HR HW φ e HW' HN w)) K w (lv HW) st:=by
 simp only [Prod.mk.injEq] at h l
 obtain ⟨d,hm,htk,ha,hN,hi,hnd⟩:=h
 obtain ⟨h1,h2,h3,h4⟩:=l
 have d:st.ds=[]:=by simpa using d
 refine wK k a [] (by rw [h1,h2,h4,List.append_nil,h3];rfl) (fun _=>bH) fun _ _ w1 hi1 a' h1' _=>?_
 rw [show co st.H [] ([]:HP)++[]=st.H from by unfold co;simp] at hi1
 exact ⟨h1'.trans d,TriPost.mk x b o n hm htk ha hN hi hnd w1 hi1⟩
theorem CE {e:Func} {R:Ending→World→Prop} {f:FuncId} {args:Array Vl} {b:HP} {c:List PanicEntry}
 (d:Tri P f args b [] uT (fun _=>.panicked c) (fun _=>[]) (fun _=>[])) (a:List Nat)
 (g:(fu P st,a.map (fun i=>st.H[i]?),decide a.Nodup,lF st)=(some (f,args),b.map some,true,true))
 (h:∀ ts':List Vl,(∀ i,(∀ o∈(kO st).toList,o.dst≠some i)→ts'[i]?=st.ts[i]?)→LW P e R (.panicking c) K0 w0 M ⟨[],ts',st.ds,st.H,st.nr⟩):GW P (bodyPostD P e R) K0 w0 M st:=by
 simp only [Prod.mk.injEq] at g
 obtain ⟨h1,h2,h3,h4⟩:=g
 refine wK d a [] (by rw [h1,h2,h4,List.append_nil,h3];rfl) (fun _=>bH) fun _ _ w1 hi1 a' h1' h2'=>?_
 rw [show co st.H [] ([]:HP)++[]=st.H from by unfold co;simp] at hi1
 have:=h a'.tmps.toList (fun i hi=>by rw [← h2' i hi];simp) w1 hi1
 simp only [Array.toArray_toList] at this
 rw [← h1'] at this
 exact this
theorem GB {f:FuncId} {a:Func} {args:Array Vl} {u i:FrameMode} {HR HW:HP} {X:Type} {φ:X→Prop} {v:X→Vl} {HW' HN:X→HP} {q:Nat} {g:Array Oper} {l:Code} (o:Oper) (d:Tmp) (r:Vl) (s:P.funcs[f]?=some a) (hb:a.body.isSome=true)
 (hc:(cO a,g.size,g[0]?,o.dst,Region.wanted o (yielded g (args.toList++List.replicate (a.ntmps-args.size) undef).toArray))=(.seq (.region q g false) l,1,some o,some d,true))
 (hr:∀ w,(execOp (cT (args.toList++List.replicate (a.ntmps-args.size) undef)) o).run P w = .ok .recover w)
 (k:∀ (c₀:Frame) (cs:List Frame),c₀.mode=u→(recoverD (c₀::cs)).getD (.nilIface,c₀::cs)=(r,{c₀ with mode:=i}::cs))
 (h:∀ {K:Nat→Prop} w,Own (HR++HW) w→GW P (bodyPost P a (TriPost K HR HW φ (fun x=>.returned (v x)) HW' HN w)) K w (lv HW) ⟨[.code l],(args.toList++List.replicate (a.ntmps-args.size) undef).set d r,[],HR++HW,HR.length⟩):jZ P f args u i HR HW φ v HW' HN:=by
 intro K w hown hk
 have m:a.body=some (cO a):=by
  unfold cO
  cases hh:a.body with
  | none=>rw [hh] at hb;cases hb
  | some c=>rfl
 simp only [Prod.mk.injEq] at hc
 obtain ⟨hcd,hsz,ho,hd,hw⟩:=hc
 refine callsD_of_wpS s m fun c₀ cs hu=>?_
 have e:args++Array.replicate (a.ntmps-args.size) undef=(args.toList++List.replicate (a.ntmps-args.size) undef).toArray:=by simp
 have h1:=h (K:=K) w hown (cD) w ⟨hown,Fr.refl _ _,fun b hb=>.inl (by unfold wr at hb;simpa using hb),K,KExt.refl _ _ _,hk⟩
 rw [hcd]
 apply wpS_seq
 apply wpS_region
 rw [hsz,show List.range 1=[0] from rfl]
 simp only [wpOpsS,ho]
 rw [e,if_pos hw,show Act.eval ⟨(args.toList++List.replicate (a.ntmps-args.size) undef).toArray,[]⟩=cT (args.toList++List.replicate (a.ntmps-args.size) undef) from dQ _ _,hr w]
 have key:∀ cs',cs'={c₀ with mode:=i}::cs→l.wpS P (bodyPostS P a c₀ cs fun en u2 w'=>u2=i∧TriPost K HR HW φ (fun x=>.returned (v x)) HW' HN w en w') (Act.put ⟨(args.toList++List.replicate (a.ntmps-args.size) undef).toArray,[]⟩ o.dst r) cs' w:=by
  intro cs' hcs
  refine wpS_of_wp ?_
  rw [hd,gD]
  refine wp_mono ((wpIn_wide (n:=0)).1 h1) fun ex a1 w1 hx=>?_
  cases ex with
  | normal=>
   obtain ⟨g1,v1,g2,g3⟩:=hx
   exact ⟨g1,i,hcs,v1,g2,rfl,g3⟩
  | ret=>
   obtain ⟨g1,v1,g2,g3⟩:=hx
   exact ⟨g1,i,hcs,v1,g2,rfl,g3⟩
  | panic c=>
   obtain ⟨g1,g3⟩:=hx
   exact ⟨g1,i,hcs,rfl,g3⟩
  | outgrown=>exact ⟨i,rfl,hx⟩
  | exit _=>exact hx.elim
  | goto _=>exact hx.elim
 have j:=k c₀ cs hu
 cases hR:recoverD (c₀::cs) with
 | none=>
  rw [hR] at j
  simp only [Option.getD_none,Prod.mk.injEq] at j
  rw [j.1]
  exact key _ j.2
 | some p=>
  obtain ⟨p1,p2⟩:=p
  rw [hR] at j
  simp only [Option.getD_some,Prod.mk.injEq] at j
  rw [j.1]
  exact key _ j.2
def E6:Code→Code
 | .seq _ b=>b
 | c=>c
def ti:Code→Array Oper
 | .seq (.region _ ops _) _=>ops
 | _=>#[]
def IM:Code→Nat
 | .seq (.region id _ _) _=>id
 | _=>0
def sR (c:Code):Oper:=
 match (ti c)[0]? with
 | some o=>o
 | none => { dst := none, op := .panic (.tmp 0), type := 0, pos := "", after := #[], guard := none }
theorem vY {f:FuncId} {a:Func} {args:Array Vl} {u c:FrameMode} {HR HW:HP} {X:Type} {φ:X→Prop} {v:X→Vl} {HW' HN:X→HP} (d:Tmp) (r:Vl) (e:P.funcs[f]?=some a) (b:∀ (c₀:Frame) (cs:List Frame),c₀.mode=u→(recoverD (c₀::cs)).getD (.nilIface,c₀::cs)=(r,{c₀ with mode:=c}::cs)) (h:∀ {K:Nat→Prop} w,Own (HR++HW) w→GW P (bodyPost P a (TriPost K HR HW φ (fun x=>.returned (v x)) HW' HN w)) K w (lv HW) ⟨[.code (E6 (cO a))],(args.toList++List.replicate (a.ntmps-args.size) undef).set d r,[],HR++HW,HR.length⟩) (hb:a.body.isSome=true:=by kernel_rfl) (hc:(cO a,(ti (cO a)).size,(ti (cO a))[0]?,(sR (cO a)).dst,Region.wanted (sR (cO a)) (yielded (ti (cO a)) (args.toList++List.replicate (a.ntmps-args.size) undef).toArray))=(.seq (.region (IM (cO a)) (ti (cO a)) false) (E6 (cO a)),1,some (sR (cO a)),some d,true):=by kernel_rfl) (hr:∀ w,(execOp (cT (args.toList++List.replicate (a.ntmps-args.size) undef)) (sR (cO a))).run P w = .ok .recover w:=by intro w;kernel_rfl):jZ P f args u c HR HW φ v HW' HN:=
 GB (sR (cO a)) d r e hb hc hr b h
end
end
end Go.Proofs.YtlkeemedalncoaaGreat.En
namespace Go.Proofs.YtlkeemedalncoaaGreat.En
open Go Go.RowKit Go.Proofs.YtlkeemedalncoaaGreat Go.Proofs.Tryz
abbrev xp (v:Vl):List PanicEntry:=[{v:=v,recovered:=false}]
abbrev panR (v:Vl):List PanicEntry:=[{v:=v,recovered:=true}]
abbrev fz (e:Int):Vl:=.iface 160 (.agg #[i64 e])
abbrev pH (e:Int):Vl:=.iface 152 (.agg #[i64 e])
def eG (f:FuncId) (args:Array Vl) (HR:HP) (v:Vl):Prop:=TT f args HR [] uT (fun _=>.panicked (xp v)) (fun _=>[]) (fun _=>[])
theorem dx:Same 42 #[i64 0] [] (.tuple #[]):=iE func42<|bj [0,0]<|rT ()
theorem EO:eG 42 #[i64 210] [] (pH 210):=iE func42<|bj [0,0,0,0,0,0,0,0,0,0,0,0,0,0,9999]<|Dm () (pH 210) [] rfl
theorem kC (e:Int):eG 28 #[i64 e] [] (fz e):=iE func28<|bj [9999]<|Dm () (fz e) [] rfl
theorem sH (x:Vl):Same 54 #[x,i64 0] [] x:=iE func54<|zE<|bv dx [] []<|zE<|rT ()
theorem ew (x:Vl):Same 45 #[x,i64 0] [] x:=iE func45<|zE<|bv dx [] []<|zE<|rT ()
theorem g8 (x:Vl):Same 34 #[x,i64 0] [] x:=iE func34<|zE<|bv dx [] []<|zE<|rT ()
theorem r8 (x:Vl):Same 56 #[x,i64 0] [] x:=iE func56<|zE<|bv dx [] []<|zE<|rT ()
theorem rK (x:Vl):Same 213 #[x,i64 0] [] x:=iE func213<|zE<|bv dx [] []<|zE<|rT ()
theorem mR (x:Vl):Same 192 #[x,i64 0] [] x:=iE func192<|zE<|bv dx [] []<|zE<|rT ()
theorem Cs (x:Vl):eG 34 #[x,i64 210] [] (pH 210):=iE func34<|zE<|gB EO [] () []
theorem DU (a b:Int) (A:Option Addr) (n c:Nat):Same 112 #[.agg #[u16 a,u64 b,.slice A n c],i64 0] [] (.agg #[u16 a,u64 b,.slice A n c]):=iE func112<|bu [9999] 2 fun nm=>bv dx [] []<|bj [0,1]<|rT () 1
theorem re (c pp rc rg a b n:Int):Same 51 #[.agg #[u64 c,u32 pp,u64 rc,u16 rg,u8 a,u16 b,u32 n],i64 0] [] (.agg #[u64 c,u32 pp,u64 rc,u16 rg,u8 a,u16 b,u32 n]):=iE func51<|bu [9999] 2 fun nm=>bv dx [] []<|bj [0,1]<|rT () 1
theorem gk (n c g:Int):Same 115 #[.agg #[u32 n,u64 c,u16 g,u8 0],i64 0] [] (.agg #[u32 n,u64 c,u16 g,u8 0]):=iE func115<|bu [9999] 2 fun nm=>bv dx [] []<|bj [0,1]<|rT () 1
theorem gx (v a:Nat):jZ prog 26 #[bi v,bi a] .returning .returning [] [] uT (fun _=>.tuple #[]) (fun _=>[]) (fun _=>[]):=vY 9 .nilIface func26 (fun c₀ cs h=>by simp [recoverD,h];cases c₀;simp_all) fun w0 ho=>bj [0,0]<|rT ()
theorem ig (v a:Nat) (e:Int):jZ prog 26 #[bi v,bi a] (.panicking (xp (fz e))) (.panicking (panR (fz e))) [] [(a,.cl [i64 0] 33)] uT (fun _=>.tuple #[]) (fun _=>[(a,.cl [i64 e] 33)]) (fun _=>[]):=vY 9 (fz e) func26 (fun c₀ cs h=>by simp [recoverD,h,xp,panR]) fun w0 ho=>bu [0,0,0,1,1,0] 1 fun nm=>rT ()
theorem Dh (v a:Nat):jZ prog 26 #[bi v,bi a] (.panicking (xp (pH 210))) (.panicking (panR (pH 210))) [] [(a,.cl [i64 0] 33)] uT (fun _=>.tuple #[]) (fun _=>[(a,.cl [i64 210] 33)]) (fun _=>[]):=vY 9 (pH 210) func26 (fun c₀ cs h=>by simp [recoverD,h,xp,panR]) fun w0 ho=>bu [0,0,0,0,1,0] 1 fun nm=>rT ()
section
variable {K:Type} [DecidableEq K]
theorem Ck (l:List (K×Vl)) (k:K) (i:Nat):(eV l k i).map (·.2)=lk l k:=by
 have key:∀ i j,(eV l k i).map (·.2)=(eV l k j).map (·.2):=by
  induction l with
  | nil=>intro i j;rfl
  | cons x l ih=>
   obtain ⟨m,v⟩:=x
   intro i j
   simp only [eV]
   split
   · rfl
   · exact ih _ _
 exact key i 0
theorem w6 (k:K):lk ([]:List (K×Vl)) k=none:=rfl
theorem cp (m:K) (v:Vl) (l:List (K×Vl)) (k:K):lk ((m,v)::l) k=if k=m then some v else lk l k:=by
 conv=>lhs;unfold lk eV
 split
 · rfl
 · exact Ck l k 1
theorem lr (l:List (K×Vl)) (k n:K) (v:Vl):lk (up l k v) n=if n=k then some v else lk l n:=by
 induction l with
 | nil=>rw [up,cp]
 | cons x l ih=>
  obtain ⟨m,u⟩:=x
  rw [up]
  by_cases h:k=m
  · rw [if_pos h,cp,cp,h]
    by_cases h2:n=m <;> simp [h2]
  · rw [if_neg h,cp,cp,ih]
    by_cases h2:n=m
    · subst h2;simp [Ne.symm h,show ¬ n=k from fun e=>h e.symm]
    · simp [h2]
theorem wG (l:List (K×Vl)) {k n:K} (h:n≠k):lk (del l k) n=lk l n:=by
 induction l with
 | nil=>rfl
 | cons x l ih=>
  obtain ⟨m,u⟩:=x
  rw [del]
  by_cases h2:k=m
  · subst h2;rw [if_pos rfl,cp,if_neg h]
  · rw [if_neg h2,cp,cp,ih]
theorem pU {l:List (K×Vl)} {k:K}:lk l k=none↔k∉l.map (·.1):=by
 induction l with
 | nil=>simp [w6]
 | cons x l ih=>
  obtain ⟨m,u⟩:=x
  rw [cp]
  by_cases h:k=m <;> simp [h,ih]
def UN (l:List (K×Vl)):Prop:=(l.map (·.1)).Nodup
theorem UN.nil:UN ([]:List (K×Vl)):=List.nodup_nil
theorem Bq (l:List (K×Vl)) (k:K) (v:Vl):(up l k v).map (·.1)=if k∈l.map (·.1) then l.map (·.1) else l.map (·.1)++[k]:=by
 induction l with
 | nil=>simp [up]
 | cons x l ih=>
  obtain ⟨m,u⟩:=x
  rw [up]
  by_cases h:k=m
  · subst h;simp
  · rw [if_neg h,List.map_cons,ih]
    by_cases h2:k∈l.map (·.1)
    · rw [if_pos h2,if_pos (by simp [h2])];rfl
    · rw [if_neg h2,if_neg (by simp [h] at h2 ⊢;exact h2)];rfl
theorem UN.up {l:List (K×Vl)} (h:UN l) (k:K) (v:Vl):UN (up l k v):=by
 unfold UN at h ⊢
 rw [Bq]
 split
 · exact h
 · rename_i hn
   rw [List.nodup_append]
   exact ⟨h,by simp,fun a ha b hb e=>hn (by rw [List.mem_singleton.1 hb] at e;exact e▸ha)⟩
theorem oD (l:List (K×Vl)) (k:K):(del l k).map (·.1)=(l.map (·.1)).erase k:=by
 induction l with
 | nil=>rfl
 | cons x l ih=>
  obtain ⟨m,u⟩:=x
  rw [del,List.map_cons,List.erase_cons]
  by_cases h:k=m
  · subst h;simp
  · rw [if_neg h,if_neg (by simpa using Ne.symm h),List.map_cons,ih]
theorem UN.del {l:List (K×Vl)} (h:UN l) (k:K):UN (del l k):=by
 unfold UN at h ⊢
 rw [oD]
 exact h.erase k
theorem oN {l:List (K×Vl)} (h:UN l) (k n:K):lk (del l k) n=if n=k then none else lk l n:=by
 by_cases e:n=k
 · subst e
   rw [if_pos rfl,pU,oD]
   intro hm
   exact absurd ((List.Nodup.mem_erase_iff h).1 hm).1 (by simp)
 · rw [if_neg e,wG l e]
end
def bF (S:List Nat):List (Nat×Vl):=S.map fun n=>(n,.bool true)
theorem nk (S:List Nat):(bF S).map (·.1)=S:=by simp [bF,Function.comp_def]
theorem nz {S:List Nat} {n:Nat} (h:n∉S):lk (bF S) n=none:=pU.2 (by rw [nk];exact h)
theorem rL {S:List Nat} {n:Nat} (h:n∈S):lk (bF S) n=some (.bool true):=by
 induction S with
 | nil=>simp at h
 | cons m S ih=>
  rw [show bF (m::S)=(m,.bool true)::bF S from rfl,cp]
  split
  · rfl
  · rename_i hn
    exact ih (by rcases List.mem_cons.1 h with e | e;exact absurd e hn;exact e)
theorem nH {S:List Nat} {n:Nat} (h:n∉S):up (bF S) n (.bool true)=bF (S++[n]):=by
 induction S with
 | nil=>rfl
 | cons m S ih=>
  have a:¬ n=m:=fun e=>h (by simp [e])
  rw [show bF (m::S)=(m,.bool true)::bF S from rfl,up,if_neg a,ih (fun e=>h (by simp [e]))]
  rfl
theorem zf (S:List Nat) (n:Nat):del (bF S) n=bF (S.erase n):=by
 induction S with
 | nil=>rfl
 | cons m S ih=>
  rw [show bF (m::S)=(m,.bool true)::bF S from rfl,del,List.erase_cons]
  by_cases h:n=m
  · subst h;simp
  · rw [if_neg h,if_neg (by simpa using Ne.symm h),ih];rfl
theorem tj (S:List Nat):(bF S).length=S.length:=by simp [bF]
def PinI (I:List (Nat×Vl)) (pin:Nat→Nat):Prop:=∀ n,(lk I n=none∧pin n=0)∨lk I n=some (.int .i64 (pin n:Int))
theorem PinI.nil:PinI [] fun _=>0:=fun n=>.inl ⟨rfl,rfl⟩
theorem PinI.up {I:List (Nat×Vl)} {pin:Nat→Nat} (h:PinI I pin) (n q:Nat):PinI (up I n (.int .i64 q)) fun m=>if m=n then q else pin m:=by
 intro m
 rw [lr]
 by_cases e:m=n
 · right;simp [e]
 · simp only [e,if_false];exact h m
abbrev hV (r b:Nat):Vl:=.agg #[u8 (r:Int),u64 (b:Int)]
abbrev cM (a b:Nat):Int:=IntKind.u8.wrap ((BitVec.ofInt IntKind.u8.bits (a:Int) &&& ~~~BitVec.ofInt IntKind.u8.bits (b:Int)).toNat:Int)
abbrev cL (al made:Nat):List Vl:=[.map (some al),u64 (made:Int)]
abbrev cH (al:Nat) (A:List (Nat×Vl)):Nat×SB:=(al,.pr (MV A))
theorem qV:TT 60 #[] [] [] (fun _:Nat=>True) (fun x=>.returned (bi x)) (fun _=>[]) (fun x=>[(x,.cl [.map none,u64 0] 212)]):=iE func60<|bu [9999,9999] 1 fun nm=>rT (nm 0) 9999 [0]
theorem hE (cb al made h r b:Nat) (A:List (Nat×Vl)) (hA:lk A h=some (hV r b)):Same 209 #[bi cb,u64 h] [(cb,.cl (cL al made) 212),cH al A] (.tuple #[hV r b,i64 0]):=iE func209<|bu [0,0,0] 1 fun nm=>rE (pN (kt:=25) (et:=320) (T:=210) (κ:=.u64) underlying210 underlying25 al A h (hV r b) hA) [1]<|bu [3,0,3,2] 1 fun nm1=>rT () 2
theorem BY (cb al made h:Nat) (A:List (Nat×Vl)) (hA:lk A h=none):Same 209 #[bi cb,u64 h] [(cb,.cl (cL al made) 212),cH al A] (.tuple #[hV 0 0,i64 7]):=iE func209<|bu [0,0,0] 1 fun nm=>rE (nu (kt:=25) (et:=320) (T:=210) (κ:=.u64) underlying210 underlying25 (z:=.agg #[u8 0,u64 0]) (fun w=>by kernel_rfl) al A h hA) [1]<|bu [3,0,3,2] 1 fun nm1=>rT () 2
theorem Fl (cb r b:Nat):TT 207 #[bi cb,hV r b] [] [(cb,.cl [.map none,u64 0] 212)] (fun _:Nat=>True) (fun _=>.returned (.tuple #[u64 1,i64 0])) (fun x=>[(cb,.cl (cL x 1) 212)]) (fun x=>[cH x (up [] 1 (hV r b))]):=iE func207<|bu [9999,0,0,0,0,0,0,0,0,0] 2 fun nm=>lE 2 (nm 1) (.ob (Obj.map #[] 0)) (.pr (MV [])) (dL (eK .u64) 0)<|bj [9999,4,0,0,1]<|xE (gE (kt:=25) (et:=320) (T:=210) (κ:=.u64) underlying210 underlying25 (nm 1) ([]) 1 (.agg ⟨[u8 r,u64 b]⟩)) [] [2] fun _ _=>bj [0]<|rT (nm 1) 9999 [2]
theorem GZ (cb al made r b:Nat) (A:List (Nat×Vl)) (a:A.length<64) (c:made<1000000):TT 207 #[bi cb,hV r b] [] [(cb,.cl (cL al made) 212),cH al A] uT (fun _=>.returned (.tuple #[u64 ((made+1:Nat):Int),i64 0])) (fun x=>[(cb,.cl (cL al (made+1)) 212),cH al (up A (made+1) (hV r b))]) (fun x=>[]):=iE func207<|bu [9999,0] 1 fun nm=>rE (tf (kt:=25) (et:=320) (T:=210) underlying210 (K:=Nat) (enc:=eK .u64) al A 3) [1]<|bK [2,0,0,0,0,0,0] (br (dF ((↑A.length:Int)≥64)) bt)<|bj [9999,2,0,0,2]<|vC 35 u64 (n5 ((↑made:Int)+1) (made+1))<|xE (gE (kt:=25) (et:=320) (T:=210) (κ:=.u64) underlying210 underlying25 al A (made+1) (.agg ⟨[u8 r,u64 b]⟩)) [] [1] fun _ _=>bj [0]<|qC 0 cb (fun z9:Int=>(.cl [.map (some al),u64 z9] 212)) (n5 ((↑made:Int)+1) (made+1))<|vE 4 (u64 (IntKind.wrap .u64 ((↑made:Int)+1))) (u64 ↑(made+1)) (by congr 1;rw [dK];omega)<|rT ()
theorem xP (cb:Nat):TT 140 #[bi cb] [] [(cb,.cl [.map none,u64 0] 212)] (fun _:Nat=>True) (fun _=>.returned (.tuple #[u64 1,i64 0])) (fun x=>[(cb,.cl (cL x 1) 212)]) (fun x=>[cH x (up [] 1 (hV 15 0))]):=iE func140<|bj [0,0,9999]<|cE (Fl cb 15 0) [] [0] fun x _=>zE<|rT x 9999 [1]
theorem zr (cb al made h need:Nat) (A:List (Nat×Vl)) (hA:lk A h=none):Same 208 #[bi cb,u64 h,u8 need] [(cb,.cl (cL al made) 212),cH al A] (i64 7):=iE func208<|zE<|bv (BY cb al made h A hA) [0,1] []<|bu [2,0,0] 1 fun nm=>rT ()
theorem yV (cb al made h need r b:Nat) (A:List (Nat×Vl)) (hA:lk A h=some (hV r b)) (hr:(cM need r != 0)=false):Same 208 #[bi cb,u64 h,u8 need] [(cb,.cl (cL al made) 212),cH al A] (i64 0):=by
 refine iE func208<|zE<|bv (hE cb al made h r b A hA) [0,1] []<|fe [2,0,2,2,0] 1 _ (br hr bt) fun nm=>⟨by kernel_rfl,?_⟩
 exact rT ()
theorem zJ (cb al made h need r b:Nat) (A:List (Nat×Vl)) (hA:lk A h=some (hV r b)) (hr:(cM need r != 0)=true):Same 208 #[bi cb,u64 h,u8 need] [(cb,.cl (cL al made) 212),cH al A] (i64 250):=by
 refine iE func208<|zE<|bv (hE cb al made h r b A hA) [0,1] []<|fe [2,0,2,1,0] 1 _ (br hr bt) fun nm=>⟨by kernel_rfl,?_⟩
 exact rT ()
theorem Cv (cb al made h a r b:Nat) (A:List (Nat×Vl)) (hA:lk A h=some (hV r b)) (e:¬ bits .and .u8 r 8=0) (hr:(cM a r != 0)=false) (c:A.length<64) (d:made<1000000):TT 142 #[bi cb,u64 h,u8 a] [] [(cb,.cl (cL al made) 212),cH al A] uT (fun _=>.returned (.tuple #[u64 ((made+1:Nat):Int),i64 0])) (fun x=>[(cb,.cl (cL al (made+1)) 212),cH al (up A (made+1) (hV a h))]) (fun x=>[]):=by
 refine iE func142<|zE<|bv (hE cb al made h r b A hA) [0,1] []<|fe [2,0,0,2,2,2,2,0,9999] 1 _ (br hr (br (show (bits .and .u8 r 8==0)=false by (simp;omega)) bt)) fun nm=>⟨by kernel_rfl,?_⟩
 exact bv (GZ cb al made a h A c d) [] [0,1]<|zE<|rT ()
theorem B7 (cb al made h a r b:Nat) (A:List (Nat×Vl)) (hA:lk A h=some (hV r b)) (c:bits .and .u8 r 8=0):Same 142 #[bi cb,u64 h,u8 a] [(cb,.cl (cL al made) 212),cH al A] (.tuple #[u64 0,i64 250]):=by
 refine iE func142<|zE<|bv (hE cb al made h r b A hA) [0,1] []<|fe [2,0,0,2,1,0] 1 _ (br (show (bits .and .u8 r 8==0)=true by (simp;omega)) bt) fun nm=>⟨by kernel_rfl,?_⟩
 exact rT ()
theorem B3 (cb al made h a r b:Nat) (A:List (Nat×Vl)) (hA:lk A h=some (hV r b)) (c:¬ bits .and .u8 r 8=0) (hr:(cM a r != 0)=true):Same 142 #[bi cb,u64 h,u8 a] [(cb,.cl (cL al made) 212),cH al A] (.tuple #[u64 0,i64 250]):=by
 refine iE func142<|zE<|bv (hE cb al made h r b A hA) [0,1] []<|fe [2,0,0,2,2,2,1,0] 1 _ (br hr (br (show (bits .and .u8 r 8==0)=false by (simp;omega)) bt)) fun nm=>⟨by kernel_rfl,?_⟩
 exact rT ()
theorem Gq (v:Nat):Same 27 #[bi v,i64 1] [] (.func (.func 62) #[bi v] #[]):=iE func27<|bu [0,0,0,0,0,0,0,0,0,0,0,0,0,0,0,0,0] 1 fun nm=>rT ()
theorem Ah (v:Nat):Same 27 #[bi v,i64 2] [] (.func (.func 63) #[bi v] #[]):=iE func27<|bu [0,0,0,0,0,0,0,0,0,0,0,0,0,0,0,0,0] 1 fun nm=>rT ()
theorem Gh (v:Nat):Same 27 #[bi v,i64 8] [] (.func (.func 69) #[bi v] #[]):=iE func27<|bu [0,0,0,0,0,0,0,0,0,0,0,0,0,0,0,0,0] 1 fun nm=>rT ()
theorem vq (v:Nat):Same 27 #[bi v,i64 9] [] (.func (.func 70) #[bi v] #[]):=iE func27<|bu [0,0,0,0,0,0,0,0,0,0,0,0,0,0,0,0,0] 1 fun nm=>rT ()
theorem EB (v:Nat):Same 27 #[bi v,i64 10] [] (.func (.func 71) #[bi v] #[]):=iE func27<|bu [0,0,0,0,0,0,0,0,0,0,0,0,0,0,0,0,0] 1 fun nm=>rT ()
theorem px (v:Nat):Same 27 #[bi v,i64 11] [] (.func (.func 72) #[bi v] #[]):=iE func27<|bu [0,0,0,0,0,0,0,0,0,0,0,0,0,0,0,0,0] 1 fun nm=>rT ()
theorem nj (v:Nat):Same 27 #[bi v,i64 12] [] (.func (.func 73) #[bi v] #[]):=iE func27<|bu [0,0,0,0,0,0,0,0,0,0,0,0,0,0,0,0,0] 1 fun nm=>rT ()
theorem oU (v:Nat):Same 27 #[bi v,i64 14] [] (.func (.func 75) #[bi v] #[]):=iE func27<|bu [0,0,0,0,0,0,0,0,0,0,0,0,0,0,0,0,0] 1 fun nm=>rT ()
theorem EW (v:Nat):Same 27 #[bi v,i64 16] [] (.func (.func 77) #[bi v] #[]):=iE func27<|bu [0,0,0,0,0,0,0,0,0,0,0,0,0,0,0,0,0] 1 fun nm=>rT ()
abbrev cR (k t:Nat) (sec:Vl) (q n:Int) (h o s rt:Nat) (ops key fr to9:Vl) (bk:Bool):Vl:=.agg #[i64 (k:Int),u32 (t:Int),sec,i64 q,i64 n,u64 (h:Int),u64 (o:Int),u64 (s:Int),u8 (rt:Int),ops,key,fr,to9,.bool bk]
abbrev cP (e:Int) (h s:Nat) (v p:Vl) (c:Int) (l:Vl):Vl:=.agg #[i64 e,u64 (h:Int),u64 (s:Int),v,p,i64 c,l]
abbrev dt (e:Int):Vl:=.agg #[i64 e,u64 0,u64 0,.slice none 0 0,.slice none 0 0,i64 0,.slice none 0 0]
abbrev bU (N lim:Nat) (key:Vl) (d rs lg:Nat) (op:Bool) (r p c pp rc rg gn n al:Nat):List Vl:=[i64 (N:Int),u64 (lim:Int),.slice none 0 0,key,bi d,bi rs,bi lg,.bool op,bi r,bi p,u64 (c:Int),u32 (pp:Int),u64 (rc:Int),u16 (rg:Int),u8 0,u16 (gn:Int),u32 (n:Int),.map (some al)]
abbrev b9 (t q mb mc rp rc rg ch hb hc cb sh made:Nat):List Vl:=[u32 (t:Int),i64 (q:Int),sA mb 16 mc,u32 (rp:Int),u64 (rc:Int),u16 (rg:Int),u8 0,i64 (ch:Int),sA hb 1 hc,bi cb,.map (some sh),u64 (made:Int)]
section
variable (v N lim:Nat) (key:Vl) (d rs lg:Nat) (op:Bool) (r p c pp rc rg gn n al:Nat)
variable (k t:Nat) (sec:Vl) (q1 n1:Int) (h o s rt:Nat) (ops ky fr to9:Vl) (bk:Bool)
theorem ea:Same 24 #[bi v] [(v,.cl (bU N lim key d rs lg op r p c pp rc rg gn n al) 90)] (.bool false):=iE func24<|bj [0,0,0]<|rT ()
theorem ry (tn:Nat) (T:List (Nat×Vl)) (hT:lk T t=some (bi tn)):Same 118 #[bi v,cR k t sec q1 n1 h o s rt ops ky fr to9 bk] [(v,.cl (bU N lim key d rs lg op r p c pp rc rg gn n al) 90),(al,.pr (MU T))] (bi tn):=iE func118<|bu [9999] 1 fun nm=>bj [9999,0,0,2]<|rE (eI (kt:=37) (et:=106) (T:=88) (κ:=.u32) underlying88 underlying37 al T t (bi tn) hT) [1]<|bj [0,0]<|rT ()
section
variable (tt q mb mc rp rc2 rg2 ch hb hc cb sh made ca cm tn:Nat) (T A:List (Nat×Vl)) (need:Nat) (h64:h<18446744073709551616)
include h64
theorem k6 (hT:lk T (h/4294967296)=some (bi tn)) (a b:Nat) (hA:lk A (h%4294967296)=some (hV a b)) (hr:(cM need a != 0)=false):Same 141 #[bi v,cR k t sec q1 n1 h o s rt ops ky fr to9 bk,u8 need] [(v,.cl (bU N lim key d rs lg op r p c pp rc rg gn n al) 90),(al,.pr (MU T)),(tn,.cl (b9 tt q mb mc rp rc2 rg2 ch hb hc cb sh made) 113),(cb,.cl (cL ca cm) 212),cH ca A] (.tuple #[bi tn,u64 ((h%4294967296:Nat):Int)]):=iE func141<|bu [9999] 1 fun nm=>bj [9999,0,0,5,9999]<|vC 18 u32 (show IntKind.wrap .u32 (Int.fdiv (↑h:Int) (2^min (Int.toNat 32) (IntKind.bits .u64)))=(↑(h/4294967296):Int) from (jr (p9 rfl)))<|rE (eI (kt:=37) (et:=106) (T:=88) (κ:=.u32) underlying88 underlying37 al T (h/4294967296) (bi tn) hT) [1]<|bj [0,0,5,2]<|vC 30 u64 (show (bits .and .u64 h 4294967295:Int)=(↑(h%4294967296):Int) from (sF))<|bv (yV cb ca cm (h%4294967296) need a b A hA hr) [3,4] []<|bj [0,0]<|vC 7 u64 (show (bits .and .u64 h 4294967295:Int)=(↑(h%4294967296):Int) from (sF))<|rT ()
theorem sY (hT:lk T (h/4294967296)=some (bi tn)) (hA:lk A (h%4294967296)=none):eG 141 #[bi v,cR k t sec q1 n1 h o s rt ops ky fr to9 bk,u8 need] [(v,.cl (bU N lim key d rs lg op r p c pp rc rg gn n al) 90),(al,.pr (MU T)),(tn,.cl (b9 tt q mb mc rp rc2 rg2 ch hb hc cb sh made) 113),(cb,.cl (cL ca cm) 212),cH ca A] (fz 7):=iE func141<|bu [9999] 1 fun nm=>bj [9999,0,0,5,9999]<|vC 18 u32 (show IntKind.wrap .u32 (Int.fdiv (↑h:Int) (2^min (Int.toNat 32) (IntKind.bits .u64)))=(↑(h/4294967296):Int) from (jr (p9 rfl)))<|rE (eI (kt:=37) (et:=106) (T:=88) (κ:=.u32) underlying88 underlying37 al T (h/4294967296) (bi tn) hT) [1]<|bj [0,0,5,2]<|vC 30 u64 (show (bits .and .u64 h 4294967295:Int)=(↑(h%4294967296):Int) from (sF))<|bv (zr cb ca cm (h%4294967296) need A hA) [3,4] []<|bj [0,0]<|gB (kC 7) [] () []
theorem sJ (hT:lk T (h/4294967296)=some (bi tn)) (a b:Nat) (hA:lk A (h%4294967296)=some (hV a b)) (hr:(cM need a != 0)=true):eG 141 #[bi v,cR k t sec q1 n1 h o s rt ops ky fr to9 bk,u8 need] [(v,.cl (bU N lim key d rs lg op r p c pp rc rg gn n al) 90),(al,.pr (MU T)),(tn,.cl (b9 tt q mb mc rp rc2 rg2 ch hb hc cb sh made) 113),(cb,.cl (cL ca cm) 212),cH ca A] (fz 250):=iE func141<|bu [9999] 1 fun nm=>bj [9999,0,0,5,9999]<|vC 18 u32 (show IntKind.wrap .u32 (Int.fdiv (↑h:Int) (2^min (Int.toNat 32) (IntKind.bits .u64)))=(↑(h/4294967296):Int) from (jr (p9 rfl)))<|rE (eI (kt:=37) (et:=106) (T:=88) (κ:=.u32) underlying88 underlying37 al T (h/4294967296) (bi tn) hT) [1]<|bj [0,0,5,2]<|vC 30 u64 (show (bits .and .u64 h 4294967295:Int)=(↑(h%4294967296):Int) from (sF))<|bv (zJ cb ca cm (h%4294967296) need a b A hA hr) [3,4] []<|bj [0,0]<|gB (kC 250) [] () []
theorem De (hT:lk T (h/4294967296)=none):eG 141 #[bi v,cR k t sec q1 n1 h o s rt ops ky fr to9 bk,u8 need] [(v,.cl (bU N lim key d rs lg op r p c pp rc rg gn n al) 90),(al,.pr (MU T))] (fz 7):=iE func141<|bu [9999] 1 fun nm=>bj [9999,0,0,2,9999]<|vC 18 u32 (show IntKind.wrap .u32 (Int.fdiv (↑h:Int) (2^min (Int.toNat 32) (IntKind.bits .u64)))=(↑(h/4294967296):Int) from (jr (p9 rfl)))<|rE (i8 (kt:=37) (et:=106) (T:=88) (κ:=.u32) underlying88 underlying37 (z:=.pointer none) (fun w=>by kernel_rfl) al T (h/4294967296) hT) [1]<|bj [0,0]<|gB (kC 7) [] () []
end
end
theorem nS (t:Nat):TT 139 #[u32 t] [] [] (fun _:Nat=>True) (fun x=>.returned (.func (.func 206) #[] #[bi x])) (fun _=>[]) (fun x=>[(x,.cl [u32 t] 37)]):=iE func139<|bu [9999] 1 fun nm=>rT (nm 0) 9999 [0]
theorem sG (t b h:Nat) (a:t<4294967296) (c:h<4294967296):Same 206 #[u64 h,i64 0,bi b] [(b,.cl [u32 t] 37)] (cP 0 (t*4294967296+h) 0 (.slice none 0 0) (.slice none 0 0) 0 (.slice none 0 0)):=iE func206<|bu [0,0,0,9999,9999,1] 1 fun nm=>qC 1 (nm 0) (fun z9:Int=>(.cl [i64 0,u64 (bits .or .u64 z9 (↑h:Int)),u64 0,.slice none 0 0,.slice none 0 0,i64 0,.slice none 0 0] 47)) (show IntKind.wrap .u64 (IntKind.wrap .u64 t*2^min (Int.toNat 32) (IntKind.bits .u64))=(↑(t*4294967296):Int) from (dj (j5 (dj rfl (by omega)) (by kernel_rfl))))<|qE 1 (nm 0) (.cl [i64 0,u64 (bits .or .u64 ↑(t*4294967296) (↑h:Int)),u64 0,.slice none 0 0,.slice none 0 0,i64 0,.slice none 0 0] 47) (.cl [i64 0,u64 ↑(t*4294967296+h),u64 0,.slice none 0 0,.slice none 0 0,i64 0,.slice none 0 0] 47) (by rw [Jn (x:=((t*4294967296:Nat):Int)) rfl rfl (by omega) (by omega)])<|rT () 1
theorem rZ (b:Nat) (u:Int):eG 206 #[u64 u,i64 250,bi b] [] (fz 250):=iE func206<|bu [0,0] 1 fun nm=>gB (kC 250) [] () []
end Go.Proofs.YtlkeemedalncoaaGreat.En
namespace Go.Proofs.YtlkeemedalncoaaGreat.En
open Go Go.RowKit Go.Proofs.YtlkeemedalncoaaGreat
section
attribute [local semireducible] cZ jG mh kh oV kK mS jI kB l2 jK pX lG iF kV jD cO dg cU uv nQ lK pZ ev sg after dn fu co gO e8 GW QT ix jm Alike lP
section
variable {P:Program} {Q:QR} {K0:Nat→Prop} {w0:World} {M:List Nat} {st:ES}
theorem Inv.push (P:Program) {nr:Nat} {H:HP} {w:World} (h:Inv K0 w0 M nr H w) (o:Obj) (hc:conv o = .ob o):Inv K0 w0 M nr (H++[(w.heap.size,.ob o)]) (w.alloc o):=by
 obtain ⟨w',h1,h2⟩:=jt (P:=P) (nr:=nr) (newObj o) [] H [w.heap.size] w w.heap.size (H++[(w.heap.size,conv o)]) [] [] rfl (fun p hp=>by cases hp) h.own (fun i b hb=>by
  cases i with
  | zero=>simp at hb;simp [hb]
  | succ i=>simp at hb)
 have e:w'=w.alloc o:=by
  have h3:(newObj o).run P w = .ok w.heap.size (w.alloc o):=rfl
  rw [h3] at h1
  injection h1 with _ h1
  exact h1.symm
 subst e
 rw [hc] at h2
 exact h.ran h2
theorem Inv.putO (P:Program) {nr:Nat} {H:HP} {w:World} (h:Inv K0 w0 M nr H w) {j b:Nat} {a:Obj} (c:H[j]?=some (b,.ob a)) (d:nr.ble j=true) (hc:Obj.isCells' a=false) (o:Obj):Inv K0 w0 M nr (H.set j (b,.ob o)) (w.putObj b o):=by
 obtain ⟨ob,h3,h4⟩:=h.own.at_ j b _ c rfl
 have h4:ob=a:=h4
 subst h4
 obtain ⟨w',h1,h2⟩:=jt (P:=P) (nr:=nr) (setObj b o) [j] H [] w () (H.set j (b,.ob o)) [] [(b,b)] (by simp [setObj,dg,j9,c,d,hc]) (fun p hp=>by simp at hp;rw [hp]) h.own (fun i b hb=>by simp at hb)
 have e:w'=w.putObj b o:=by
  have h5:(setObj b o).run P w = .ok () (w.putObj b o):=by
   simp [setObj,Sem.run,h3,World.putObj]
   cases ob <;> simp_all [Obj.isCells']
  rw [h5] at h1
  injection h1 with _ h1
  exact h1.symm
 subst e
 exact h.ran h2
def jL (P:Program) (l:Nat) (args:Array Vl) (HR HW:HP) {X:Type} (φ:X→Prop) (v:X→Vl) (HW' HN:X→HP):Prop:=
 ∀ K w,Own (HR++HW) w→Kn K (HR++HW) w→YieldAt Fence.wide 0 P l args w (TriPost K HR HW φ (fun x=>.returned (v x)) HW' HN w)
def vZ:List It→Bool
 | .ops _ _::_=>true
 | _=>false
theorem Hs {o:Oper} (c:Q.rd=none) (a:dn st=some o) (b:vZ st.todo=true)
 (h:∀ w,Inv K0 w0 M st.nr st.H w→∀ (K:Act→World→Prop) (QQ:Exit→Act→World→Prop),(∀ v w' H',Inv K0 w0 M st.nr H' w'→RegOK (after st v H')→GW P Q K0 w0 M (after st v H')→K (st.act.put o.dst v) w')→o.wpIn Fence.wide 0 P st.act w K QQ):GW P Q K0 w0 M st:=by
 intro hR w hi
 have h1:=h w hi
 unfold dn at a
 split at a
 · rename_i ops i l k e
   split at a
   · rename_i o' ho'
     split at a
     · rename_i hw
       injection a with a
       subst a
       rw [e]
       show fT P Q.rd ops (QT P Q k) (i::l) st.act w
       rw [c]
       refine iY ho' hw (h1 _ _ fun v w' H' hi' hr hg=>?_)
       have ha:after st v H'=⟨.ops ops l::k,iK st.ts o'.dst v,st.ds,H',st.nr⟩:=by
        unfold after l6
        rw [e]
        simp only [ho']
       rw [ha] at hg hr
       have h2:=hg hr w' hi'
       rw [show st.act.put o'.dst v=_ from gD _ _ _ _]
       rw [← c]
       exact h2
     · cases a
   · cases a
 · rename_i j ops listed fuel n mask H0 k e
   rw [e] at b
   cases b
 · cases a
theorem mP {l:Nat} {args:Array Vl} {HR HW:HP} {X:Type} {φ:X→Prop} {v:X→Vl} {HW' HN:X→HP} (c:jL P l args HR HW φ v HW' HN) (a b:List Nat) (d:Views st.H a HR) (g:∀ x,de HW (HW' x)) (h:∀ x,φ x→GW P Q K0 w0 M (after st (v x) (co st.H b (HW' x)++HN x))) (f:((dn st).map (execOp (cT st.ts)),a.length,b.map (fun i=>st.H[i]?),e8 st a b,vZ st.todo)=(some (Instr.yield l args),HR.length,HW.map some,true,true):=by kernel_rfl) (j:Q.rd=none:=by rfl):GW P Q K0 w0 M st:=by
 simp only [Prod.mk.injEq] at f
 obtain ⟨hc,hlen,hW,hs,hops⟩:=f
 rw [Option.map_eq_some_iff] at hc
 obtain ⟨o,ho,hrun⟩:=hc
 obtain ⟨hnd,hge⟩:=kw hs
 refine Hs j ho hops fun w hi K QQ hK=>⟨fun _ _=>trivial,?_⟩
 obtain ⟨K1,hk1,hk2⟩:=hi.kn
 obtain ⟨fn,tmps,assign,body,hy,hR⟩:=c K1 w (hi.own.views hnd d hlen hW) (hk2.views d hW)
 rw [show o.semAt Fence.wide.round st.act.eval=Instr.yield l args from by rw [show st.act.eval=cT st.ts from dQ _ _];exact hrun,hy]
 refine ⟨fun hd=>(by cases hd),hR.mono ?_⟩
 rintro en w' ⟨x,K',hx,rfl,ho',hf',hn',hx',hk'⟩
 refine hK (v x) w' _ (hi.after hk1 hk2 hx' hk' hnd hge hW (g x) ho' hf' hn') (ly ?_ hs ho) (h x hx)
 unfold RegOK
 revert hops
 unfold vZ
 split
 · rename_i ops l0 k e
   intro _
   rw [e]
   trivial
 · intro h;cases h
abbrev dX (ts:List Vl) (ps:Array Tmp) (assign body:Code) (fn:FuncId) (D:Nat) (s:LoopState) (p:Option Code):Loop:={state:=s,pending:=p,fn,tmps:=ts.toArray,params:=ps,assign,body,defers:=D}
theorem Es {g:Operand} {o:Array Tmp} {d f:Code} {k:List It} {gf:Nat} {lb:Array Vl} {HR HWo:HP} {X:Type} {φ:X→Prop} {v:X→Vl} {HWo' HN:X→HP} {stt:X→LoopState} {pd:X→Option Code} (n m:List Nat)
 (W:(st.todo,cT st.ts g,n.length,m.map (fun i=>st.H[i]?),decide (n++m).Nodup,m.all (fun j=>st.nr.ble j),n.all (fun j=>j.blt st.H.length))=(.code (.rangeFunc g o d f)::k,.func (.func gf) #[] lb,HR.length,HWo.map some,true,true,true))
 (Z:∀ args w,(callFunc gf args).run P w = .ok (.enter gf args) w) (hv:Views st.H n HR)
 (S:∀ fn D l,Tri P gf (#[.func (.yield l) #[] #[]]++lb) HR (HWo++[(l,.ob (.loop (dX st.ts o d f fn D .ready none)))]) φ (fun x=>.returned (v x)) (fun x=>HWo' x++[(l,.ob (.loop (dX st.ts o d f fn D (stt x) (pd x))))]) HN)
 (hl:∀ x,de HWo (HWo' x)) (hs:∀ x,φ x→stt x≠.busy)
 (h:∀ fn D l x,φ x→GW P Q K0 w0 M ⟨((pd x).map It.code).toList++k,st.ts,⟨.collected D,#[]⟩::st.ds,(co (st.H++[(D,.ob (.deferred (some []))),(l,.ob (.loop (dX st.ts o d f fn D .ready none)))]) (m++[st.H.length+1]) (HWo' x++[(l,.ob (.loop (dX st.ts o d f fn D (stt x) (pd x))))])++HN x).set (st.H.length+1) (l,.ob (.loop (dX st.ts o d f fn D .exhausted (pd x)))),st.nr⟩)
 (A:∀ (fn:FuncId) (D l:Nat) (x:X),(co (st.H++[(D,.ob (.deferred (some []))),(l,.ob (.loop (dX st.ts o d f fn D .ready none)))]) (m++[st.H.length+1]) (HWo' x++[(l,.ob (.loop (dX st.ts o d f fn D (stt x) (pd x))))])++HN x)[st.H.length+1]?=some (l,.ob (.loop (dX st.ts o d f fn D (stt x) (pd x)))))
 (hQ:Q.rd=none) (G:∀ x,eF (((pd x).map It.code).toList++k)=true) (I:st.nr.ble st.H.length=true):GW P Q K0 w0 M st:=by
 simp only [Prod.mk.injEq] at W
 obtain ⟨ht,hg,hlen,hW,E,F,hlR⟩:=W
 have E:(n++m).Nodup:=by simpa using E
 have F:∀ j∈m,st.nr≤j:=fun j hj=>Nat.le_of_ble_eq_true (List.all_eq_true.1 F j hj)
 have I:=Nat.le_of_ble_eq_true I
 intro hR w hi
 rw [ht]
 have B:iW Q.rd=Fence.wide:=by rw [hQ];rfl
 show (Code.rangeFunc g o d f).wpIn (iW Q.rd) 0 P (QT P Q k) st.act w
 rw [B]
 refine wpIn_rangeFunc fun fn _=>?_
 obtain ⟨D,hD⟩:∃ D,D=w.heap.size:=⟨_,rfl⟩
 obtain ⟨l,hl0⟩:∃ l,l=w.heap.size+1:=⟨_,rfl⟩
 have u:=(hi.push P (.deferred (some [])) rfl).push P (.loop (dX st.ts o d f fn D .ready none)) rfl
 rw [World.size_alloc,← hD,show D+1=l by omega,List.append_assoc] at u
 have J:∀ j∈m,j<st.H.length:=fun j hj=>by
  obtain ⟨i,hi',e⟩:=List.mem_iff_getElem.1 hj
  have h1:=congrArg (fun L=>L[i]?) hW
  simp only [List.getElem?_map] at h1
  rw [List.getElem?_eq_getElem hi',e] at h1
  rcases Nat.lt_or_ge j st.H.length with h2 | h2
  · exact h2
  · simp only [Option.map_some,List.getElem?_eq_none h2] at h1
    cases hx:HWo[i]? with
    | none=>rw [hx] at h1;cases h1
    | some x=>rw [hx] at h1;cases h1
 have Y:∀ j∈n,j≠st.H.length+1∨True:=fun j hj=>.inr trivial
 refine ⟨l,[{target:=.collected D,args:=#[]}],(w.alloc (.deferred (some []))).alloc (.loop (dX st.ts o d f fn D .ready none)),{target:=.fn (.func gf) lb,args:=#[.func (.yield l) #[] #[]]},(w.alloc (.deferred (some []))).alloc (.loop (dX st.ts o d f fn D .ready none)),gf,#[.func (.yield l) #[] #[]]++lb,(w.alloc (.deferred (some []))).alloc (.loop (dX st.ts o d f fn D .ready none)),?_,?_,fun _ _=>trivial,?_,fun hd=>(by cases hd),callsIn_wide.2 ?_⟩
 · rw [hl0,hD];exact run_enterLoop_outer _ _ _ _ _
 · have T:st.act.eval g = .func (.func gf) #[] lb:=by rw [show st.act.eval=cT st.ts from dQ _ _];exact hg
   simp only [resolve,T]
   simp [go_sem]
 · simp [invoke,go_sem,Z]
 · obtain ⟨K1,hk1,hk2⟩:=u.kn
   have t:(m++[st.H.length+1]).map (fun i=>(st.H++[(D,SB.ob (.deferred (some []))),(l,SB.ob (.loop (dX st.ts o d f fn D .ready none)))])[i]?)=(HWo++[(l,SB.ob (.loop (dX st.ts o d f fn D .ready none)))]).map some:=by
    rw [List.map_append,List.map_append,← hW]
    congr 1
    · refine List.map_congr_left fun j hj=>?_
      rw [List.getElem?_append_left (J j hj)]
    · simp
   have K:Views (st.H++[(D,SB.ob (.deferred (some []))),(l,SB.ob (.loop (dX st.ts o d f fn D .ready none)))]) n HR:=by
    have key:∀ (js:List Nat) (L:HP),Views st.H js L→Views (st.H++[(D,SB.ob (.deferred (some []))),(l,SB.ob (.loop (dX st.ts o d f fn D .ready none)))]) js L:=by
     intro js
     induction js with
     | nil=>intro L h;cases L <;> exact h
     | cons j js ih=>
      intro L h
      cases L with
      | nil=>exact h
      | cons x L=>
       refine ⟨?_,ih L h.2⟩
       rcases h.1 with ⟨⟨s,h1,h2⟩,h3⟩ | ⟨a,p0,p,h1,h2⟩ | h1
       · exact .inl ⟨⟨s,by rw [List.getElem?_append_left (cj h1)];exact h1,h2⟩,h3⟩
       · exact .inr (.inl ⟨a,p0,p,by rw [List.getElem?_append_left (cj h1)];exact h1,h2⟩)
       · exact .inr (.inr h1)
    exact key _ _ hv
   have N:(st.H.length+1)∉n:=fun hm=>by
    have h1:Nat.blt (st.H.length+1) st.H.length=true:=List.all_eq_true.1 hlR _ hm
    rw [Nat.blt_eq] at h1
    omega
   have C:(n++(m++[st.H.length+1])).Nodup:=by
    rw [← List.append_assoc,List.nodup_append]
    refine ⟨E,by simp,fun a ha b hb e=>?_⟩
    rw [List.mem_singleton.1 hb] at e
    subst e
    rcases List.mem_append.1 ha with h1 | h1
    · exact N h1
    · have:=J _ h1;omega
   have O:∀ j∈m++[st.H.length+1],st.nr≤j:=fun j hj=>by
    rcases List.mem_append.1 hj with h1 | h1
    · exact F j h1
    · rw [List.mem_singleton.1 h1];omega
   refine Calls.mono (S fn D l K1 _ (u.own.views C K hlen t) (hk2.views K t)) ?_
   rintro en w' ⟨x,K',hx,rfl,ho',hf',hn',hx',hk'⟩
   have U:de (HWo++[(l,SB.ob (.loop (dX st.ts o d f fn D .ready none)))]) (HWo' x++[(l,SB.ob (.loop (dX st.ts o d f fn D (stt x) (pd x))))]):=by
    obtain ⟨h1,h2⟩:=hl x
    refine ⟨by simp [h1],fun i b s hb=>?_⟩
    rcases Nat.lt_or_ge i (HWo' x).length with h3 | h3
    · rw [List.getElem?_append_left h3] at hb
      rw [List.getElem?_append_left (by omega)]
      exact h2 i b s hb
    · rw [List.getElem?_append_right h3] at hb
      rw [List.getElem?_append_right (by omega),h1]
      rcases hq:i-(HWo' x).length with _ | q
      · rw [hq] at hb
        simp at hb
        obtain ⟨rfl,rfl⟩:=hb
        exact ⟨_,rfl,fun _=>rfl⟩
      · rw [hq] at hb;simp at hb
   have R:=u.after hk1 hk2 hx' hk' C O t U ho' hf' hn'
   obtain ⟨ob,h5,V⟩:=R.own.at_ _ _ _ (A fn D l x) rfl
   have V:ob = .loop (dX st.ts o d f fn D (stt x) (pd x)):=V
   subst V
   have y:=R.putO P (A fn D l x) (Nat.ble_eq_true_of_le (by omega)) rfl (.loop (dX st.ts o d f fn D .exhausted (pd x)))
   refine ⟨pd x,_,run_endLoop h5 (hs x hx),?_⟩
   have r:=h fn D l x hx
   have z:=G x
   cases hpd:pd x with
   | none=>
    rw [hpd] at r y z
    exact r (cD z) _ (by simpa [hpd] using y)
   | some c=>
    rw [hpd] at r y z
    rw [← B]
    exact r (cD z) _ (by simpa [hpd] using y)
end
section
variable {P:Program} {Q:QR} {K0:Nat→Prop} {w0:World} {M:List Nat} {st:ES}
def qh (P:Program) (fn:Func) (R:Ending→World→Prop):Exit→Act→World→Prop:=bodyPostM Fence.wide 0 P fn R
theorem nA {f:FuncId} {a:Func} {args:Array Vl} {HR HW:HP} {X:Type} {φ:X→Prop} {e:X→Ending} {HW' HN:X→HP} (g:P.funcs[f]?=some a) (h:∀ {K:Nat→Prop} w,Own (HR++HW) w→GW P (qh P a (TriPost K HR HW φ e HW' HN w)) K w (lv HW) ⟨[.code (cO a)],args.toList++List.replicate (a.ntmps-args.size) undef,[],HR++HW,HR.length⟩) (hb:a.body.isSome=true:=by kernel_rfl):Tri P f args HR HW φ e HW' HN:=by
 intro K w ho hk
 have d:a.body=some (cO a):=by
  unfold cO
  cases hh:a.body with
  | none=>rw [hh] at hb;cases hb
  | some c=>rfl
 refine callsIn_wide.1 (callsIn_of_wp_marks (F:=Fence.wide) (n:=0) g d trivial (wpIn_wide.2 ?_))
 have h1:=h (K:=K) w ho (cD) w ⟨ho,Fr.refl _ _,fun b hb=>.inl (by unfold wr at hb;simpa using hb),K,KExt.refl _ _ _,hk⟩
 have e:args++Array.replicate (a.ntmps-args.size) undef=(args.toList++List.replicate (a.ntmps-args.size) undef).toArray:=by simp
 rw [e]
 exact (wpIn_wide (n:=0)).1 h1
theorem ma {a:Func} {R:Ending→World→Prop} (b D:Nat) (h:LW P a R .returning K0 w0 M ⟨[],st.ts,[],st.H.set b (D,.ob (.deferred none)),st.nr⟩) (d:(ix st.todo,st.ds,st.H[b]?,st.nr.ble b)=(true,[⟨.collected D,#[]⟩],some (D,.ob (.deferred (some []))),true):=by kernel_rfl):GW P (qh P a R) K0 w0 M st:=by
 simp only [Prod.mk.injEq] at d
 obtain ⟨ht,hd,hj,hn⟩:=d
 have key:∀ w,Inv K0 w0 M st.nr st.H w→LeavesInM Fence.wide 0 P a st.act.tmps R st.act.defers .returning w:=fun w hi=>by
  rw [show st.act.defers=[⟨.collected D,#[]⟩] from hd]
  obtain ⟨ob,h5,c⟩:=hi.own.at_ _ _ _ hj rfl
  have c:ob = .deferred (some []):=c
  subst c
  refine ⟨by simp,.inl ⟨D,_,rfl,run_takeDeferred h5,?_⟩⟩
  exact h _ (hi.putO P hj hn rfl (.deferred none))
 exact y7 (v:=undef) ht key key
end
end
section
attribute [local semireducible] cZ jG mh kh oV kK mS jI kB l2 jK pX lG iF kV jD cO dg cU uv nQ lK pZ ev sg after dn fu co gO e8 GW QT ix jm Alike lP
section
variable {P:Program} {Q:QR} {K0:Nat→Prop} {w0:World} {M:List Nat} {st:ES}
def oJ (id:Nat):List It→Bool
 | []=>true
 | .blk id'::k=>!(id==id')&&oJ id k
 | _::k=>oJ id k
theorem jc {c:Nat} {a:Act} {w:World} (h:Q.q (.exit c) a w):∀ k:List It,oJ c k=true→QT P Q k (.exit c) a w
 | [],_=>h
 | .blk id'::k,b=>by
  have b:(!(c==id')&&oJ c k)=true:=b
  rw [Bool.and_eq_true] at b
  have d:¬ c=id':=by have:=b.1;simpa using this
  show Exit.inBlock id' (QT P Q k) (.exit c) a w
  unfold Exit.inBlock
  dsimp only
  rw [if_neg d]
  exact jc h k b.2
 | .code _::k,b=>jc h k b
 | .ops _ _::k,b=>jc h k b
 | .reg ..::k,b=>jc h k b
 | .lp _::k,b=>jc h k b
 | .regAt ..::k,b=>jc h k b
 | .rnd _ _::k,b=>jc h k b
def vT:List It→Option (Option Code)
 | []=>some none
 | .code .ret::_=>some (some .ret)
 | .code (.exit id)::k=>if oJ id k then some (some (.exit id)) else none
 | _=>none
abbrev vK (P:Program) (l:Nat) (R:Ending→World→Prop):QR:=⟨some l,roundPost P l R,fun _ _ _ h=>h⟩
def Ic (P:Program) (l:Nat) (body:Code) (R:Ending→World→Prop):Exit→Act→World→Prop:=
 Exit.then (fun a₁ w₁=>∃ w₂,(Instr.beginRound l).run P w₁ = .ok () w₂∧body.wpIn (iW (some l)) 0 P (roundPost P l R) a₁ w₂) (fun _ _ _=>False)
abbrev rJ (P:Program) (l:Nat) (body:Code) (R:Ending→World→Prop):QR:=⟨some l,Ic P l body R,fun _ _ _ h=>h⟩
def hO (H:HP) (j:Nat):Loop:=
 match H[j]? with
 | some (_,.ob (.loop r))=>r
 | _=>default
theorem F1 {l:Nat} {args:Array Vl} {HR HW:HP} {X:Type} {φ:X→Prop} {v:X→Vl} {HW' HN:X→HP} {r:Loop} (j:Nat) (ts:List Vl)
 (c:((HR++HW)[j]?,(r.params.zip args).foldl (fun t (p,u)=>t.setIfInBounds p u) r.tmps,decide (args.size=r.params.size))=(some (l,.ob (.loop r)),ts.toArray,true))
 (h:∀ {K:Nat→Prop} w,Own (HR++HW) w→GW P (rJ P l r.body (TriPost K HR HW φ (fun x=>.returned (v x)) HW' HN w)) K w (lv HW) ⟨[.code r.assign],ts,[],HR++HW,HR.length⟩):jL P l args HR HW φ v HW' HN:=by
 simp only [Prod.mk.injEq] at c
 obtain ⟨hj,hts,hs⟩:=c
 have hs:args.size=r.params.size:=by simpa using hs
 intro K w ho hk
 obtain ⟨ob,h5,a⟩:=ho.at_ _ _ _ hj rfl
 have a:ob = .loop r:=a
 subst a
 refine ⟨r.fn,_,r.assign,r.body,run_yield h5 hs,roundIn_of_wpIn trivial ?_⟩
 rw [hts]
 exact h (K:=K) w ho (cD) w ⟨ho,Fr.refl _ _,fun b hb=>.inl (by unfold wr at hb;simpa using hb),K,KExt.refl _ _ _,hk⟩
theorem Ip {l:Nat} {a:Code} {R:Ending→World→Prop} {r:Loop} (j:Nat) (d:(st.todo.isEmpty,st.H[j]?,st.nr.ble j,st.ds.isEmpty)=(true,some (l,.ob (.loop r)),true,true)) (hr:r.state = .ready)
 (h:GW P (vK P l R) K0 w0 M ⟨[.code a],st.ts,[],st.H.set j (l,.ob (.loop {r with state:=.busy})),st.nr⟩):GW P (rJ P l a R) K0 w0 M st:=by
 simp only [Prod.mk.injEq] at d
 obtain ⟨b,hj,hn,hd⟩:=d
 have b:st.todo=[]:=by simpa using b
 have hd:st.ds=[]:=by simpa using hd
 intro _ w hi
 rw [b]
 obtain ⟨ob,h5,c⟩:=hi.own.at_ _ _ _ hj rfl
 have c:ob = .loop r:=c
 subst c
 have h1:=h (cD) _ (hi.putO P hj hn rfl (.loop {r with state:=.busy}))
 refine ⟨_,run_beginRound h5 hr,?_⟩
 have e:st.act=⟨st.ts.toArray,[]⟩:=by unfold ES.act;rw [hd]
 rw [e]
 exact h1
theorem HT {l:Nat} {HR HW:HP} {X:Type} {φ:X→Prop} {v:X→Vl} {HW' HN:X→HP} {K:Nat→Prop} {w:World} {r:Loop} (x:X) (j:Nat) (a:Option Code) (b:List Nat) (f:v x = .bool a.isNone) (g:φ x)
 (d:(vT st.todo,st.H[j]?,st.nr.ble j,st.nr,(st.H.set j (l,.ob (.loop {r with state:=if a.isNone then .ready else .done,pending:=a}))).take (HR.length+HW.length),(HW' x).length,b.map (fun i=>(st.H.set j (l,.ob (.loop {r with state:=if a.isNone then .ready else .done,pending:=a})))[i]?),(b.all fun j=>(HR.length+HW.length).ble j),decide b.Nodup) =
  (some a,some (l,.ob (.loop r)),true,HR.length,HR++HW' x,HW.length,(HN x).map some,true,true)):GW P (vK P l (TriPost K HR HW φ (fun x=>.returned (v x)) HW' HN w)) K w (lv HW) st:=by
 simp only [Prod.mk.injEq] at d
 obtain ⟨ht,hj,hn,hm,hp,ha,hN,hi,hnd⟩:=d
 intro _ w1 hi1
 have key:∃ u w',(Instr.endRound l a).run P w1 = .ok u w'∧TriPost K HR HW φ (fun x=>.returned (v x)) HW' HN w (.returned u) w':=by
  obtain ⟨ob,h5,c⟩:=hi1.own.at_ _ _ _ hj rfl
  have c:ob = .loop r:=c
  subst c
  refine ⟨_,_,run_endRound a h5,?_⟩
  exact TriPost.mk x b g (by rw [f]) hm hp ha hN hi hnd _ (hi1.putO P hj hn rfl (.loop {r with state:=if a.isNone then .ready else .done,pending:=a}))
 unfold vT at ht
 split at ht
 · rename_i e
   injection ht with ht
   subst ht
   rw [e]
   exact key
 · rename_i k e
   injection ht with ht
   subst ht
   rw [e]
   exact wpIn_ret (iN key k)
 · rename_i id k e
   split at ht
   · rename_i hk
     injection ht with ht
     subst ht
     rw [e]
     exact wpIn_exit (jc key k hk)
   · cases ht
 · cases ht
def np (t:List It):Option (Operand×Array Tmp×Code×Code×List It):=
 match t with
 | .code (.rangeFunc g ps a b)::k=>some (g,ps,a,b,k)
 | _=>none
def Dx (t:List It):Operand:=match np t with | some (g,_)=>g | none=>.const undef
def nX (t:List It):Array Tmp:=match np t with | some (_,ps,_)=>ps | none=>#[]
def n4 (t:List It):Code:=match np t with | some (_,_,a,_)=>a | none=>.skip
def nV (t:List It):Code:=match np t with | some (_,_,_,b,_)=>b | none=>.skip
def AF (t:List It):List It:=match np t with | some (_,_,_,_,k)=>k | none=>[]
theorem wx {t:List It} (h:(np t).isSome=true):t = .code (.rangeFunc (Dx t) (nX t) (n4 t) (nV t))::AF t:=by
 have:∃ g ps a b k,t = .code (.rangeFunc g ps a b)::k:=by
  unfold np at h
  split at h
  · exact ⟨_,_,_,_,_,rfl⟩
  · cases h
 obtain ⟨g,ps,a,b,k,rfl⟩:=this
 rfl
theorem kQ {gf:Nat} {lb:Array Vl} {HR HWo:HP} {X:Type} {φ:X→Prop} {v:X→Vl} {HWo' HN:X→HP} {stt:X→LoopState} {pd:X→Option Code} (b a:List Nat)
 (f:((np st.todo).isSome,cT st.ts (Dx st.todo),b.length,a.map (fun i=>st.H[i]?),decide (b++a).Nodup,a.all (fun j=>st.nr.ble j),b.all (fun j=>j.blt st.H.length),st.nr.ble st.H.length)=(true,.func (.func gf) #[] lb,HR.length,HWo.map some,true,true,true,true))
 (g:∀ args w,(callFunc gf args).run P w = .ok (.enter gf args) w) (k:Views st.H b HR)
 (e:∀ fn D l,Tri P gf (#[.func (.yield l) #[] #[]]++lb) HR (HWo++[(l,.ob (.loop (dX st.ts (nX st.todo) (n4 st.todo) (nV st.todo) fn D .ready none)))]) φ (fun x=>.returned (v x)) (fun x=>HWo' x++[(l,.ob (.loop (dX st.ts (nX st.todo) (n4 st.todo) (nV st.todo) fn D (stt x) (pd x))))]) HN)
 (m:∀ x,de HWo (HWo' x)) (hs:∀ x,φ x→stt x≠.busy)
 (h:∀ fn D l x,φ x→GW P Q K0 w0 M ⟨((pd x).map It.code).toList++AF st.todo,st.ts,⟨.collected D,#[]⟩::st.ds,(co (st.H++[(D,.ob (.deferred (some []))),(l,.ob (.loop (dX st.ts (nX st.todo) (n4 st.todo) (nV st.todo) fn D .ready none)))]) (a++[st.H.length+1]) (HWo' x++[(l,.ob (.loop (dX st.ts (nX st.todo) (n4 st.todo) (nV st.todo) fn D (stt x) (pd x))))])++HN x).set (st.H.length+1) (l,.ob (.loop (dX st.ts (nX st.todo) (n4 st.todo) (nV st.todo) fn D .exhausted (pd x)))),st.nr⟩)
 (c:∀ (fn:FuncId) (D l:Nat) (x:X),(co (st.H++[(D,.ob (.deferred (some []))),(l,.ob (.loop (dX st.ts (nX st.todo) (n4 st.todo) (nV st.todo) fn D .ready none)))]) (a++[st.H.length+1]) (HWo' x++[(l,.ob (.loop (dX st.ts (nX st.todo) (n4 st.todo) (nV st.todo) fn D (stt x) (pd x))))])++HN x)[st.H.length+1]?=some (l,.ob (.loop (dX st.ts (nX st.todo) (n4 st.todo) (nV st.todo) fn D (stt x) (pd x)))))
 (n:Q.rd=none) (d:∀ x,eF (((pd x).map It.code).toList++AF st.todo)=true):GW P Q K0 w0 M st:=by
 simp only [Prod.mk.injEq] at f
 obtain ⟨h1,h2,h3,h4,h5,h6,h7,h8⟩:=f
 have h0:st.todo = .code (.rangeFunc (Dx st.todo) (nX st.todo) (n4 st.todo) (nV st.todo))::AF st.todo:=wx h1
 exact Es (gf:=gf) (lb:=lb) b a (by rw [← h0,h2,h3,h4,h5,h6,h7]) g k e m hs h c n d h8
theorem vf {l:Nat} {args:Array Vl} {HR HW:HP} {X:Type} {φ:X→Prop} {v:X→Vl} {HW' HN:X→HP} (j:Nat) (ts:List Vl)
 (a:((HR++HW)[j]?,((hO (HR++HW) j).params.zip args).foldl (fun t (p,u)=>t.setIfInBounds p u) (hO (HR++HW) j).tmps,decide (args.size=(hO (HR++HW) j).params.size))=(some (l,.ob (.loop (hO (HR++HW) j))),ts.toArray,true))
 (h:∀ {K:Nat→Prop} w,Own (HR++HW) w→GW P (rJ P l (hO (HR++HW) j).body (TriPost K HR HW φ (fun x=>.returned (v x)) HW' HN w)) K w (lv HW) ⟨[.code (hO (HR++HW) j).assign],ts,[],HR++HW,HR.length⟩):jL P l args HR HW φ v HW' HN:=
 F1 j ts a h
theorem ov {l:Nat} {a:Code} {R:Ending→World→Prop} (j:Nat) (h:GW P (vK P l R) K0 w0 M ⟨[.code a],st.ts,[],st.H.set j (l,.ob (.loop {hO st.H j with state:=.busy})),st.nr⟩) (b:(st.todo.isEmpty,st.H[j]?,st.nr.ble j,st.ds.isEmpty,(hO st.H j).state)=(true,some (l,.ob (.loop (hO st.H j))),true,true,.ready):=by kernel_rfl):GW P (rJ P l a R) K0 w0 M st:=by
 simp only [Prod.mk.injEq] at b
 obtain ⟨h1,h2,h3,h4,h5⟩:=b
 exact Ip j (by rw [h1,← h2,h3,h4]) h5 h
theorem n7 {l:Nat} {HR HW:HP} {X:Type} {φ:X→Prop} {v:X→Vl} {HW' HN:X→HP} {K:Nat→Prop} {w:World} (x:X) (j:Nat) (a:Option Code) (b:List Nat) (c:v x = .bool a.isNone:=by rfl) (d:φ x:=by trivial) (e:(vT st.todo,st.H[j]?,st.nr.ble j,st.nr,(st.H.set j (l,.ob (.loop {hO st.H j with state:=if a.isNone then .ready else .done,pending:=a}))).take (HR.length+HW.length),(HW' x).length,b.map (fun i=>(st.H.set j (l,.ob (.loop {hO st.H j with state:=if a.isNone then .ready else .done,pending:=a})))[i]?),(b.all fun j=>(HR.length+HW.length).ble j),decide b.Nodup) =
 (some a,some (l,.ob (.loop (hO st.H j))),true,HR.length,HR++HW' x,HW.length,(HN x).map some,true,true):=by kernel_rfl):GW P (vK P l (TriPost K HR HW φ (fun x=>.returned (v x)) HW' HN w)) K w (lv HW) st:=
 HT x j a b c d e
end
end
end Go.Proofs.YtlkeemedalncoaaGreat.En
