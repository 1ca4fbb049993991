/- TopHandles, part 9: no condition. -/
import Derived.Laws.StructEq
import Derived.WideKeyRuns
import Derived.Test.YtlkeemedalncoaaGreatP08
set_option linter.all false
set_option maxHeartbeats 16000000
set_option maxRecDepth 100000
namespace Go.Proofs.YtlkeemedalncoaaGreat.En
open Go Go.RowKit Go.Proofs.YtlkeemedalncoaaGreat Go.Proofs.Tryz
section
variable {P:Program} {kt et T:TypeId}
abbrev eK (κ:IntKind):Nat→Vl:=fun n=>.int κ (n:Int)
abbrev MU:=bB (eK .u32)
abbrev MV:=bB (eK .u64)
theorem iA {κ:IntKind} (a:P.underlying kt=some (.int κ)):KeyLaw P kt (eK κ):=by
 have h0:=vp a
 refine ⟨fun e k w=>h0.chk e (k:Int) w,fun k es l w h=>?_,fun k w=>h0.stays (k:Int) w⟩
 have h1:=h0.find (k:Int) es (l.map fun p=>((p.1:Int),p.2)) w (by rw [h];simp)
 rw [h1]
 have key:∀ (l:List (Nat×Vl)) (i:Nat),eV (l.map fun p=>((p.1:Int),p.2)) (k:Int) i=eV l k i:=by
  intro l
  induction l with
  | nil=>intro i;rfl
  | cons x l ih=>
   intro i
   obtain ⟨m,v⟩:=x
   simp only [List.map_cons,eV]
   by_cases hkm:k=m
   · simp [hkm]
   · rw [if_neg (by omega),if_neg hkm,ih]
 rw [key]
theorem qp {K:Type} [DecidableEq K] {enc:K→Vl} (c:(match P.underlying kt with | some (.array _ _) | some (.struct _)=>true | _=>false)=true) (chk:∀ (e:Bool) (k:K) (w:World),(Instr.checkKey e 10000 kt (enc k)).run P w = .ok () w)
 (f:∀ (a b:K) (w:World),(Op.equal kt (enc a) (enc b)).run P w = .ok (decide (a=b)) w) (d:∀ k,Instr.sameBits 10000 (enc k) (enc k)=true):KeyLaw P kt enc:=by
 refine ⟨chk,fun k es l w h=>?_,fun k w=>?_⟩
 · rw [run_findKey_eq w c]
   have key:∀ (es:List MapEntry) (l:List (K×Vl)) (i:Nat),es.map (fun e=>(e.key,e.val))=l.map (fun p=>(enc p.1,p.2))→(Instr.findAsking kt (enc k) es i).run P w = .ok (eV l k i) w:=by
    intro es
    induction es with
    | nil=>
     intro l i h
     cases l with
     | nil=>rfl
     | cons x l=>simp at h
    | cons e es ih=>
     intro l i h
     cases l with
     | nil=>simp at h
     | cons x l=>
      simp only [List.map_cons,List.cons.injEq,Prod.mk.injEq] at h
      obtain ⟨⟨h1,h2⟩,h3⟩:=h
      unfold Instr.findAsking eV
      rw [h1]
      simp only [Sem.run_bind,f,Result.andThen]
      by_cases hkx:k=x.1
      · simp [hkx,h2,Sem.run]
      · simp only [hkx,decide_false,Bool.false_eq_true,if_false]
        exact ih l (i+1) h3
   exact key es l 0 h
 · unfold Instr.keyThatStays
   rw [d]
   rfl
section
variable {κ:IntKind} (ht:P.underlying T=some (.map kt et)) (hk:P.underlying kt=some (.int κ))
include ht hk
theorem pN (r:Nat) (l:List (Nat×Vl)) (n:Nat) (v:Vl) (h:lk l n=some v):Reads P (vS (Instr.lookup T (.map (some r)) (.int κ (n:Int)) true)) [(r,.pr (bB (eK κ) l))] (.tuple #[v,.bool true]):=fun w hl _=>by
 obtain ⟨o,h1,es,clock,rfl,h2,h3,h4⟩:=hl 0 r _ rfl rfl
 have a:=iA hk
 have b:=a.find n es.toList l w h2
 have hc:=a.chk es.isEmpty n w
 unfold lk at h
 cases hh:eV l n 0 with
 | none=>rw [hh] at h;cases h
 | some x=>
  obtain ⟨i,u⟩:=x
  rw [hh] at h
  injection h with h
  have h:u=v:=h
  subst h
  apply ce
  unfold Instr.lookup
  simp only [Sem.run_bind,run_underlying ht w,Result.andThen,getObj,Sem.run,h1,hc,b,hh,pure,eK] at *
  simp [Sem.run_bind,Result.andThen,Sem.run]
theorem eI (r:Nat) (l:List (Nat×Vl)) (n:Nat) (v:Vl) (h:lk l n=some v):Reads P (vS (Instr.lookup T (.map (some r)) (.int κ (n:Int)) false)) [(r,.pr (bB (eK κ) l))] v:=fun w hl _=>by
 obtain ⟨o,h1,es,clock,rfl,h2,h3,h4⟩:=hl 0 r _ rfl rfl
 have a:=iA hk
 have b:=a.find n es.toList l w h2
 have hc:=a.chk es.isEmpty n w
 unfold lk at h
 cases hh:eV l n 0 with
 | none=>rw [hh] at h;cases h
 | some x=>
  obtain ⟨i,u⟩:=x
  rw [hh] at h
  injection h with h
  have h:u=v:=h
  subst h
  apply ce
  unfold Instr.lookup
  simp only [Sem.run_bind,run_underlying ht w,Result.andThen,getObj,Sem.run,h1,hc,b,hh,pure,eK] at *
  simp [Sem.run_bind,Result.andThen,Sem.run]
theorem nu {z:Vl} (b:∀ w,(zeroValue et).run P w = .ok z w) (r:Nat) (l:List (Nat×Vl)) (n:Nat) (h:lk l n=none):Reads P (vS (Instr.lookup T (.map (some r)) (.int κ (n:Int)) true)) [(r,.pr (bB (eK κ) l))] (.tuple #[z,.bool false]):=fun w hl _=>by
 obtain ⟨o,h1,es,clock,rfl,h2,h3,h4⟩:=hl 0 r _ rfl rfl
 have a:=iA hk
 have c:=a.find n es.toList l w h2
 have hc:=a.chk es.isEmpty n w
 unfold lk at h
 cases hh:eV l n 0 with
 | some x=>rw [hh] at h;cases h
 | none=>
  apply ce
  unfold Instr.lookup
  simp only [Sem.run_bind,run_underlying ht w,Result.andThen,getObj,Sem.run,h1,hc,c,hh,pure,eK,b] at *
  simp [Sem.run_bind,Result.andThen,Sem.run]
theorem i8 {z:Vl} (b:∀ w,(zeroValue et).run P w = .ok z w) (r:Nat) (l:List (Nat×Vl)) (n:Nat) (h:lk l n=none):Reads P (vS (Instr.lookup T (.map (some r)) (.int κ (n:Int)) false)) [(r,.pr (bB (eK κ) l))] z:=fun w hl _=>by
 obtain ⟨o,h1,es,clock,rfl,h2,h3,h4⟩:=hl 0 r _ rfl rfl
 have a:=iA hk
 have c:=a.find n es.toList l w h2
 have hc:=a.chk es.isEmpty n w
 unfold lk at h
 cases hh:eV l n 0 with
 | some x=>rw [hh] at h;cases h
 | none=>
  apply ce
  unfold Instr.lookup
  simp only [Sem.run_bind,run_underlying ht w,Result.andThen,getObj,Sem.run,h1,hc,c,hh,pure,eK,b] at *
  simp [Sem.run_bind,Result.andThen,Sem.run]
theorem gE (r:Nat) (l:List (Nat×Vl)) (n:Nat) (v:Vl) :
 RunTri P (uS (Instr.mapUpdate T (.map (some r)) (.int κ (n:Int)) v)) [] [(r,.pr (bB (eK κ) l))] uT (fun _=>undef) (fun _=>[(r,.pr (bB (eK κ) (up l n v)))]) (fun _=>[]):=
 l5 (iA hk) ht r l n v
theorem sx (r:Nat) (l:List (Nat×Vl)) (n:Nat) (ty:TypeId) :
 RunTri P (vS (Builtin.delete_ #[T,kt] ty #[.map (some r),.int κ (n:Int)])) [] [(r,.pr (bB (eK κ) l))] uT (fun _=>.tuple #[]) (fun _=>[(r,.pr (bB (eK κ) (del l n)))]) (fun _=>[]):=
 pq (iA hk) ht r l n T ty [kt]
end
theorem tf (b:P.underlying T=some (.map kt et)) {K:Type} [DecidableEq K] {enc:K→Vl} (r:Nat) (l:List (K×Vl)) (ty:TypeId):Reads P (vS (Builtin.len_ #[T] ty #[.map (some r)])) [(r,.pr (bB enc l))] (.int .i64 l.length):=fun w hl _=>by
 obtain ⟨o,h1,es,clock,rfl,h2,h3,h4⟩:=hl 0 r _ rfl rfl
 have a:es.size=l.length:=by have:=congrArg List.length h2;simpa using this
 apply ce
 unfold Builtin.len_
 simp [Sem.run_bind,run_underlying b w,Result.andThen,getObj,Sem.run,h1,goInt,a]
theorem dL {K:Type} [DecidableEq K] (enc:K→Vl) (a:Nat):∀ o,(SB.ob (.map #[] a)).ok o→(SB.pr (bB enc [])).ok o:=by
 intro o h
 have h:o = .map #[] a:=h
 subst h
 exact ⟨#[],a,rfl,rfl,by simp,by simp⟩
end
theorem fQ {P : Program} {d : Nat} {xs ys : Array Vl} {fs : List Field} {t o : Nat} {L : List (Bool × TypeId × Nat)} (h : fs.map (fun f => (f.name != "_", f.type, f.offset)) = (true, t, o) :: L) {w : World} {k k' : IntKind} {a b : Int} (h1 : ∀ w, (Go.part t xs o).run P w = .ok (.int k a) w := by intro w; kernel_rfl) (h2 : ∀ w, (Go.part t ys o).run P w = .ok (.int k b) w := by intro w; kernel_rfl) (e : P.underlying t = some (.int k') := by kernel_rfl) :
 ∃ fs', fs'.map (fun f => (f.name != "_", f.type, f.offset)) = L ∧ (Op.eqFields (d + 1) xs ys fs).run P w = if a = b then (Op.eqFields (d + 1) xs ys fs').run P w else .ok false w := by
 cases fs with
 | nil=>cases h
 | cons f fs=>
  simp only [List.map_cons,List.cons.injEq,Prod.mk.injEq] at h
  obtain ⟨⟨c,rfl,rfl⟩,hL⟩:=h
  have c : f.name ≠ "_" := by simpa using c
  refine ⟨fs,hL,?_⟩
  simp only [Op.eqFields,Sem.run_bind,c,ne_eq,not_false_eq_true,if_true,h1,h2,Result.andThen_ok,run_equalIn_int w d f.type k k' a b e]
  by_cases h:a=b <;> simp [h]
theorem lL {P : Program} {d : Nat} {xs ys : Array Vl} {fs : List Field} (h : fs.map (fun f => (f.name != "_", f.type, f.offset)) = []) {w : World} : (Op.eqFields d xs ys fs).run P w = .ok true w := by
 cases fs with
 | nil=>simp [Op.eqFields]
 | cons f fs=>cases h
abbrev eW:Nat×Nat→Vl:=fun p=>.agg #[u32 (p.1:Int),u16 (p.2:Int)]
theorem mi:KeyLaw prog 187 eW:=by
 refine qp (by kernel_rfl) (fun e k w=>by kernel_rfl) (fun a b w=>?_) (fun k=>by simp [eW,Instr.sameBits])
 show (Op.equalIn 10000 187 (.agg _) (.agg _)).run prog w=_
 rw [run_equalIn_agg w 9999 187 _ _ (by kernel_rfl) (by kernel_rfl)]
 obtain ⟨f1,e1,h1⟩:=fQ (P:=prog) (d:=9998) (xs:=#[u32 (a.1:Int),u16 (a.2:Int)]) (ys:=#[u32 (b.1:Int),u16 (b.2:Int)]) (fs:=(prog.fieldsOf 187).toList) (t:=37) (o:=0) (L:=[(true,68,1)]) (by kernel_rfl) (w:=w) (k:=.u32) (k':=.u32) (a:=a.1) (b:=b.1)
 obtain ⟨f2,e2,h2⟩:=fQ (P:=prog) (d:=9998) (xs:=#[u32 (a.1:Int),u16 (a.2:Int)]) (ys:=#[u32 (b.1:Int),u16 (b.2:Int)]) e1 (w:=w) (k:=.u16) (k':=.u16) (a:=a.2) (b:=b.2)
 rw [h1,h2,lL e2]
 obtain ⟨a1,a2⟩:=a
 obtain ⟨b1,b2⟩:=b
 by_cases g1:a1=b1 <;> by_cases g2:a2=b2 <;> simp [g1,g2] <;> omega
abbrev eR:Nat×Nat×Nat→Vl:=fun p=>.agg #[u32 (p.1:Int),u64 (p.2.1:Int),u16 (p.2.2:Int)]
theorem zO {kt : TypeId} (h0 : (prog.fieldsOf kt).toList.map (fun f => (f.name != "_", f.type, f.offset)) = [(true, 37, 0), (true, 25, 1), (true, 68, 2)]) (c : (match prog.underlying kt with | some (.array _ _) | some (.struct _) => true | _ => false) = true) (g : prog.underlying kt = some (.struct (prog.fieldsOf kt))) (hs : prog.stoodInHeld kt = false)
 (chk:∀ (e:Bool) (k:Nat×Nat×Nat) (w:World),(Instr.checkKey e 10000 kt (eR k)).run prog w = .ok () w):KeyLaw prog kt eR:=by
 refine qp c chk (fun a b w=>?_) (fun k=>by simp [eR,Instr.sameBits])
 show (Op.equalIn 10000 kt (.agg _) (.agg _)).run prog w=_
 rw [run_equalIn_agg w 9999 kt _ _ g hs]
 obtain ⟨f1,e1,h1⟩:=fQ (P:=prog) (d:=9998) (xs:=#[u32 (a.1:Int),u64 (a.2.1:Int),u16 (a.2.2:Int)]) (ys:=#[u32 (b.1:Int),u64 (b.2.1:Int),u16 (b.2.2:Int)]) h0 (w:=w) (k:=.u32) (k':=.u32) (a:=a.1) (b:=b.1)
 obtain ⟨f2,e2,h2⟩:=fQ (P:=prog) (d:=9998) (xs:=#[u32 (a.1:Int),u64 (a.2.1:Int),u16 (a.2.2:Int)]) (ys:=#[u32 (b.1:Int),u64 (b.2.1:Int),u16 (b.2.2:Int)]) e1 (w:=w) (k:=.u64) (k':=.u64) (a:=a.2.1) (b:=b.2.1)
 obtain ⟨f3,e3,h3⟩:=fQ (P:=prog) (d:=9998) (xs:=#[u32 (a.1:Int),u64 (a.2.1:Int),u16 (a.2.2:Int)]) (ys:=#[u32 (b.1:Int),u64 (b.2.1:Int),u16 (b.2.2:Int)]) e2 (w:=w) (k:=.u16) (k':=.u16) (a:=a.2.2) (b:=b.2.2)
 rw [h1,h2,h3,lL e3]
 obtain ⟨a1,a2,a3⟩:=a
 obtain ⟨b1,b2,b3⟩:=b
 by_cases g1:a1=b1 <;> by_cases g2:a2=b2 <;> by_cases g3:a3=b3 <;> simp [g1,g2,g3] <;> omega
theorem tZ (r:Nat) (l:List ((Nat×Nat)×Vl)) (t g:Nat) (v:Vl) (h:lk l (t,g)=some v):Reads prog (vS (Instr.lookup 180 (.map (some r)) (.agg #[u32 t,u16 g]) true)) [(r,.pr (bB eW l))] (.tuple #[v,.bool true]):=fun w hl _=>by
 obtain ⟨o,h1,es,clock,rfl,h2,h3,h4⟩:=hl 0 r _ rfl rfl
 have a:=mi
 have b:=a.find (t,g) es.toList l w h2
 have hc:=a.chk es.isEmpty (t,g) w
 unfold lk at h
 cases hh:eV l (t,g) 0 with
 | none=>rw [hh] at h;cases h
 | some x=>
  obtain ⟨i,u⟩:=x
  rw [hh] at h
  have h:u=v:=by simpa using h
  subst h
  apply ce
  unfold Instr.lookup
  simp only [Sem.run_bind,run_underlying underlying180 w,Result.andThen,getObj,Sem.run,h1,hc,b,hh,pure,eW] at *
  simp [Sem.run_bind,Result.andThen,Sem.run]
theorem Er (r:Nat) (l:List ((Nat×Nat)×Vl)) (t g:Nat) (h:lk l (t,g)=none):Reads prog (vS (Instr.lookup 180 (.map (some r)) (.agg #[u32 t,u16 g]) true)) [(r,.pr (bB eW l))] (.tuple #[.slice none 0 0,.bool false]):=fun w hl _=>by
 obtain ⟨o,h1,es,clock,rfl,h2,h3,h4⟩:=hl 0 r _ rfl rfl
 have a:=mi
 have b:=a.find (t,g) es.toList l w h2
 have hc:=a.chk es.isEmpty (t,g) w
 have c:∀ w,(zeroValue 27).run prog w = .ok (.slice none 0 0) w:=fun w=>by kernel_rfl
 unfold lk at h
 cases hh:eV l (t,g) 0 with
 | some x=>rw [hh] at h;cases h
 | none=>
  apply ce
  unfold Instr.lookup
  simp only [Sem.run_bind,run_underlying underlying180 w,Result.andThen,getObj,Sem.run,h1,hc,b,hh,pure,eW,c] at *
  simp [Sem.run_bind,Result.andThen,Sem.run]
theorem IN (r:Nat) (l:List ((Nat×Nat)×Vl)) (t g:Nat) (v:Vl) :
 RunTri prog (uS (Instr.mapUpdate 180 (.map (some r)) (.agg #[u32 t,u16 g]) v)) [] [(r,.pr (bB eW l))] uT (fun _=>undef) (fun _=>[(r,.pr (bB eW (up l (t,g) v)))]) (fun _=>[]):=
 l5 mi underlying180 r l (t,g) v
theorem Ix (r:Nat) (l:List ((Nat×Nat)×Vl)) (t g:Nat) (ty:TypeId) :
 RunTri prog (vS (Builtin.delete_ #[180,187] ty #[.map (some r),.agg #[u32 t,u16 g]])) [] [(r,.pr (bB eW l))] uT (fun _=>.tuple #[]) (fun _=>[(r,.pr (bB eW (del l (t,g))))]) (fun _=>[]):=
 pq mi underlying180 r l (t,g) 180 ty [187]
theorem sf {P : Program} {d : Nat} {xs ys : Array Vl} {fs : List Field} {t o : Nat} {L : List (Bool × TypeId × Nat)} (h : fs.map (fun f => (f.name != "_", f.type, f.offset)) = (true, t, o) :: L) {w : World} {va vb : Vl} {r : Bool} (b : ∀ w, (Op.equalIn d t va vb).run P w = .ok r w) (h1 : ∀ w, (Go.part t xs o).run P w = .ok va w := by intro w; kernel_rfl) (h2 : ∀ w, (Go.part t ys o).run P w = .ok vb w := by intro w; kernel_rfl) :
 ∃ fs', fs'.map (fun f => (f.name != "_", f.type, f.offset)) = L ∧ (Op.eqFields d xs ys fs).run P w = if r then (Op.eqFields d xs ys fs').run P w else .ok false w := by
 cases fs with
 | nil=>cases h
 | cons f fs=>
  simp only [List.map_cons,List.cons.injEq,Prod.mk.injEq] at h
  obtain ⟨⟨a,rfl,rfl⟩,hL⟩:=h
  have a : f.name ≠ "_" := by simpa using a
  refine ⟨fs,hL,?_⟩
  simp only [Op.eqFields,Sem.run_bind,a,ne_eq,not_false_eq_true,if_true,h1,h2,Result.andThen_ok,b]
  cases r <;> simp
abbrev j3 (a b c:Int):Array Vl:=#[u32 a,u64 b,u16 c]
theorem oS (d:Nat) (a b c e f g:Int) (w:World):(Op.equalIn (d+2) 70 (.agg (j3 a b c)) (.agg (j3 e f g))).run prog w = .ok (decide (a=e∧b=f∧c=g)) w:=by
 rw [run_equalIn_agg w (d+1) 70 _ _ (by kernel_rfl) (by kernel_rfl)]
 obtain ⟨f1,e1,h1⟩:=fQ (P:=prog) (d:=d) (xs:=j3 a b c) (ys:=j3 e f g) (fs:=(prog.fieldsOf 70).toList) (t:=37) (o:=0) (L:=[(true,25,1),(true,68,2)]) (by kernel_rfl) (w:=w) (k:=.u32) (k':=.u32) (a:=a) (b:=e)
 obtain ⟨f2,e2,h2⟩:=fQ (P:=prog) (d:=d) (xs:=j3 a b c) (ys:=j3 e f g) e1 (w:=w) (k:=.u64) (k':=.u64) (a:=b) (b:=f)
 obtain ⟨f3,e3,h3⟩:=fQ (P:=prog) (d:=d) (xs:=j3 a b c) (ys:=j3 e f g) e2 (w:=w) (k:=.u16) (k':=.u16) (a:=c) (b:=g)
 rw [h1,h2,h3,lL e3]
 by_cases g1:a=e <;> by_cases g2:b=f <;> by_cases g3:c=g <;> simp [g1,g2,g3]
abbrev nJ (a b c l:Int):Array Vl:=#[u32 a,u64 b,u16 c,u8 l]
theorem uJ (d:Nat) (a b c l e f g h:Int) (w:World):(Op.equalIn (d+3) 85 (.agg (nJ a b c l)) (.agg (nJ e f g h))).run prog w = .ok (decide ((a=e∧b=f∧c=g)∧l=h)) w:=by
 rw [run_equalIn_agg w (d+2) 85 _ _ (by kernel_rfl) (by kernel_rfl)]
 obtain ⟨f1,e1,h1⟩:=sf (P:=prog) (d:=d+2) (xs:=nJ a b c l) (ys:=nJ e f g h) (fs:=(prog.fieldsOf 85).toList) (t:=70) (o:=0) (L:=[(true,5,3)]) (by kernel_rfl) (w:=w) (va:=.agg (j3 a b c)) (vb:=.agg (j3 e f g)) (r:=decide (a=e∧b=f∧c=g)) (fun w=>oS d a b c e f g w)
 obtain ⟨f2,e2,h2⟩:=fQ (P:=prog) (d:=d+1) (xs:=nJ a b c l) (ys:=nJ e f g h) e1 (w:=w) (k:=.u8) (k':=.u8) (a:=l) (b:=h)
 rw [h1,h2,lL e2]
 by_cases g1:(a=e∧b=f∧c=g) <;> by_cases g2:l=h <;> simp [g1,g2]
abbrev lx (t k l a b c:Int):Array Vl:=#[u32 t,u8 k,u8 l,u32 a,u64 b,u16 c]
theorem C5 (d:Nat) (t k l a b c h k' i e f g:Int) (w:World):(Op.equalIn (d+3) 72 (.agg (lx t k l a b c)) (.agg (lx h k' i e f g))).run prog w = .ok (decide (t=h∧k=k'∧l=i∧a=e∧b=f∧c=g)) w:=by
 rw [run_equalIn_agg w (d+2) 72 _ _ (by kernel_rfl) (by kernel_rfl)]
 obtain ⟨f1,e1,h1⟩:=fQ (P:=prog) (d:=d+1) (xs:=lx t k l a b c) (ys:=lx h k' i e f g) (fs:=(prog.fieldsOf 72).toList) (t:=37) (o:=0) (L:=[(true,5,1),(true,5,2),(true,70,3)]) (by kernel_rfl) (w:=w) (k:=.u32) (k':=.u32) (a:=t) (b:=h)
 obtain ⟨f2,e2,h2⟩:=fQ (P:=prog) (d:=d+1) (xs:=lx t k l a b c) (ys:=lx h k' i e f g) e1 (w:=w) (k:=.u8) (k':=.u8) (a:=k) (b:=k')
 obtain ⟨f3,e3,h3⟩:=fQ (P:=prog) (d:=d+1) (xs:=lx t k l a b c) (ys:=lx h k' i e f g) e2 (w:=w) (k:=.u8) (k':=.u8) (a:=l) (b:=i)
 obtain ⟨f4,e4,h4⟩:=sf (P:=prog) (d:=d+2) (xs:=lx t k l a b c) (ys:=lx h k' i e f g) e3 (w:=w) (va:=.agg (j3 a b c)) (vb:=.agg (j3 e f g)) (r:=decide (a=e∧b=f∧c=g)) (fun w=>oS d a b c e f g w)
 rw [h1,h2,h3,h4,lL e4]
 by_cases g1:t=h <;> by_cases g2:k=k' <;> by_cases g3:l=i <;> by_cases g4:(a=e∧b=f∧c=g) <;> simp [g1,g2,g3,g4]
def lX (op:BinOp) (t:TypeId) (x y:Operand) (a b:Vl):Sem Vl:=do
 eqGuard op t x y a b
 binOp op t a b
theorem kM {t:TypeId} {xs ys:Array Vl} {r:Bool} {x y:Operand} (w:World) (h:(Op.equalIn 10000 t (.agg xs) (.agg ys)).run prog w = .ok r w) (a:prog.eqGuardType prog.depth t=false:=by kernel_rfl) :
 (lX .eql t x y (.agg xs) (.agg ys)).run prog w = .ok (.bool r) w∧(lX .neq t x y (.agg xs) (.agg ys)).run prog w = .ok (.bool (!r)) w:=by
 unfold lX
 constructor
 · rw [Sem.run_bind,run_eqGuard_agg w .eql t x y xs ys a,Result.andThen_ok,run_eql_struct,h];rfl
 · rw [Sem.run_bind,run_eqGuard_agg w .neq t x y xs ys a,Result.andThen_ok,run_neq_struct,h];rfl
section
variable (x y:Operand) (a b c l a' b' c' l' t k t' k':Int)
theorem zK (h:a=a'∧b=b'∧c=c'):Reads prog (vS (lX .eql 70 x y (.agg #[u32 a,u64 b,u16 c]) (.agg #[u32 a',u64 b',u16 c']))) [] (.bool true):=Reads.pure fun w=>by
 have:=(kM (x:=x) (y:=y) w (oS 9998 a b c a' b' c' w)).1
 rw [decide_eq_true h] at this;exact this
theorem zL (h:¬ (a=a'∧b=b'∧c=c')):Reads prog (vS (lX .eql 70 x y (.agg #[u32 a,u64 b,u16 c]) (.agg #[u32 a',u64 b',u16 c']))) [] (.bool false):=Reads.pure fun w=>by
 have:=(kM (x:=x) (y:=y) w (oS 9998 a b c a' b' c' w)).1
 rw [decide_eq_false h] at this;exact this
theorem gS (h:¬ ((a=a'∧b=b'∧c=c')∧l=l')):Reads prog (vS (lX .eql 85 x y (.agg #[u32 a,u64 b,u16 c,u8 l]) (.agg #[u32 a',u64 b',u16 c',u8 l']))) [] (.bool false):=Reads.pure fun w=>by
 have:=(kM (x:=x) (y:=y) w (uJ 9997 a b c l a' b' c' l' w)).1
 rw [decide_eq_false h] at this;exact this
theorem qJ (h:¬ ((a=a'∧b=b'∧c=c')∧l=l')):Reads prog (vS (lX .neq 85 x y (.agg #[u32 a,u64 b,u16 c,u8 l]) (.agg #[u32 a',u64 b',u16 c',u8 l']))) [] (.bool true):=Reads.pure fun w=>by
 have:=(kM (x:=x) (y:=y) w (uJ 9997 a b c l a' b' c' l' w)).2
 rw [decide_eq_false h] at this;exact this
theorem sC (h:t=t'∧k=k'∧l=l'∧a=a'∧b=b'∧c=c'):Reads prog (vS (lX .neq 72 x y (.agg #[u32 t,u8 k,u8 l,u32 a,u64 b,u16 c]) (.agg #[u32 t',u8 k',u8 l',u32 a',u64 b',u16 c']))) [] (.bool false):=Reads.pure fun w=>by
 have:=(kM (x:=x) (y:=y) w (C5 9997 t k l a b c t' k' l' a' b' c' w)).2
 rw [decide_eq_true h] at this;exact this
end
end Go.Proofs.YtlkeemedalncoaaGreat.En
namespace Go.Proofs.YtlkeemedalncoaaGreat
open Go Go.RowKit
theorem zj (m:Nat):(Builtin.zeroCells #[Value.int .u8 0] m).toList=(List.replicate m (0:UInt8)).map B8:=by
 rw [List.map_replicate,List.eq_replicate_iff]
 refine ⟨by simp [size_zeroCells],fun v hv=>?_⟩
 simp only [Builtin.zeroCells,Array.toList_map,List.mem_map] at hv
 obtain ⟨i,_,rfl⟩:=hv
 simp [Nat.mod_one]
end Go.Proofs.YtlkeemedalncoaaGreat
namespace Go.Proofs.YtlkeemedalncoaaGreat.En
open Go Go.RowKit Go.Proofs.YtlkeemedalncoaaGreat Go.Proofs.Tryz
theorem Ak (b n c m:Nat) (l:Bs) (E:n=l.length) (h0:0<m) (M:n+m≤1000000) :
 RunTri prog (vS (Builtin.append_ #[27,3] 27 #[sA b n c,.int .i64 m])) [] [(b,.pr (bn 5 1 n c (l.map B8)))] (fun _:Nat×Nat=>True) (fun y=>sA y.1 (n+m) y.2) (fun _=>[(b,.dead)]) (fun y=>[(y.1,.pr (bn 5 1 (n+m) y.2 ((l++List.replicate m 0).map B8)))]):=by
 intro w ho
 have hT:=underlying27
 have p:=underlying3
 obtain ⟨o,hg,hok⟩:=ho.at_ 0 b _ rfl rfl
 obtain ⟨cur,rfl,hcs,htake,hnc,hcm⟩:=hok
 rw [Nat.mul_one] at hcs htake
 obtain ⟨i0,hi,hz0,hz1,hz2⟩:=info_parts tc
 have K:IntKind.i64.wrap (m:Int)=m:=by rw [IntKind.wrap_i64];omega
 have d:¬ ((m:Int)<0):=by omega
 have f:¬ (281474976710656<(m:Int)*(i0.bytes:Int)):=by rw [hz2];omega
 have q:¬ m=0:=by omega
 have L:¬ (m*1=0):=by omega
 have r:(Builtin.zeroCells (Value.int .u8 0).cells m).toList=List.replicate m (B8 0):=by rw [← List.map_replicate];exact zj m
 have v:de [(b,SB.pr (bn 5 1 n c (l.map B8)))] [(b,SB.dead)]:=bD bH (by intro h;cases h)
 by_cases hroom:n+m≤c
 · have x:n*1+(List.replicate m (B8 0)).length≤cur.size:=by rw [hcs];simp;omega
   have F:∀ u∈List.replicate m (B8 0),u.oneCell'=true:=fun u hu=>by rw [(List.mem_replicate.1 hu).2];rfl
   have z:=run_storeCells_at prog b (n*1) 5 (List.replicate m (B8 0)) 0 cur w hg (by simpa using x) F
   have G:(w.setRow b (cur.toList.take n++(List.replicate m (B8 0)++cur.toList.drop (n+m))).toArray).heap[b]?=some (.cells (cur.toList.take n++(List.replicate m (B8 0)++cur.toList.drop (n+m))).toArray 5 (0,0)):=setRow_heap w b _ _ _ _ hg
   have H:∀ k,k≠b→(w.setRow b (cur.toList.take n++(List.replicate m (B8 0)++cur.toList.drop (n+m))).toArray).heap[k]?=w.heap[k]?:=fun k hk=>setRow_other w b k _ hk
   refine ⟨_,w.setRow b (cur.toList.take n++(List.replicate m (B8 0)++cur.toList.drop (n+m))).toArray,⟨(b,c),trivial,.inl rfl,?_,⟨rfl,rfl,rfl,by simp [World.setRow],fun k _ hk=>H k (fun e=>hk (by simp [lv,SB.live,e]))⟩,fun k hk=>.inr (by simpa [lv,SB.live] using hk)⟩,ce ?_⟩
   · constructor
     · intro i j k s t hij hi hj hs ht
       match i,j with
       | 0,_=>simp at hi;rw [← hi.2] at hs;cases hs
       | 1,0=>simp at hj;rw [← hj.2] at ht;cases ht
       | 1,1=>exact hij rfl
       | 1,j+2=>simp at hj
       | i+2,_=>simp at hi
     · intro j k s hj hs
       match j with
       | 0=>simp at hj;rw [← hj.2] at hs;cases hs
       | 1=>
        simp at hj
        obtain ⟨rfl,rfl⟩:=hj
        refine ⟨_,G,_,rfl,?_,?_,hroom,hcm⟩
        · simp only [List.size_toArray,List.length_append,List.length_take,List.length_drop,Array.length_toList,List.length_replicate,hcs]
          omega
        · rw [htake,Nat.mul_one,← List.append_assoc]
          exact List.take_left' (by simp [← E])
       | j+2=>simp at hj
   · simp only [Nat.mul_one,Nat.add_zero,Nat.zero_add,List.length_replicate] at z
     simp [Builtin.append_,run_underlying hT,run_underlying p,sizeOf,typeInfo,zeroValue,hi,hz0,hz1,asInt,asIntOf,K,d,f,hroom,q,Addr.add_lit,r,z]
 · have g:∀ j u,(l.map B8)[j]?=some u→w.cell? ((⟨b,0,none⟩:Addr).add j)=some u:=fun j u hu=>dU hg (ci _ (show bn 5 1 n c (l.map B8) _ from ⟨cur,rfl,by omega,by rw [Nat.mul_one];exact htake,hnc,hcm⟩)) j u hu
   have A:=run_firstCells_some (P:=prog) w.drew i0.size n ⟨b,0,none⟩ n c (l.map B8) (by rw [hz1];simp [← E]) (by simpa using g)
   have I:=grownCap_ge w (n+m) c 5
   have J:=grownCap_le_maxLen w (n+m) c 5 (by unfold maxLen;omega)
   have B:¬ (9223372036854775807<((n:Int)+(m:Int))):=by omega
   have C:¬ (281474976710656<Builtin.nextslicecap (n+m) c*i0.bytes):=by
    have:=growslice_fits (need:=n+m) (old:=c) (bytes:=i0.bytes) (by omega) (by rw [hz2];omega)
    omega
   have a:¬ (n+m≤c):=hroom
   have D:bn 5 1 (n+m) (grownCap w (n+m) c 5) ((l++List.replicate m 0).map B8) (.cells ((l.map B8).toArray++Builtin.zeroCells (Value.int .u8 0).cells m++Builtin.zeroCells (Value.int .u8 0).cells (grownCap w (n+m) c 5-(n+m))) 5 (0,0)):=by
    refine ⟨_,rfl,?_,?_,I,J⟩
    · rw [Array.size_append,Array.size_append,size_zeroCells,size_zeroCells]
      show (l.map B8).toArray.size+m*1+(grownCap w (n+m) c 5-(n+m))*1=_
      simp [← E]
      omega
    · rw [Array.toList_append,Array.toList_append,r,Nat.mul_one,List.map_append,List.map_replicate]
      exact List.take_left' (by simp [← E])
   refine ⟨_,w.drew.alloc (.cells ((l.map B8).toArray++Builtin.zeroCells (u8 0).cells m++Builtin.zeroCells (u8 0).cells (grownCap w (n+m) c 5-(n+m))) 5),⟨(w.heap.size,grownCap w (n+m) c 5),trivial,.inl rfl,?_,?_,?_⟩,ce ?_⟩
   · exact iG (w1:=w.drew) (o:=.cells ((l.map B8).toArray++Builtin.zeroCells (u8 0).cells m++Builtin.zeroCells (u8 0).cells (grownCap w (n+m) c 5-(n+m))) 5 (0,0)) ho rfl (show (SB.pr (bn 5 1 (n+m) (grownCap w (n+m) c 5) (List.map B8 (l++List.replicate m (0:UInt8))))).ok _ from D) _ v (fun k b s hk hs=>by
      cases k with
      | zero=>simp at hk;obtain ⟨_,rfl⟩:=hk;cases hs
      | succ k=>simp at hk)
   · exact jw (w1:=w.drew) (w:=w) rfl ⟨rfl,rfl,rfl⟩ _
   · intro b' hb'
     simp [lv,SB.live] at hb'
     exact .inl (by omega)
   · simp [Builtin.append_,run_underlying hT,run_underlying p,sizeOf,typeInfo,zeroValue,hi,hz0,hz1,asInt,asIntOf,K,d,f,a,q,B,C,Question.forced,newRow,grownCap]
     rw [hz1] at A
     rw [A]
     simp
end Go.Proofs.YtlkeemedalncoaaGreat.En
namespace Go.Proofs.YtlkeemedalncoaaGreat.En
open Go Go.RowKit Go.Proofs.YtlkeemedalncoaaGreat
section
variable {P:Program} {t e ty:TypeId} {k by_:Nat} {z:Vl}
theorem lJ {l:List Vl} (h:l.all (fun u=>u.oneCell')=true):∀ u∈l,u.oneCell'=true:=fun u hu=>List.all_eq_true.1 h u hu
theorem i7 {n:Nat} (h:n≤2000000:=by omega):n≤maxLen:=by simp only [maxLen];omega
theorem j0 (o:P.underlying t=some (.slice e)) (v:Vl) (b:Nat) (sb:SB) (n:Nat) (xs:List Vl) (p:SlE e k n xs v (b,sb)) (f m c:Nat) (d:List Vl) (hi:(P.info? e).map (fun i=>(i.size,i.bytes))=some (k,by_):=by kernel_rfl) (q:(P.info? e).bind (·.zero)=some z:=by kernel_rfl) (g:z.cells.size=k:=by kernel_rfl) (j:0<k:=by omega) (r:d.length=m*k:=by rfl) (h1:d.all (fun u=>u.oneCell')=true:=by rfl) (s:n≤1000000:=by omega) (w:m≤1000000:=by omega) (hb:by_≤1000000:=by omega) :
 gq P (vS (Builtin.append_ #[t,t] ty #[v,.slice (some ⟨f,0,none⟩) m c])) [(f,.pr (bG 0 d))] [(b,sb)] (fun y:Option Addr×Nat×Nat×SB=>SlE e k (n+m) (xs++d) (.slice y.1 (n+m) y.2.1) (y.2.2.1,y.2.2.2)) (fun y=>.slice y.1 (n+m) y.2.1) (fun _=>[(b,.dead)]) (fun y=>[(y.2.2.1,y.2.2.2)]):=by
 have l:(n+m)*by_≤140737488355328:=Nat.le_trans (Nat.mul_le_mul (show n+m≤2000000 by omega) hb) (by decide)
 have h:=(jP (ty:=ty) o hi q g j v (b,sb) n xs p f 0 m c d r (lJ h1) l (i7)).map (Y:=Option Addr×Nat×Nat×SB) (ψ:=fun y=>SlE e k (n+m) (xs++d) (.slice y.1 (n+m) y.2.1) (y.2.2.1,y.2.2.2)) (v':=fun y=>.slice y.1 (n+m) y.2.1) (HW2:=fun _=>[(b,.dead)]) (HN2:=fun y=>[(y.2.2.1,y.2.2.2)]) (by
  rintro ⟨a,c,x⟩ h
  exact ⟨(a,c,x.1,x.2),h,rfl,rfl,rfl⟩)
 exact h.toK (fun _=>bD bH (by intro h;cases h)) (fun y hy=>oi hy)
theorem gH (j:P.underlying t=some (.slice e)) (b n c0:Nat) (xs:List Vl) (d m c:Nat) (a:List Vl) (hi:(P.info? e).map (fun i=>(i.size,i.bytes))=some (k,by_):=by kernel_rfl) (l:(P.info? e).bind (·.zero)=some z:=by kernel_rfl) (f:z.cells.size=k:=by kernel_rfl) (g:0<k:=by omega) (o:a.length=m*k:=by rfl) (h1:a.all (fun u=>u.oneCell')=true:=by rfl) (p:n≤1000000:=by omega) (q:m≤1000000:=by omega) (h0:0<n+m:=by omega) (hb:by_≤1000000:=by omega) :
 RunTri P (vS (Builtin.append_ #[t,t] ty #[.slice (some ⟨b,0,none⟩) n c0,.slice (some ⟨d,0,none⟩) m c])) [(d,.pr (bG 0 a))] [(b,.pr (bn e k n c0 xs))] (fun _:Nat×Nat=>True) (fun y=>.slice (some ⟨y.1,0,none⟩) (n+m) y.2) (fun _=>[(b,.dead)]) (fun y=>[(y.1,.pr (bn e k (n+m) y.2 (xs++a)))]):=by
 have h:(n+m)*by_≤140737488355328:=Nat.le_trans (Nat.mul_le_mul (show n+m≤2000000 by omega) hb) (by decide)
 exact gw j _ (b,_) n xs (SlE.row e k n xs b c0) d 0 m c a o (lJ h1) (i7) hi l f g h h0
theorem gZ (h:P.underlying t=some (.slice e)) (b o m c:Nat) (a:List Vl) (hi:(P.info? e).map (fun i=>(i.size,i.bytes))=some (k,by_):=by kernel_rfl) (j:(P.info? e).bind (·.zero)=some z:=by kernel_rfl) (d:z.cells.size=k:=by kernel_rfl) (f:0<k:=by omega) (l:a.length=m*k:=by rfl) (h1:a.all (fun u=>u.oneCell')=true:=by rfl) (n:m≤1000000:=by omega) (h0:0<m:=by omega) (hb:by_≤1000000:=by omega) :
 RunTri P (vS (Builtin.append_ #[t,t] ty #[.slice none 0 0,.slice (some ⟨b,o,none⟩) m c])) [(b,.pr (bG o a))] [] (fun _:Nat×Nat=>True) (fun y=>.slice (some ⟨y.1,0,none⟩) m y.2) (fun _=>[]) (fun y=>[(y.1,.pr (bn e k m y.2 a))]):=by
 have g:m*by_≤140737488355328:=Nat.le_trans (Nat.mul_le_mul (show m≤2000000 by omega) hb) (by decide)
 exact kS h b o m c a l (lJ h1) (i7) h0 hi j d f g
theorem cx {T:TypeId} {e:TypeId} (b j size n cap:Nat) (vs:List Vl) (u:Vl) (ha:∀ w,(isAgg T).run P w = .ok false w:=by intro w;kernel_rfl) (h:vs[j]?=some u:=by rfl):Reads P (vS (Instr.loadAt T (.pointer (some ⟨b,j,none⟩)))) [(b,.pr (bn e size n cap vs))] u:=fun w hl _=>by
 obtain ⟨o,h1,h2⟩:=hl 0 b _ rfl rfl
 have:=fD h1 (c7 0 j (fG h) o (ci o h2)) ha
 rw [Nat.zero_add] at this
 exact ce this
theorem wz {vs:List Vl} {o k:Nat}:∀ j u,((vs.drop o).take k)[j]?=some u→vs[o+j]?=some u:=by
 intro j u h
 rw [List.getElem?_take] at h
 split at h
 · rw [List.getElem?_drop] at h;exact h
 · cases h
theorem er {T:TypeId} {d:TypeDesc} (a:P.underlying T=some d) {e:TypeId} (b o size n cap k:Nat) (vs:List Vl) (c:o+k≤vs.length) (hd:d.isRow=true:=by kernel_rfl) (hi:(P.info? T).map (·.size)=some k:=by kernel_rfl):Reads P (vS (Instr.loadAt T (.pointer (some ⟨b,o,none⟩)))) [(b,.pr (bn e size n cap vs))] (.agg ((vs.drop o).take k).toArray):=fun w hl _=>by
 obtain ⟨ob,h1,h2⟩:=hl 0 b _ rfl rfl
 have f:((vs.drop o).take k).length=k:=by rw [List.length_take,List.length_drop];omega
 have:=gI h1 (c7 0 o (wz (k:=k)) ob (ci ob h2)) a hd (by rw [f];exact hi)
 rw [Nat.zero_add] at this
 exact ce this
theorem gh {T:TypeId} {d:TypeDesc} (c:P.underlying T=some d) (a b o k:Nat) (vs:List Vl) (e:o+k≤vs.length) (hd:d.isRow=true:=by kernel_rfl) (hi:(P.info? T).map (·.size)=some k:=by kernel_rfl):Reads P (vS (Instr.loadAt T (.pointer (some ⟨b,o,none⟩)))) [(a,.fa (CF b 0 vs))] (.agg ((vs.drop o).take k).toArray):=fun w _ hf=>by
 obtain ⟨ob,h1,h2⟩:=hf 0 a _ rfl
 have f:((vs.drop o).take k).length=k:=by rw [List.length_take,List.length_drop];omega
 have:=gI h1 (c7 0 o (wz (k:=k)) ob h2) c hd (by rw [f];exact hi)
 rw [Nat.zero_add] at this
 exact ce this
end
end Go.Proofs.YtlkeemedalncoaaGreat.En
namespace Go.Proofs.YtlkeemedalncoaaGreat.En
open Go Go.RowKit Go.Proofs.YtlkeemedalncoaaGreat Go.Proofs.Tryz
abbrev ck (b n c:Nat):Vl:=sA b n c
abbrev cq (kb kn kc vb vn vc:Nat):List Vl:=[ck kb kn kc,ck vb vn vc,i64 0,u32 0,u64 0,u16 0,u32 0,u64 0,u16 0]
abbrev mx (kb kn kc vb vn vc:Nat):Vl:=.agg #[ck kb kn kc,ck vb vn vc,i64 0,u32 0,u64 0,u16 0,u32 0,u64 0,u16 0]
abbrev jj (nb nc:Nat):Vl:=.agg #[u8 1,u8 0,ck nb 1 nc]
theorem Da (k n:Nat) (h1:1≤n) (h2:n≤32):Same 335 #[u8 1,i64 k,i64 n] [] (.bool true):=iE func335<|bK [0,0,1,1] (br (dT ((↑n:Int)≤32)) (br (dT ((↑n:Int)≥1)) bt))<|rT ()
theorem B4 (n:Nat) (h1:1≤n) (h2:n≤32):Same 335 #[u8 1,i64 0,i64 n] [] (.bool true):=iE func335<|bK [0,0,1,1] (br (dT ((↑n:Int)≤32)) (br (dT ((↑n:Int)≥1)) bt))<|rT ()
theorem rD:Same 332 #[u8 1,u8 0] [] (.bool true):=iE func332<|bj [0,0]<|rT ()
theorem zH (kb kn kc vb a vc:Nat) (h1:1≤kn) (h2:kn≤32) (h3:a≤64):Same 422 #[u8 1,i64 0,mx kb kn kc vb a vc] [] (.bool true):=iE func422<|bu [9999,9999,1,0] 2 fun nm=>bv (B4 kn h1 h2) [] []<|bK [0,0,0,0,1,0,0,0,0,0,0,1,0,0,1] (br (dT ((↑a:Int)≤64)) bt)<|rT ()
theorem rf (c d kb kn kc vb b vc a:Nat) (h1:1≤kn) (h2:kn≤32) (h3:b≤64):Same 403 #[jj c d] [(a,.fa (CF c 0 (cq kb kn kc vb b vc)))] (i64 0):=by
 refine iE func403<|bu [9999,1,1] 1 fun nm=>bv rD [] []<|bj [1,0,0,1,2,0,0,9999]<|rE (gh (T:=265) underlying265 a c 0 9 (cq kb kn kc vb b vc) (by (simp;done))) [0]<|bu [] 1 fun nm1=>vE 29 (.agg ⟨List.take 9 (List.drop 0 (cq kb kn kc vb b vc))⟩) (mx kb kn kc vb b vc) (by rfl)<|bj [2,1,2]<|bv (zH kb kn kc vb b vc h1 h2 h3) [] []<|bj [0]<|bj [9999,0,0,0,0,0] ?_
 exact rT ()
theorem Iy {e:TypeId} {n:Nat} {xs:List Vl} (h:xs.length=n) (b:n≤maxLen):∀ o,(SB.cl xs e).ok o→(SB.pr (bn e 1 n n xs)).ok o:=by
 intro o a
 have a:o = .cells xs.toArray e (0,0):=a
 subst a
 exact ⟨_,rfl,by simp [h],by rw [Nat.mul_one,← h];simp,Nat.le_refl _,b⟩
theorem AO (b n c0 d o m c a:Nat) (xs:List Vl) (l:Bs) (g:m=l.length) (f:0<m:=by omega) (j:n≤1000000:=by omega) (p:m≤1000000:=by omega) :
 gq prog (vS (Builtin.append_ #[27,27] 27 #[.slice (some ⟨b,0,none⟩) n c0,.slice (some ⟨d,o,none⟩) m c])) [(a,.fa (BF (some ⟨d,o,none⟩) m c l))] [(b,.pr (bn 5 1 n c0 xs))] (fun _:Nat×Nat=>True) (fun y=>.slice (some ⟨y.1,0,none⟩) (n+m) y.2) (fun _=>[(b,.dead)]) (fun y=>[(y.1,.pr (bn 5 1 (n+m) y.2 (xs++l.map B8)))]):=by
 have i:(n+m)*1≤140737488355328:=by omega
 exact nT (gw (t:=27) (e:=5) (ty:=27) (k:=1) (by_:=1) (z:=u8 0) underlying27 _ (b,_) n xs (SlE.row 5 1 n xs b c0) d o m c (l.map B8) (by rw [List.length_map,g];omega) (dB _) (i7)) f (fun _=>bD bH (by intro h;cases h)) (fun _ _=>rfl)
def iw (key val:Bs):Bs:=[1,0,1]++[UInt8.ofNat key.length]++key++[0,UInt8.ofNat val.length]++val
def bw (key val:Bs):Bs:=iw key val++List.replicate (224-(6+key.length+val.length)) 0
theorem qi (key val:Bs):(iw key val).length=6+key.length+val.length:=by simp [iw];omega
theorem tB (key val:Bs) (kn a:Nat) (c:kn=key.length) (d:a=val.length) (h2:kn≤32) (h3:a≤64):[u8 1,u8 0,u8 1]++[.int .u8 (IntKind.u8.wrap (kn:Int))]++key.map B8++[u8 0,.int .u8 (IntKind.u8.wrap (a:Int))]++val.map B8=(iw key val).map B8:=by
 have b:B8 (UInt8.ofNat key.length) = .int .u8 (IntKind.u8.wrap (kn:Int)):=by unfold B8;rw [eE];congr 1;simp;omega
 have e2:B8 (UInt8.ofNat val.length) = .int .u8 (IntKind.u8.wrap (a:Int)):=by unfold B8;rw [eE];congr 1;simp;omega
 simp only [iw,List.map_append,List.map_cons,List.map_nil,b,e2]
 rfl
theorem rj (c i kb kn kc vb b vc a d f:Nat) (key val:Bs) (g:kn=key.length) (h:b=val.length) (h1:1≤kn) (h2:kn≤32) (h0:1≤b) (h3:b≤64):TT 404 #[jj c i] [(a,.fa (CF c 0 (cq kb kn kc vb b vc))),(d,.fa (BF (pA kb) kn kc key)),(f,.fa (BF (pA vb) b vc val))] [] (fun _:Nat×Nat=>True) (fun x=>.returned (ck x.1 (4+kn+2+b) x.2)) (fun _=>[]) (fun x=>[(x.1,.pr (bn 5 1 (4+kn+2+b) x.2 ((iw key val).map B8)))]):=by
 refine iE func404<|bu [9999,3,3,3,9999,9999,3,2,0,0,9999] 2 fun nm=>rE (gh (T:=265) underlying265 a c 0 9 (cq kb kn kc vb b vc) (by (simp;done))) [0]<|bu [] 1 fun nm1=>vE 21 (.agg ⟨List.take 9 (List.drop 0 (cq kb kn kc vb b vc))⟩) (mx kb kn kc vb b vc) (by rfl)<|lE 4 (nm 1) (.cl [u8 1,u8 0,u8 1] 5) (.pr (bn 5 1 3 3 [u8 1,u8 0,u8 1])) (Iy rfl (by simp only [maxLen];omega))<|bj [5]<|bu [9999,16,5,9999,5,9999] 1 fun nm2=>xV (gH (t:=27) (e:=5) (ty:=27) (k:=1) (by_:=1) (z:=u8 0) underlying27 (nm 1) 3 3 ([u8 1,u8 0,u8 1]) (nm2 0) 1 1 ([u8 (IntKind.wrap .u8 kn)])) [6] [4] (Views.less (.cl [u8 (IntKind.wrap .u8 kn)] 5) bA Views.nil) fun ⟨x,x1⟩ _=>zE<|xK (AO x 4 x1 kb 0 kn kc d ([u8 1,u8 0,u8 1]++[u8 (IntKind.wrap .u8 kn)]) key g) [1] [7] ?_
 rintro ⟨x2,x3⟩ _
 exact bj [3,0,0,5,0,0]<|bu [9999,256,5,9999,5,9999] 1 fun nm3=>xV (gH (t:=27) (e:=5) (ty:=27) (k:=1) (by_:=1) (z:=u8 0) underlying27 x2 (4+kn) x3 ([u8 1,u8 0,u8 1]++[u8 (IntKind.wrap .u8 kn)]++List.map B8 key) (nm3 0) 2 2 ([u8 0,u8 (IntKind.wrap .u8 b)])) [9] [8] (Views.less (.cl [u8 0,u8 (IntKind.wrap .u8 b)] 5) bA Views.nil) fun ⟨x4,x5⟩ _=>zE<|xK (AO x4 (4+kn+2) x5 vb 0 b vc f ([u8 1,u8 0,u8 1]++[u8 (IntKind.wrap .u8 kn)]++List.map B8 key++[u8 0,u8 (IntKind.wrap .u8 b)]) val h) [2] [10] fun ⟨x6,x7⟩ _=>bj [0,0]<|qE 6 (nm2 0) (.cl [u8 (IntKind.wrap .u8 kn)] 5) (.cl [u8 kn] 5) (by rw [show IntKind.wrap .u8 kn=(↑kn:Int) from (k5)])<|qE 9 (nm3 0) (.cl [u8 0,u8 (IntKind.wrap .u8 b)] 5) (.cl [u8 0,u8 b] 5) (by rw [show IntKind.wrap .u8 b=(↑b:Int) from (k5)])<|qE 11 x6 (.pr (bn 5 1 (4+kn+2+b) x7 ([u8 1,u8 0,u8 1]++[.int .u8 (IntKind.u8.wrap (kn:Int))]++key.map B8++[u8 0,.int .u8 (IntKind.u8.wrap (b:Int))]++val.map B8))) (.pr (bn 5 1 (4+kn+2+b) x7 ((iw key val).map B8))) (by rw [tB key val kn b g h h2 h3])<|rT ((x6,x7)) 9999 [11]
theorem Bx (c d kb kn kc vb b vc a e f:Nat) (key val:Bs) (g:kn=key.length) (h:b=val.length) (h1:1≤kn) (h2:kn≤32) (h0:1≤b) (h3:b≤64):Same 419 #[jj c d] [(a,.fa (CF c 0 (cq kb kn kc vb b vc))),(e,.fa (BF (pA kb) kn kc key)),(f,.fa (BF (pA vb) b vc val))] (.tuple #[i64 ((4+kn+2+b:Nat):Int),i64 0]):=iE func419<|bu [9999,3] 1 fun nm=>bv (rf c d kb kn kc vb b vc a h1 h2 h3) [0] []<|bj [0,0,3]<|cE (rj c d kb kn kc vb b vc a e f key val g h h1 h2 h0 h3) [0,1,2] [] fun ⟨x,x1⟩ _=>fE 4 x (bn 5 1 (4+kn+2+b) x1 (List.map B8 (iw key val))) bx fun hc=>zE<|rT ()
theorem xd (d f kb kn kc vb b vc a i j:Nat) (key val:Bs) (m:kn=key.length) (o:b=val.length) (h1:1≤kn) (h2:kn≤32) (h0:1≤b) (h3:b≤64):TT 381 #[jj d f] [(a,.fa (CF d 0 (cq kb kn kc vb b vc))),(i,.fa (BF (pA kb) kn kc key)),(j,.fa (BF (pA vb) b vc val))] [] (fun _:Nat×Nat=>True) (fun x=>.returned (.tuple #[ck x.1 224 x.2,i64 0])) (fun _=>[]) (fun x=>[(x.1,.fa (BF (pA x.1) 224 x.2 (bw key val)))]):=by
 have g:=qi key val
 have h:224=(bw key val).length:=by unfold bw;rw [List.length_append,g,List.length_replicate];omega
 refine cJ func381 (by kernel_rfl) fun w0 ho=>?_
 have k:4+kn+2+b+(224-(4+kn+2+b))=224:=by omega
 have p:224-(4+kn+2+b)=224-(6+key.length+val.length):=by omega
 refine bu [9999,3] 1 fun nm=>bv (rf d f kb kn kc vb b vc a h1 h2 h3) [0] []<|bj [0,0,3]<|cE (rj d f kb kn kc vb b vc a i j key val m o h1 h2 h0 h3) [0,1,2] [] fun ⟨x,x1⟩ _=>fE 4 x (bn 5 1 (4+kn+2+b) x1 (List.map B8 (iw key val))) bx fun hc=>bK [2,0] (br (dF ((↑(4+kn+2+b):Int)>224)) bt)<|vC 19 i64 (wI (224-(↑(4+kn+2+b):Int)) (224-(4+kn+2+b)))<|xE (Ak x (4+kn+2+b) x1 (224-(4+kn+2+b)) (iw key val) (by omega) (by omega) (by omega)) [] [4] fun ⟨x2,x3⟩ _=>fE 5 x2 (bn 5 1 (4+kn+2+b+(224-(4+kn+2+b))) x3 (List.map B8 (iw key val++List.replicate (224-(4+kn+2+b)) 0))) bx fun hc1=>zE<|qE 5 x2 (.pr (bn 5 1 (4+kn+2+b+(224-(4+kn+2+b))) x3 ((iw key val++List.replicate (224-(4+kn+2+b)) 0).map B8))) (.pr (bn 5 1 224 x3 ((bw key val).map B8))) (by rw [k];unfold bw;rw [← p]) ?_
 exact eh (e:=5) (n:=224) (c:=x3) (l:=bw key val) 5 x2 h<|vE 2 (sA x2 (4+kn+2+b+(224-(4+kn+2+b))) x3) (ck x2 224 x3) (by rw [k];try rfl)<|rT ((x2,x3)) 9999 [5]
def t5 (at0:Bs):Nat→Bs
 | 0=>at0
 | m+1=>gA (t5 at0 m)
theorem qx (key a:Bs) (j:Nat):dm key a (j+1)=if (dm key a j).2.2=16 then (gA (dm key a j).1,cA key (gA (dm key a j).1),1) else ((dm key a j).1,(dm key a j).2.1,(dm key a j).2.2+1):=rfl
theorem oG (key a:Bs):∀ m r,r<16→dm key a (16*m+r+1)=(t5 a (m+1),cA key (t5 a (m+1)),r+1)
 | 0,0,_=>rfl
 | m+1,0,_=>by
  rw [qx,show 16*(m+1)=16*m+15+1 by omega,oG key a m 15 (by omega)]
  rfl
 | m,r+1,h=>by
  rw [qx,show 16*m+(r+1)=16*m+r+1 by omega,oG key a m r (by omega),if_neg (by simp;omega)]
theorem yF (key a:Bs) (m r:Nat) (h:r<16):j6 key a (16*m+r)=(cA key (t5 a (m+1))).getD r 0:=by
 unfold j6
 rw [oG key a m r h]
 rfl
theorem ot:(bw [107] [50]).length=224:=by decide +kernel
def DT:List Bs:=[[219,163,82,171,229,161,155,220,191,15,188,90,141,231,103,155],[194,132,66,26,158,245,182,234,242,142,120,165,189,3,32,209],[202,82,187,110,150,189,223,140,165,170,111,214,3,43,187,41],[103,124,17,43,105,145,94,120,218,107,100,118,53,8,180,128],[138,72,22,255,77,38,19,243,58,112,189,219,80,153,242,41],[171,160,173,44,53,40,0,199,91,147,228,79,176,32,161,145],[58,232,171,179,163,95,8,121,162,64,16,7,215,227,73,28],[38,141,52,252,186,63,55,234,30,112,192,194,164,122,225,86],[76,80,79,181,95,142,162,223,172,232,221,82,122,21,30,241],[15,92,186,165,85,19,251,77,107,145,252,137,87,236,234,162],[78,200,152,200,6,173,246,250,241,189,181,96,22,117,0,149],[192,211,186,201,223,49,133,59,147,128,182,22,114,40,91,225],[183,138,93,203,93,123,97,127,114,18,194,149,114,250,115,61],[141,5,26,122,48,69,225,91,7,106,65,68,67,45,214,226]]
theorem Fu:(List.range 14).map (fun m=>pY mB D7 (t5 (cQ (cK 3 2)) (m+1)) 10 11)=DT:=by decide +kernel
theorem EL (m:Nat) (h:m<14):cA lQ (t5 (cQ (cK 3 2)) (m+1))=DT.getD m []:=by
 rw [tS,← Fu]
 simp [List.getD_eq_getElem?_getD,h]
def EU:Bs:=(List.range 224).map fun i=>(bw [107] [50]).getD i 0^^^(DT.getD (i/16) []).getD (i%16) 0
def mz:Bs:=[218,163,83,170,142,161,154,238,191,15,188,90,141,231,103,155,194,132,66,26,158,245,182,234,242,142,120,165,189,3,32,209,202,82,187,110,150,189,223,140,165,170,111,214,3,43,187,41,103,124,17,43,105,145,94,120,218,107,100,118,53,8,180,128,138,72,22,255,77,38,19,243,58,112,189,219,80,153,242,41,171,160,173,44,53,40,0,199,91,147,228,79,176,32,161,145,58,232,171,179,163,95,8,121,162,64,16,7,215,227,73,28,38,141,52,252,186,63,55,234,30,112,192,194,164,122,225,86,76,80,79,181,95,142,162,223,172,232,221,82,122,21,30,241,15,92,186,165,85,19,251,77,107,145,252,137,87,236,234,162,78,200,152,200,6,173,246,250,241,189,181,96,22,117,0,149,192,211,186,201,223,49,133,59,147,128,182,22,114,40,91,225,183,138,93,203,93,123,97,127,114,18,194,149,114,250,115,61,141,5,26,122,48,69,225,91,7,106,65,68,67,45,214,226]
theorem ED:ej lQ (cK 3 2) (bw [107] [50])=mz:=by
 rw [← show EU=mz by decide +kernel]
 refine sj (by rw [fF,ot];simp [EU]) fun i hi=>?_
 rw [fF,ot] at hi
 have h:=yF lQ (cQ (cK 3 2)) (i/16) (i%16) (Nat.mod_lt _ (by decide))
 rw [Nat.div_add_mod,EL _ (by omega)] at h
 rw [m9 _ _ _ _ (by rw [ot];exact hi),h]
 simp [EU,List.getD_eq_getElem?_getD,hi]
theorem BG:n3 [220,14,216,93,249,97,26,187,114,73,205,209,104,197,70,126] (d9 3 1 0 1) (part mz 83 [1,2,3])≠n3 [220,14,216,93,249,97,26,187,114,73,205,209,104,197,70,126] (d9 3 1 0 1) mz:=by decide +kernel
theorem yU {a b l:Bs} {n k:Nat} (ha:a.length=n):part (a++b) (n+k) l=a++part b k l:=by
 subst ha
 unfold part
 rw [List.take_length_add_append,Nat.add_assoc,List.drop_length_add_append,List.append_assoc,List.append_assoc,List.append_assoc]
theorem wX {a b l:Bs} {k:Nat} (h:k+l.length≤a.length):part (a++b) k l=part a k l++b:=by
 unfold part
 rw [List.take_append_of_le_length (by omega),List.drop_append_of_le_length (by omega),List.append_assoc,List.append_assoc,List.append_assoc]
theorem zR (P:Bs) (a:P=part (bI lQ 3 1 0 3 2 1 (bw [107] [50])) 99 [1,2,3]):P.take 16=eo 1 0 1 2∧¬ ee lQ (cK 3 2) (d9 3 1 0 1) (List.take (240-16) (List.take 240 (List.drop 16 P)))=List.drop (240-16) (List.take 240 (List.drop 16 P)):=by
 unfold bI gl at a
 have b:(cK 3 2).length=12:=by decide
 have c:(eo 1 0 1 2).length=16:=by decide
 rw [ED,show 99=16+83 by rfl,yU c,wX (by decide)] at a
 have f:=kP lQ (cK 3 2) (d9 3 1 0 1) mz b
 have d:(part mz 83 [1,2,3]).length=224:=by decide
 subst a
 have g:List.take 240 (part mz 83 [1,2,3]++ee lQ (cK 3 2) (d9 3 1 0 1) mz)=part mz 83 [1,2,3]++ee lQ (cK 3 2) (d9 3 1 0 1) mz:=List.take_of_length_le (by rw [List.length_append,d,f];decide)
 constructor
 · rw [List.take_left' c]
 · rw [List.drop_left' c,g,List.take_left' (show (part mz 83 [1,2,3]).length=240-16 by rw [d]),List.drop_left' (show (part mz 83 [1,2,3]).length=240-16 by rw [d])]
   intro e
   unfold ee at e
   rw [FT] at e
   have e2:=congrArg (fun x=>eM x (cA lQ (cQ (cK 3 2)))) e
   rw [mU _ _ (by rw [nU,d8 _ _ (jo _ b)]),mU _ _ (by rw [nU,d8 _ _ (jo _ b)])] at e2
   exact BG e2
end Go.Proofs.YtlkeemedalncoaaGreat.En
namespace Go.Proofs.YtlkeemedalncoaaGreat.En
open Go Go.RowKit Go.Proofs.YtlkeemedalncoaaGreat
def FA:HP→World→Prop
 | [],_=>True
 | (_,.fa p)::l,w=>p w∧FA l w
 | (_,.cl _ _)::l,w=>FA l w
 | (_,.ob _)::l,w=>FA l w
 | (_,.pr _)::l,w=>FA l w
 | (_,.dead)::l,w=>FA l w
theorem FA.iff {w:World}:∀ {H:HP},FA H w↔∀ (j a:Nat) (p:World→Prop),H[j]?=some (a,.fa p)→p w:=by
 intro H
 induction H with
 | nil=>exact ⟨fun _ j a p h=>by simp at h,fun _=>trivial⟩
 | cons x l ih=>
  have c:(∀ (j a:Nat) (p:World→Prop),(x::l)[j]?=some (a,.fa p)→p w)↔(∀ p,x.2 = .fa p→p w)∧FA l w:=by
   rw [ih]
   refine ⟨fun h=>⟨fun p e=>h 0 x.1 p (by rw [← e];rfl),fun j a p hj=>h (j+1) a p (by simpa using hj)⟩,fun h j a p hj=>?_⟩
   cases j with
   | zero=>
    have e:x=(a,.fa p):=by simpa using hj
    exact h.1 p (by rw [e])
   | succ j=>exact h.2 j a p (by simpa using hj)
  rw [c]
  obtain ⟨b,s⟩:=x
  cases s with
  | fa p=>exact ⟨fun h=>⟨fun q e=>by injection e with e;subst e;exact h.1,h.2⟩,fun h=>⟨h.1 p rfl,h.2⟩⟩
  | cl cs t=>exact ⟨fun h=>⟨fun q e=>(by cases e),h⟩,fun h=>h.2⟩
  | ob o=>exact ⟨fun h=>⟨fun q e=>(by cases e),h⟩,fun h=>h.2⟩
  | pr q=>exact ⟨fun h=>⟨fun q e=>(by cases e),h⟩,fun h=>h.2⟩
  | dead=>exact ⟨fun h=>⟨fun q e=>(by cases e),h⟩,fun h=>h.2⟩
theorem FA.app {w:World} {A B:HP}:FA (A++B) w↔FA A w∧FA B w:=by
 induction A with
 | nil=>exact ⟨fun h=>⟨trivial,h⟩,fun h=>h.2⟩
 | cons x l ih=>
  obtain ⟨b,s⟩:=x
  cases s with
  | fa p=>exact ⟨fun h=>⟨⟨h.1,(ih.1 h.2).1⟩,(ih.1 h.2).2⟩,fun h=>⟨h.1.1,ih.2 ⟨h.1.2,h.2⟩⟩⟩
  | cl cs t=>exact ih
  | ob o=>exact ih
  | pr q=>exact ih
  | dead=>exact ih
def live (H:HP):HP:=H.filter fun x=>x.2.live
theorem fA (A B:HP):live (A++B)=live A++live B:=List.filter_append A B
theorem hJ (H:HP):lv H=(live H).map (·.1):=rfl
theorem sE {H:HP} (h:∀ (i j b:Nat) (s t:SB),i≠j→H[i]?=some (b,s)→H[j]?=some (b,t)→s.live=true→t.live=true→False):(lv H).Nodup:=by
 induction H with
 | nil=>exact List.nodup_nil
 | cons x l ih=>
  have h2:=ih fun i j b s t hij hi hj hs ht=>h (i+1) (j+1) b s t (by omega) (by simpa using hi) (by simpa using hj) hs ht
  unfold lv at h2 ⊢
  rw [List.filter_cons]
  split
  · rename_i hx
    rw [List.map_cons,List.nodup_cons]
    refine ⟨fun hm=>?_,h2⟩
    obtain ⟨j,s,hj,hs⟩:=fM (H:=l) hm
    exact h 0 (j+1) x.1 x.2 s (by omega) rfl (by simpa using hj) hx hs
  · exact h2
theorem sa {H:HP} (h:(lv H).Nodup):∀ (i j b:Nat) (s t:SB),i≠j→H[i]?=some (b,s)→H[j]?=some (b,t)→s.live=true→t.live=true→False:=by
 have key:∀ (i j b:Nat) (s t:SB),i<j→H[i]?=some (b,s)→H[j]?=some (b,t)→s.live=true→t.live=true→False:=by
  induction H with
  | nil=>intro i j b s t _ hi;simp at hi
  | cons x l ih=>
   intro i j b s t hij hi hj hs ht
   obtain ⟨j,rfl⟩:∃ k,j=k+1:=⟨j-1,by omega⟩
   unfold lv at h
   rw [List.filter_cons] at h
   cases i with
   | zero=>
    have e:x=(b,s):=by simpa using hi
    rw [if_pos (by rw [e];exact hs),List.map_cons,List.nodup_cons] at h
    exact h.1 (by rw [e];exact da (H:=l) (by simpa using hj) ht)
   | succ i=>
    refine ih ?_ i j b s t (by omega) (by simpa using hi) (by simpa using hj) hs ht
    split at h
    · rw [List.map_cons,List.nodup_cons] at h;exact h.2
    · exact h
 intro i j b s t hij hi hj hs ht
 rcases Nat.lt_or_ge i j with hl | hl
 · exact key i j b s t hl hi hj hs ht
 · exact key j i b t s (by omega) hj hi ht hs
theorem Own.live {A B:HP} {w:World} (h:Own A w) (e:live B=live A):Own B w:=by
 have e2:lv B=lv A:=by rw [hJ,hJ,e]
 refine ⟨sa (by rw [e2];exact sE h.nd),fun j b s hj hs=>?_⟩
 have a:(b,s)∈En.live B:=List.mem_filter.2 ⟨List.mem_of_getElem? hj,hs⟩
 rw [e] at a
 obtain ⟨a,hs2⟩:=List.mem_filter.1 a
 obtain ⟨i,hi,ei⟩:=List.mem_iff_getElem.1 a
 exact h.at_ i b s (by rw [List.getElem?_eq_getElem hi,ei]) hs
theorem Tri.fw {P:Program} {f:FuncId} {args:Array Vl} {HR HR2 HW:HP} {X Y:Type} {φ:X→Prop} {φ2:Y→Prop} {e:X→Ending} {e2:Y→Ending} {HW' HN:X→HP} {HW2 HN2:Y→HP} (h:Tri P f args HR HW φ e HW' HN)
 (d:live HR2=live HR) (g:∀ w,FA HR2 w→FA HR w)
 (c:∀ x,φ x→∃ y,φ2 y∧e x=e2 y∧HW2 y=HW' x∧live (HN2 y)=live (HN x)∧∀ w,FA HR2 w→FA (HN x) w→FA (HN2 y) w):Tri P f args HR2 HW φ2 e2 HW2 HN2:=by
 intro K w ho hk
 have i:live (HR++HW)=live (HR2++HW):=by rw [fA,fA,d]
 have k:lv (HR++HW)=lv (HR2++HW):=by rw [hJ,hJ,i]
 have s:Own (HR++HW) w:=ho.live i
 have l:∀ w'',(∀ b,K b→w''.heap[b]?=w.heap[b]?)→FA (HR2++HW) w'':=fun w'' hw=>FA.iff.2 fun j a p hj=>hk.fac j a p hj w'' hw
 have t:Kn K (HR++HW) w:=⟨fun b hb=>by rw [k];exact hk.off b hb,fun j a p hj w'' hw=>by
  have h2:=FA.app.1 (l w'' hw)
  exact FA.iff.1 (FA.app.2 ⟨g w'' h2.1,h2.2⟩) j a p hj⟩
 refine Calls.mono (h K w s t) ?_
 rintro en w' ⟨x,K',hx,rfl,ho',hf',hn',hkx,hk'⟩
 obtain ⟨y,hy,ey,eW,eN,hfa⟩:=c x hx
 have m:live (HR2++HW2 y++HN2 y)=live (HR++HW' x++HN x):=by rw [fA,fA,fA,fA,d,eW,eN]
 have n:lv (HR2++HW2 y++HN2 y)=lv (HR++HW' x++HN x):=by rw [hJ,hJ,m]
 have o:lv (HN2 y)=lv (HN x):=by rw [hJ,hJ,eN]
 refine ⟨y,K',hy,ey,ho'.live m,hf',fun b hb=>hn' b (by rw [← o];exact hb),hkx,⟨fun b hb=>by rw [n];exact hk'.off b hb,fun j a p hj w'' hw=>?_⟩⟩
 have q:FA (HR2++HW) w'':=l w'' fun b hb=>by
  rw [hw b (hkx.1 b hb)]
  have h3:=hk.off b hb
  exact hf'.block b h3.1 fun hm=>h3.2 (by rw [cy];exact List.mem_append_right _ hm)
 have r:FA (HR++HW' x++HN x) w'':=FA.iff.2 fun j a p hj=>hk'.fac j a p hj w'' hw
 have h4:=FA.app.1 r
 have h5:=FA.app.1 h4.1
 have u:=FA.app.1 q
 exact FA.iff.1 (FA.app.2 ⟨FA.app.2 ⟨u.1,by rw [eW];exact h5.2⟩,hfa w'' u.1 h4.2⟩) j a p hj
theorem FA.dead {w:World} {A:HP} {a:Nat}:FA (A++[(a,.dead)]) w↔FA A w:=by
 rw [FA.app]
 exact ⟨fun h=>h.1,fun h=>⟨h,trivial⟩⟩
theorem qu (A:HP) (a:Nat):live (A++[(a,.dead)])=live A:=by
 rw [fA]
 exact List.append_nil _
theorem Kn.of {K:Nat→Prop} {A B:HP} {w:World} (h:Kn K A w) (d:live B=live A) (e:∀ w',FA A w'→FA B w'):Kn K B w:=
 ⟨fun b hb=>by rw [hJ,d];exact h.off b hb,fun j a p hj w' hw=>FA.iff.1 (e w' (FA.iff.2 fun i c q hi=>h.fac i c q hi w' hw)) j a p hj⟩
theorem Tri.dd {P:Program} {f:FuncId} {args:Array Vl} {HR HW:HP} {X:Type} {φ:X→Prop} {e:X→Ending} {HW' HN:X→HP} {a:Nat} (h:Tri P f args HR (HW++[(a,.dead)]) φ e (fun x=>HW' x++[(a,.dead)]) HN):Tri P f args HR HW φ e HW' HN:=by
 intro K w ho hk
 have b:live (HR++(HW++[(a,.dead)]))=live (HR++HW):=by rw [← List.append_assoc,qu]
 have d:∀ w',FA (HR++HW) w'→FA (HR++(HW++[(a,.dead)])) w':=fun w' hw=>by rw [← List.append_assoc,FA.dead];exact hw
 refine Calls.mono (h K w (ho.live b) (hk.of b d)) fun en w' ⟨x,K',hx,he,ho',hf',hn',hkx,hk'⟩=>?_
 have g:lv (HW++[(a,.dead)])=lv HW:=by rw [hJ,qu];rfl
 rw [g] at hf' hn' hkx
 have c:live (HR++HW' x++HN x)=live (HR++(HW' x++[(a,.dead)])++HN x):=by
  rw [fA,fA,fA,fA,fA (HW' x)]
  congr 2
  exact (List.append_nil _).symm
 have i:∀ w',FA (HR++(HW' x++[(a,.dead)])++HN x) w'→FA (HR++HW' x++HN x) w':=fun w' hw=>by
  rw [FA.app,FA.app,FA.dead] at hw
  rw [FA.app,FA.app]
  exact hw
 exact ⟨x,K',hx,he,ho'.live c,hf',hn',hkx,hk'.of c i⟩
section
variable {P:Program} {Q:QR} {K0:Nat→Prop} {w0:World} {M:List Nat} {st:ES}
theorem EC (j b:Nat) (s:SB) (a:(decide ((List.range st.H.length).set j st.H.length++[j]).Nodup,((List.range st.H.length).set j st.H.length++[j]).map (fun i=>(st.H++[(b,SB.dead)])[i]?),((((List.range st.H.length).set j st.H.length++[j]).drop st.nr).all fun i=>st.nr.ble i),eF st.todo)=(true,(st.H.set j (b,.dead)++[(b,s)]).map some,true,true))
 (h:GW P Q K0 w0 M ⟨st.todo,st.ts,st.ds,st.H.set j (b,.dead)++[(b,s)],st.nr⟩):GW P Q K0 w0 M st:=
 y8 b (o3 (st:=⟨st.todo,st.ts,st.ds,st.H++[(b,.dead)],st.nr⟩) ((List.range st.H.length).set j st.H.length++[j]) st.nr (st.H.set j (b,.dead)++[(b,s)]) a h)
theorem z5 (j b:Nat) (a:(decide ((List.range st.H.length).set j st.H.length).Nodup,((List.range st.H.length).set j st.H.length).map (fun i=>(st.H++[(b,SB.dead)])[i]?),((((List.range st.H.length).set j st.H.length).drop st.nr).all fun i=>st.nr.ble i),eF st.todo)=(true,(st.H.set j (b,.dead)).map some,true,true))
 (h:GW P Q K0 w0 M ⟨st.todo,st.ts,st.ds,st.H.set j (b,.dead),st.nr⟩):GW P Q K0 w0 M st:=
 y8 b (o3 (st:=⟨st.todo,st.ts,st.ds,st.H++[(b,.dead)],st.nr⟩) ((List.range st.H.length).set j st.H.length) st.nr (st.H.set j (b,.dead)) a h)
theorem xA (j b:Nat) {t:TypeId} {L:Bs} (l:Bs) (n:Nat) (a:(st.H[j]?,eF st.todo,st.nr.ble j)=(some (b,.cl (L.map B8) t),true,true)) (c:L.take n=l) (e:n≤L.length) (d:n≤maxLen) (h:GW P Q K0 w0 M ⟨st.todo,st.ts,st.ds,st.H.set j (b,.fa (BF (pA b) n n l)),st.nr⟩):GW P Q K0 w0 M st:=by
 simp only [Prod.mk.injEq] at a
 obtain ⟨h1,h2,h3⟩:=a
 refine ip j b (.cl (L.map B8) t) (BF (pA b) n n l) ?_ h (by rw [h1,h2,h3];rfl)
 rintro w ⟨o,ho,hcl⟩
 refine ⟨by rw [← c,List.length_take];omega,Nat.le_refl _,d,fun h0=>⟨b,0,rfl,fun k hk=>?_⟩⟩
 have:=dU ho (bA _ hcl) k (B8 (l.getD k 0)) (by
  rw [← c,List.getElem?_map,List.getElem?_eq_getElem (show k<L.length by omega),List.getD_eq_getElem?_getD,List.getElem?_take,if_pos hk,List.getElem?_eq_getElem (show k<L.length by omega)]
  rfl)
 rw [Addr.add_lit] at this
 exact this
end
theorem jH {H:HP} {w:World}:Own H w↔(lv H).Nodup∧∀ x∈H,x.2.live=true→∃ o,w.heap[x.1]?=some o∧x.2.ok o:=by
 constructor
 · intro h
   refine ⟨sE h.nd,fun x hx hl=>?_⟩
   obtain ⟨j,hj⟩:=List.getElem?_of_mem hx
   exact h.at_ j x.1 x.2 hj hl
 · rintro ⟨h1,h2⟩
   exact ⟨sa h1,fun j b s hj hl=>h2 (b,s) (List.mem_of_getElem? hj) hl⟩
theorem kT {K:Nat→Prop} {H:HP} {w:World}:Kn K H w↔(∀ b,K b→b<w.heap.size∧b∉lv H)∧∀ a p,(a,SB.fa p)∈H→Stab K p w:=by
 constructor
 · intro h
   refine ⟨h.off,fun a p hx=>?_⟩
   obtain ⟨j,hj⟩:=List.getElem?_of_mem hx
   exact h.fac j a p hj
 · rintro ⟨h1,h2⟩
   exact ⟨h1,fun j a p hj=>h2 a p (List.mem_of_getElem? hj)⟩
theorem sy {b:Nat} {s:SB} (h:s.live=true):lv [(b,s)]=[b]:=by simp [lv,h]
theorem sB {b:Nat} {s:SB} (h:s.live=false):lv [(b,s)]=[]:=by simp [lv,h]
theorem Tri.frz {P:Program} {f:FuncId} {args:Array Vl} {HR HW:HP} {X:Type} {φ:X→Prop} {e:X→Ending} {HW' HN:X→HP} {a b:Nat} {s:SB} {q:World→Prop} (hs:s.live=true) (k:∀ w,At b s w→q w)
 (h:Tri P f args (HR++[(a,.fa q)]) HW φ e HW' HN):Tri P f args HR (HW++[(b,s)]) φ e (fun x=>HW' x++[(b,.dead)]) HN:=by
 intro K w ho hk
 rw [jH] at ho
 rw [kT] at hk
 have i:lv [(a,SB.fa q)]=[]:=sB rfl
 have j:lv [(b,SB.dead)]=[]:=sB rfl
 simp only [cy,sy hs] at ho hk
 obtain ⟨hn,ho⟩:=ho
 obtain ⟨hk1,hk2⟩:=hk
 have d:(lv HR++lv HW).Nodup∧b∉lv HR++lv HW:=by
  rw [← List.append_assoc,List.nodup_append] at hn
  exact ⟨hn.1,fun hb=>hn.2.2 b hb b (List.mem_singleton.2 rfl) rfl⟩
 obtain ⟨o,hb1,hb2⟩:=ho (b,s) (by simp) hs
 have g:b<w.heap.size:=dR hb1
 refine (h (fun x=>K x∨x=b) w (jH.2 ⟨?_,?_⟩) (kT.2 ⟨?_,?_⟩)).mono ?_
 · simp only [cy,i,List.append_nil];exact d.1
 · intro x hx hl
   simp only [List.mem_append,List.mem_singleton] at hx
   rcases hx with (hx | rfl) | hx
   · exact ho x (by simp [hx]) hl
   · cases hl
   · exact ho x (by simp [hx]) hl
 · simp only [cy,i,List.append_nil]
   rintro x (hx | rfl)
   · obtain ⟨h1,h2⟩:=hk1 x hx
     exact ⟨h1,fun hm=>h2 (by rw [← List.append_assoc];exact List.mem_append_left _ hm)⟩
   · exact ⟨g,d.2⟩
 · intro c p hx
   simp only [List.mem_append,List.mem_singleton] at hx
   rcases hx with (hx | hx) | hx
   · intro w' hw;exact hk2 c p (by simp [hx]) w' fun x hx=>hw x (.inl hx)
   · injection hx with _ hx
     injection hx with hx
     subst hx
     intro w' hw
     exact k w' ⟨o,(hw b (.inr rfl)).trans hb1,hb2⟩
   · intro w' hw;exact hk2 c p (by simp [hx]) w' fun x hx=>hw x (.inl hx)
 · rintro en w' ⟨x,K',hx,he,ho',hf',hn2,hkx,hk'⟩
   rw [jH] at ho'
   rw [kT] at hk'
   simp only [cy,i,List.append_nil] at ho' hk'
   refine ⟨x,K',hx,he,jH.2 ⟨?_,?_⟩,hf'.mono fun y hy=>by rw [cy];exact List.mem_append_left _ hy,fun y hy=>?_,⟨fun y hy=>hkx.1 y (.inl hy),fun y hy=>?_⟩,kT.2 ⟨?_,?_⟩⟩
   · simp only [cy,j,List.append_nil];exact ho'.1
   · intro y hy hl
     simp only [List.mem_append,List.mem_singleton] at hy
     rcases hy with (hy | hy | rfl) | hy
     · exact ho'.2 y (by simp [hy]) hl
     · exact ho'.2 y (by simp [hy]) hl
     · cases hl
     · exact ho'.2 y (by simp [hy]) hl
   · rcases hn2 y hy with h1 | h1
     · exact .inl h1
     · exact .inr (by rw [cy];exact List.mem_append_left _ h1)
   · rcases hkx.2 y hy with (h1 | rfl) | h1 | h1
     · exact .inl h1
     · exact .inr (.inr (by rw [cy,sy hs];exact List.mem_append_right _ (List.mem_singleton.2 rfl)))
     · exact .inr (.inl h1)
     · exact .inr (.inr (by rw [cy];exact List.mem_append_left _ h1))
   · intro y hy
     obtain ⟨h1,h2⟩:=hk'.1 y hy
     refine ⟨h1,?_⟩
     simp only [cy,j,List.append_nil]
     exact h2
   · intro c p hy
     simp only [List.mem_append,List.mem_singleton] at hy
     rcases hy with (hy | hy | hy) | hy
     · exact hk'.2 c p (by simp [hy])
     · exact hk'.2 c p (by simp [hy])
     · injection hy with _ hy;cases hy
     · exact hk'.2 c p (by simp [hy])
end Go.Proofs.YtlkeemedalncoaaGreat.En
namespace Go.Proofs.YtlkeemedalncoaaGreat.En
open Go Go.Proofs.YtlkeemedalncoaaGreat
def deadL (H:HP):HP:=H.map fun x=>(x.1,.dead)
theorem wd (H:HP):live (deadL H)=[]:=by
 induction H with
 | nil=>rfl
 | cons x l ih=>simpa [live,deadL,SB.live] using ih
theorem FA.deadL (H:HP) (w:World):FA (deadL H) w:=by
 induction H with
 | nil=>trivial
 | cons x l ih=>exact ih
theorem wS (H:HP):(List.range H.length).map (fun i=>H[i]?)=H.map some:=by
 apply List.ext_getElem?
 intro i
 rw [List.getElem?_map,List.getElem?_map]
 rcases Nat.lt_or_ge i H.length with h | h
 · rw [List.getElem?_range h];simp [h]
 · rw [List.getElem?_eq_none (by simpa using h),List.getElem?_eq_none h];rfl
theorem TriPost.mkD {K:Nat→Prop} {HR HW:HP} {X:Type} {φ:X→Prop} {e:X→Ending} {HN:X→HP} {w:World} {m:Ending} (x:X) (c:List Nat) (p:φ x) (q:m=e x) {H:HP} {nr:Nat} (y:nr=HR.length) (r:H.take HR.length=HR)
 (n:c.map (fun i=>H[i]?)=(HN x).map some) (hi:(c.all fun j=>HR.length.ble j)=true) (l:decide c.Nodup=true) (w':World) (h:Inv K w (lv HW) nr H w'):TriPost K HR HW φ e (fun _=>deadL HW) HN w m w':=by
 have o:∀ j∈c,HR.length≤j:=fun j hj=>Nat.le_of_ble_eq_true (List.all_eq_true.1 hi j hj)
 obtain ⟨K2,kx2,kn2⟩:=h.kn
 have f:∀ i,i<HR.length→H[i]?=HR[i]?:=fun i hi=>by conv=>rhs;rw [← r,List.getElem?_take_of_lt hi]
 have hs:(List.range HR.length++c).map (fun i=>H[i]?)=(HR++HN x).map some:=by
  rw [List.map_append,List.map_append,n]
  congr 1
  rw [← wS]
  apply List.map_congr_left
  intro i hi
  exact f i (List.mem_range.1 hi)
 have g:(List.range HR.length++c).Nodup:=by
  rw [List.nodup_append]
  refine ⟨List.nodup_range,of_decide_eq_true l,fun a ha b hb e=>?_⟩
  have:=List.mem_range.1 ha
  have:=o b hb
  omega
 have t:=h.own.pick _ g _ hs
 have u:=kn2.pick _ _ hs
 have d:live (HR++deadL HW++HN x)=live (HR++HN x):=by simp [fA,wd]
 refine ⟨x,K2,p,q,t.live d,h.fr,fun b hb=>?_,kx2,u.of d fun w2 hw2=>?_⟩
 · obtain ⟨k,s,hk,hls⟩:=fM hb
   obtain ⟨j,hj,hj2⟩:=eu n hk
   have v:=o j (List.mem_of_getElem? hj)
   rcases h.ad b (fH hj2 hls (by omega)) with h5 | h5
   · exact .inr h5
   · exact .inl h5
 · rw [FA.app] at hw2
   rw [FA.app,FA.app]
   exact ⟨⟨hw2.1,FA.deadL _ _⟩,hw2.2⟩
theorem Tri.lift {P:Program} {f:FuncId} {args:Array Vl} {g k HR HW:HP} {X Y:Type} {r:X→Prop} {φ:Y→Prop} {s:X→Ending} {e:Y→Ending} {d m:X→HP} {HN:Y→HP} (q:Tri P f args g k r s d m) (c a:List Nat)
 (p:(c.map (fun i=>(HR++HW)[i]?),a.map (fun i=>(HR++HW)[i]?),decide (c++a).Nodup,a.all (fun j=>HR.length.ble j))=(g.map some,k.map some,true,true)) (l:∀ x,de k (d x))
 (h:∀ x,r x→∃ y,φ y∧s x=e y∧∃ idx:List Nat,(idx.map (fun i=>(co (HR++HW) a (d x)++m x)[i]?),decide idx.Nodup,idx.all (fun j=>HR.length.ble j))=((HN y).map some,true,true)) :
 Tri P f args HR HW φ e (fun _=>deadL HW) HN:=by
 intro K w ho hk
 have h1:=congrArg (·.1) p
 have h2:=congrArg (·.2.1) p
 have h3:=congrArg (·.2.2.1) p
 have h4:=congrArg (·.2.2.2) p
 dsimp only at h1 h2 h3 h4
 have n:(c++a).Nodup:=of_decide_eq_true h3
 have o:∀ j∈a,HR.length≤j:=fun j hj=>Nat.le_of_ble_eq_true (List.all_eq_true.1 h4 j hj)
 have i0:Inv K w (lv HW) HR.length (HR++HW) w:=⟨ho,Fr.refl _ _,fun b hb=>.inl (by simpa [wr] using hb),K,KExt.refl _ _ _,hk⟩
 have hs:(c++a).map (fun i=>(HR++HW)[i]?)=(g++k).map some:=by rw [List.map_append,List.map_append,h1,h2]
 refine (q K w (ho.pick _ n _ hs) (hk.pick _ _ hs)).mono ?_
 rintro en w' ⟨x,K',hx,rfl,ho',hf',hn',hkx',hk'⟩
 have t:=i0.after (HR:=g) (KExt.refl _ _ _) hk hkx' hk' n o h2 (l x) ho' hf' hn'
 obtain ⟨y,hy,he,idx,hi⟩:=h x hx
 simp only [Prod.mk.injEq] at hi
 refine TriPost.mkD y idx hy he rfl ?_ hi.1 hi.2.2 hi.2.1 w' t
 apply List.ext_getElem?
 intro i
 rcases Nat.lt_or_ge i HR.length with l | l
 · rw [List.getElem?_take_of_lt l,List.getElem?_append_left (by rw [jO,List.length_append];omega),hC _ _ _ _ (fun hm=>by have:=o i hm;omega),List.getElem?_append_left l]
 · rw [List.getElem?_eq_none (by rw [List.length_take];omega),List.getElem?_eq_none l]
section
variable {P:Program} {Q:QR} {K0:Nat→Prop} {w0:World} {M:List Nat} {st:ES}
theorem kq {X:Type} (a:X→Prop) (μ:X→Nat) (n:Nat) (b:X→List (Nat×Vl)) (c:X→HP) (d:X) (h0:a d) (h:∀ x u (J:Act→World→Prop),a x→(∀ (st':ES) (x':X) (idx:List Nat),a x'→μ x'<μ x→(st'.todo,st'.ts.length,st'.ds,(b x').map (fun p=>st'.ts.getD p.1 undef),decide idx.Nodup,idx.map (fun i=>st'.H[i]?),(idx.drop st.nr).all (fun j=>st'.nr.ble j))=(.lp J::kh st.todo,n,st.ds,(b x').map (·.2),true,(c x').map some,true)→GW P Q K0 w0 M st') →
 GW P Q K0 w0 M ⟨.code (mh st.todo)::.lp J::kh st.todo,gO n (b x) u,st.ds,c x,st.nr⟩) (e:((jm st.todo).isSome,st.ts.length,st.H,(b d).map (fun p=>st.ts.getD p.1 undef))=(true,n,c d,(b d).map (·.2)):=by kernel_rfl):GW P Q K0 w0 M st:=
 cY a μ n b c d e h0 fun x u J hp back=>h x u J hp fun st' x' idx hp' hm he=>by
  simp only [Prod.mk.injEq] at he
  obtain ⟨e1,e2,e3,e4,e5,e6,e7⟩:=he
  exact o3 idx st.nr (c x') (by rw [e5,e6,e7,e1];rfl) (back ⟨st'.todo,st'.ts,st'.ds,c x',st.nr⟩ x' hp' hm (by simp only [e1,e2,e3,e4]))
theorem wu {b:Func} {HR HW:HP} {X:Type} {φ:X→Prop} {e:X→Ending} {HN:X→HP} {K:Nat→Prop} {w:World} (x:X) (v:Vl) (a:List Nat) (hr:∀ w,Own st.H w→(results b st.ts.toArray).run P w = .ok v w) (c:Ending.returned v=e x:=by rfl) (d:φ x:=by trivial) (h:(st.ds.isEmpty,st.nr,st.H.take HR.length,a.map (fun i=>st.H[i]?),(a.all fun j=>HR.length.ble j),decide a.Nodup)=(true,HR.length,HR,(HN x).map some,true,true):=by kernel_rfl):LW P b (TriPost K HR HW φ e (fun _=>deadL HW) HN w) .returning K w (lv HW) st:=by
 simp only [Prod.mk.injEq] at h
 obtain ⟨hd,hm,hp,hN,hi,hnd⟩:=h
 have hd:st.ds=[]:=by simpa using hd
 intro w1 hi1
 rw [hd]
 exact ⟨v,hr w1 hi1.own,TriPost.mkD x a d c hm hp hN hi hnd w1 hi1⟩
theorem sameAd_dead (A:HP):de A (deadL A):=by
 refine ⟨by simp [deadL],fun k b s h=>?_⟩
 unfold deadL at h
 rw [List.getElem?_map] at h
 cases hA:A[k]? with
 | none=>rw [hA] at h;cases h
 | some x=>
  rw [hA] at h
  injection h with h
  injection h with h1 h2
  subst h1 h2
  exact ⟨x.2,rfl,fun h=>by cases h⟩
end
end Go.Proofs.YtlkeemedalncoaaGreat.En
