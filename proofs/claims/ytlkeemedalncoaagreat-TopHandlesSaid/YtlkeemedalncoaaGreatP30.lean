/- TopHandles, part 30: no condition. -/
import Derived.Test.YtlkeemedalncoaaGreatP29
set_option linter.all false
set_option maxHeartbeats 16000000
set_option maxRecDepth 100000
namespace Go.Proofs.YtlkeemedalncoaaGreat.En
open Go Go.RowKit Go.Proofs.YtlkeemedalncoaaGreat Go.Proofs.Tryz
abbrev v8 (y:NwX) (Z:List Bs):HP:=[(y.v,.cl (bU 100 100000 (sA y.vk 32 y.vc) y.d y.rs y.lg true y.o.r y.o.p 0 0 0 0 1 0 y.o.al) 90),(y.d,.cl (bQ y.na y.nfm 100 (.slice none 0 0) 0) bT),(y.na,.cl (bE Z) 166),(y.nfm,.cl (bE Z) 166),(y.rs,.cl (dc y.d (100000:Int) 0 0 (sA y.ra 5 y.rc)) df),(y.ra,.pr (bG 0 [sA y.tb 16 y.tk])),(y.tb,.fa (BF (pA y.tb) 16 y.tk (dO 1 0))),(y.lg,.cl [.slice none 0 0] 128),(y.vk,.fa (BF (pA y.vk) 32 y.vc (eB 0))),(y.o.r,.cl [.map (some y.o.m)] 182),(y.o.m,.pr (bB eW [((0,1),sA y.o.kb 32 y.o.kc)])),(y.o.kb,.fa (BF (pA y.o.kb) 32 y.o.kc (bW (eB 0) 1 1))),(y.o.p,.cl (bM y.d y.o.r y.lg y.o.Af y.o.L.length y.o.c y.o.kn y.o.wt none none y.o.pi 0 0 false) 199),(y.o.kn,.pr (MU [])),(y.o.wt,.pr (MU (bF []))),(y.o.pi,.pr (MU [])),(y.o.fa,.fa (bN y.o.Af y.o.L.length y.o.c y.o.L)),(y.o.al,.pr (MU []))]
theorem FV (kb f dr g a b c d e:Nat) :
 TT 9 #[.agg #[i64 100,u64 100000,sA dr 5 g,sA kb 32 32]] [(f,.fa (BF (pA kb) 32 32 (eB 0))),(dr,.pr (bG 0 [sA a 16 16,sA b 16 16,sA c 16 16,sA d 16 16,sA e 16 16])),(a,.pr (bG 0 ((dO 1 0).map B8))),(b,.pr (bG 0 ((dO 2 0).map B8))),(c,.pr (bG 0 ((dO 3 0).map B8))),(d,.pr (bG 0 ((dO 4 0).map B8))),(e,.pr (bG 0 ((dO 5 0).map B8)))] [] (fun x:NwX×List Bs=>aNew x.1∧x.2=List.replicate 100 (List.replicate 256 0)) (fun x=>.returned (.tuple #[bi x.1.v,i64 0])) (fun _=>[]) (fun x=>v8 x.1 x.2):=
 (Gk 100 100000 kb f dr g a b c d e (eB 0) (dO 1 0) (dO 2 0) (dO 3 0) (dO 4 0) (dO 5 0) rfl rfl rfl rfl rfl rfl (by decide) (by decide)).fw (φ2:=fun x:NwX×List (List UInt8)=>aNew x.1∧x.2=List.replicate 100 (List.replicate 256 0)) (e2:=fun x=>.returned (.tuple #[bi x.1.v,i64 0])) (HW2:=fun _=>[]) (HN2:=fun x=>v8 x.1 x.2) rfl (fun _ h=>h) fun x h=>⟨(x,List.replicate 100 (List.replicate 256 0)),⟨⟨h.1.1,h.1.2.1,h.1.2.2,h.2.1,h.2.2⟩,rfl⟩,rfl,rfl,rfl,fun _ _ h=>h⟩
theorem GA (y:NwX) (Z:List Bs) (b:aNew y) (c:Z=List.replicate 100 (List.replicate 256 0)) (a sb:Nat) :
 TT 10 #[bi y.v,.agg #[i64 1,u32 3,sA sb 16 16,i64 5,i64 0,u64 0,u64 0,u64 0,u8 0,bp,bp,bp,bp,.bool false]] [(a,.fa (BF (pA sb) 16 16 (List.replicate 16 97)))] (v8 y Z) (fun s:VS=>aCrd s y.v) (fun _=>.returned (cP 0 0 0 bp bp 0 bp)) (fun _=>deadL (v8 y Z)) (fun s=>zX s):=by
 subst c
 exact Iv y b a sb
theorem rA:Same 8 #[] [] (.bool true):=by
 refine iE func8<|zE<|cE DH [] [] fun ⟨⟨x,x1,x2,x3,x4⟩,x5,x6,x7⟩ hx=>?_
 try dsimp only at hx
 refine fE 6 x6 (bn 27 1 5 x7 [sA x 16 16,sA x1 16 16,sA x2 16 16,sA x3 16 16,sA x4 16 16]) bx fun hc=>gW (t:=5) (l:=eB 0) 0 x5 32 (by (simp;done)) (by first | decide | (simp only [maxLen];omega))<|cV (FV x5 x5 x6 x7 x x1 x2 x3 x4) [0,6,1,2,3,4,5] [] (Views.facts (Views.less (.pr (bn 27 1 5 x7 [sA x 16 16,sA x1 16 16,sA x2 16 16,sA x3 16 16,sA x4 16 16])) ci (Views.less (.cl (List.map B8 (dO 1 0)) 5) bA (Views.less (.cl (List.map B8 (dO 2 0)) 5) bA (Views.less (.cl (List.map B8 (dO 3 0)) 5) bA (Views.less (.cl (List.map B8 (dO 4 0)) 5) bA (Views.less (.cl (List.map B8 (dO 5 0)) 5) bA Views.nil))))))) fun ⟨x8,x9⟩ ⟨hx1,hx2⟩=>?_
 try dsimp only at hx1 hx2
 refine bj [0]<|cE mj [] [] fun x10 _=>bj [9999]<|cE (GA x8 x9 hx1 hx2 x10 x10) [25] [7,8,9,10,11,12,13,14,15,16,17,18,19,20,21,22,23,24] fun x11 hx3=>bj [9999,0,0]<|cE mj [] [] fun x12 _=>bj [9999]<|cE (I7 x11 (NwX.v x8) hx3 x12 x12) [51] [26,27,28,29,30,31,32,33,34,35,36,37,38,39,40,41,42,43,44,45,46,47,48,49,50] fun x13 ⟨hx4,hx5⟩=>bu [9999,9999] 1 fun nm=>xE (gd (nm 0) 1 ([107])) [] [78] fun _ _=>bu [9999] 1 fun nm1=>?_
 refine xE (gd (nm1 0) 1 ([50])) [] [79] fun _ _=>bu [9999,9999,9999] 1 fun nm2=>ip 80 (nm2 0) (.cl [sA (nm 0) 1 1,sA (nm1 0) 1 1,.bool false] 58) (CF (nm2 0) 0 (dS (nm 0) 0 1 1 (cB (nm1 0) 0 1 1) false)) (fun w ⟨o,h1,h2⟩=>⟨o,h1,bA o h2⟩)<|nq (l:=[107]) 78 (nm 0) 1 (by (simp;done)) (by first | decide | (simp only [maxLen];omega))<|nq (l:=[50]) 79 (nm1 0) 1 (by (simp;done)) (by first | decide | (simp only [maxLen];omega))<|cE (HQ x13 (NwX.v x8) hx4 hx5 (nm 0) (nm1 0) (nm 0) (nm1 0) (nm2 0) (nm2 0) 1) [78,79,80] [52,53,54,55,56,57,58,59,60,61,62,63,64,65,66,67,68,69,70,71,72,73,74,75,76,77] fun x14 hx6=>bu [107,107,0,9999] 2 fun nm3=>bv (Fc x14 (NwX.v x8) hx6 (pA (nm3 1)) 1 1) [] [81,82,83,84,85,86,87,88,89,90,91,92,93,94,95,96,97,98,99,100,101,102,103,104,105,106]<|bj [0]<|cE (Ga x14 (NwX.v x8) hx6) [] [109,110,111,112,113,114,115,116,117,118,119,120,121,122,123,124,125,126,127,128,129,130,131,132,133,134] fun x15 hx7=>bj [0,0] ?_
 refine cE ve [] [] fun x16 _=>bj [9999]<|nq (l:=List.replicate 16 97) 149 x16 16 (by (simp;done)) (by first | decide | (simp only [maxLen];omega))<|cE (F8 x14 x15 (NwX.v x8) hx6 x16 x16) [149] [135,136,137,138,139,140,141,142,143,144,145,146,147,148] fun x17 _=>bu [9999,9999] 1 fun nm4=>xE (gd (nm4 0) 1 ([107])) [] [165] fun _ _=>bj [9999]<|nq (l:=[107]) 165 (nm4 0) 1 (by (simp;done)) (by first | decide | (simp only [maxLen];omega))<|cE (Ja x14 x15 x17 (NwX.v x8) hx6 hx7 (nm4 0) (nm4 0)) [165] [150,151,152,153,154,155,156,157,158,159,160,161,162,163,164] fun ⟨x18,x19⟩ _=>bu [180,180,0,180] 1 fun nm5=>rE (fy x18 x18 0 1 x19 ([50])) [179] ?_
 refine bj [0,0]<|cE (zd x14 x15 (NwX.v x8) hx6 hx7) [] [166,167,168,169,170,171,172,173,174,175,176,177,178] fun ⟨x20,x21⟩ _=>fE 187 x20 (bn 72 6 2 x21 [u32 0,u8 1,u8 0,u32 4,u64 2,u16 1,u32 3,u8 1,u8 0,u32 3,u64 2,u16 1]) bx fun hc1=>bj [0,0,9999]<|rE (cx (T:=37) (e:=72) x20 9 6 2 x21 ([u32 0,u8 1,u8 0,u32 4,u64 2,u16 1,u32 3,u8 1,u8 0,u32 3,u64 2,u16 1]) (u32 3) (fun w=>by kernel_rfl) (by kernel_rfl)) [187]<|bu [9999,9999] 1 fun nm6=>cV (HY x14 x15 (NwX.v x8) hx6 (nm6 0)) [188] [181,182,183,184,185,186] (Views.less (.cl [u8 1,u8 2,u8 3] 5) bA Views.nil) fun _ _=>bj [0]<|bv (I6 x14 x15 (NwX.v x8) hx6 none 0 0) [] [189,190,191,192,193,194]<|bj [0,0]<|cE (Ij x14 x15 (NwX.v x8) hx6) [] [195,196,197,198,199,200] ?_
 intro _ _
 exact bj [0]<|rT ()
theorem rm:∀ (W X:List Nat),W.Nodup→(∀ n∈W,n∈X)→W.length≤X.length
 | [],_,_,_=>Nat.zero_le _
 | n::W,X,hn,h=>by
  have h1:=List.nodup_cons.1 hn
  have a:=h n List.mem_cons_self
  have h2:=rm W (X.erase n) h1.2 fun m hm=>(List.mem_erase_of_ne (fun e=>h1.1 (by rw [← e];exact hm))).2 (h m (List.mem_cons_of_mem _ hm))
  rw [List.length_erase_of_mem a] at h2
  have:=List.length_pos_of_mem a
  simp only [List.length_cons]
  omega
theorem VS.Ok.wle {c:VC} {s:VS} (h:s.Ok c):s.W.length≤s.SH.length:=
 Nat.le_trans (rm s.W (go s.SH) h.wnd fun n hn=>by
  have h1:=(h.wp n hn).2.2.2
  rw [h.pinc n] at h1
  exact List.count_pos_iff.1 (Nat.pos_of_ne_zero h1)) (List.length_filterMap_le _ _)
structure VS.In (c:VC) (s:VS) (i j:Nat):Prop where
 ok:s.Ok c
 sh:s.SH.length≤i
 md:s.made≤i
 ks:∀ p∈s.SH,p.1<s.made+1
 sum:dV s.SH≤2*i
 ch:s.ch≤1
 cm:s.cm≤1+j
 mg:s.Mg≤2+3*j
theorem qA (SH:List (Nat×Vl)) (n rp rc rg ch:Nat) (A:Option Addr) (l m:Nat):dV (SH++[(n,fR rp rc rg ch A l m)])=dV SH+ch+1:=by
 unfold dV
 rw [List.map_append,List.sum_append,List.length_append]
 have h:(List.map (fun p:Nat×Vl=>gU p.2) [(n,fR rp rc rg ch A l m)]).sum=ch:=by
  rw [List.map_cons,List.map_nil,List.sum_cons,List.sum_nil,yH];rfl
 rw [h,List.length_singleton]
 omega
theorem VS.In.snap0 {c:VC} {s:VS} {i j:Nat} (h:s.In c i j):s.snap0.In c (i+1) j where
 ok:=h.ok.snap0
 sh:=by show (s.SH++[_]).length≤_;rw [List.length_append,List.length_singleton];have:=h.sh;omega
 md:=Nat.succ_le_succ h.md
 ks:=fun p hp=>by
  rcases List.mem_append.1 hp with hp | hp
  · have:=h.ks p hp;show p.1<s.made+1+1;omega
  · rw [List.mem_singleton.1 hp];exact Nat.lt_succ_self _
 sum:=by show dV (s.SH++[_])≤_;rw [qA];have:=h.sum;have:=h.ch;omega
 ch:=h.ch
 cm:=h.cm
 mg:=h.mg
theorem VS.In.snap1 {c:VC} {s:VS} {i j:Nat} (h:s.In c i j) (hr:oL c s) (lb a:Nat):(s.snap1 lb a).In c (i+1) j where
 ok:=h.ok.snap1 hr lb a
 sh:=by show (s.SH++[_]).length≤_;rw [List.length_append,List.length_singleton];have:=h.sh;omega
 md:=Nat.succ_le_succ h.md
 ks:=fun p hp=>by
  rcases List.mem_append.1 hp with hp | hp
  · have:=h.ks p hp;show p.1<s.made+1+1;omega
  · rw [List.mem_singleton.1 hp];exact Nat.lt_succ_self _
 sum:=by show dV (s.SH++[_])≤_;rw [qA];have:=h.sum;have:=h.ch;omega
 ch:=h.ch
 cm:=h.cm
 mg:=h.mg
theorem VS.In.bat {c:VC} {s:VS} {i j a ff b:Nat} {kk new:Bs} {X:List Nat} {x:tN} {ys:List Vl} (h:s.In c i j) (hc:a≤1) (d:(VS.bat c s a ff b kk new X x ys).Ok c):(VS.bat c s a ff b kk new X x ys).In c i (j+1) where
 ok:=d
 sh:=h.sh
 md:=h.md
 ks:=h.ks
 sum:=h.sum
 ch:=hc
 cm:=by show s.cm+1≤_;have:=h.cm;omega
 mg:=by show s.Mg+3≤_;have:=h.mg;omega
def eQ:Nat→List (Nat×Nat)→List (Nat×Vl)
 | _,[]=>[]
 | k,p::l=>(k,hV p.1 p.2)::eQ (k+1) l
theorem rW:∀ (l:List (Nat×Nat)) (k:Nat),(eQ k l).length=l.length
 | [],_=>rfl
 | p::l,k=>congrArg (·+1) (rW l (k+1))
theorem pV:∀ (l:List (Nat×Nat)) (k n:Nat),lk (eQ k l) n=if k≤n then (l[n-k]?).map (fun p=>hV p.1 p.2) else none
 | [],k,n=>by simp [eQ,w6]
 | p::l,k,n=>by
  show lk ((k,hV p.1 p.2)::eQ (k+1) l) n=_
  rw [cp,pV l (k+1) n]
  by_cases h:n=k
  · subst h;simp
  · rw [if_neg h]
    by_cases h2:k≤n
    · rw [if_pos h2,if_pos (by omega),show n-k=(n-(k+1))+1 by omega,List.getElem?_cons_succ]
    · rw [if_neg h2,if_neg (by omega)]
theorem uZ:∀ (l:List (Nat×Nat)) (k:Nat) (p:Nat×Nat),up (eQ k l) (k+l.length) (hV p.1 p.2)=eQ k (l++[p])
 | [],k,p=>rfl
 | q::l,k,p=>by
  show up ((k,hV q.1 q.2)::eQ (k+1) l) (k+(l.length+1)) (hV p.1 p.2)=(k,hV q.1 q.2)::eQ (k+1) (l++[p])
  rw [up,if_neg (by omega),show k+(l.length+1)=k+1+l.length by omega,uZ l (k+1) p]
theorem t9:∀ (l:List (Nat×Nat)) (k:Nat),∀ e∈eQ k l,k≤e.1
 | [],_,_,h=>absurd h List.not_mem_nil
 | p::l,k,e,h=>by
  rcases List.mem_cons.1 h with h | h
  · rw [h];exact Nat.le_refl _
  · have:=t9 l (k+1) e h;omega
theorem uG:∀ (l:List (Nat×Nat)) (k:Nat),UN (eQ k l)
 | [],_=>UN.nil
 | p::l,k=>by
  refine List.nodup_cons.2 ⟨fun h=>?_,uG l (k+1)⟩
  obtain ⟨e,he,h2⟩:=List.mem_map.1 h
  have:=t9 l (k+1) e he
  simp only at h2
  omega
structure Giv (l:List (Nat×Nat)):Prop where
 le:∀ (i:Nat) (p:Nat×Nat),l[i]?=some p→p.2≤i
 pos:∀ (i:Nat) (p:Nat×Nat),l[i]?=some p→0<i→0<p.2
theorem uD {l:List (Nat×Nat)} {n:Nat} {v:Vl} (h:lk (eQ 1 l) n=some v):∃ p,1≤n∧l[n-1]?=some p∧v=hV p.1 p.2:=by
 rw [pV] at h
 split at h
 · obtain ⟨p,h1,h2⟩:=Option.map_eq_some_iff.1 h
   exact ⟨p,by assumption,h1,h2.symm⟩
 · cases h
theorem jf {l:List (Nat×Nat)} {i:Nat} {p:Nat×Nat} (h:l[i]?=some p):lk (eQ 1 l) (i+1)=some (hV p.1 p.2):=by
 rw [pV,if_pos (by omega),Nat.add_sub_cancel,h];rfl
theorem Giv.hand {l:List (Nat×Nat)} (h:Giv l) (a:l.length<1000):lw (eQ 1 l):=fun n v hn=>by
 obtain ⟨p,h1,h2,h3⟩:=uD hn
 have:=h.le _ _ h2
 have:=cj h2
 exact ⟨p.1,p.2,h3,by omega,by omega⟩
theorem pW {l:List (Nat×Nat)} {i:Nat} {p:Nat×Nat} (h:l[i]?=some p):lm (eQ 1 l) (i+1)=p.2:=by
 unfold lm
 rw [jf h]
 simp
theorem qy {l:List (Nat×Nat)} (h:Giv l):∀ (f i:Nat),i<l.length→0<i→i<f→gJ (eQ 1 l) 1 f (i+1)=true
 | 0,i,_,_,h3=>absurd h3 (Nat.not_lt_zero _)
 | f+1,i,h1,h2,h3=>by
  have e:l[i]?=some l[i]:=List.getElem?_eq_getElem h1
  have b:=pW e
  have k1:=h.le _ _ e
  have a:=h.pos _ _ e h2
  rw [gJ,b,if_neg (by omega)]
  by_cases q:l[i].2=1
  · rw [if_pos q]
  · rw [if_neg q]
    have:=qy h f (l[i].2-1) (by omega) (by omega) (by omega)
    rwa [show l[i].2-1+1=l[i].2 by omega] at this
theorem EE {A:List (Nat×Vl)} {n r b:Nat} (h:lk A n=some (hV r b)):lm A n=b:=by
 unfold lm
 rw [h]
 simp
theorem Giv.handA {l:List (Nat×Nat)} (h:Giv l):ku (eQ 1 l):=fun n r b hn=>by
 obtain ⟨p,h1,h2,-⟩:=uD hn
 have a:=EE hn
 have e2:=pW h2
 rw [show n-1+1=n by omega,a] at e2
 have k1:=h.le _ _ h2
 have c:=cj h2
 by_cases e:b=0
 · exact .inl e
 · refine .inr ⟨l[b-1].1,l[b-1].2,?_⟩
   have:=jf (List.getElem?_eq_getElem (show b-1<l.length by omega))
   rwa [show b-1+1=b by omega] at this
theorem Giv.snoc {l:List (Nat×Nat)} (h:Giv l) {r k:Nat} (a:k<l.length):Giv (l++[(r,k+1)]) where
 le:=fun i p hi=>by
  by_cases e:i<l.length
  · rw [List.getElem?_append_left e] at hi;exact h.le i p hi
  · rw [List.getElem?_append_right (by omega)] at hi
    have h0:=cj hi
    simp only [List.length_singleton] at h0
    rw [show i-l.length=0 by omega] at hi
    have:=Option.some.inj hi
    subst this
    show k+1≤i
    omega
 pos:=fun i p hi h0=>by
  by_cases e:i<l.length
  · rw [List.getElem?_append_left e] at hi;exact h.pos i p hi h0
  · rw [List.getElem?_append_right (by omega)] at hi
    have h1:=cj hi
    simp only [List.length_singleton] at h1
    rw [show i-l.length=0 by omega] at hi
    have:=Option.some.inj hi
    subst this
    exact Nat.succ_pos _
theorem Giv.one (r:Nat):Giv [(r,0)] where
 le:=fun i p hi=>by
  have h1:=cj hi
  simp only [List.length_singleton] at h1
  rw [show i=0 by omega] at hi ⊢
  have:=Option.some.inj hi
  subst this
  exact Nat.le_refl 0
 pos:=fun i p hi h0=>by
  have h1:=cj hi
  simp only [List.length_singleton] at h1
  omega
def jX (l:List (Nat×Nat)) (n:Nat):Nat→Nat→Bool
 | 0,_=>false
 | f+1,i=>i==n||(match l[i]? with | some p=>if p.2=0 then false else jX l n f (p.2-1) | none=>false)
theorem uk {l:List (Nat×Nat)} (h:Giv l) (n:Nat):∀ (f i:Nat),i<l.length→i<f→jX l n f i=(i==n||gJ (eQ 1 l) (n+1) f (i+1))
 | 0,i,_,h2=>absurd h2 (Nat.not_lt_zero _)
 | f+1,i,h1,h2=>by
  have e:l[i]?=some l[i]:=List.getElem?_eq_getElem h1
  have b:=pW e
  have k1:=h.le _ _ e
  rw [jX,gJ,b,e]
  congr 1
  show (if l[i].2=0 then false else jX l n f (l[i].2-1))=_
  by_cases q:l[i].2=0
  · rw [if_pos q,if_pos q]
  · rw [if_neg q,if_neg q,uk h n f (l[i].2-1) (by omega) (by omega),show l[i].2-1+1=l[i].2 by omega]
    by_cases q2:l[i].2=n+1
    · rw [if_pos q2];have:l[i].2-1=n:=by omega
      simp [this]
    · rw [if_neg q2]
      have:(l[i].2-1==n)=false:=by simp;omega
      rw [this,Bool.false_or]
theorem CD {l:List (Nat×Nat)} (h:Giv l) (n:Nat) {i:Nat} (hi:i<l.length):jk (eQ 1 l) (n+1) (i+1)=jX l n (i+2) i:=by
 rw [uk h n (i+2) i hi (by omega)]
 unfold jk
 congr 1
 by_cases e:i=n
 · subst e;simp
 · rw [show (i==n)=false by simpa using e,show (i+1==n+1)=false by simpa using e]
def k4 (dd:Bool) (need r k:Nat):Nat:=if dd=true then 7 else if (cM need r != 0)=true then 250 else k
theorem VS.In.more {c:VC} {s:VS} {i j:Nat} (h:s.In c i j):s.In c i (j+1):=⟨h.ok,h.sh,h.md,h.ks,h.sum,h.ch,by have:=h.cm;omega,by have:=h.mg;omega⟩
theorem VS.In.moreS {c:VC} {s:VS} {i j:Nat} (h:s.In c i j):s.In c (i+1) j:=⟨h.ok,by have:=h.sh;omega,by have:=h.md;omega,h.ks,by have:=h.sum;omega,h.ch,h.cm,h.mg⟩
structure VS.Lo (c:VC) (s:VS) (v:Nat) (A:List (Nat×Vl)) (i j:Nat):Prop where
 inn:s.In c i j
 key:s.rp≠0→s.kk=[120]
 vv:s.v=v
 aa:s.A=A
section
variable (c:VC) (s:VS) (h:Nat) (hc:c.Ok) (h64:h<18446744073709551616) (hT:h/4294967296=c.tt)
include hc h64 hT in
theorem GC (hs:s.Ok c) (a2 qb qo qc:Nat) (hkk:s.rp≠0→s.kk=[120]) (dd:Bool) (r1 b1:Nat) (hA:lk s.A (h%4294967296)=if dd=true then none else some (hV r1 b1)) :
 TT 10 #[bi s.v,.agg #[i64 12,u32 0,bp,i64 0,i64 0,u64 h,u64 0,u64 0,u8 0,bp,cB qb qo 1 qc,bp,bp,.bool false]] [(a2,.fa (BF (pO qb qo) 1 qc [107]))] (vH c s) (fun x:VS=>x=s) (fun _=>.returned (dt (k4 dd 1 r1 7:Nat))) (fun _=>deadL (vH c s)) (fun x=>vH c x):=by
 unfold k4
 cases dd with
 | true=>exact (F3 c s h h64 hT (cB qb qo 1 qc) hA).lift [] ((List.range 26).map (·+1)) (by kernel_rfl) (fun _=>sameAd_dead _) fun x hx=>⟨x,hx,rfl,(List.range 26).map (·+27),by kernel_rfl⟩
 | false=>
  by_cases hr:(cM 1 r1 != 0)=true
  · rw [if_neg (by decide),if_pos hr]
    exact (Ha c s h h64 hT (cB qb qo 1 qc) r1 b1 hA hr).lift [] ((List.range 26).map (·+1)) (by kernel_rfl) (fun _=>sameAd_dead _) fun x hx=>⟨x,hx,rfl,(List.range 26).map (·+27),by kernel_rfl⟩
  · rw [if_neg (by decide),if_neg hr]
    exact ER c s h hs h64 hT a2 qb qo 1 qc [107] rfl (by decide) (by decide) (fun h=>by rw [hkk h];decide) r1 b1 hA (by simpa using hr) hc.N4
include hc h64 hT in
theorem Hn (v i j:Nat) (A:List (Nat×Vl)) (hL:s.Lo c v A i j) (hi:i≤7) (hj:j≤7) (hq:c.q=20) (hN:16≤c.N) (hl:100≤c.lim) (qb qo qc a1 ub uo uc a2 a5 ob oc:Nat) (new:Bs) (hn:new.length=1) (dd:Bool) (r1 b1:Nat) (hA:lk A (h%4294967296)=if dd=true then none else some (hV r1 b1)) :
 TT 10 #[bi v,.agg #[i64 11,u32 0,bp,i64 0,i64 0,u64 h,u64 0,u64 0,u8 0,sA ob 1 oc,bp,bp,bp,.bool false]] [(a1,.fa (BF (pO qb qo) 1 qc [120])),(a2,.fa (BF (pO ub uo) 1 uc new)),(a5,.fa (CF ob 0 (dS qb qo 1 qc (cB ub uo 1 uc) false)))] (vH c s) (fun x:VS=>x.Lo c v A i (j+1)) (fun _=>.returned (dt (k4 dd 2 r1 0:Nat))) (fun _=>deadL (vH c s)) (fun x=>vH c x):=by
 obtain ⟨hI,hkk,rfl,rfl⟩:=hL
 have hs:=hI.ok
 have b1':=hI.sh
 have b2:=hI.md
 have b3:=hI.sum
 have b4:=hI.ch
 have b5:=hI.cm
 have b6:=hI.mg
 have b7:=hs.wle
 unfold k4
 cases dd with
 | true=>exact (G1 c s h h64 hT (.slice (some ⟨ob,0,none⟩) 1 oc) hA).lift [] ((List.range 26).map (·+3)) (by kernel_rfl) (fun _=>sameAd_dead _) fun x hx=>⟨x,by subst hx;exact ⟨hI.more,hkk,rfl,rfl⟩,rfl,(List.range 26).map (·+29),by kernel_rfl⟩
 | false=>
  by_cases hr:(cM 2 r1 != 0)=true
  · rw [if_neg (by decide),if_pos hr]
    exact (FC c s h h64 hT (sA ob 1 oc) r1 b1 hA hr).lift [] ((List.range 26).map (·+3)) (by kernel_rfl) (fun _=>sameAd_dead _) fun x hx=>⟨x,by subst hx;exact ⟨hI.more,hkk,rfl,rfl⟩,rfl,(List.range 26).map (·+29),by kernel_rfl⟩
  · rw [if_neg (by decide),if_neg hr]
    have hr':(cM 2 r1 != 0)=false:=by simpa using hr
    rcases hs.root with ⟨e1,e2,e3,e4⟩ | hR
    · have T:=Ag c s h hs hc h64 hT e1 e2 e3 e4 qb qo qc a1 ub uo uc a2 a5 ob oc [120] new (by decide) (by decide) (by omega) (by omega) r1 b1 hA hr' hN (by omega) (by omega) (by omega) (by omega) (by omega) (by omega)
      rw [hn] at T
      exact T.lift [0,1,2] ((List.range 26).map (·+3)) (by kernel_rfl) (fun _=>sameAd_dead _) fun x hx=>by
       obtain ⟨ho,ff,f2,y,ys,rfl,hb⟩:=hx
       exact ⟨_,⟨hI.bat (by omega) ho,fun _=>rfl,rfl,rfl⟩,rfl,(List.range 26).map (·+29),by kernel_rfl⟩
    · have hk:s.kk=[120]:=hkk (by have:=hR.2.2.1;omega)
      have T:=FH c s h hs hc h64 hT hR qb qo qc a1 ub uo uc a2 a5 ob oc new (by omega) (by omega) r1 b1 hA hr' hN (by omega) (by omega) (by omega) (by omega) (by omega) (by omega)
      rw [hn,hk] at T
      exact T.lift [0,1,2] ((List.range 26).map (·+3)) (by kernel_rfl) (fun _=>sameAd_dead _) fun x hx=>by
       obtain ⟨ho,ff,f2,X,y,ys,rfl⟩:=hx
       exact ⟨_,⟨hI.bat b4 ho,fun _=>rfl,rfl,rfl⟩,rfl,(List.range 26).map (·+29),by kernel_rfl⟩
include hc h64 hT in
theorem Dk (v i j:Nat) (A:List (Nat×Vl)) (hL:s.Lo c v A i j) (hi:i≤7) (hj:j≤8) (hq:c.q=20) (dd:Bool) (r1 b1:Nat) (hA:lk A (h%4294967296)=if dd=true then none else some (hV r1 b1)) :
 TT 10 #[bi v,.agg #[i64 14,u32 0,bp,i64 0,i64 0,u64 h,u64 0,u64 0,u8 0,bp,bp,bp,bp,.bool false]] [] (vH c s) (fun x:VS×Nat=>x.1.Lo c v A (i+1) j) (fun x=>.returned (cP (k4 dd 4 r1 0:Nat) 0 x.2 bp bp 0 bp)) (fun _=>deadL (vH c s)) (fun x=>vH c x.1):=by
 obtain ⟨hI,hkk,rfl,rfl⟩:=hL
 have hs:=hI.ok
 have b1':=hI.sh
 have b2:=hI.md
 have b3:=hI.sum
 have b4:=hI.ch
 have b5:=hI.cm
 have b6:=hI.mg
 unfold k4
 cases dd with
 | true=>exact (Eo c s h h64 hT hA).lift [] (List.range 26) (by kernel_rfl) (fun _=>sameAd_dead _) fun x hx=>⟨(x,0),by subst hx;exact ⟨hI.moreS,hkk,rfl,rfl⟩,rfl,(List.range 26).map (·+26),by kernel_rfl⟩
 | false=>
  by_cases hr:(cM 4 r1 != 0)=true
  · rw [if_neg (by decide),if_pos hr]
    exact (CP c s h h64 hT r1 b1 hA hr).lift [] (List.range 26) (by kernel_rfl) (fun _=>sameAd_dead _) fun x hx=>⟨(x,0),by subst hx;exact ⟨hI.moreS,hkk,rfl,rfl⟩,rfl,(List.range 26).map (·+26),by kernel_rfl⟩
  · rw [if_neg (by decide),if_neg hr]
    have hr':(cM 4 r1 != 0)=false:=by simpa using hr
    rcases hs.root with ⟨e1,e2,e3,e4⟩ | hR
    · exact (EK c s h hs hc h64 hT e1 e2 e3 r1 b1 hA hr' (by omega) hI.ks (by omega) (by omega)).lift [] (List.range 26) (by kernel_rfl) (fun _=>sameAd_dead _) fun x hx=>⟨(x,s.made+1),by subst hx;exact ⟨hI.snap0,hkk,rfl,rfl⟩,rfl,(List.range 26).map (·+26),by kernel_rfl⟩
    · have hp:=hs.pin s.rp
      exact (D6 c s h hs hc h64 hT hR r1 b1 hA hr' (by omega) hI.ks (by omega) (by omega) (by omega)).lift [] (List.range 26) (by kernel_rfl) (fun _=>sameAd_dead _) fun x hx=>by
       obtain ⟨lb,lc,rfl⟩:=hx
       exact ⟨(_,s.made+1),⟨hI.snap1 hR lb lc,hkk,rfl,rfl⟩,rfl,(List.range 26).map (·+26),by kernel_rfl⟩
end
abbrev c3:VC:=mD 200 100000 9 20 (eB 1) (List.replicate 16 97) (dO 1 1)
theorem l3:c3.Ok:=rU 200 100000 9 20 (eB 1) (List.replicate 16 97) (dO 1 1) (by decide) (by decide) (by decide) (by decide) (by decide) (by decide) (by decide) rfl rfl rfl
abbrev lH (s:VS):HP:=
 [(s.v,.cl (bU 200 100000 (.slice (some ⟨s.vk,0,none⟩) 32 s.vc) s.d s.rs s.lg true s.r s.p s.cm s.pp s.rc 1 1 1 s.al) 90),
  (s.al,.pr (bB (eK .u32) [(9,bi s.tn)])),
  (s.tn,.cl (b9 9 20 s.mb s.mc s.rp s.rc2 s.rg2 s.ch s.hb s.hc s.cb s.sh s.made) 113),
  (s.cb,.cl (cL s.ca s.cct) 212),cH s.ca s.A,(s.sh,.pr (bB (eK .u64) s.SH)),
  (s.r,.cl [.map (some s.m)] 182),(s.m,.pr (bB eW s.G)),
  (s.p,.cl (bM s.d s.r s.lg s.Af s.nf s.cf s.kn s.wt s.pu s.dr s.pi 0 s.lst s.fl) 199),
  (s.kn,.pr (bB (eK .u32) s.K)),(s.wt,.pr (bB (eK .u32) (bF s.W))),(s.pi,.pr (bB (eK .u32) s.I)),
  (s.rs,.cl (dc s.d (100000:Int) (s.cm:Int) (s.cm:Int) s.dv) df),(s.lg,.cl [s.lv] 128),(s.lb,s.lsb),
  (s.d,.cl (bQ s.na s.nfm 200 (.slice none 0 0) s.steps) bT),(s.na,.cl (bE s.now) 166),(s.nfm,.cl (bE s.firm) 166),
  (0,.fa (bN s.Af s.nf s.cf s.L)),(0,.fa (PgsF s.K s.M)),(0,.fa (dw s.G c3.Kf)),
  (0,.fa (CF s.hb 0 (cX 1 1 s.wb s.wc))),(0,.fa (BF (some ⟨s.mb,0,none⟩) 16 s.mc c3.mark)),(0,.fa (BF (some ⟨s.wb,0,none⟩) 32 s.wc c3.wr)),
  (0,.fa (BF (some ⟨s.vk,0,none⟩) 32 s.vc c3.vkey)),(0,.fa (ShF 9 s.SH))]
abbrev AL (s:VS):HP:=
 [(s.v,.cl (bU 200 100000 (.slice (some ⟨s.vk,0,none⟩) 32 s.vc) s.d s.rs s.lg true s.r s.p s.cm s.pp s.rc 1 1 1 s.al) 90),
  (s.al,.pr (bB (eK .u32) [(9,bi s.tn)])),
  (s.tn,.cl (b9 9 20 s.mb s.mc s.rp s.rc2 s.rg2 s.ch s.hb s.hc s.cb s.sh s.made) 113),
  (s.cb,.cl [.map none,u64 0] 212),(s.sh,.pr (bB (eK .u64) s.SH)),
  (s.r,.cl [.map (some s.m)] 182),(s.m,.pr (bB eW s.G)),
  (s.p,.cl (bM s.d s.r s.lg s.Af s.nf s.cf s.kn s.wt s.pu s.dr s.pi 0 s.lst s.fl) 199),
  (s.kn,.pr (bB (eK .u32) s.K)),(s.wt,.pr (bB (eK .u32) (bF s.W))),(s.pi,.pr (bB (eK .u32) s.I)),
  (s.rs,.cl (dc s.d (100000:Int) (s.cm:Int) (s.cm:Int) s.dv) df),(s.lg,.cl [s.lv] 128),(s.lb,s.lsb),
  (s.d,.cl (bQ s.na s.nfm 200 (.slice none 0 0) s.steps) bT),(s.na,.cl (bE s.now) 166),(s.nfm,.cl (bE s.firm) 166),
  (0,.fa (bN s.Af s.nf s.cf s.L)),(0,.fa (PgsF s.K s.M)),(0,.fa (dw s.G c3.Kf)),
  (0,.fa (CF s.hb 0 (cX 1 1 s.wb s.wc))),(0,.fa (BF (some ⟨s.mb,0,none⟩) 16 s.mc c3.mark)),(0,.fa (BF (some ⟨s.wb,0,none⟩) 32 s.wc c3.wr)),
  (0,.fa (BF (some ⟨s.vk,0,none⟩) 32 s.vc c3.vkey)),(0,.fa (ShF 9 s.SH))]
abbrev hnd (k:Nat):Nat:=38654705664+(k+1)
theorem iU (k:Nat) (h:k<1000:=by omega):hnd k/4294967296=9:=by unfold hnd;omega
theorem gQ (k:Nat) (h:k<1000:=by omega):hnd k%4294967296=k+1:=by unfold hnd;omega
theorem kL (k:Nat) (h:k<1000:=by omega):hnd k<18446744073709551616:=by unfold hnd;omega
theorem v9 (r:Nat):(cM 0 r != 0)=false:=by
 have:(BitVec.ofInt IntKind.u8.bits ((0:Nat):Int) &&& ~~~BitVec.ofInt IntKind.u8.bits (r:Int))=0#_:=by
  rw [show BitVec.ofInt IntKind.u8.bits ((0:Nat):Int)=0#_ by rfl,BitVec.zero_and]
 unfold cM
 rw [this]
 rfl
structure lNew (y:NwX):Prop where
 vc:32≤y.vc
 rc:3≤y.rc
 tk:16≤y.tk
 L:RunsP y.o.L
 m:∀ m,bR y.o.L m↔2≤m∧m<200∧m∉([]:List Nat)
structure lCrd (s:VS) (v:Nat):Prop where
 ok:s.Ok c3
 vv:s.v=v
 rp:s.rp=0
 ch:s.ch=0
 cm:s.cm=1
 md:s.made=0
 sh:s.SH=[]
 mg:s.Mg=2
theorem H1 (y:NwX) (a:lNew y) (b sb:Nat) :
 TT 10 #[bi y.v,.agg #[i64 1,u32 9,sA sb 16 16,i64 20,i64 0,u64 0,u64 0,u64 0,u8 0,bp,bp,bp,bp,.bool false]] [(b,.fa (BF (pA sb) 16 16 (List.replicate 16 97)))] (qw 200 100000 3 (eB 1) (dO 1 1) y) (fun s:VS=>lCrd s y.v) (fun _=>.returned (cP 0 0 0 bp bp 0 bp)) (fun _=>deadL (qw 200 100000 3 (eB 1) (dO 1 1) y)) (fun s=>AL s):=
 (DG 200 100000 9 20 3 (eB 1) (List.replicate 16 97) (dO 1 1) (by decide) (by decide) (by decide) (by decide) (by decide) (by decide) (by decide) (by decide) rfl rfl rfl y a.vc a.rc a.tk (by decide) (by decide) a.L a.m b sb 0 16 (by decide)).lift [0] ((List.range 18).map (·+1)) (by kernel_rfl) (fun _=>sameAd_dead _) fun s h=>⟨s,⟨h.1,h.2.1,h.2.2.1,h.2.2.2.2.2.1,h.2.2.2.2.2.2.1,h.2.2.2.2.2.2.2.1,h.2.2.2.2.2.2.2.2.1,h.2.2.2.2.2.2.2.2.2.2.1⟩,rfl,(List.range 25).map (·+19),by kernel_rfl⟩
theorem IC (s:VS) (v:Nat) (hs:lCrd s v) (b sb:Nat) :
 TT 10 #[bi v,.agg #[i64 8,u32 9,sA sb 16 16,i64 0,i64 0,u64 0,u64 0,u64 0,u8 0,bp,bp,bp,bp,.bool false]] [(b,.fa (BF (pA sb) 16 16 (List.replicate 16 97)))] (AL s) (fun x:VS=>x.Lo c3 v (eQ 1 [(15,0)]) 0 0∧x.cct=1) (fun _=>.returned (cP 0 (hnd 0) 0 bp bp 0 bp)) (fun _=>deadL (AL s)) (fun x=>lH x):=by
 obtain ⟨ok,rfl,rp,ch,cm,md,sh,mg⟩:=hs
 exact (Ez c3 s ok l3 b sb 0 16 (List.replicate 16 97) rfl rfl (by decide)).lift [0] ((List.range 25).map (·+1)) (by kernel_rfl) (fun _=>sameAd_dead _) fun x h=>⟨x,by
  obtain ⟨a,rfl⟩:=h
  exact ⟨⟨⟨ok.att a,by show s.SH.length≤0;rw [sh];exact Nat.le_refl _,by show s.made≤0;omega,fun p hp=>by rw [show (s.att a).SH=[] from sh] at hp;exact absurd hp List.not_mem_nil,by show dV s.SH≤0;rw [sh];exact Nat.le_refl _,by show s.ch≤1;omega,by show s.cm≤1;omega,by show s.Mg≤2;omega⟩,fun h=>absurd rp h,rfl,rfl⟩,rfl⟩,rfl,(List.range 26).map (·+26),by kernel_rfl⟩
theorem VS.In.setA {c:VC} {s:VS} {i j:Nat} (h:s.In c i j) (ca cct:Nat) (A:List (Nat×Vl)):(s.setA ca cct A).In c i j:=⟨h.ok.setA ca cct A,h.sh,h.md,h.ks,h.sum,h.ch,h.cm,h.mg⟩
section
variable (s:VS) (v:Nat) (l:List (Nat×Nat)) (k rt r b:Nat)
theorem Fi (d:s.Lo c3 v (eQ 1 l) 0 0) (a:s.cct=l.length) (c:l[k]?=some (r,b)) (g:l.length<60) (e:¬ bits .and .u8 r 8=0) (hr:(cM rt r != 0)=false) :
 TT 10 #[bi v,.agg #[i64 9,u32 0,bp,i64 0,i64 0,u64 (hnd k:Nat),u64 0,u64 0,u8 rt,bp,bp,bp,bp,.bool false]] [] (lH s) (fun x:VS=>x.Lo c3 v (eQ 1 (l++[(rt,k+1)])) 0 0∧x.cct=l.length+1) (fun _=>.returned (cP 0 (hnd l.length) 0 bp bp 0 bp)) (fun _=>deadL (lH s)) (fun x=>lH x):=by
 have f:=cj c
 obtain ⟨hI,hkk,rfl,hA⟩:=d
 have T:=Fj c3 s (hnd k) rt l3 (kL k) (iU k) r b (by rw [hA,gQ k];exact jf c) (v9 r) e hr (by rw [hA,rW];omega) (by omega)
 rw [gQ k,a] at T
 exact T.lift [] (List.range 26) (by kernel_rfl) (fun _=>sameAd_dead _) fun x h=>⟨x,by
  subst h
  refine ⟨⟨hI.setA _ _ _,hkk,rfl,?_⟩,rfl⟩
  show up s.A (l.length+1) (hV rt (k+1))=_
  rw [hA,Nat.add_comm l.length 1]
  exact uZ l 1 (rt,k+1),rfl,(List.range 26).map (·+26),by kernel_rfl⟩
theorem xM (c:s.Lo c3 v (eQ 1 l) 0 0) (a:l[k]?=some (r,b)) (f:l.length<60) (d:bits .and .u8 r 8=0) :
 TT 10 #[bi v,.agg #[i64 9,u32 0,bp,i64 0,i64 0,u64 (hnd k:Nat),u64 0,u64 0,u8 rt,bp,bp,bp,bp,.bool false]] [] (lH s) (fun x:VS=>x=s) (fun _=>.returned (dt 250)) (fun _=>deadL (lH s)) (fun x=>lH x):=by
 have e:=cj a
 obtain ⟨hI,hkk,rfl,hA⟩:=c
 exact Ew c3 s (hnd k) rt (kL k) (iU k) r b (by rw [hA,gQ k];exact jf a) (v9 r) d
theorem xy (c:s.Lo c3 v (eQ 1 l) 0 0) (a:l[k]?=some (r,b)) (f:l.length<60) (d:¬ bits .and .u8 r 8=0) (hr:(cM rt r != 0)=true) :
 TT 10 #[bi v,.agg #[i64 9,u32 0,bp,i64 0,i64 0,u64 (hnd k:Nat),u64 0,u64 0,u8 rt,bp,bp,bp,bp,.bool false]] [] (lH s) (fun x:VS=>x=s) (fun _=>.returned (dt 250)) (fun _=>deadL (lH s)) (fun x=>lH x):=by
 have e:=cj a
 obtain ⟨hI,hkk,rfl,hA⟩:=c
 exact E3 c3 s (hnd k) rt (kL k) (iU k) r b (by rw [hA,gQ k];exact jf a) (v9 r) d hr
theorem IB (f:s.Lo c3 v (eQ 1 l) 0 0) (a:Giv l) (c:Nat) (h0:l[0]?=some (15,c)) (j:l.length<60) (n:Nat) (d:n<l.length) :
 TT 10 #[bi v,.agg #[i64 10,u32 0,bp,i64 0,i64 0,u64 (hnd 0:Nat),u64 (hnd n:Nat),u64 0,u8 0,bp,bp,bp,bp,.bool false]] [] (lH s) (fun x:VS×List (Nat×Vl)=>x.1.Lo c3 v x.2 0 0∧∀ (i:Nat) (p:Nat×Nat),l[i]?=some p→lk x.2 (i+1)=if jX l n (i+2) i=true then none else some (hV p.1 p.2)) (fun _=>.returned (cP 0 0 0 bp bp 0 bp)) (fun _=>deadL (lH s)) (fun x=>lH x.1):=by
 obtain ⟨hI,hkk,rfl,hA⟩:=f
 have g:l[n]?=some l[n]:=List.getElem?_eq_getElem d
 have T:=Bl c3 s (hnd 0) l3 (by decide) (by decide) (hnd n) (kL n) (by rw [iU n,iU 0]) 15 c l[n].1 l[n].2 (by rw [hA];exact uG l 1) (by rw [hA];exact a.hand (by omega)) (by rw [hA];exact a.handA) (by rw [hA];exact jf h0) (by rw [hA,gQ n];exact jf g) (v9 15) (by decide) (by rw [gQ n];omega) (by decide) (by
  rw [hA,gQ n]
  by_cases e:n=0
  · subst e;exact .inl rfl
  · exact .inr (qy a (n+1+1) n d (by omega) (by omega)))
 rw [gQ n] at T
 exact T.lift [] (List.range 26) (by kernel_rfl) (fun _=>sameAd_dead _) fun x h=>by
  obtain ⟨ca,B,rfl,hU,hBl,hB⟩:=h
  refine ⟨(s.setA ca s.cct B,B),⟨⟨hI.setA _ _ _,hkk,rfl,rfl⟩,fun i p hi=>?_⟩,rfl,(List.range 26).map (·+26),by kernel_rfl⟩
  have b:=cj hi
  rw [hB,hA,CD a n b,jf hi]
theorem C0 (A:List (Nat×Vl)) (i j:Nat) (e:s.Lo c3 v A i j) (f:k<60) (d a:Nat) (c:Bool) (hA:lk A (k+1)=if c=true then none else some (hV r b)) :
 TT 10 #[bi v,.agg #[i64 12,u32 0,bp,i64 0,i64 0,u64 (hnd k:Nat),u64 0,u64 0,u8 0,bp,cB a 0 1 1,bp,bp,.bool false]] [(d,.fa (BF (pA a) 1 1 [107]))] (lH s) (fun x:VS=>x.Lo c3 v A i j) (fun _=>.returned (dt (k4 c 1 r 7:Nat))) (fun _=>deadL (lH s)) (fun x=>lH x):=by
 obtain ⟨hI,hkk,rfl,rfl⟩:=e
 exact (GC c3 s (hnd k) l3 (kL k) (iU k) hI.ok d a 0 1 hkk c r b (by rw [gQ k];exact hA)).lift [0] ((List.range 26).map (·+1)) (by kernel_rfl) (fun _=>sameAd_dead _) fun x h=>⟨x,by subst h;exact ⟨hI,hkk,rfl,rfl⟩,rfl,(List.range 26).map (·+27),by kernel_rfl⟩
theorem DF (A:List (Nat×Vl)) (i j:Nat) (m:s.Lo c3 v A i j) (hi:i≤7) (n:j≤7) (o:k<60) (a c f g h d l:Nat) (new:UInt8) (e:Bool) (hA:lk A (k+1)=if e=true then none else some (hV r b)) :
 TT 10 #[bi v,.agg #[i64 11,u32 0,bp,i64 0,i64 0,u64 (hnd k:Nat),u64 0,u64 0,u8 0,sA d 1 l,bp,bp,bp,.bool false]] [(f,.fa (BF (pA a) 1 1 [120])),(g,.fa (BF (pA c) 1 1 [new])),(h,.fa (CF d 0 (dS a 0 1 1 (cB c 0 1 1) false)))] (lH s) (fun x:VS=>x.Lo c3 v A i (j+1)) (fun _=>.returned (dt (k4 e 2 r 0:Nat))) (fun _=>deadL (lH s)) (fun x=>lH x):=
 Hn c3 s (hnd k) l3 (kL k) (iU k) v i j A m hi n rfl (by decide) (by decide) a 0 1 f c 0 1 g h d l [new] rfl e r b (by rw [gQ k];exact hA)
theorem AM (A:List (Nat×Vl)) (i j:Nat) (c:s.Lo c3 v A i j) (hi:i≤7) (d:j≤8) (e:k<60) (a:Bool) (hA:lk A (k+1)=if a=true then none else some (hV r b)) :
 TT 10 #[bi v,.agg #[i64 14,u32 0,bp,i64 0,i64 0,u64 (hnd k:Nat),u64 0,u64 0,u8 0,bp,bp,bp,bp,.bool false]] [] (lH s) (fun x:VS×Nat=>x.1.Lo c3 v A (i+1) j) (fun x=>.returned (cP (k4 a 4 r 0:Nat) 0 x.2 bp bp 0 bp)) (fun _=>deadL (lH s)) (fun x=>lH x.1):=
 Dk c3 s (hnd k) l3 (kL k) (iU k) v i j A c hi d rfl a r b (by rw [gQ k];exact hA)
theorem I8 (A:List (Nat×Vl)) (i j:Nat) (a:s.Lo c3 v A i j) (hi:i≤7) (b:j≤8) :
 TT 10 #[bi v,.agg #[i64 2,u32 9,bp,i64 0,i64 0,u64 0,u64 0,u64 0,u8 0,bp,bp,bp,bp,.bool false]] [] (lH s) uT (fun _=>.returned (cP 0 0 0 bp bp 0 bp)) (fun _=>deadL (lH s)) (fun _=>[(v,.cl (bU 200 100000 (sA s.vk 32 s.vc) s.d s.rs s.lg true s.r s.p (s.cm+1) 0 0 0 1 0 s.al) 90),(s.al,.pr (MU []))]):=by
 obtain ⟨hI,hkk,rfl,hA⟩:=a
 have h1:=hI.sh
 have h2:=hI.ok.wle
 have h3:=hI.cm
 have h4:=hI.mg
 exact ID c3 s hI.ok l3 (by omega) (by omega) (by omega) (by omega) (by show s.cm<100000;omega)
end
abbrev vM (y:NwX) (Z:List Bs):HP:=[(y.v,.cl (bU 200 100000 (sA y.vk 32 y.vc) y.d y.rs y.lg true y.o.r y.o.p 0 0 0 0 1 0 y.o.al) 90),(y.d,.cl (bQ y.na y.nfm 200 (.slice none 0 0) 0) bT),(y.na,.cl (bE Z) 166),(y.nfm,.cl (bE Z) 166),(y.rs,.cl (dc y.d (100000:Int) 0 0 (sA y.ra 3 y.rc)) df),(y.ra,.pr (bG 0 [sA y.tb 16 y.tk])),(y.tb,.fa (BF (pA y.tb) 16 y.tk (dO 1 1))),(y.lg,.cl [.slice none 0 0] 128),(y.vk,.fa (BF (pA y.vk) 32 y.vc (eB 1))),(y.o.r,.cl [.map (some y.o.m)] 182),(y.o.m,.pr (bB eW [((0,1),sA y.o.kb 32 y.o.kc)])),(y.o.kb,.fa (BF (pA y.o.kb) 32 y.o.kc (bW (eB 1) 1 1))),(y.o.p,.cl (bM y.d y.o.r y.lg y.o.Af y.o.L.length y.o.c y.o.kn y.o.wt none none y.o.pi 0 0 false) 199),(y.o.kn,.pr (MU [])),(y.o.wt,.pr (MU (bF []))),(y.o.pi,.pr (MU [])),(y.o.fa,.fa (bN y.o.Af y.o.L.length y.o.c y.o.L)),(y.o.al,.pr (MU []))]
theorem Gr (kb d dr e a b c:Nat) :
 TT 9 #[.agg #[i64 200,u64 100000,sA dr 3 e,sA kb 32 32]] [(d,.fa (BF (pA kb) 32 32 (eB 1))),(dr,.pr (bG 0 [sA a 16 16,sA b 16 16,sA c 16 16])),(a,.pr (bG 0 ((dO 1 1).map B8))),(b,.pr (bG 0 ((dO 2 1).map B8))),(c,.pr (bG 0 ((dO 3 1).map B8)))] [] (fun x:NwX×List Bs=>lNew x.1∧x.2=List.replicate 200 (List.replicate 256 0)) (fun x=>.returned (.tuple #[bi x.1.v,i64 0])) (fun _=>[]) (fun x=>vM x.1 x.2):=
 (F7 200 100000 kb d dr e a b c (eB 1) (dO 1 1) (dO 2 1) (dO 3 1) rfl rfl rfl rfl (by decide) (by decide)).fw (φ2:=fun x:NwX×List (List UInt8)=>lNew x.1∧x.2=List.replicate 200 (List.replicate 256 0)) (e2:=fun x=>.returned (.tuple #[bi x.1.v,i64 0])) (HW2:=fun _=>[]) (HN2:=fun x=>vM x.1 x.2) rfl (fun _ h=>h) fun x h=>⟨(x,List.replicate 200 (List.replicate 256 0)),⟨⟨h.1.1,h.1.2.1,h.1.2.2,h.2.1,h.2.2⟩,rfl⟩,rfl,rfl,rfl,fun _ _ h=>h⟩
theorem FM (y:NwX) (Z:List Bs) (b:lNew y) (c:Z=List.replicate 200 (List.replicate 256 0)) (a sb:Nat) :
 TT 10 #[bi y.v,.agg #[i64 1,u32 9,sA sb 16 16,i64 20,i64 0,u64 0,u64 0,u64 0,u8 0,bp,bp,bp,bp,.bool false]] [(a,.fa (BF (pA sb) 16 16 (List.replicate 16 97)))] (vM y Z) (fun s:VS=>lCrd s y.v) (fun _=>.returned (cP 0 0 0 bp bp 0 bp)) (fun _=>deadL (vM y Z)) (fun s=>AL s):=by
 subst c
 exact H1 y b a sb
def IF (A:Option Addr) (n:Nat) (l:List Int):World→Prop:=fun w=>n=l.length∧(0<n→∃ b o,A=some ⟨b,o,none⟩∧∀ j,j<n→w.cell? ⟨b,o+j,none⟩=some (i64 (l.getD j 0)))
theorem qz {w w':World} {a:Addr} {u:Vl} (h:w.cell? a=some u) (e:a.block<w.heap.size→w'.heap[a.block]?=w.heap[a.block]?):w'.cell? a=some u:=by
 have b:a.block<w.heap.size:=by
  rcases Nat.lt_or_ge a.block w.heap.size with h1 | h1
  · exact h1
  · exfalso
    unfold World.cell? at h
    rw [Array.getElem?_eq_none h1] at h
    simp at h
 unfold World.cell? at h ⊢
 rw [e b]
 exact h
theorem BP {P:Program} {T:TypeId} (ha:∀ w,(isAgg T).run P w = .ok false w) (a b off n i:Nat) (l:List Int) (hi:i<l.length):Reads P (vS (Instr.loadAt T (.pointer (pO b (off+i*1))))) [(a,.fa (IF (pO b off) n l))] (i64 (l.getD i 0)):=fun w _ hf=>by
 obtain ⟨h1,h2⟩:=hf 0 a _ rfl
 obtain ⟨b',o',e,h5⟩:=h2 (by omega)
 injection e with e
 injection e with e1 e2
 subst e1;subst e2
 exact ce (oW (by rw [Nat.mul_one];exact h5 i (by omega)) ha)
def AH (p:World→Prop) (w:World):Prop:=∀ w':World,(∀ b,b<w.heap.size→w'.heap[b]?=w.heap[b]?)→p w'
theorem old_bf {w:World} {A:Option Addr} {n c:Nat} {l:Bs} (h:Rd w A n c l):AH (BF A n c l) w:=fun w' hw=>
 ⟨h.len,h.cap,h.max,fun h0=>by
  obtain ⟨b,o,e,k⟩:=h.at_ h0
  exact ⟨b,o,e,fun j hj=>qz (k j hj) (hw b)⟩⟩
theorem old_if {w:World} {A:Option Addr} {n:Nat} {l:List Int} (h:IF A n l w):AH (IF A n l) w:=fun w' hw=>
 ⟨h.1,fun h0=>by
  obtain ⟨b,o,e,k⟩:=h.2 h0
  exact ⟨b,o,e,fun j hj=>qz (k j hj) (hw b)⟩⟩
theorem law_in {P:Program} {f:FuncId} {args:Array Vl} {p q:World→Prop} {v:Vl} (T:Tri P f args [(0,.fa p),(0,.fa q)] [] uT (fun _=>.returned v) (fun _=>[]) (fun _=>[])) (w:World) (d:AH p w) (g:AH q w) :
 Calls P f args w fun e w'=>e = .returned v∧Below w.heap.size w w':=by
 have l:lv ([(0,SB.fa p),(0,SB.fa q)]++[])=[]:=rfl
 have c:∀ (j a:Nat) (s:SB),([(0,SB.fa p),(0,SB.fa q)]++[]:HP)[j]?=some (a,s)→s = .fa p∨s = .fa q:=fun j a s hj=>by
  have:=List.mem_of_getElem? hj
  simp at this
  rcases this with h | h
  · exact .inl h.2
  · exact .inr h.2
 refine (T (fun b=>b<w.heap.size) w ⟨fun i j b s t _ hi _ hs _=>?_,fun j b s hj hs=>?_⟩ ⟨fun b hb=>⟨hb,by rw [l];exact List.not_mem_nil⟩,fun j a r hj=>?_⟩).mono ?_
 · rcases c i b s hi with e | e <;> subst e <;> cases hs
 · rcases c j b s hj with e | e <;> subst e <;> cases hs
 · rcases c j a _ hj with e | e <;> injection e with e <;> subst e
   · exact d
   · exact g
 · rintro en w' ⟨x,K',-,he,-,hf,-⟩
   exact ⟨he,⟨hf.os,hf.tape,hf.output,hf.size,fun k hk=>hf.block k hk List.not_mem_nil⟩⟩
theorem wJ (t:TypeId) (x y:Operand) (p q:Int) (a b k:Nat) (c:IntKind.wrap .u64 p=(a:Int)) (d:IntKind.wrap .u64 q=(b:Int)) (hb:0<b) (e:a%b=k):Reads prog (vS (lX .rem t x y (.int .u64 (IntKind.wrap .u64 p)) (.int .u64 (IntKind.wrap .u64 q)))) [] (u64 k):=Reads.pure fun w=>by
 rw [c,d]
 show (Op.intDiv .rem .u64 a (b:Int)).run prog w=_
 unfold Op.intDiv
 rw [if_neg (by omega),← e,Int.ofNat_tmod]
 rfl
theorem rN (p:Int):IntKind.wrap .u64 p=((IntKind.wrap .u64 p).toNat:Int):=by
 rw [Int.toNat_of_nonneg]
 exact Int.emod_nonneg _ (by decide)
def g9 (n:Nat):List Vl:=(List.range n).map fun k=>u64 (hnd k:Int)
def it (l:List (Nat×Nat)):List Vl:=l.map fun p=>u8 p.1
def jy (l:List (Nat×Nat)):List Vl:=l.map fun p=>i64 ((p.2:Int)-1)
theorem vw {α:Type} (a:α):∃ k,a=k:=⟨a,rfl⟩
theorem wA {n k:Nat} (h:k<n):(g9 n)[k]?=some (u64 (hnd k:Int)):=by
 unfold g9
 rw [List.getElem?_map,List.getElem?_range h]
 rfl
theorem getD_some {l:List (Nat×Nat)} {k:Nat} (h:k<l.length):l[k]?=some ((l.getD k (0,0)).1,(l.getD k (0,0)).2):=by
 rw [List.getD_eq_getElem?_getD,List.getElem?_eq_getElem h]
 rfl
theorem yq (n:Nat):g9 n++[u64 (hnd n:Int)]=g9 (n+1):=by
 unfold g9
 rw [List.range_succ,List.map_append]
 rfl
theorem yw (l:List (Nat×Nat)) (a k:Nat):it l++[u8 a]=it (l++[(a,k)]):=by
 unfold it
 rw [List.map_append]
 rfl
theorem yt (l:List (Nat×Nat)) (a k:Nat):jy l++[i64 k]=jy (l++[(a,k+1)]):=by
 unfold jy
 rw [List.map_append]
 have:(((k+1:Nat):Int)-1)=(k:Int):=by omega
 simp [this]
theorem im (b n m c k:Nat) (h:k<m):Reads prog (vS (Instr.loadAt 25 (.pointer (pO b (0+k*1))))) [(b,.pr (bn 25 1 n c (g9 m)))] (u64 (hnd k:Int)):=
 cx b (0+k*1) 1 n c _ _ (fun w=>by kernel_rfl) (by rw [Nat.zero_add,Nat.mul_one];exact wA h)
theorem Bt (b n m c:Nat) (h:0<m):Reads prog (vS (Instr.loadAt 25 (.pointer (pA b)))) [(b,.pr (bn 25 1 n c (g9 m)))] (u64 38654705665):=
 cx b 0 1 n c _ _ (fun w=>by kernel_rfl) (wA h)
theorem jY (b n c k r a:Nat) (l:List (Nat×Nat)) (h:l[k]?=some (r,a)):Reads prog (vS (Instr.loadAt 38 (.pointer (pO b (0+k*1))))) [(b,.pr (bn 38 1 n c (it l)))] (u8 r):=
 cx b (0+k*1) 1 n c _ _ (fun w=>by kernel_rfl) (by rw [Nat.zero_add,Nat.mul_one];unfold it;rw [List.getElem?_map,h];rfl)
theorem ta (b n c k r a:Nat) (l:List (Nat×Nat)) (h:l[k]?=some (r,a)):Reads prog (vS (Instr.loadAt 3 (.pointer (pO b (0+k*1))))) [(b,.pr (bn 3 1 n c (jy l)))] (i64 ((a:Int)-1)):=
 cx b (0+k*1) 1 n c _ _ (fun w=>by kernel_rfl) (by rw [Nat.zero_add,Nat.mul_one];unfold jy;rw [List.getElem?_map,h];rfl)
section
variable (s:VS) (v n:Nat) (l:List (Nat×Nat)) (k rt r b:Nat)
theorem tI (c:s.Lo c3 v (eQ 1 l) 0 0) (d:n=l.length) (a:s.cct=n) (e:l[k]?=some (r,b)) (f:n<60) (g:¬ bits .and .u8 r 8=0) (hr:(cM rt r != 0)=false) :
 TT 10 #[bi v,.agg #[i64 9,u32 0,bp,i64 0,i64 0,u64 (hnd k:Nat),u64 0,u64 0,u8 rt,bp,bp,bp,bp,.bool false]] [] (lH s) (fun x:VS=>x.Lo c3 v (eQ 1 (l++[(rt,k+1)])) 0 0∧x.cct=n+1) (fun _=>.returned (cP 0 (hnd n) 0 bp bp 0 bp)) (fun _=>deadL (lH s)) (fun x=>lH x):=by
 subst d
 exact Fi s v l k rt r b c a e f g hr
end
theorem td {l:List (Nat×Nat)} (h:Giv l) (n:Nat):∀ (f f' i:Nat),i<f→i<f'→jX l n f i=jX l n f' i
 | 0,_,i,h1,_=>absurd h1 (Nat.not_lt_zero _)
 | _,0,i,_,h2=>absurd h2 (Nat.not_lt_zero _)
 | f+1,f'+1,i,h1,h2=>by
  rw [jX,jX]
  cases hp:l[i]? with
  | none=>rfl
  | some p=>
   have k:=h.le i p hp
   show (i==n||if p.2=0 then false else jX l n f (p.2-1))=(i==n||if p.2=0 then false else jX l n f' (p.2-1))
   by_cases e:p.2=0
   · rw [if_pos e,if_pos e]
   · rw [if_neg e,if_neg e,td h n f f' (p.2-1) (by omega) (by omega)]
def qr (l:List (Nat×Nat)) (n m:Nat):Bool:=if m=0 then false else jX l n (m+1) (m-1)
theorem Hw (l:List (Nat×Nat)) (n:Nat):qr l n 0=false:=rfl
theorem GD {l:List (Nat×Nat)} (h:Giv l) (n k r b:Nat) (a:l[k]?=some (r,b)):qr l n (k+1)=(k==n||qr l n b):=by
 unfold qr
 rw [if_neg (by omega),Nat.add_sub_cancel,jX,a]
 show (k==n||if b=0 then false else jX l n (k+1) (b-1))=_
 by_cases e:b=0
 · rw [if_pos e,if_pos e]
 · have:=h.le k _ a
   simp only at this
   rw [if_neg e,if_neg e,td h n (k+1) (b+1) (b-1) (by omega) (by omega)]
theorem FO {l:List (Nat×Nat)} (h:Giv l) (n j:Nat):qr l n (j+1)=jX l n (j+2) j:=by
 unfold qr
 rw [if_neg (by omega)]
 rfl
theorem we (r:Nat) (h:r<256):(cM 1 r != 0)=(bits .and .u8 r 1==0)∧(cM 2 r != 0)=(bits .and .u8 r 2==0)∧(cM 4 r != 0)=(bits .and .u8 r 4==0):=by
 have:∀ q:Fin 256,(cM 1 q.val != 0)=(bits .and .u8 q.val 1==0)∧(cM 2 q.val != 0)=(bits .and .u8 q.val 2==0)∧(cM 4 q.val != 0)=(bits .and .u8 q.val 4==0):=by decide +kernel
 exact this ⟨r,h⟩
section
variable (s:VS) (v k:Nat) (A:List (Nat×Vl)) (r b:Nat)
theorem HA (c:s.Lo c3 v A k k) (d:k<60) (hA:lk A (k+1)=none) (b a:Nat) :
 TT 10 #[bi v,.agg #[i64 12,u32 0,bp,i64 0,i64 0,u64 (hnd k:Nat),u64 0,u64 0,u8 0,bp,cB a 0 1 1,bp,bp,.bool false]] [(b,.fa (BF (pA a) 1 1 [107]))] (lH s) (fun x:VS=>x.Lo c3 v A k k) (fun _=>.returned (dt 7)) (fun _=>deadL (lH s)) (fun x=>lH x):=
 C0 s v k 0 0 A k k c d b a true hA
theorem G7 (d:s.Lo c3 v A k k) (e:k<60) (hr:r<256) (hA:lk A (k+1)=some (hV r b)) (c a:Nat) :
 TT 10 #[bi v,.agg #[i64 12,u32 0,bp,i64 0,i64 0,u64 (hnd k:Nat),u64 0,u64 0,u8 0,bp,cB a 0 1 1,bp,bp,.bool false]] [(c,.fa (BF (pA a) 1 1 [107]))] (lH s) (fun x:VS×Nat=>x.1.Lo c3 v A k k∧((x.2:Int)==250)=(bits .and .u8 r 1==0)) (fun x=>.returned (dt (x.2:Int))) (fun _=>deadL (lH s)) (fun x=>lH x.1):=
 (C0 s v k r b A k k d e c a false hA).lift [0] ((List.range 26).map (·+1)) (by kernel_rfl) (fun _=>sameAd_dead _) fun x h=>⟨(x,k4 false 1 r 7),⟨h,by
  rw [← (we r hr).1]
  unfold k4
  cases (cM 1 r != 0) <;> rfl⟩,rfl,(List.range 26).map (·+27),by kernel_rfl⟩
theorem Gt (i:s.Lo c3 v A k k) (d:k≤7) (hA:lk A (k+1)=none) (a b e f g c h:Nat) (new:UInt8) :
 TT 10 #[bi v,.agg #[i64 11,u32 0,bp,i64 0,i64 0,u64 (hnd k:Nat),u64 0,u64 0,u8 0,sA c 1 h,bp,bp,bp,.bool false]] [(e,.fa (BF (pA a) 1 1 [120])),(f,.fa (BF (pA b) 1 1 [new])),(g,.fa (CF c 0 (dS a 0 1 1 (cB b 0 1 1) false)))] (lH s) (fun x:VS=>x.Lo c3 v A k (k+1)) (fun _=>.returned (dt 7)) (fun _=>deadL (lH s)) (fun x=>lH x):=
 DF s v k 0 0 A k k i d d (by omega) a b e f g c h new true hA
theorem GV (l:s.Lo c3 v A k k) (e:k≤7) (hr:r<256) (hA:lk A (k+1)=some (hV r b)) (a c f g i d j:Nat) (new:UInt8) :
 TT 10 #[bi v,.agg #[i64 11,u32 0,bp,i64 0,i64 0,u64 (hnd k:Nat),u64 0,u64 0,u8 0,sA d 1 j,bp,bp,bp,.bool false]] [(f,.fa (BF (pA a) 1 1 [120])),(g,.fa (BF (pA c) 1 1 [new])),(i,.fa (CF d 0 (dS a 0 1 1 (cB c 0 1 1) false)))] (lH s) (fun x:VS×Nat=>x.1.Lo c3 v A k (k+1)∧((x.2:Int)==0)=(bits .and .u8 r 2 != 0)) (fun x=>.returned (dt (x.2:Int))) (fun _=>deadL (lH s)) (fun x=>lH x.1):=
 (DF s v k r b A k k l e e (by omega) a c f g i d j new false hA).lift [0,1,2] ((List.range 26).map (·+3)) (by kernel_rfl) (fun _=>sameAd_dead _) fun x h=>⟨(x,k4 false 2 r 0),⟨h,by
  show _ = !(bits .and .u8 (r:Int) 2==0)
  rw [← (we r hr).2.1]
  unfold k4
  cases (cM 2 r != 0) <;> rfl⟩,rfl,(List.range 26).map (·+29),by kernel_rfl⟩
theorem Dt (a:s.Lo c3 v A k (k+1)) (b:k≤7) (hA:lk A (k+1)=none) :
 TT 10 #[bi v,.agg #[i64 14,u32 0,bp,i64 0,i64 0,u64 (hnd k:Nat),u64 0,u64 0,u8 0,bp,bp,bp,bp,.bool false]] [] (lH s) (fun x:VS×Nat=>x.1.Lo c3 v A (k+1) (k+1)) (fun x=>.returned (cP 7 0 x.2 bp bp 0 bp)) (fun _=>deadL (lH s)) (fun x=>lH x.1):=
 AM s v k 0 0 A k (k+1) a b (by omega) (by omega) true hA
theorem Dj (a:s.Lo c3 v A k (k+1)) (c:k≤7) (hr:r<256) (hA:lk A (k+1)=some (hV r b)) :
 TT 10 #[bi v,.agg #[i64 14,u32 0,bp,i64 0,i64 0,u64 (hnd k:Nat),u64 0,u64 0,u8 0,bp,bp,bp,bp,.bool false]] [] (lH s) (fun x:VS×Nat×Nat=>x.1.Lo c3 v A (k+1) (k+1)∧((x.2.2:Int)==250)=(bits .and .u8 r 4==0)) (fun x=>.returned (cP (x.2.2:Int) 0 x.2.1 bp bp 0 bp)) (fun _=>deadL (lH s)) (fun x=>lH x.1):=
 (AM s v k r b A k (k+1) a c (by omega) (by omega) false hA).lift [] (List.range 26) (by kernel_rfl) (fun _=>sameAd_dead _) fun x h=>⟨(x.1,x.2,k4 false 4 r 0),⟨h,by
  rw [← (we r hr).2.2]
  unfold k4
  cases (cM 4 r != 0) <;> rfl⟩,rfl,(List.range 26).map (·+26),by kernel_rfl⟩
end
end Go.Proofs.YtlkeemedalncoaaGreat.En
