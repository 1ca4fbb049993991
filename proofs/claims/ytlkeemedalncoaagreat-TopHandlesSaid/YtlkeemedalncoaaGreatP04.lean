/- TopHandles, part 4: no condition. -/
import Derived.Deep.AppendLies
import Derived.Lib.AppendZeros
import Derived.Lib.SlBytesConst
import Derived.Laws.BitsAllLaws
import Derived.Test.YtlkeemedalncoaaGreatP03
set_option linter.all false
set_option maxHeartbeats 16000000
set_option maxRecDepth 100000
namespace Go.Proofs.YtlkeemedalncoaaGreat
open Go.RowKit
def Own (w:World) (H:Nat) (A:Option Addr) (n c:Nat) (l:List UInt8):Prop:=w.ownsRow H 5 1 (.slice A n c) n (l.map B8)
section
variable {w w':World} {H:Nat} {A:Option Addr} {n c:Nat} {l:List UInt8}
theorem Own.rd (h:Own w H A n c l):Rd w A n c l:=Rd.of_own h
theorem Own.nil (w:World) (H:Nat):Own w H none 0 0 []:=World.ownsRow_nil w H _ 1
end
theorem zM {w:World} {base:Nat} {e:TypeId} {size:Nat} {v:Value} {n:Nat} {xs:List Value} (h:w.ownsRow base e size v n xs):∃ A c,v = .slice A n c:=by
 rcases h.2 with ⟨hv,hn⟩ | ⟨g,cap,cur,hv,_⟩
 · exact ⟨none,0,by rw [hv,hn]⟩
 · exact ⟨_,cap,hv⟩
theorem Rd.part {w:World} {b o n c:Nat} {l:List UInt8} (h:Rd w (some ⟨b,o,none⟩) n c l) (i m a:Nat) (A:Option Addr) (hA:0<m→A=some ⟨b,o+i,none⟩) (f:i+m≤n) (hc:m≤a) (d:a≤maxLen):Rd w A m a ((l.drop i).take m):=
 ⟨by rw [List.length_take,List.length_drop,← h.len];omega,hc,d,fun h0=>by
  obtain ⟨b',o',e,hcell⟩:=h.at_ (by omega)
  injection e with e;injection e with e1 e2;subst e1;subst e2
  refine ⟨b,o+i,hA h0,fun j hj'=>?_⟩
  rw [Nat.add_assoc,hcell (i+j) (by omega)]
  have g:=h.len
  simp [List.getD,List.getElem?_take,List.getElem?_drop,hj']⟩
theorem CV {l:List UInt8}:∀ u∈l.map B8,u.oneCell'=true:=by
 intro u hu
 obtain ⟨_,_,rfl⟩:=List.mem_map.1 hu
 rfl
theorem Rd.news {w:World} {a:Addr} {m c:Nat} {l:List UInt8} (h:Rd w (some a) m c l):∀ j u,(l.map B8)[j]?=some u→w.cell? (a.add j)=some u:=by
 intro j u hj
 have d:j<l.length:=by simpa using (List.getElem?_eq_some_iff.1 hj).1
 obtain ⟨b,o,e,hc⟩:=h.at_ (by rw [h.len];omega)
 injection e with e
 subst e
 rw [Addr.add_lit,hc j (by rw [h.len];exact d)]
 simpa [List.getD,List.getElem?_eq_getElem d] using hj
theorem BW (T ty:TypeId) (hT:Tryz.prog.underlying T=some (.slice 5)) {w:World} {H:Nat} {A:Option Addr} {n c:Nat} {l:List UInt8} {g:Option Addr} {m d:Nat} {f:List UInt8}
 (h:Own w H A n c l) (o:Rd w g m d f) (hb:H≤w.heap.size) (s:n+m≤140737488355328) :
 ∃ A2 c2 w2,(Builtin.append_ #[T,T] ty #[.slice A n c,.slice g m d]).run Tryz.prog w = .ok (.slice A2 (n+m) c2) w2∧Own w2 H A2 (n+m) c2 (l++f)∧w.grownBy w2 (A.map (·.block))∧Below H w w2:=by
 obtain ⟨i0,hi,hz0,hz1,hz2⟩:=info_parts tc
 have i:Value.ownBlock (.slice A n c)=A.map (·.block):=by cases A <;> rfl
 have j:∀ v' w2,(Builtin.append_ #[T,T] ty #[.slice A n c,.slice g m d]).run Tryz.prog w = .ok v' w2→w2.ownsRow H 5 1 v' (n+m) (l.map B8++f.map B8)→w.grownBy w2 (Value.ownBlock (.slice A n c)) →
  ∃ A2 c2 w2,(Builtin.append_ #[T,T] ty #[.slice A n c,.slice g m d]).run Tryz.prog w = .ok (.slice A2 (n+m) c2) w2∧Own w2 H A2 (n+m) c2 (l++f)∧w.grownBy w2 (A.map (·.block))∧Below H w w2:=by
  intro v' w2 hr h2 h3
  obtain ⟨A2,c2,rfl⟩:=zM h2
  rw [← List.map_append] at h2
  refine ⟨A2,c2,w2,hr,h2,by rw [← i];exact h3,(Below.refl _ _).grown h3 hb fun k hk=>(World.ownsRow.lt h k hk).1⟩
 cases g with
 | some a=>
  obtain ⟨v',w2,hr,h2,h3,_⟩:=run_append_own (P:=Tryz.prog) w H T ty 5 i0 (.int .u8 0) 1 1 hT hi hz0 hz1 hz2 rfl (by decide) (.slice A n c) n (l.map B8) h a m d (f.map B8) (by have:=o.len;simp [this]) o.news CV (by unfold maxLen;omega) (by omega) hb
  exact j v' w2 hr h2 h3
 | none=>
  have q:m=0:=by
   rcases Nat.eq_zero_or_pos m with h0 | h0
   · exact h0
   · obtain ⟨_,_,e,_⟩:=o.at_ h0
     cases e
  subst q
  obtain rfl:f=[]:=List.eq_nil_of_length_eq_zero o.len.symm
  have b:n≤c:=h.rd.cap
  have h1:w.ownsRow H 5 1 (.slice A n c) n (l.map B8):=h
  refine j (.slice A n c) w ?_ (by simpa using h1) ⟨rfl,rfl,rfl,Nat.le_refl _,fun _ _ _=>rfl⟩
  have r:∀ k,(TypeDesc.slice 5)≠.int k:=by intro k hk;cases hk
  cases A with
  | none=>
   have p:=run_firstCells_none (P:=Tryz.prog) w i0.size 0 0 d
   simp [Builtin.append_,run_underlying hT,sizeOf,typeInfo,hi,Builtin.lenOf,b,p]
  | some a=>
   have p:=run_firstCells_none (P:=Tryz.prog) w i0.size 0 0 d
   simp [Builtin.append_,run_underlying hT,sizeOf,typeInfo,hi,Builtin.lenOf,b,p,storeCells]
theorem v7 (T:TypeId) (hT:Tryz.prog.underlying T=some (.slice 5)) {w:World} {d:Array Oper} {b:List Oper} {o:Oper} {a:Act} {Q:Exit→Act→World→Prop} (e:o.guard=none) (s x:Operand)
 (j:o.op = .call {callee:=.builtin .append,args:=#[s,x],argTypes:=#[T,T]}) {H:Nat} {A:Option Addr} {n c:Nat} {l:List UInt8} {f:Option Addr} {m g:Nat} {i:List UInt8} (hs:a.eval s = .slice A n c) (k:a.eval x = .slice f m g)
 (h:Own w H A n c l) (p:Rd w f m g i) (hb:H≤w.heap.size) (q:n+m≤140737488355328)
 (K:∀ A2 c2 w2,Own w2 H A2 (n+m) c2 (l++i)→w.grownBy w2 (A.map (·.block))→Below H w w2→wpList Tryz.prog d Q b (a.put o.dst (.slice A2 (n+m) c2)) w2):wpList Tryz.prog d Q (o::b) a w:=by
 obtain ⟨A2,c2,w2,hr,h2,h3,h4⟩:=BW T o.type hT h p hb q
 exact Lib.wpList_append_run w e s x T T j _ _ hs k _ _ hr (K A2 c2 w2 h2 h3 h4)
structure RdS (w:World) (A:Option Addr) (k c:Nat) (ls:List (List UInt8)):Prop where
 len:k=ls.length
 cap:k≤c
 max:c≤maxLen
 at_:0<k→∃ b o,A=some ⟨b,o,none⟩∧∀ j,j<k→∃ A' n' c',w.cell? ⟨b,o+j,none⟩=some (.slice A' n' c')∧Rd w A' n' c' (ls.getD j [])
def mC (ls:List (List UInt8)) (k:Nat):Nat:=((ls.take k).flatten).length
theorem ka (a:List (List UInt8)) (k:Nat) (h:k<a.length):(a.take (k+1)).flatten=(a.take k).flatten++a.getD k []:=by
 rw [List.take_succ_eq_append_getElem h,List.flatten_append]
 simp [List.getD,List.getElem?_eq_getElem h]
theorem rF (a:List (List UInt8)) (k:Nat) (h:k<a.length):mC a (k+1)=mC a k+(a.getD k []).length:=by
 unfold mC
 rw [ka a k h,List.length_append]
theorem wo (a:List (List UInt8)) (k:Nat):mC a k≤a.flatten.length:=by
 have e:a.flatten=(a.take k).flatten++(a.drop k).flatten:=by rw [← List.flatten_append,List.take_append_drop]
 unfold mC
 rw [e,List.length_append]
 omega
end Go.Proofs.YtlkeemedalncoaaGreat
namespace Go.Proofs.YtlkeemedalncoaaGreat.En
open Go Go.RowKit Go.Proofs.YtlkeemedalncoaaGreat Go.Proofs.Tryz
theorem GU {K:Nat→Prop} {w:World} {b off n c:Nat} {l:Bs} (h:Stab K (BF (pO b off) n c l) w) (d:0<n):K b:=by
 apply Classical.byContradiction
 intro hb
 have h1:=h {w with heap:=w.heap.setIfInBounds b (.cells #[] 0 (0,0))} (fun b' hb'=>by
  have:b'≠b:=fun e=>hb (e▸hb')
  rw [Array.getElem?_setIfInBounds_ne (Ne.symm this)])
 obtain ⟨h2,h3,h4,h5⟩:=h1
 obtain ⟨b',o',e,h6⟩:=h5 d
 injection e with e
 injection e with e1 e2
 subst e1;subst e2
 have a:=h6 0 d
 unfold World.cell? at a
 rcases Nat.lt_or_ge b w.heap.size with hl | hl
 · simp [hl] at a
 · simp [hl,Array.getElem?_eq_none hl] at a
theorem mo {w:World} {b off n c:Nat} {l:Bs} (h:Rd w (pO b off) n c l) (g:0<n):∃ o,w.heap[b]?=some o∧bG off (l.map B8) o:=by
 obtain ⟨h2,h3,h4,h5⟩:=h
 obtain ⟨b',o',e,h6⟩:=h5 g
 injection e with e
 injection e with e1 e2
 subst e1;subst e2
 have a:=h6 0 g
 unfold World.cell? at a
 cases hb:w.heap[b]? with
 | none=>rw [hb] at a;cases a
 | some o=>
  refine ⟨o,rfl,?_⟩
  cases o with
  | cells cur e fr=>
   refine ⟨cur,e,fr,rfl,fun j u hj=>?_⟩
   have d:j<l.length:=by have:=cj hj;simpa using this
   have f:=h6 j (by omega)
   unfold World.cell? at f
   rw [hb] at f
   simp at f
   rw [f]
   rw [List.getElem?_map,List.getElem?_eq_getElem d] at hj
   simp at hj
   rw [← hj]
   simp [List.getD,List.getElem?_eq_getElem d]
  | _=>rw [hb] at a;simp at a
theorem nT {s:Sem Next} {b off n c a:Nat} {l:Bs} {HW:HP} {X:Type} {φ:X→Prop} {v:X→Vl} {HW' HN:X→HP} (h:RunTri prog s [(b,.pr (bG off (l.map B8)))] HW φ v HW' HN) (k:0<n) (p:∀ x,de HW (HW' x)) (e:∀ x,φ x→noFa (HW' x++HN x)=true) :
 gq prog s [(a,.fa (BF (pO b off) n c l))] HW φ v HW' HN:=by
 intro K w ho hk
 have m:=hk.fac 0 a _ rfl
 have hb:=hk.off b (GU m k)
 obtain ⟨o,ho1,ho2⟩:=mo m.now k
 have f:lv ([(a,SB.fa (BF (pO b off) n c l))]++HW)=lv HW:=by rw [cy];rfl
 rw [f] at hb
 have d:Own ([(b,.pr (bG off (l.map B8)))]++HW) w:=by
  constructor
  · intro i j c' s' t hij hi hj hs ht
    cases i with
    | zero=>
     cases j with
     | zero=>exact hij rfl
     | succ j=>
      simp at hi hj
      obtain ⟨rfl,rfl⟩:=hi
      exact hb.2 (da hj ht)
    | succ i=>
     cases j with
     | zero=>
      simp at hi hj
      obtain ⟨rfl,rfl⟩:=hj
      exact hb.2 (da hi hs)
     | succ j=>
      exact ho.nd (i+1) (j+1) c' s' t hij (by simpa using hi) (by simpa using hj) hs ht
  · intro j c' s' hj hs
    cases j with
    | zero=>
     simp at hj
     obtain ⟨rfl,rfl⟩:=hj
     exact ⟨o,ho1,ho2⟩
    | succ j=>exact ho.at_ (j+1) c' s' (by simpa using hj) hs
 obtain ⟨nx,w',⟨x,h1,h2,h3,h4,h5⟩,hr⟩:=h w d
 obtain ⟨h6,h7⟩:=hk.calls h4 (p x) h5 (e x h1)
 refine ⟨nx,w',⟨x,K,h1,h2,?_,h4,h5,h6,h7⟩,hr⟩
 constructor
 · intro i j c' s' t hij hi hj hs ht
   have g:∀ (i:Nat) (c':Nat) (s':SB),([(a,SB.fa (BF (pO b off) n c l))]++HW' x++HN x)[i]?=some (c',s')→s'.live=true→([(b,SB.pr (bG off (l.map B8)))]++HW' x++HN x)[i]?=some (c',s'):=by
    intro i c' s' hi hs
    cases i with
    | zero=>simp at hi;obtain ⟨rfl,rfl⟩:=hi;cases hs
    | succ i=>simpa using hi
   exact h3.nd i j c' s' t hij (g i c' s' hi hs) (g j c' t hj ht) hs ht
 · intro j c' s' hj hs
   cases j with
   | zero=>simp at hj;obtain ⟨rfl,rfl⟩:=hj;cases hs
   | succ j=>exact h3.at_ (j+1) c' s' (by simpa using hj) hs
theorem lY {t:TypeId} (k m:Nat) (l:Bs):∀ o,(SB.cl (l.map B8) t).ok o→(SB.pr (bG k (((l.drop k).take m).map B8))).ok o:=
 fZ k _ fun j u h=>by
  rw [List.getElem?_map,List.getElem?_take,List.getElem?_drop] at h
  rw [List.getElem?_map]
  split at h
  · exact h
  · cases h
theorem cF {b o n c:Nat} {l:Bs} (k m a:Nat) (h1:k+m≤n:=by first | omega | decide | (simp;omega)) (h2:m≤a:=by first | omega | decide | (simp;omega)) (h3:a≤c:=by first | omega | decide | (simp;omega)):∀ w,BF (some ⟨b,o,none⟩) n c l w→BF (some ⟨b,o+k,none⟩) m a ((l.drop k).take m) w:=
 fun w h=>Rd.part h k m a _ (fun _=>rfl) h1 h2 (Nat.le_trans h3 h.max)
theorem db {A:Option Addr} {n c:Nat} {l:Bs} (w:World) (h:BF A n c l w):n=l.length∧n≤c∧c≤maxLen:=⟨h.len,h.cap,h.max⟩
theorem zx (l:Bs) {n:Nat} (h:n=l.length):(l.map B8).length=n*1:=by rw [List.length_map,Nat.mul_one,h]
theorem dy (g n c b off m d:Nat) (l a:Bs) (f:m=a.length:=by kernel_rfl) (hs:n+m≤1000000:=by omega) (h:0<n+m:=by omega) :
 RunTri prog (vS (Builtin.append_ #[27,27] 27 #[.slice (some ⟨g,0,none⟩) n c,.slice (some ⟨b,off,none⟩) m d])) [(b,.pr (bG off (a.map B8)))] [(g,.pr (bn 5 1 n c (l.map B8)))] (fun _:Nat×Nat=>True) (fun y=>.slice (some ⟨y.1,0,none⟩) (n+m) y.2) (fun _=>[(g,.dead)]) (fun y=>[(y.1,.pr (bn 5 1 (n+m) y.2 ((l++a).map B8)))]):=by
 have:=gw (P:=prog) (t:=27) (e:=5) (ty:=27) (k:=1) (by_:=1) (z:=u8 0) underlying27 (.slice (some ⟨g,0,none⟩) n c) (g,.pr (bn 5 1 n c (l.map B8))) n (l.map B8) (SlE.row 5 1 n (l.map B8) g c) b off m d (a.map B8) (zx a f) (dB _) (by simp only [maxLen];omega) (by kernel_rfl) (by kernel_rfl) (by kernel_rfl) (by omega) (by omega) h
 rw [← List.map_append] at this
 exact this
theorem vV (g n c b off m d a:Nat) (l e:Bs) (f:m=e.length) (h0:0<m) (hs:n+m≤1000000) :
 gq prog (vS (Builtin.append_ #[27,27] 27 #[sA g n c,sO b off m d])) [(a,.fa (BF (pO b off) m d e))] [(g,.pr (bn 5 1 n c (l.map B8)))] (fun _:Nat×Nat=>True) (fun y=>sA y.1 (n+m) y.2) (fun _=>[(g,.dead)]) (fun y=>[(y.1,.pr (bn 5 1 (n+m) y.2 ((l++e).map B8)))]):=
 nT (dy g n c b off m d l e f hs) h0 (fun _=>bD bH (by intro h;cases h)) (fun _ _=>rfl)
theorem gT (b off m d:Nat) (a:Bs) (c:m=a.length:=by kernel_rfl) (hs:m≤1000000:=by omega) (f:0<m:=by omega) :
 RunTri prog (vS (Builtin.append_ #[27,27] 27 #[.slice none 0 0,.slice (some ⟨b,off,none⟩) m d])) [(b,.pr (bG off (a.map B8)))] [] (fun _:Nat×Nat=>True) (fun y=>.slice (some ⟨y.1,0,none⟩) m y.2) (fun _=>[]) (fun y=>[(y.1,.pr (bn 5 1 m y.2 (a.map B8)))]):=
 kS (P:=prog) (t:=27) (e:=5) (ty:=27) (k:=1) (by_:=1) (z:=u8 0) underlying27 b off m d (a.map B8) (zx a c) (dB _) (by simp only [maxLen];omega) f
theorem tx (b off m d a:Nat) (c:Bs) (f:m=c.length) (e:0<m) (hs:m≤1000000) :
 gq prog (vS (Builtin.append_ #[27,27] 27 #[.slice none 0 0,sO b off m d])) [(a,.fa (BF (pO b off) m d c))] [] (fun _:Nat×Nat=>True) (fun y=>sA y.1 m y.2) (fun _=>[]) (fun y=>[(y.1,.pr (bn 5 1 m y.2 (c.map B8)))]):=
 nT (gT b off m d c f hs e) e (fun _=>bH) (fun _ _=>rfl)
theorem n6 (g b off m d:Nat) (a:Bs) (c:m=a.length) (hs:m≤1000000) (f:0<m) :
 RunTri prog (vS (Builtin.append_ #[27,27] 27 #[sA g 0 0,sO b off m d])) [(b,.pr (bG off (a.map B8)))] [(g,.cl [] 5)] (fun _:Nat×Nat=>True) (fun y=>sA y.1 m y.2) (fun _=>[(g,.dead)]) (fun y=>[(y.1,.pr (bn 5 1 m y.2 (a.map B8)))]):=
 qf (P:=prog) (t:=27) (e:=5) (ty:=27) (k:=1) (by_:=1) (z:=u8 0) underlying27 g b off m d (a.map B8) (zx a c) (dB _) (by simp only [maxLen];omega) f
theorem dY (g b off m d a:Nat) (c:Bs) (f:m=c.length) (e:0<m:=by omega) (hs:m≤1000000:=by omega) :
 gq prog (vS (Builtin.append_ #[27,27] 27 #[.slice (some ⟨g,0,none⟩) 0 0,.slice (some ⟨b,off,none⟩) m d])) [(a,.fa (BF (some ⟨b,off,none⟩) m d c))] [(g,.cl [] 5)] (fun _:Nat×Nat=>True) (fun y=>.slice (some ⟨y.1,0,none⟩) m y.2) (fun _=>[(g,.dead)]) (fun y=>[(y.1,.pr (bn 5 1 m y.2 (c.map B8)))]):=
 nT (n6 g b off m d c f hs e) e (fun _=>bD bH (by intro h;cases h)) (fun _ _=>rfl)
theorem yg {s:Sem Next} {L:HP} {v:Nat→Nat→Vl} {sb:Nat→SB} (g:∀ c,(sb c).isFa=false)
 (h:∀ w,(∀ (k b:Nat) (t:SB),L[k]?=some (b,t)→t.live=true→∃ o,w.heap[b]?=some o∧t.ok o)→(∀ (k a:Nat) (p:World→Prop),L[k]?=some (a,.fa p)→p w)→∃ o c,(sb c).ok o∧s.run prog w = .ok (.value (v w.heap.size c)) (w.drew.alloc o)) :
 gq prog s L [] (fun _:Nat×Nat=>True) (fun y=>v y.1 y.2) (fun _=>[]) (fun y=>[(y.1,sb y.2)]):=by
 intro K w ho hk
 have i:L++[]=L:=List.append_nil L
 rw [i] at ho hk
 obtain ⟨o,c,h1,h2⟩:=h w (fun k b t hb hl=>ho.at_ k b t hb hl) (fun k a p hp=>(hk.fac k a p hp).now)
 have j:Own (L++[]) w:=by rw [i];exact ho
 have d:=iG (HR:=L) (HW:=[]) (w1:=w.drew) (s:=sb c) j rfl h1 [] bH (fun k b s hk _=>by simp at hk)
 have e:Fr [] w (w.drew.alloc o):=jw (w1:=w.drew) (w:=w) rfl ⟨rfl,rfl,rfl⟩ o
 have f:∀ b∈lv [(w.heap.size,sb c)],w.heap.size≤b∨b∈lv ([]:HP):=by
  intro b hb
  obtain ⟨k,t,hk,_⟩:=fM hb
  cases k with
  | zero=>simp at hk;exact .inl (by omega)
  | succ k=>simp at hk
 have l:Kn K (L++[]) w:=by rw [i];exact hk
 obtain ⟨k1,k2⟩:=l.calls (HW':=[]) (HN:=[(w.heap.size,sb c)]) e bH f (by simp [En.noFa,g c])
 exact ⟨_,_,⟨(w.heap.size,c),K,trivial,.inl rfl,d,e,f,k1,k2⟩,h2⟩
theorem oe {w:World} {b off n c:Nat} {l:Bs} (h:Rd w (pO b off) n c l):∀ j u,(l.map B8)[j]?=some u→w.cell? ((⟨b,off,none⟩:Addr).add j)=some u:=by
 intro j u hj
 have a:j<l.length:=by have:=cj hj;simpa using this
 rw [Addr.add_lit,Rd.here h j a]
 rw [List.getElem?_map,List.getElem?_eq_getElem a] at hj
 simp at hj
 rw [← hj]
 simp [List.getD,List.getElem?_eq_getElem a]
theorem m5 {w:World} {g f n c b off m d:Nat} {l a:Bs} (k:n=l.length) (p:m=a.length) (hc:c<n+m) (hs:n+m≤1000000)
 (h1:∀ j u,(l.map B8)[j]?=some u→w.cell? ((⟨g,f,none⟩:Addr).add j)=some u) (h2:∀ j u,(a.map B8)[j]?=some u→w.cell? ((⟨b,off,none⟩:Addr).add j)=some u) :
 ∃ o c',(SB.pr (bn 5 1 (n+m) c' ((l++a).map B8))).ok o∧(vS (Builtin.append_ #[27,27] 27 #[sO g f n c,sO b off m d])).run prog w = .ok (.value (sA w.heap.size (n+m) c')) (w.drew.alloc o):=by
 have hi:∃ i,prog.info? 5=some i∧i.size=1∧i.bytes=1∧i.zero=some (u8 0):=by
  obtain ⟨i,h3,h4⟩:=Option.map_eq_some_iff.1 (show (prog.info? 5).map (fun i=>(i.size,i.bytes,i.zero))=some (1,1,some (u8 0)) by kernel_rfl)
  simp only [Prod.mk.injEq] at h4
  exact ⟨i,h3,h4⟩
 obtain ⟨i,i1,i2,i3,i4⟩:=hi
 have e:((l++a).map B8).length=(n+m)*1:=by rw [List.length_map,List.length_append];omega
 have hr:=run_append_grow (P:=prog) w 27 27 5 i (u8 0) underlying27 i1 i4 ⟨g,f,none⟩ n c (l.map B8) (by rw [List.length_map,i2];omega) h1 ⟨b,off,none⟩ m d (a.map B8) (by rw [List.length_map,i2];omega) h2 hc (by omega) (growslice_fits (by omega) (by rw [i3];omega))
 refine ⟨_,grownCap w (n+m) c 5,⟨_,rfl,?_,?_,grownCap_ge w (n+m) c 5,grownCap_le_maxLen w (n+m) c 5 (by simp only [maxLen];omega)⟩,ce hr⟩
 · have h:=grownCap_ge w (n+m) c 5
   simp only [Array.size_append,List.size_toArray,size_zeroCells,List.length_map,Value.cells,List.size_toArray,List.length_cons,List.length_nil]
   omega
 · simp only [Array.toList_append,List.append_assoc]
   rw [← List.append_assoc,← List.map_append,← e]
   exact List.take_left
theorem nC (g f n c b off m d:Nat) (l e:Bs) (hc:c<n+m) (hs:n+m≤1000000) (i:n=l.length:=by kernel_rfl) (j:m=e.length:=by kernel_rfl) :
 gq prog (vS (Builtin.append_ #[27,27] 27 #[.slice (some ⟨g,f,none⟩) n c,.slice (some ⟨b,off,none⟩) m d])) [(g,.pr (bG f (l.map B8))),(b,.pr (bG off (e.map B8)))] [] (fun _:Nat×Nat=>True) (fun y=>.slice (some ⟨y.1,0,none⟩) (n+m) y.2) (fun _=>[]) (fun y=>[(y.1,.pr (bn 5 1 (n+m) y.2 ((l++e).map B8)))]):=
 yg (v:=fun a c=>.slice (some ⟨a,0,none⟩) (n+m) c) (sb:=fun c=>.pr (bn 5 1 (n+m) c ((l++e).map B8))) (fun _=>rfl) fun w h _=>by
  obtain ⟨o,ho,hc1⟩:=h 0 g _ rfl rfl
  obtain ⟨o',ho',hc2⟩:=h 1 b _ rfl rfl
  exact m5 i j hc hs (dU ho hc1) (dU ho' hc2)
theorem Cm (g f n c b off m d a c0:Nat) (l e:Bs) (i:n=l.length) (j:m=e.length) (hc:c<n+m) (hs:n+m≤1000000) :
 gq prog (vS (Builtin.append_ #[27,27] 27 #[sO g f n c,sO b off m d])) [(a,.fa (BF (pO g f) n c0 l)),(b,.pr (bG off (e.map B8)))] [] (fun _:Nat×Nat=>True) (fun y=>sA y.1 (n+m) y.2) (fun _=>[]) (fun y=>[(y.1,.pr (bn 5 1 (n+m) y.2 ((l++e).map B8)))]):=
 yg (v:=fun a c=>.slice (some ⟨a,0,none⟩) (n+m) c) (sb:=fun c=>.pr (bn 5 1 (n+m) c ((l++e).map B8))) (fun _=>rfl) fun w h hf=>by
  obtain ⟨o',ho',hc2⟩:=h 1 b _ rfl rfl
  exact m5 i j hc hs (oe (hf 0 a _ rfl)) (dU ho' hc2)
theorem Bk (g f n c b off m d a i c0:Nat) (l e:Bs) (j:n=l.length) (k:m=e.length) (hc:c<n+m) (hs:n+m≤1000000) :
 gq prog (vS (Builtin.append_ #[27,27] 27 #[sO g f n c,sO b off m d])) [(a,.fa (BF (pO g f) n c0 l)),(i,.fa (BF (pO b off) m d e))] [] (fun _:Nat×Nat=>True) (fun y=>sA y.1 (n+m) y.2) (fun _=>[]) (fun y=>[(y.1,.pr (bn 5 1 (n+m) y.2 ((l++e).map B8)))]):=
 yg (v:=fun a c=>.slice (some ⟨a,0,none⟩) (n+m) c) (sb:=fun c=>.pr (bn 5 1 (n+m) c ((l++e).map B8))) (fun _=>rfl) fun w h hf=>
  m5 j k hc hs (oe (hf 0 a _ rfl)) (oe (hf 1 i _ rfl))
abbrev w4 (l:Bs) (o:Nat):Bs:=[l.getD o 0,l.getD (o+1) 0,l.getD (o+2) 0,l.getD (o+3) 0]
def kN (L:Bs) (j:Nat) (a b c d:UInt8):Bs:=(((L.set j a).set (j+1) b).set (j+2) c).set (j+3) d
theorem zk (L:Bs) (j:Nat) (a b c d:UInt8):(kN L j a b c d).length=L.length:=by simp [kN]
theorem pS (L:Bs) (i j:Nat) (v:UInt8) (h:i≠j):(L.set i v).getD j 0=L.getD j 0:=by
 rw [List.getD_eq_getElem?_getD,List.getElem?_set_ne h,← List.getD_eq_getElem?_getD]
theorem oP (l:Bs) (i:Nat) (h:i<l.length:=by omega):(l.map B8)[i]?=some (B8 (l.getD i 0)):=by
 rw [List.getElem?_map,List.getD_eq_getElem?_getD,List.getElem?_eq_getElem h]
 rfl
theorem Aw (l:Bs) (i:Nat) (h:i+4≤l.length):∀ j u,((w4 l i).map B8)[j]?=some u→(l.map B8)[i+j]?=some u:=by
 intro j u hj
 match j with
 | 0=>rw [← hj,Nat.add_zero,oP l i];rfl
 | 1=>rw [← hj,oP l (i+1)];rfl
 | 2=>rw [← hj,oP l (i+2)];rfl
 | 3=>rw [← hj,oP l (i+3)];rfl
 | j+4=>simp at hj
theorem xR (l:Bs) (j:Nat) (a b c d:UInt8) (h:j+4≤l.length):cW (l.map B8) j ([a,b,c,d].map B8)=(kN l j a b c d).map B8:=by
 apply List.ext_getElem?
 intro i
 have e:(l.map B8).length=l.length:=List.length_map _
 simp only [cW,kN,List.map_set,List.length_map,List.length_cons,List.length_nil]
 by_cases h1:i<j
 · rw [List.append_assoc,List.getElem?_append_left (by rw [List.length_take,e];omega),List.getElem?_take_of_lt h1,List.getElem?_set_ne (by omega),List.getElem?_set_ne (by omega),List.getElem?_set_ne (by omega),List.getElem?_set_ne (by omega)]
 · by_cases h2:i<j+4
   · rw [List.append_assoc,List.getElem?_append_right (by rw [List.length_take,e];omega),List.length_take,e,Nat.min_eq_left (by omega),List.getElem?_append_left (by simp;omega)]
     obtain ⟨m,rfl⟩:∃ m,i=j+m:=⟨i-j,by omega⟩
     rw [Nat.add_sub_cancel_left]
     match m with
     | 0=>simp [List.getElem?_set_ne,List.getElem?_set,e];omega
     | 1=>simp [List.getElem?_set_ne,List.getElem?_set,e];omega
     | 2=>simp [List.getElem?_set_ne,List.getElem?_set,e];omega
     | 3=>simp [List.getElem?_set_ne,List.getElem?_set,e];omega
     | m+4=>omega
   · rw [List.getElem?_append_right (by simp [e];omega),List.getElem?_drop,List.getElem?_set_ne (by omega),List.getElem?_set_ne (by omega),List.getElem?_set_ne (by omega),List.getElem?_set_ne (by omega)]
     congr 1
     simp [e]
     omega
theorem wB {T:TypeId} {d:TypeDesc} (a:prog.underlying T=some d) (b o:Nat) (l:Bs) (t:TypeId) (hd:d.isRow=true:=by kernel_rfl) (hi:(prog.info? T).map (·.size)=some 4:=by kernel_rfl) (h:o+4≤l.length:=by omega):Reads prog (vS (Instr.loadAt T (.pointer (some ⟨b,o,none⟩)))) [(b,.cl (l.map B8) t)] (.agg ((w4 l o).map B8).toArray):=
 u7 a hd b o _ _ t (by rw [hi];rfl) (Aw l o h)
theorem xv {T:TypeId} {d:TypeDesc} (e:prog.underlying T=some d) (a b off o n c:Nat) (l:Bs) (hd:d.isRow=true:=by kernel_rfl) (hi:(prog.info? T).map (·.size)=some 4:=by kernel_rfl) (h:o+4≤l.length:=by omega):Reads prog (vS (Instr.loadAt T (.pointer (some ⟨b,off+o,none⟩)))) [(a,.fa (BF (some ⟨b,off,none⟩) n c l))] (.agg ((w4 l o).map B8).toArray):=fun w _ hf=>by
 have hr:=hf 0 a _ rfl
 obtain ⟨ob,h1,h2⟩:=mo hr (by have:=hr.1;omega)
 exact ce (gI h1 (c7 off o (Aw l o h) ob h2) e hd (by rw [hi];rfl))
theorem Ao {T:TypeId} (hi:(prog.info? T).map (·.size)=some 4) (b o:Nat) (x y z u:UInt8) (l:Bs) (t:TypeId) (h:o+4≤l.length) :
 RunTri prog (uS (Instr.storeAt T (.pointer (pO b o)) (.agg ([x,y,z,u].map B8).toArray))) [] [(b,.cl (l.map B8) t)] uT (fun _=>undef) (fun _=>[(b,.cl ((kN l o x y z u).map B8) t)]) (fun _=>[]):=by
 have:=gy (P:=prog) (T:=T) b o (.agg ([x,y,z,u].map B8).toArray) ([x,y,z,u].map B8) (l.map B8) t (iX _) (by rw [hi];rfl) (dB _) (by simp;omega)
 rw [xR l o x y z u h] at this
 exact this
theorem c8 {T:TypeId} (b:Nat) (l:Bs) (a:List Vl) (t:TypeId) (n:Nat) (hi:(prog.info? T).map (·.size)=some n:=by kernel_rfl) (c:n=l.length:=by kernel_rfl) (hc:n=a.length:=by kernel_rfl) :
 RunTri prog (uS (Instr.storeAt T (.pointer (some ⟨b,0,none⟩)) (.agg (l.map B8).toArray))) [] [(b,.cl a t)] (fun _:Unit=>True) (fun _=>undef) (fun _=>[(b,.cl (l.map B8) t)]) (fun _=>[]):=
 kU (P:=prog) (T:=T) b (l.map B8) a t (by rw [List.length_map,← c];exact hi) (dB _) (by rw [List.length_map,← c,← hc])
theorem qX {e:Func} {ts:List Vl} {H:HP} {d:TypeDesc} (j b n a:Nat) (T t:TypeId) {l:Bs} (f:prog.underlying T=some d) (g:n=l.length) (h:e.results = #[.cell a T]:=by kernel_rfl) (c:(ts[a]?,H[j]?)=(some (.pointer (pA b)),some (b,.cl (l.map B8) t)):=by kernel_rfl) (hd:d.isRow=true:=by rfl) (hi:(prog.info? T).map (·.size)=some n:=by kernel_rfl) :
 ∀ w,Own H w→(results e ts.toArray).run prog w = .ok (.agg (l.map B8).toArray) w:=by
 intro w ho
 simp only [Prod.mk.injEq] at c
 obtain ⟨o,h1,h2⟩:=ho.at_ j b _ c.2 rfl
 have i:=iR (P:=prog) h1 (bA o h2) f hd (by rw [List.length_map,← g];exact hi)
 unfold results
 rw [h]
 simp [Sem.run_bind,c.1,asAddr,Result.andThen,i,Sem.run]
theorem pz {e:Func} {ts:List Vl} {H:HP} {d:TypeDesc} (j b n a k:Nat) (T t:TypeId) {l:Bs} {u:Vl} (f:prog.underlying T=some d) (g:e.results = #[.cell a T,.tmp k]:=by kernel_rfl) (c:(ts[a]?,ts[k]?,H[j]?)=(some (.pointer (pA b)),some u,some (b,.cl (l.map B8) t)):=by kernel_rfl) (hd:d.isRow=true:=by rfl) (hi:(prog.info? T).map (·.size)=some n:=by kernel_rfl) (h:n=l.length:=by omega) :
 ∀ w,Own H w→(results e ts.toArray).run prog w = .ok (.tuple #[.agg (l.map B8).toArray,u]) w:=by
 intro w ho
 simp only [Prod.mk.injEq] at c
 obtain ⟨o,h1,h2⟩:=ho.at_ j b _ c.2.2 rfl
 have i:=iR (P:=prog) h1 (bA o h2) f hd (by rw [List.length_map,← h];exact hi)
 unfold results
 rw [g]
 simp [Sem.run_bind,c.1,c.2.1,asAddr,Result.andThen,i,Sem.run]
theorem eq (κ a:IntKind) (n:Nat) (h:n≤1000000:=by omega):RunTri prog (vS (Instr.makeSlice 27 (.int κ (n:Int)) (.int a (n:Int)))) [] [] (fun _:Nat=>True) (fun b=>sA b n n) (fun _=>[]) (fun b=>[(b,.cl ((List.replicate n (0:UInt8)).map B8) 5)]):=by
 have:=og (P:=prog) (t:=27) (e:=5) (k:=1) (by_:=1) (z:=u8 0) (c0:=u8 0) underlying27 (by intro v hv;simpa [Value.cells] using hv) κ a n (by simp only [maxLen];omega)
 rw [Nat.mul_one] at this
 rw [List.map_replicate]
 exact this
theorem qt (κ a:IntKind) (n:Nat) (h:n≤1000000):RunTri prog (vS (Instr.makeSlice 369 (.int κ (n:Int)) (.int a (n:Int)))) [] [] (fun _:Nat=>True) (fun b=>sA b n n) (fun _=>[]) (fun b=>[(b,.cl ((List.replicate (4*n) (0:UInt8)).map B8) 450)]):=by
 have:=og (P:=prog) (t:=369) (e:=450) (k:=4) (by_:=4) (z:=.agg #[u8 0,u8 0,u8 0,u8 0]) (c0:=u8 0) underlying369 (by intro v hv;simpa [Value.cells] using hv) κ a n (by simp only [maxLen];omega)
 rw [Nat.mul_comm] at this
 rw [List.map_replicate]
 exact this
theorem e9 (g off c i b h m d:Nat) (l a:Bs) (t:TypeId) (j:off+m≤l.length) (n:m=a.length:=by kernel_rfl) (f:m≤c:=by omega) :
 RunTri prog (vS (Builtin.copy_ #[27,27] 3 #[.slice (some ⟨g,off,none⟩) c i,.slice (some ⟨b,h,none⟩) m d])) [(b,.pr (bG h (a.map B8)))] [(g,.cl (l.map B8) t)] (fun _:Unit=>True) (fun _=>i64 (m:Int)) (fun _=>[(g,.cl ((part l off a).map B8) t)]) (fun _=>[]):=by
 have:=gF (P:=prog) (dT:=27) (sT:=27) (ty:=3) (k:=1) underlying27 g off c i b h m d (l.map B8) (a.map B8) t (by rw [List.length_map,show Nat.min m c=m from Nat.min_eq_left f];omega) (by simp only [List.length_map];omega) (dB _)
 rw [show Nat.min m c=m from Nat.min_eq_left f] at this
 have e:cW (l.map B8) off (a.map B8)=(part l off a).map B8:=by simp [cW,part,List.map_take,List.map_drop]
 rw [e] at this
 exact this
theorem tA (e off g j b h m d a:Nat) (l f:Bs) (t:TypeId) (k:m=f.length) (h0:0<m) (i:m≤g) (c:off+m≤l.length) :
 gq prog (vS (Builtin.copy_ #[27,27] 3 #[sO e off g j,sO b h m d])) [(a,.fa (BF (pO b h) m d f))] [(e,.cl (l.map B8) t)] uT (fun _=>i64 m) (fun _=>[(e,.cl ((part l off f).map B8) t)]) (fun _=>[]):=
 nT (e9 e off g j b h m d l f t c k i) h0 (fun _=>bD bH id) (fun _ _=>rfl)
end Go.Proofs.YtlkeemedalncoaaGreat.En
namespace Go.Proofs.YtlkeemedalncoaaGreat.En
open Go Go.RowKit Go.Proofs.YtlkeemedalncoaaGreat
theorem p9 {x:Int} {n:Nat} (h:x=(n:Int)):x.fdiv (2^min (Int.toNat 32) IntKind.u64.bits)=((n/4294967296:Nat):Int):=by
 subst h
 show (n:Int).fdiv 4294967296=_
 rw [Int.fdiv_eq_ediv_of_nonneg _ (by decide)]
 omega
theorem sF {x:Int} {n:Nat} (h:x=(n:Int):=by rfl) (a:n<18446744073709551616:=by omega):bits .and .u64 x 4294967295=((n%4294967296:Nat):Int):=by
 subst h
 have:=u64_and_nat n 4294967295 a (by decide)
 rw [nat_mask32] at this
 exact this
theorem Jn {x y:Int} {n m:Nat} (h:x=((n*4294967296:Nat):Int)) (k:y=(m:Int)) (a:m<4294967296) (b:n<4294967296):bits .or .u64 x y=((n*4294967296+m:Nat):Int):=by
 subst h k
 have:=u64_or_nat (n*4294967296) m (by omega) (by omega)
 rw [nat_join 32 (n*4294967296) m (by omega) (by omega)] at this
 exact this
end Go.Proofs.YtlkeemedalncoaaGreat.En
namespace Go.Proofs.YtlkeemedalncoaaGreat.En
open Go Go.Proofs.YtlkeemedalncoaaGreat Go.Proofs.Tryz
section
variable {Q:QR} {K0:Nat→Prop} {w0:World} {M:List Nat} {st:ES}
theorem ib (f:Nat) (hs:List Nat) (n:Nat) (L:List (Bool×Bool)) (a:Alike L) (h:∀ nm:Nat→Nat,((sg prog f hs st n nm).eqs.map (·.1),(sg prog f hs st n nm).bqs)=((sg prog f hs st n nm).eqs.map (·.2),L)∧GW prog Q K0 w0 M (sg prog f hs st n nm).st):GW prog Q K0 w0 M st:=
 HB HG f n hs L a h
theorem oE {P:Program} (i:Nat) (h:GW P Q K0 w0 M (l2 st i)) (a:jK st=[i]:=by kernel_rfl):GW P Q K0 w0 M st:=
 HE [i] (by rw [a];rfl) fun r hr=>by
  rw [List.mem_singleton] at hr
  subst hr
  exact h
end
end Go.Proofs.YtlkeemedalncoaaGreat.En
namespace Go.Proofs.YtlkeemedalncoaaGreat.En
open Go Go.RowKit Go.Proofs.YtlkeemedalncoaaGreat Go.Proofs.Tryz
theorem mt (A B:List Vl) (x y:Vl) (k:Nat) (h:A.length=k):cW (A++x::B) k [y]=A++y::B:=by
 subst h
 simp [cW]
theorem wq (l:Bs) (k:Nat) (y:UInt8) (h:k<l.length):cW (l.map B8) k [B8 y]=(l.set k y).map B8:=by
 have e:l=l.take k++l.getD k 0::l.drop (k+1):=by
  rw [List.getD_eq_getElem?_getD,List.getElem?_eq_getElem h,Option.getD_some,List.getElem_cons_drop,List.take_append_drop]
 have e2:l.set k y=l.take k++y::l.drop (k+1):=by rw [List.set_eq_take_append_cons_drop,if_pos h]
 rw [e2]
 conv=>lhs;rw [e]
 simp only [List.map_append,List.map_cons]
 rw [mt _ _ _ _ _ (by simp;omega)]
theorem cn {P:Program} (b k:Nat) (l:Bs) (t:TypeId) (y:UInt8) (a:k<l.length:=by decide) (hi:(P.info? 5).map (·.size)=some 1:=by kernel_rfl) :
 RunTri P (uS (Instr.storeAt 5 (.pointer (some ⟨b,k,none⟩)) (B8 y))) [] [(b,.cl (l.map B8) t)] (fun _:Unit=>True) (fun _=>undef) (fun _=>[(b,.cl ((l.set k y).map B8) t)]) (fun _=>[]):=by
 have:=gy (P:=P) (T:=5) b k (B8 y) [B8 y] (l.map B8) t rfl hi (by intro v hv;rw [List.mem_singleton.1 hv];rfl) (by simp;omega)
 rw [wq l k y a] at this
 exact this
theorem IK (m:Nat) (x:UInt8) (h:m<72057594037927936):bits .or .u64 (IntKind.u64.wrap ((m:Int)*2^min (Int.toNat 8) IntKind.u64.bits)) (IntKind.u64.wrap (x.toNat:Int))=((256*m+x.toNat:Nat):Int):=by
 have a:=x.toNat_lt
 have e:IntKind.u64.wrap ((m:Int)*2^min (Int.toNat 8) IntKind.u64.bits)=((m*256:Nat):Int):=by
  rw [dK]
  show (m:Int)*256%18446744073709551616=_
  omega
 rw [e,dj,u64_or_nat _ _ (by omega) (by omega)]
 congr 1
 have:=Nat.two_pow_add_eq_or_of_lt (i:=8) (b:=x.toNat) (by omega) m
 rw [Nat.mul_comm m,← this]
theorem gm (b o n c a:Nat) (l:Bs) (h1:1≤n:=by omega) (g:n≤8:=by omega):Same 88 #[sO b o n c] [(a,.fa (BF (pO b o) n c l))] (.tuple #[u64 (b8 l:Int),i64 0]):=by
 refine iE func88<|fP 0 a (BF (pO b o) n c l) db fun ⟨fl,fc,fm⟩=>bK [2,2,0] (br (dF ((↑n:Int)>8)) (br (dF ((↑n:Int)<1)) bt))<|cY (X:=Nat) (fun k=>k≤n) (fun k=>n-k) 28 (fun k=>[(4,u64 (b8 (l.take k):Int)),(15,sO b o n c),(16,i64 n),(17,i64 k)]) (fun _=>[(a,.fa (BF (pO b o) n c l))]) 0 (by kernel_rfl) (Nat.zero_le _) fun k u J hk back=>?_
 rcases Nat.lt_or_ge k n with hlt | hge
 · have f:=rq l k (by omega)
   have d:=IK (b8 (l.take k)) (l.getD k 0) f
   have hs:=yf l k _ (by omega) rfl
   rw [← hs] at d
   exact bK [1,0] (br (dT ((↑k:Int)<(↑n:Int))) bt)<|rE (bL (t:=27) (e:=5) (k:=1) underlying27 .i64 b o n c k hlt) []<|rE (dH (T:=5) a b o n c k l) [0]<|bj [9999]<|vE 4 (u64 (bits .or .u64 (IntKind.wrap .u64 ((↑(b8 (List.take k l)):Int)*2^min (Int.toNat 8) (IntKind.bits .u64))) (IntKind.wrap .u64 ↑(UInt8.toNat (List.getD l k 0))))) (u64 ↑(b8 (List.take (k+1) l))) (by rw [d])<|vC 17 i64 (wI ((↑k:Int)+1) (k+1))<|back _ (k+1) (by omega) (by omega) (by kernel_rfl)
 · obtain rfl:k=n:=by omega
   have e:l.take k=l:=List.take_of_length_le (by omega)
   rw [e]
   exact bK [2,0] (br (dF ((↑k:Int)<(↑k:Int))) bt)<|rT ()
theorem zU (x y:UInt8):bits .or .u8 x.toNat (y.toNat:Int)=((x ||| y).toNat:Int):=by
 rw [u8_or_nat _ _ x.toNat_lt y.toNat_lt,UInt8.toNat_or]
theorem xq (a:Nat):((a:Int)==0)=(a==0):=by rw [Bool.eq_iff_iff];simp
theorem yp (b o n c a:Nat) (l:Bs):Same 104 #[sO b o n c] [(a,.fa (BF (pO b o) n c l))] (.bool (fB l)):=by
 refine iE func104<|fP 0 a (BF (pO b o) n c l) db fun ⟨fl,fc,fm⟩=>zE ?_
 have d:n≤9223372036854775807:=Nat.le_trans fc (Nat.le_trans fm (by decide))
 refine cY (X:=Nat) (fun k=>k≤n) (fun k=>n-k) 18 (fun k=>[(3,B8 (ir (l.take k))),(6,sO b o n c),(7,i64 n),(8,i64 k)]) (fun _=>[(a,.fa (BF (pO b o) n c l))]) 0 (by kernel_rfl) (Nat.zero_le _) fun k u J hk back=>?_
 rcases Nat.lt_or_ge k n with hlt | hge
 · have hs:=y9 l k _ (by omega) rfl
   exact bK [1,0] (br (dT ((↑k:Int)<(↑n:Int))) bt)<|rE (bL (t:=27) (e:=5) (k:=1) underlying27 .i64 b o n c k hlt) []<|rE (dH (T:=5) a b o n c k l) [0]<|zE<|vE 3 (u8 (bits .or .u8 ↑(UInt8.toNat (ir (List.take k l))) (↑(UInt8.toNat (List.getD l k 0)):Int))) (B8 (ir (List.take (k+1) l))) (by rw [zU,← hs])<|vC 8 i64 (wI ((↑k:Int)+1) (k+1))<|back _ (k+1) (by omega) (by omega) (by kernel_rfl)
 · obtain rfl:k=n:=by omega
   have e:l.take k=l:=List.take_of_length_le (by omega)
   have e2:(((ir l).toNat:Int)==0)=fB l:=by rw [xq,Bool.eq_iff_iff,beq_iff_eq,qj]
   rw [e]
   exact bK [2,0,0] (br (dF ((↑k:Int)<(↑k:Int))) bt)<|vE 2 (.bool ((↑(UInt8.toNat (ir l)):Int)==0)) (.bool (fB l)) (by rw [e2])<|rT ()
theorem oX (b o f g n c h a i:Nat) (l d:Bs) :
 Same 185 #[sO b o n c,sO f g n h] [(a,.fa (BF (pO b o) n c l)),(i,.fa (BF (pO f g) n h d))] (.bool (l==d)):=by
 refine iE func185<|fP 0 a (BF (pO b o) n c l) db fun ⟨fl,fc,fm⟩=>fP 1 i (BF (pO f g) n h d) db fun ⟨fl',fc',fm'⟩=>bK [2,0] (br (tF ((↑n:Int) != (↑n:Int))) bt) ?_
 have m:n≤9223372036854775807:=Nat.le_trans fc (Nat.le_trans fm (by decide))
 refine cY (X:=Nat) (fun k=>k≤n) (fun k=>n-k) 31 (fun k=>[(0,sO b o n c),(1,sO f g n h),(5,B8 (ir (eM (l.take k) (d.take k)))),(13,i64 n),(14,i64 k)]) (fun _=>[(a,.fa (BF (pO b o) n c l)),(i,.fa (BF (pO f g) n h d))]) 0 (by kernel_rfl) (Nat.zero_le _) fun k u J hk back=>?_
 rcases Nat.lt_or_ge k n with hlt | hge
 · have hs:ir (eM (l.take (k+1)) (d.take (k+1)))=ir (eM (l.take k) (d.take k)) ||| (l.getD k 0^^^d.getD k 0):=by rw [qg l d k _ _ (by omega) (by omega) rfl rfl,oF]
   exact bK [1,0] (br (dT ((↑k:Int)<(↑n:Int))) bt)<|bj [9999,0]<|tW (.pointer (pO b (o+k*1))) (bL (t:=27) (e:=5) (k:=1) underlying27 .i64 b o n c k hlt)<|tE (B8 (List.getD l k 0)) [0] [(a,.fa (BF (pO b o) n c l))] (dH (T:=5) a b o n c k l)<|zE<|tW (.pointer (pO f (g+k*1))) (bL (t:=27) (e:=5) (k:=1) underlying27 .i64 f g n h k hlt)<|tE (B8 (List.getD d k 0)) [1] [(i,.fa (BF (pO f g) n h d))] (dH (T:=5) i f g n h k d)<|zE<|vE 5 (u8 (bits .or .u8 ↑(UInt8.toNat (ir (eM (List.take k l) (List.take k d)))) (bits .xor .u8 ↑(UInt8.toNat (List.getD l k 0)) (↑(UInt8.toNat (List.getD d k 0)):Int)))) (B8 (ir (eM (List.take (k+1) l) (List.take (k+1) d)))) (by rw [hs,gz,zU])<|vC 14 i64 (wI ((↑k:Int)+1) (k+1))<|back _ (k+1) (by omega) (by omega) (by kernel_rfl)
 · obtain rfl:k=n:=by omega
   have e:l.take k=l:=List.take_of_length_le (by omega)
   have j:d.take k=d:=List.take_of_length_le (by omega)
   have e2:(((ir (eM l d)).toNat:Int)==0)=(l==d):=by rw [xq,yM l d (by omega)]
   rw [e,j]
   exact bK [2,0,0] (br (dF ((↑k:Int)<(↑k:Int))) bt)<|vE 4 (.bool ((↑(UInt8.toNat (ir (eM l d))):Int)==0)) (.bool (l==d)) (by rw [e2])<|rT ()
theorem GE (L:Bs) (k m:Nat) (x:UInt8) (a:L.length=k):(L++List.replicate (m+1) (0:UInt8)).set k x=L++[x]++List.replicate m 0:=by
 subst a
 rw [List.set_append_right _ _ (Nat.le_refl _),Nat.sub_self,List.replicate_succ,List.set_cons_zero,List.append_assoc]
 rfl
def j7 (l m:Bs) (k:Nat):Bs:=eM (l.take k) (m.take k)++List.replicate (l.length-k) 0
theorem BN (l m:Bs) (k:Nat) (h:l.length=m.length) (a:k≤l.length):(j7 l m k).length=l.length:=by
 simp [j7,lA];omega
theorem Gs (b o f g n c h a i:Nat) (l d:Bs) (h0:0<n) (h4:n≤1000000) :
 TT 292 #[sO b o n c,sO f g n h] [(a,.fa (BF (pO b o) n c l)),(i,.fa (BF (pO f g) n h d))] [] (fun _:Nat×Nat=>True) (fun x=>.returned (.tuple #[sA x.1 n x.2,i64 0])) (fun _=>[]) (fun x=>[(x.1,.pr (bn 5 1 n x.2 ((eM l d).map B8)))]):=by
 refine iE func292<|fP 0 a (BF (pO b o) n c l) db fun ⟨fl,fc,fm⟩=>fP 1 i (BF (pO f g) n h d) db fun ⟨fl',fc',fm'⟩=>bK [2,0] (br (tF ((↑n:Int) != (↑n:Int))) bt)<|xE (eq .i64 .i64 n h4) [] [] fun x _=>zE ?_
 have j:j7 l d 0=List.replicate n 0:=by simp [j7,eM,fl]
 refine qE 2 x (.cl ((List.replicate n 0).map B8) 5) (.cl ((j7 l d 0).map B8) 5) (by rw [j])<|cY (X:=Nat) (fun k=>k≤n) (fun k=>n-k) 35 (fun k=>[(0,sO b o n c),(1,sO f g n h),(6,sA x n n),(17,i64 n),(18,i64 k)]) (fun k=>[(a,.fa (BF (pO b o) n c l)),(i,.fa (BF (pO f g) n h d)),(x,.cl ((j7 l d k).map B8) 5)]) 0 (by kernel_rfl) (Nat.zero_le _) fun k u J hk back=>?_
 have m:=BN l d k (by omega) (by omega)
 rcases Nat.lt_or_ge k n with hlt | hge
 · have hs:(j7 l d k).set (0+k*1) (l.getD k 0^^^d.getD k 0)=j7 l d (k+1):=by
    rw [j7,j7,qg l d k _ _ (by omega) (by omega) rfl rfl,show l.length-k=l.length-(k+1)+1 by omega,show 0+k*1=k by omega]
    exact GE _ _ _ _ (by rw [lA];simp;omega)
   refine bK [1,0] (br (dT ((↑k:Int)<(↑n:Int))) bt)<|bj [9999,4]<|tW (.pointer (pO b (o+k*1))) (bL (t:=27) (e:=5) (k:=1) underlying27 .i64 b o n c k hlt)<|tE (B8 (List.getD l k 0)) [0] [(a,.fa (BF (pO b o) n c l))] (dH (T:=5) a b o n c k l)<|zE<|tW (.pointer (pO f (g+k*1))) (bL (t:=27) (e:=5) (k:=1) underlying27 .i64 f g n h k hlt)<|tE (B8 (List.getD d k 0)) [1] [(i,.fa (BF (pO f g) n h d))] (dH (T:=5) i f g n h k d)<|zE<|tW (.pointer (pO x (0+k*1))) (bL (t:=27) (e:=5) (k:=1) underlying27 .i64 x 0 n n k hlt)<|zE<|vE 31 (u8 (bits .xor .u8 ↑(UInt8.toNat (List.getD l k 0)) (↑(UInt8.toNat (List.getD d k 0)):Int))) (u8 ↑(UInt8.toNat (List.getD l k 0^^^List.getD d k 0))) (by simp only [gz]) ?_
   refine xE (cn x (0+k*1) (j7 l d k) 5 (List.getD l k 0^^^List.getD d k 0) (by omega)) [] [2] fun _ _=>?_
   generalize hL:List.set (j7 l d k) (0+k*1) (List.getD l k 0^^^List.getD d k 0)=L
   have p:List.length L=List.length (j7 l d k):=by rw [← hL,List.length_set]
   exact zE<|qE 2 x (.cl (List.map B8 L) 5) (.cl (List.map B8 (j7 l d (k+1))) 5) (by subst_vars;rw [hs])<|vC 18 i64 (wI ((↑k:Int)+1) (k+1))<|back _ (k+1) (by omega) (by omega) (by kernel_rfl)
 · obtain rfl:k=n:=by omega
   have e:j7 l d k=eM l d:=by rw [j7,List.take_of_length_le (by omega),List.take_of_length_le (by omega),fl,Nat.sub_self];simp
   rw [e]
   exact lE 2 x (.cl ((eM l d).map B8) 5) (.pr (bn 5 1 k k ((eM l d).map B8))) (py 5 1 k _ (by rw [List.length_map,lA];omega) (by unfold maxLen;omega))<|bK [2,0] (br (dF ((↑k:Int)<(↑k:Int))) bt)<|rT ((x,k)) 9999 [2]
theorem C7 (N s j:Nat) (h:j<s):(List.replicate (s-j) (0:UInt8)++be N j).set (s-j-1) (UInt8.ofNat (N/256^j))=List.replicate (s-(j+1)) 0++be N (j+1):=by
 rw [show s-(j+1)=s-j-1 by omega,List.set_append_left _ _ (by simp;omega)]
 obtain ⟨m,hm⟩:∃ m,s-j=m+1:=⟨s-j-1,by omega⟩
 rw [hm,Nat.add_sub_cancel,List.replicate_succ',List.set_append_right _ _ (by simp),List.length_replicate,Nat.sub_self,List.set_cons_zero,List.append_assoc]
 rfl
theorem wN (t:TypeId) (x y:Operand) (N m:Nat) (h:m≤64):Reads prog (vS (do eqGuard .shr t x y (.int .u64 N) (.int .i64 m);binOp .shr t (.int .u64 N) (.int .i64 m))) [] (u64 ((N/2^m:Nat):Int)):=Reads.pure fun w=>by
 have h1:¬ ((m:Int)<0):=by omega
 have h2:min m IntKind.u64.bits=m:=Nat.min_eq_left h
 have e:Op.shift .shr .u64 N .i64 m=pure (u64 ((N/2^m:Nat):Int)):=by
  simp only [Op.shift,if_neg h1,Int.toNat_natCast,h2]
  rw [Int.fdiv_eq_ediv_of_nonneg _ (Int.le_of_lt (Int.pow_pos (by decide)))]
  simp
 show (Sem.run _ (do pure ();Op.shift .shr .u64 (N:Int) .i64 (m:Int)) w)=_
 rw [e]
 rfl
theorem I3 (v:Nat):(v:Int).fdiv (2^min (Int.toNat 8) IntKind.u64.bits)=((v/256:Nat):Int):=by
 show (v:Int).fdiv 256=_
 rw [Int.fdiv_eq_ediv_of_nonneg _ (by decide)]
 omega
theorem gr (N s:Nat) (b:N<18446744073709551616:=by omega) (h1:1≤s:=by omega) (c:s≤8:=by omega) (a:s<8→N/2^(8*s)=0:=by omega) :
 TT 289 #[u64 (N:Int),i64 (s:Int)] [] [] (fun _:Nat×Nat=>True) (fun x=>.returned (.tuple #[.slice (some ⟨x.1,0,none⟩) s x.2,i64 0])) (fun _=>[]) (fun x=>[(x.1,.pr (bn 5 1 s x.2 ((be N s).map B8)))]):=by
 refine iE func289<|bK [2,2,0] (br (dF ((↑s:Int)>8)) (br (dF ((↑s:Int)<1)) bt)) ?_
 by_cases h:s<8
 refine ib 5 [1] 0 _ (br (show (decide ((↑s:Int)<8))=true by (simp;omega)) bt) fun _=>⟨by kernel_rfl,?_⟩
 refine vE 19 (i64 (IntKind.wrap .i64 (8*(↑s:Int)))) (i64 ↑(8*s)) (by rw [show IntKind.i64.wrap (8*(s:Int))=((8*s:Nat):Int) from di (by omega)])<|rE (wN 25 (.tmp 17) (.tmp 19) N (8*s) (by omega)) [] ?_
 rw [a h]
 refine bj [0,0] ?_
 rotate_left
 refine bK [2,0] (br (dF ((↑s:Int)<8)) bt) ?_
 all_goals
  refine xE (eq .i64 .i64 s) [] [] fun x _=>zE<|qE 0 x (.cl ((List.replicate s 0).map B8) 5) (.cl ((List.replicate (s-0) 0++be N 0).map B8) 5) (by rw [show List.replicate (s-0) (0:UInt8)++be N 0=List.replicate s 0 from List.append_nil _])<|vE 0 (u64 N) (u64 ((N/256^0:Nat):Int)) (by rw [Nat.pow_zero,Nat.div_one])<|vC 7 i64 (show IntKind.i64.wrap ((s:Int)-1)=(s:Int)-1-((0:Nat):Int) from (by rw [dl];omega))<|cY (X:=Nat) (fun j=>j≤s) (fun j=>s-j) 39 (fun j=>[(0,u64 ((N/256^j:Nat):Int)),(6,sA x s s),(7,i64 ((s:Int)-1-(j:Int)))]) (fun j=>[(x,.cl ((List.replicate (s-j) 0++be N j).map B8) 5)]) 0 (by kernel_rfl) (Nat.zero_le _) fun j u J hj back=>?_
  rcases Nat.lt_or_ge j s with hlt | hge
  · have hb:(List.replicate (s-j) (0:UInt8)++be N j).set (0+(s-j-1)*1) (UInt8.ofNat (N/256^j))=List.replicate (s-(j+1)) 0++be N (j+1):=by rw [Nat.zero_add,Nat.mul_one,C7 N s j hlt]
    have d:(List.replicate (s-j) (0:UInt8)++be N j).length=s:=by rw [List.length_append,List.length_replicate,cc];omega
    exact vE 7 (i64 ((↑s:Int)-1-(↑j:Int))) (i64 ↑(s-j-1)) (by rw [show (s:Int)-1-(j:Int)=((s-j-1:Nat):Int) by omega])<|bK [1,0,9999] (br (show (decide ((↑(s-j-1):Int)≥0))=true by kernel_rfl) bt)<|rE (bL (t:=27) (e:=5) (k:=1) underlying27 .i64 x 0 s s (s-j-1) (by omega)) []<|vC 34 u8 (show IntKind.wrap .u8 ↑(N/256^j)=(↑(N/256^j%256):Int) from (CQ rfl))<|vE 34 (u8 ↑(N/256^j%256)) (B8 (UInt8.ofNat (N/256^j))) (by rw [show ((N/256^j%256:Nat):Int)=((UInt8.ofNat (N/256^j)).toNat:Int) by rw [UInt8.toNat_ofNat']])<|xE (cn x (0+(s-j-1)*1) (List.replicate (s-j) 0++be N j) 5 (UInt8.ofNat (N/256^j)) (by omega)) [] [0] fun _ _=>zE<|qE 0 x (.cl (List.map B8 (List.set (List.replicate (s-j) 0++be N j) (0+(s-j-1)*1) (UInt8.ofNat (N/256^j)))) 5) (.cl (List.map B8 (List.replicate (s-(j+1)) 0++be N (j+1))) 5) (by rw [hb])<|vE 0 (u64 (Int.fdiv (↑(N/256^j):Int) (2^min (Int.toNat 8) (IntKind.bits .u64)))) (u64 ↑(N/256^(j+1))) (by rw [I3,Nat.div_div_eq_div_mul,← Nat.pow_succ])<|vE 7 (i64 (IntKind.wrap .i64 ((↑(s-j-1):Int)-1))) (i64 ((↑s:Int)-1-(↑(j+1):Int))) (by rw [show IntKind.i64.wrap (((s-j-1:Nat):Int)-1)=(s:Int)-1-((j+1:Nat):Int) by rw [dl];omega])<|back _ (j+1) (by omega) (by omega) (by kernel_rfl)
  · obtain rfl:j=s:=by omega
    have e:List.replicate (j-j) (0:UInt8)++be N j=be N j:=by rw [Nat.sub_self];rfl
    rw [e]
    exact lE 0 x (.cl ((be N j).map B8) 5) (.pr (bn 5 1 j j ((be N j).map B8))) (py 5 1 j _ (by rw [List.length_map,cc];omega) (by unfold maxLen;omega))<|bK [2,0] (br (dF ((↑j:Int)-1-(↑j:Int)≥0)) bt)<|rT ((x,j)) 9999 [0]
theorem Same.blk {f:FuncId} {args:Array Vl} {v:Vl} {a b:Nat} {p:World→Prop} {s:Obj→Prop} (h:Same f args [(a,.fa p)] v) (d:∀ w:World,(∃ o,w.heap[b]?=some o∧s o)→p w):Same f args [(b,.pr s)] v:=by
 intro K w ho hk
 obtain ⟨o,h1,h2⟩:=ho.at_ 0 b _ rfl rfl
 have e:Own ([(a,SB.fa p)]++[]) w:=by
  constructor
  · intro i j c s t hij hi hj _ _
    have:=cj hi;have:=cj hj;simp at *;omega
  · intro j c s hj hs
    have h0:j=0:=by have:=cj hj;simp at this;omega
    subst h0
    simp at hj
    obtain ⟨rfl,rfl⟩:=hj
    cases hs
 have k1:Kn (fun c=>K c∨c=b) ([(a,SB.fa p)]++[]) w:=⟨fun c hc=>⟨hc.elim (fun h=>(hk.off c h).1) fun h=>h▸dR h1,fun h=>by cases h⟩,fun j c q hj w' hw=>by
  have h0:j=0:=by have:=cj hj;simp at this;omega
  subst h0
  simp at hj
  obtain ⟨rfl,rfl⟩:=hj
  exact d w' ⟨o,(hw b (.inr rfl)).trans h1,h2⟩⟩
 refine (h _ w e k1).mono fun en w' ⟨x,K',hx,he,ho',hf,hn,_,_⟩=>?_
 obtain ⟨g1,g2⟩:=hk.calls (HW':=[]) (HN:=[]) hf bH (fun b hb=>by cases hb) rfl
 refine ⟨(),K,trivial,he,⟨fun i j c s t hij hi hj _ _=>by have:=cj hi;have:=cj hj;simp at *;omega,fun j c s hj hs=>?_⟩,hf,(fun b hb=>by cases hb),g1,g2⟩
 have h0:j=0:=by have:=cj hj;simp at this;omega
 subst h0
 simp at hj
 obtain ⟨rfl,rfl⟩:=hj
 exact ⟨o,(hf.block b (dR h1) (by simp [lv])).trans h1,h2⟩
theorem tJ {b off n c:Nat} {l:Bs} (a:n=l.length) (hc:n≤c) (d:c≤maxLen) (w:World):(∃ o,w.heap[b]?=some o∧bG off (l.map B8) o)→BF (pO b off) n c l w:=fun ⟨o,h1,h2⟩=>by
 refine ⟨a,hc,d,fun h0=>⟨b,off,rfl,fun k hk=>?_⟩⟩
 have:=dU h1 h2 k (B8 (l.getD k 0)) (by simp [List.getD,List.getElem?_eq_getElem (show k<l.length by omega)])
 rw [Addr.add_lit] at this
 exact this
theorem yv (b off n c:Nat) (l:Bs) (a:n=l.length) (hc:n≤c:=by omega) (d:c≤maxLen:=by decide) (h1:1≤n:=by omega) (e:n≤8:=by omega):Same 88 #[.slice (some ⟨b,off,none⟩) n c] [(b,.pr (bG off (l.map B8)))] (.tuple #[u64 (b8 l:Int),i64 0]):=
 (gm b off n c 0 l h1 e).blk (tJ a hc d)
theorem u4 (b off n c:Nat) (l:Bs) (a:n=l.length) (hc:n≤c) (d:c≤maxLen):Same 104 #[sO b off n c] [(b,.pr (bG off (l.map B8)))] (.bool (fB l)):=
 (yp b off n c 0 l).blk (tJ a hc d)
theorem jg {p:UInt8→Prop} (h:∀ i:Fin 256,p (UInt8.ofFin i)) (x:UInt8):p x:=h x.toFin
def jz (a:UInt8):UInt8:=if 128≤a then (a <<< 1)^^^27 else a <<< 1
theorem d0:∀ a:UInt8,(bits .and .u8 a.toNat 128 != 0)=decide (128≤a):=jg (by decide +kernel)
theorem d1:∀ a:UInt8,128≤a→bits .xor .u8 (IntKind.u8.wrap ((a.toNat:Int)*2^min (Int.toNat 1) IntKind.u8.bits)) 27=((jz a).toNat:Int):=jg (by decide +kernel)
theorem d2:∀ a:UInt8,¬ 128≤a→a.toNat*2%256=(jz a).toNat:=jg (by decide +kernel)
theorem EI (a:UInt8):Same 421 #[B8 a] [] (B8 (jz a)):=by
 refine cJ func421 (by kernel_rfl) fun w0 ho=>?_
 by_cases h:128≤a
 · have h0:=(d0 a).trans (decide_eq_true h)
   exact bK [1,0] (br h0 bt)<|vE 2 (u8 (bits .xor .u8 (IntKind.wrap .u8 ((↑(UInt8.toNat a):Int)*2^min (Int.toNat 1) (IntKind.bits .u8))) 27)) (B8 (jz a)) (by rw [d1 a h])<|rT ()
 · have h0:=(d0 a).trans (decide_eq_false h)
   exact bK [2,0] (br h0 bt)<|vC 2 u8 (show IntKind.wrap .u8 ((↑(UInt8.toNat a):Int)*2^min (Int.toNat 1) (IntKind.bits .u8))=(↑(UInt8.toNat a*2%256):Int) from (CQ (j5 rfl (by kernel_rfl))))<|vE 2 (u8 ↑(UInt8.toNat a*2%256)) (B8 (jz a)) (by rw [d2 a h])<|rT ()
def fv:Nat→UInt8→UInt8→UInt8→UInt8
 | 0,_,_,c=>c
 | k+1,a,b,c=>if b=0 then c else fv k (jz a) (b >>> 1) (if b &&& 1=1 then c^^^a else c)
theorem m0:∀ b:UInt8,((b.toNat:Int) != 0) = !decide (b=0):=jg (by decide +kernel)
theorem m1:∀ b:UInt8,(bits .and .u8 b.toNat 1 != 0)=decide (b &&& 1=1):=jg (by decide +kernel)
theorem m2:∀ b:UInt8,(b.toNat:Int).fdiv (2^min (Int.toNat 1) IntKind.u8.bits)=((b >>> 1).toNat:Int):=jg (by decide +kernel)
theorem m3:∀ b:UInt8,(b >>> 1).toNat=b.toNat/2:=jg (by decide +kernel)
theorem v6 (a b:UInt8):Same 397 #[B8 a,B8 b] [] (B8 (fv 8 a b 0)):=by
 refine iE func397<|zE<|cY (X:=Nat×UInt8×UInt8×UInt8) (fun x=>x.2.2.1.toNat<2^x.1∧fv x.1 x.2.1 x.2.2.1 x.2.2.2=fv 8 a b 0) (fun x=>x.1) 19 (fun x=>[(0,B8 x.2.1),(1,B8 x.2.2.1),(5,B8 x.2.2.2)]) (fun _=>[]) (8,a,b,0) (by kernel_rfl) ⟨b.toNat_lt,rfl⟩ fun ⟨k,p,q,c⟩ u J ⟨hk,hr⟩ back=>?_
 by_cases hq:q=0
 · have h0:((q.toNat:Int) != 0)=false:=by rw [m0,hq];rfl
   have e:c=fv 8 a b 0:=by rw [← hr];cases k <;> simp [fv,hq]
   exact bK [2,0] (br h0 bt)<|vE 4 (u8 ↑(UInt8.toNat c)) (B8 (fv 8 a b 0)) (by rw [e])<|rT ()
 · have h0:((q.toNat:Int) != 0)=true:=by rw [m0,decide_eq_false hq];rfl
   obtain ⟨k,rfl⟩:∃ j,k=j+1:=⟨k-1,by
    cases k with
    | zero=>exact absurd (UInt8.toNat_inj.1 (by simpa using hk)) hq
    | succ k=>rfl⟩
   have d:q.toNat<2^(k+1):=hk
   have f:(q >>> 1).toNat<2^k:=by rw [m3];rw [Nat.pow_succ] at d;omega
   have hr:fv (k+1) p q c=fv 8 a b 0:=hr
   rw [fv,if_neg hq] at hr
   by_cases h1:q &&& 1=1
   · have h2:=(m1 q).trans (decide_eq_true h1)
     rw [if_pos h1] at hr
     exact bK [1,0,1,0] (br h2 (br h0 bt))<|bv (EI p) [] []<|zE<|vE 1 (u8 (Int.fdiv (↑(UInt8.toNat q):Int) (2^min (Int.toNat 1) (IntKind.bits .u8)))) (B8 (q >>> 1)) (by rw [m2])<|vE 5 (u8 (bits .xor .u8 ↑(UInt8.toNat c) (↑(UInt8.toNat p):Int))) (B8 (c^^^p)) (by rw [gz])<|back _ (k,jz p,q >>> 1,c^^^p) ⟨f,hr⟩ (Nat.lt_succ_self k) (by kernel_rfl)
   · have h2:=(m1 q).trans (decide_eq_false h1)
     rw [if_neg h1] at hr
     exact bK [1,0,2,0] (br h2 (br h0 bt))<|bv (EI p) [] []<|zE<|vE 1 (u8 (Int.fdiv (↑(UInt8.toNat q):Int) (2^min (Int.toNat 1) (IntKind.bits .u8)))) (B8 (q >>> 1)) (by rw [m2])<|back _ (k,jz p,q >>> 1,c) ⟨f,hr⟩ (Nat.lt_succ_self k) (by kernel_rfl)
def iH:Nat→UInt8→Nat→UInt8→UInt8
 | 0,_,_,c=>c
 | k+1,a,n,c=>if n=0 then c else iH k (fv 8 a a 0) (n/2) (if n%2=1 then fv 8 c a 0 else c)
theorem p1 (n:Nat) (h:n<4294967296):bits .and .u32 n 1=((n%2:Nat):Int):=by
 have:=u32_and_nat n 1 h (by decide)
 rw [nat_mask1] at this
 exact this
theorem Ft (a:UInt8) (n:Nat) (d:n<4294967296):Same 354 #[B8 a,u32 n] [] (B8 (iH 32 a n 1)):=by
 refine iE func354<|zE<|cY (X:=Nat×UInt8×Nat×UInt8) (fun x=>x.2.2.1<2^x.1∧x.2.2.1<4294967296∧iH x.1 x.2.1 x.2.2.1 x.2.2.2=iH 32 a n 1) (fun x=>x.1) 20 (fun x=>[(0,B8 x.2.1),(1,u32 x.2.2.1),(5,B8 x.2.2.2)]) (fun _=>[]) (32,a,n,1) (by kernel_rfl) ⟨d,d,rfl⟩ fun ⟨k,p,q,c⟩ u J ⟨b,hb,hr⟩ back=>?_
 have hb:q<4294967296:=hb
 have b:q<2^k:=b
 rcases Nat.eq_zero_or_pos q with hq | hq
 · have h0:decide ((q:Int)>0)=false:=by rw [hq];rfl
   have e:c=iH 32 a n 1:=by rw [← hr];cases k <;> simp [iH,hq]
   exact bK [2,0] (br h0 bt)<|vE 4 (u8 ↑(UInt8.toNat c)) (B8 (iH 32 a n 1)) (by rw [e])<|rT ()
 · have h0:decide ((q:Int)>0)=true:=decide_eq_true (by omega)
   obtain ⟨k,rfl⟩:∃ j,k=j+1:=⟨k-1,by
    cases k with
    | zero=>rw [Nat.pow_zero] at b;omega
    | succ k=>rfl⟩
   have f:q/2<2^k:=by rw [Nat.pow_succ] at b;omega
   have hr:iH (k+1) p q c=iH 32 a n 1:=hr
   rw [iH,if_neg (by omega)] at hr
   have g:=p1 q hb
   have hs:(q:Int).fdiv (2^min (Int.toNat 1) IntKind.u32.bits)=((q/2:Nat):Int):=by
    show (q:Int).fdiv 2=_
    rw [Int.fdiv_eq_ediv_of_nonneg _ (by decide)]
    omega
   by_cases h1:q%2=1
   · have h2:(bits .and .u32 q 1 != 0)=true:=by rw [g,h1];rfl
     rw [if_pos h1] at hr
     exact bK [1,0,1,0] (br h2 (br h0 bt))<|bv (v6 c p) [] []<|zE<|bv (v6 p p) [] []<|zE<|vE 1 (u32 (Int.fdiv (↑q:Int) (2^min (Int.toNat 1) (IntKind.bits .u32)))) (u32 ↑(q/2)) (by rw [hs])<|back _ (k,fv 8 p p 0,q/2,fv 8 c p 0) ⟨f,(show q/2<4294967296 by omega),hr⟩ (Nat.lt_succ_self k) (by kernel_rfl)
   · have h2:(bits .and .u32 q 1 != 0)=false:=by rw [g,show q%2=0 by omega];rfl
     rw [if_neg h1] at hr
     exact bK [1,0,2,0] (br h2 (br h0 bt))<|bv (v6 p p) [] []<|zE<|vE 1 (u32 (Int.fdiv (↑q:Int) (2^min (Int.toNat 1) (IntKind.bits .u32)))) (u32 ↑(q/2)) (by rw [hs])<|back _ (k,fv 8 p p 0,q/2,c) ⟨f,(show q/2<4294967296 by omega),hr⟩ (Nat.lt_succ_self k) (by kernel_rfl)
def mO (b:UInt8) (n:Nat):UInt8:=UInt8.ofNat (b.toNat*2^n%256) ||| UInt8.ofNat (b.toNat/2^(8-n))
def HJ (b:UInt8) (n:Int):Int:=bits .or .u8 (IntKind.u8.wrap ((b.toNat:Int)*2^min (Int.toNat n) IntKind.u8.bits)) ((b.toNat:Int).fdiv (2^min (Int.toNat (IntKind.i64.wrap (8-n))) IntKind.u8.bits))
theorem r1 (n:Int) (h:n=1∨n=2∨n=3∨n=4) (b:UInt8):HJ b n=((mO b n.toNat).toNat:Int):=by
 rcases h with rfl | rfl | rfl | rfl <;> (revert b;exact jg (by decide +kernel))
theorem wg (b:UInt8) (n:Int) (h:n=1∨n=2∨n=3∨n=4:=by omega):Same 356 #[B8 b,i64 n] [] (B8 (mO b n.toNat)):=by
 have k:=r1 n h b
 rcases h with rfl | rfl | rfl | rfl
 all_goals
  exact cJ func356 (by kernel_rfl) fun w0 ho=>bj [9999,0]<|vE 4 (.int .u8 (HJ b _)) (B8 (mO b _)) (congrArg (Value.int .u8) k)<|rT ()
def cv (x:UInt8):UInt8:=let b:=iH 32 x 254 1;b^^^mO b (Int.toNat 1)^^^mO b (Int.toNat 2)^^^mO b (Int.toNat 3)^^^mO b (Int.toNat 4)^^^99
theorem iC (x:UInt8):Same 259 #[B8 x] [] (B8 (cv x)):=by
 refine iE func259<|zE<|eA (args:=#[u8 ↑(UInt8.toNat x)]) func355<|zE<|bv (Ft x 254 (by omega)) [] []<|zE<|eC (u8 ↑(UInt8.toNat (iH 32 x 254 1))) 9999<|zE<|bv (wg (iH 32 x 254 1) 1) [] []<|zE<|cE (wg (iH 32 x 254 1) 2) [] [] ?_
 intro _ _
 exact zE<|bv (wg (iH 32 x 254 1) 3) [] []<|zE<|bv (wg (iH 32 x 254 1) 4) [] []<|zE<|vE 2 (u8 (bits .xor .u8 (bits .xor .u8 (bits .xor .u8 (bits .xor .u8 (bits .xor .u8 ↑(UInt8.toNat (iH 32 x 254 1)) (↑(UInt8.toNat (mO (iH 32 x 254 1) (Int.toNat 1))):Int)) (↑(UInt8.toNat (mO (iH 32 x 254 1) (Int.toNat 2))):Int)) (↑(UInt8.toNat (mO (iH 32 x 254 1) (Int.toNat 3))):Int)) (↑(UInt8.toNat (mO (iH 32 x 254 1) (Int.toNat 4))):Int)) 99)) (B8 (cv x)) (by rw [gz,gz,gz,gz,show (99:Int)=((99:UInt8).toNat:Int) from rfl,gz];rfl)<|rT ()
def rc (n:Nat):UInt8:=iH 32 2 n 1
theorem Az (n:Nat) (h:n<4294967296):Same 354 #[u8 2,u32 n] [] (B8 (rc n)):=Ft 2 n h
def jQ:Bs:=[2,3,1,1,1,2,3,1,1,1,2,3,3,1,1,2]
def gi (c:Bs):Nat→Bs
 | 0=>[0,0,0,0]
 | j+1=>(gi c j).set (j/4) ((gi c j).getD (j/4) 0^^^fv 8 (jQ.getD j 0) (c.getD (j%4) 0) 0)
theorem nB (c:Bs):∀ j,(gi c j).length=4
 | 0=>rfl
 | j+1=>by rw [gi,List.length_set,nB c j]
def rS (i:Nat):Bs:=[jQ.getD (4*i) 0,jQ.getD (4*i+1) 0,jQ.getD (4*i+2) 0,jQ.getD (4*i+3) 0]
theorem Jw (i:Nat) (h:i<4):Reads prog (vS (Instr.index 454 (.agg (jQ.map B8).toArray) (i64 i))) [] (.agg ((rS i).map B8).toArray):=by
 obtain rfl | rfl | rfl | rfl:i=0∨i=1∨i=2∨i=3:=by omega
 all_goals exact Reads.pure (s:=Instr.index 454 (.agg (jQ.map B8).toArray) (i64 _)) fun w=>by kernel_rfl
theorem Jd (i k:Nat) (h:k<4):Reads prog (vS (Instr.index 450 (.agg ((rS i).map B8).toArray) (i64 k))) [] (B8 (jQ.getD (4*i+k) 0)):=by
 obtain rfl | rfl | rfl | rfl:k=0∨k=1∨k=2∨k=3:=by omega
 all_goals exact Reads.pure (s:=Instr.index 450 (.agg ((rS i).map B8).toArray) (i64 _)) fun w=>by kernel_rfl
theorem Jk (c:Bs) (hc:c.length=4):Same 357 #[.agg (jQ.map B8).toArray,.agg (c.map B8).toArray] [] (.agg ((gi c 16).map B8).toArray):=by
 refine iE func357<|bu [9999,9999,0] 4 fun nm=>cY (X:=Nat) (fun i=>i≤4) (fun i=>4-i) 33 (fun i=>[(3,bi (nm 1)),(4,bi (nm 2)),(5,bi (nm 3)),(10,.agg (jQ.map B8).toArray),(11,i64 i)]) (fun i=>[(nm 0,.cl (jQ.map B8) 454),(nm 1,.cl (c.map B8) 450),(nm 2,.cl [u8 0,u8 0,u8 0,u8 0] 450),(nm 3,.cl ((gi c (4*i)).map B8) 450)]) 0 (by kernel_rfl) (by omega) fun i u J hi backO=>?_
 have hi:i≤4:=hi
 rcases Nat.lt_or_ge i 4 with hlt | hge
 · refine bK [1,0] (br (dT ((↑i:Int)<4)) bt)<|rE (Jw i hlt) []<|bu [4,4] 1 fun nm1=>cY (X:=Nat) (fun k=>k≤4) (fun k=>4-k) 33 (fun k=>[(3,bi (nm 1)),(4,bi (nm 2)),(5,bi (nm 3)),(6,i64 i),(10,.agg (jQ.map B8).toArray),(11,i64 i),(15,.agg ((rS i).map B8).toArray),(16,i64 k)]) (fun k=>[(nm 0,.cl (jQ.map B8) 454),(nm 1,.cl (c.map B8) 450),(nm 2,.cl [u8 0,u8 0,u8 0,u8 0] 450),(nm 3,.cl ((gi c (4*i+k)).map B8) 450),(nm1 0,.cl ((rS i).map B8) 450)]) 0 (by kernel_rfl) (by omega) fun k u J b a=>?_
   have b:k≤4:=b
   rcases Nat.lt_or_ge k 4 with hkl | hkg
   · have d:=nB c (4*i+k)
     have hs:(gi c (4*i+k)).set (0+i*1) ((gi c (4*i+k)).getD (0+i*1) 0^^^fv 8 (jQ.getD (4*i+k) 0) (c.getD (0+k*1) 0) 0)=gi c (4*i+(k+1)):=by
      rw [show 4*i+(k+1)=4*i+k+1 by omega,gi,show 0+i*1=(4*i+k)/4 by omega,show 0+k*1=(4*i+k)%4 by omega]
     refine bK [1,0] (br (dT ((↑k:Int)<4)) bt)<|rE (Jd i k hkl) []<|zE<|bj [10,0]<|tW (.pointer (pO (nm 3) (0+i*1))) (ep (t:=450) (e:=5) (k:=1) (n:=4) underlying450 .i64 (nm 3) 0 i hlt)<|tE (B8 (List.getD (gi c (4*i+k)) (0+i*1) 0)) [3] [(nm 3,.cl (List.map B8 (gi c (4*i+k))) 450)] (du (T:=5) (nm 3) (0+i*1) (gi c (4*i+k)) 450 (by omega))<|zE<|tW (.pointer (pO (nm 1) (0+k*1))) (ep (t:=450) (e:=5) (k:=1) (n:=4) underlying450 .i64 (nm 1) 0 k hkl)<|tE (B8 (List.getD c (0+k*1) 0)) [1] [(nm 1,.cl (List.map B8 c) 450)] (du (T:=5) (nm 1) (0+k*1) c 450 (by omega))<|zE<|cE (v6 (List.getD jQ (4*i+k) 0) (List.getD c (0+k*1) 0)) [] [] ?_
     intro _ _
     generalize hz:fv 8 (List.getD jQ (4*i+k) 0) (List.getD c (0+k*1) 0) 0=z
     refine zE<|tW (.pointer (pO (nm 3) (0+i*1))) (ep (t:=450) (e:=5) (k:=1) (n:=4) underlying450 .i64 (nm 3) 0 i hlt)<|zE<|vE 28 (u8 (bits .xor .u8 ↑(UInt8.toNat (List.getD (gi c (4*i+k)) (0+i*1) 0)) (↑(UInt8.toNat z):Int))) (u8 ↑(UInt8.toNat (List.getD (gi c (4*i+k)) (0+i*1) 0^^^z))) (by simp only [gz])<|xE (cn (nm 3) (0+i*1) (gi c (4*i+k)) 450 (List.getD (gi c (4*i+k)) (0+i*1) 0^^^z) (by omega)) [] [3] fun _ _=>?_
     generalize hL:List.set (gi c (4*i+k)) (0+i*1) (List.getD (gi c (4*i+k)) (0+i*1) 0^^^z)=L
     have f:List.length L=List.length (gi c (4*i+k)):=by rw [← hL,List.length_set]
     exact zE<|qE 3 (nm 3) (.cl (List.map B8 L) 450) (.cl (List.map B8 (gi c (4*i+(k+1)))) 450) (by subst_vars;rw [hs])<|vC 16 i64 (wI ((↑k:Int)+1) (k+1))<|a _ (k+1) (by omega) (by omega) (by kernel_rfl)
   · obtain rfl:k=4:=by omega
     refine bj [0,0] ?_
     have a:=backO
     exact vC 11 i64 (wI ((↑i:Int)+1) (i+1))<|wE [0,1,2,3] 0 [(nm 0,.cl (List.map B8 jQ) 454),(nm 1,.cl (List.map B8 c) 450),(nm 2,.cl [u8 0,u8 0,u8 0,u8 0] 450),(nm 3,.cl (List.map B8 (gi c (4*i+4))) 450)]<|a _ (i+1) (by omega) (by omega) (by kernel_rfl)
 · obtain rfl:i=4:=by omega
   have d:=nB c 16
   exact bj [0,0]<|rE (cI (T:=450) underlying450 (nm 3) (gi c (4*4)) 450 4 (by kernel_rfl) (by kernel_rfl) (by kernel_rfl)) [3]<|xE (c8 (T:=450) (nm 2) (gi c (4*4)) ([u8 0,u8 0,u8 0,u8 0]) 450 4) [] [2] fun _ _=>zE<|iz (()) (.agg (List.toArray (List.map B8 (gi c (4*4))))) [] (qX 2 (nm 2) 4 4 450 450 underlying450 (by (simp [part];omega)))
theorem II (c:Bs) (hc:c.length=4):Same 264 #[.agg (c.map B8).toArray] [] (.agg ((gi c 16).map B8).toArray):=by
 have a:=nB c 16
 exact iE func264<|bu [9999,9999,9999,9999,9999,9999] 2 fun nm=>rE (cI (T:=450) underlying450 (nm 0) c 450 4) [0]<|bv (Jk c hc) [] []<|xE (c8 (T:=450) (nm 1) (gi c 16) ([u8 0,u8 0,u8 0,u8 0]) 450 4) [] [1] fun _ _=>zE<|iz (()) (.agg (List.toArray (List.map B8 (gi c 16)))) [] (qX 1 (nm 1) 4 2 450 450 underlying450 (by omega))
end Go.Proofs.YtlkeemedalncoaaGreat.En
