/- TopHandles, part 26: no condition. -/
import Derived.Test.YtlkeemedalncoaaGreatP25
set_option linter.all false
set_option maxHeartbeats 16000000
set_option maxRecDepth 100000
namespace Go.Proofs.YtlkeemedalncoaaGreat.En
open Go Go.RowKit Go.Proofs.YtlkeemedalncoaaGreat Go.Proofs.Tryz
abbrev dO (i f:UInt8):Bs:=[i,0,f,0,0,0,0,0,0,0,0,0,0,0,0,0]
abbrev eB (f:UInt8):Bs:=[f,0,0,0,0,0,0,0,0,0,0,0,0,0,0,0,0,0,0,0,0,0,0,0,0,0,0,0,0,0,0,0]
structure NwX where
 v:Nat
 d:Nat
 na:Nat
 nfm:Nat
 rs:Nat
 lg:Nat
 vk:Nat
 vc:Nat
 ra:Nat
 rc:Nat
 tb:Nat
 tk:Nat
 o:OpX
theorem Du:TT 7 #[i64 200,i64 3,u8 1] [] [] (fun x:(Nat×Nat×Nat)×Nat×Nat×Nat=>3≤x.2.2.2) (fun x=>.returned (.agg #[i64 200,u64 100000,sA x.2.2.1 3 x.2.2.2,sA x.2.1 32 32])) (fun _=>[]) (fun x=>[(x.2.1,.cl ((eB 1).map B8) 5),(x.1.1,.cl ((dO 1 1).map B8) 5),(x.1.2.1,.cl ((dO 2 1).map B8) 5),(x.1.2.2,.cl ((dO 3 1).map B8) 5),(x.2.2.1,.pr (bn 27 1 3 x.2.2.2 [sA x.1.1 16 16,sA x.1.2.1 16 16,sA x.1.2.2 16 16]))]):=by
 refine iE func7<|bu [] 1 fun nm=>xE (eq .i64 .i64 32) [] [] fun x _=>bu [9999,2,2,9999] 1 fun nm1=>xE (cn x 0 (List.replicate 32 0) 5 1) [] [1] fun _ _=>bj [9,0,0]<|xE (eq .i64 .i64 16) [] [] fun x1 _=>bj [9999,9999]<|xE (cn x1 0 (List.replicate 16 0) 5 1) [] [3] fun _ _=>bj [9999,9999]<|xE (cn x1 1 (List.set (List.replicate 16 0) 0 1) 5 0) [] [3] ?_
 intro _ _
 refine bj [9999]<|xE (cn x1 2 (List.set (List.set (List.replicate 16 0) 0 1) 1 0) 5 1) [] [3] fun _ _=>bu [2,9999] 1 fun nm2=>xV (gZ (t:=26) (e:=27) (ty:=26) (k:=1) (by_:=24) (z:=.slice none 0 0) underlying26 (nm2 0) 0 1 1 ([sA x1 16 16])) [4] [] (Views.less (.cl [sA x1 16 16] 27) bA Views.nil) fun ⟨x2,x3⟩ _=>fE 5 x2 (bn 27 1 1 x3 [sA x1 16 16]) bx fun hc=>bj [2,0,0]<|xE (eq .i64 .i64 16) [] [] fun x4 _=>bj [9999,9999]<|xE (cn x4 0 (List.replicate 16 0) 5 2) [] [6] fun _ _=>bj [9999,9999]<|xE (cn x4 1 (List.set (List.replicate 16 0) 0 2) 5 0) [] [6] ?_
 intro _ _
 refine bj [9999]<|xE (cn x4 2 (List.set (List.set (List.replicate 16 0) 0 2) 1 0) 5 1) [] [6] fun _ _=>bu [2,9999] 1 fun nm3=>xV (gH (t:=26) (e:=27) (ty:=26) (k:=1) (by_:=24) (z:=.slice none 0 0) underlying26 x2 1 x3 ([sA x1 16 16]) (nm3 0) 1 1 ([sA x4 16 16])) [7] [5] (Views.less (.cl [sA x4 16 16] 27) bA Views.nil) fun ⟨x5,x6⟩ _=>fE 8 x5 (bn 27 1 (1+1) x6 ([sA x1 16 16]++[sA x4 16 16])) bx fun hc1=>bj [2,0,0]<|xE (eq .i64 .i64 16) [] [] fun x7 _=>bj [9999,9999]<|xE (cn x7 0 (List.replicate 16 0) 5 3) [] [9] fun _ _=>bj [9999,9999]<|xE (cn x7 1 (List.set (List.replicate 16 0) 0 3) 5 0) [] [9] ?_
 intro _ _
 exact bj [9999]<|xE (cn x7 2 (List.set (List.set (List.replicate 16 0) 0 3) 1 0) 5 1) [] [9] fun _ _=>bu [2,9999] 1 fun nm4=>xV (gH (t:=26) (e:=27) (ty:=26) (k:=1) (by_:=24) (z:=.slice none 0 0) underlying26 x5 2 x6 ([sA x1 16 16]++[sA x4 16 16]) (nm4 0) 1 1 ([sA x7 16 16])) [10] [8] (Views.less (.cl [sA x7 16 16] 27) bA Views.nil) fun ⟨x8,x9⟩ _=>fE 11 x8 (bn 27 1 (2+1) x9 ([sA x1 16 16]++[sA x4 16 16]++[sA x7 16 16])) bx fun hc2=>bj [2,0,0,2,0]<|fE 11 x8 (bn 27 1 3 x9 [sA x1 16 16,sA x4 16 16,sA x7 16 16]) bx fun hcp=>rT ((x1,x4,x7),x,x8,x9) 0 [1,3,6,9,11] rfl hcp
theorem F7 (N lim kb y dr z g i k:Nat) (vkey a q s:Bs) (t:32=vkey.length) (h0:a.length=16) (h1:q.length=16) (h2:s.length=16) (b:8≤N) (f:N≤4096) :
 TT 9 #[.agg #[i64 N,u64 lim,sA dr 3 z,sA kb 32 32]] [(y,.fa (BF (pA kb) 32 32 vkey)),(dr,.pr (bG 0 [sA g 16 16,sA i 16 16,sA k 16 16])),(g,.pr (bG 0 (a.map B8))),(i,.pr (bG 0 (q.map B8))),(k,.pr (bG 0 (s.map B8)))] [] (fun x:NwX=>(32≤x.vc∧3≤x.rc∧16≤x.tk)∧RunsP x.o.L∧∀ m,bR x.o.L m↔2≤m∧m<N∧m∉([]:List Nat)) (fun x=>.returned (.tuple #[bi x.v,i64 0])) (fun _=>[])
  (fun x=>[(x.v,.cl (bU N lim (sA x.vk 32 x.vc) x.d x.rs x.lg true x.o.r x.o.p 0 0 0 0 1 0 x.o.al) 90),(x.d,.cl (bQ x.na x.nfm N (.slice none 0 0) 0) bT),(x.na,.cl (bE (List.replicate N (List.replicate 256 0))) 166),(x.nfm,.cl (bE (List.replicate N (List.replicate 256 0))) 166),(x.rs,.cl (dc x.d (lim:Int) 0 0 (sA x.ra 3 x.rc)) df),(x.ra,.pr (bG 0 [sA x.tb 16 x.tk])),(x.tb,.fa (BF (pA x.tb) 16 x.tk a)),(x.lg,.cl [.slice none 0 0] 128),(x.vk,.fa (BF (pA x.vk) 32 x.vc vkey)),(x.o.r,.cl [.map (some x.o.m)] 182),(x.o.m,.pr (bB eW [((0,1),sA x.o.kb 32 x.o.kc)])),(x.o.kb,.fa (BF (pA x.o.kb) 32 x.o.kc (bW vkey 1 1))),(x.o.p,.cl (bM x.d x.o.r x.lg x.o.Af x.o.L.length x.o.c x.o.kn x.o.wt none none x.o.pi 0 0 false) 199),(x.o.kn,.pr (MU [])),(x.o.wt,.pr (MU (bF []))),(x.o.pi,.pr (MU [])),(x.o.fa,.fa (bN x.o.Af x.o.L.length x.o.c x.o.L)),(x.o.al,.pr (MU []))]):=by
 refine cJ func9 (by kernel_rfl) fun w0 ho=>?_
 have w:0<32:=by omega
 refine bu [9999,5,0,0,5] 1 fun nm=>cE (Dw N b f) [] [] fun ⟨x,x1,x2⟩ _=>bj [0,0,5,5]<|cE (F6 x dr z g i k ((↑lim:Int)) a q s h0 h1 h2) [1,2,3,4] [] fun ⟨x3,x4,x5,x6,x7,x8⟩ ⟨hx,hx1,hx2⟩=>?_
 try dsimp only at hx hx1 hx2
 refine fE 10 x4 (bn 27 1 3 x5 (sA x6 16 x7::x8)) bx fun hc=>fE 11 x6 (bn 5 1 16 x7 (List.map B8 a)) bx fun hc=>bj [0,0,5]<|cE (lD kb 0 32 32 y vkey t w) [0] [] fun ⟨x9,x10⟩ _=>bj [5,5]<|bj [9999,0,5]<|cE zZ [] [] fun x11 _=>bu [9999,9999] 1 fun nm1=>fP 12 x9 (BF (pA x9) 32 x10 vkey) db fun ⟨fl,fc,fm⟩=>cE (AI (nm1 0) N lim x x3 x11 x9 x10 x9 x1 x2 vkey fl fc b f 0 ((↑lim:Int)) (sA x4 3 x5)) [12,9,6,7] [14] fun x12 ⟨hx3,hx4⟩=>zE ?_
 refine fP 12 x9 (BF (pA x9) 32 x10 vkey) db fun ⟨_,hvc,_⟩=>eh (e:=5) (n:=16) (c:=x7) (l:=a) 11 x6 h0.symm<|lE 10 x4 (.pr (bn 27 1 3 x5 (sA x6 16 x7::x8))) (.pr (bG 0 [sA x6 16 x7])) (lC 0 _ (fun j u h=>by cases j with | zero=>simpa using h | succ j=>simp at h)) ?_
 have A:3≤x5:=by assumption
 have B:16≤x7:=by assumption
 exact rT (⟨nm1 0,x,x1,x2,x3,x11,x9,x10,x4,x5,x6,x7,x12⟩:NwX) 9999 [14,6,7,8,9,10,11,13,12,15,16,17,18,19,20,21,22,23] rfl ⟨⟨hvc,A,B⟩,by first | assumption | exact ⟨by assumption,by assumption⟩⟩
theorem DH:TT 7 #[i64 100,i64 5,u8 0] [] [] (fun x:(Nat×Nat×Nat×Nat×Nat)×Nat×Nat×Nat=>5≤x.2.2.2) (fun x=>.returned (.agg #[i64 100,u64 100000,sA x.2.2.1 5 x.2.2.2,sA x.2.1 32 32])) (fun _=>[]) (fun x=>[(x.2.1,.cl ((eB 0).map B8) 5),(x.1.1,.cl ((dO 1 0).map B8) 5),(x.1.2.1,.cl ((dO 2 0).map B8) 5),(x.1.2.2.1,.cl ((dO 3 0).map B8) 5),(x.1.2.2.2.1,.cl ((dO 4 0).map B8) 5),(x.1.2.2.2.2,.cl ((dO 5 0).map B8) 5),(x.2.2.1,.pr (bn 27 1 5 x.2.2.2 [sA x.1.1 16 16,sA x.1.2.1 16 16,sA x.1.2.2.1 16 16,sA x.1.2.2.2.1 16 16,sA x.1.2.2.2.2 16 16]))]):=by
 refine iE func7<|bu [] 1 fun nm=>xE (eq .i64 .i64 32) [] [] fun x _=>bu [9999,2,2,9999] 1 fun nm1=>xE (cn x 0 (List.replicate 32 0) 5 0) [] [1] fun _ _=>bj [9,0,0]<|xE (eq .i64 .i64 16) [] [] fun x1 _=>bj [9999,9999]<|xE (cn x1 0 (List.replicate 16 0) 5 1) [] [3] fun _ _=>bj [9999,9999]<|xE (cn x1 1 (List.set (List.replicate 16 0) 0 1) 5 0) [] [3] ?_
 intro _ _
 refine bj [9999]<|xE (cn x1 2 (List.set (List.set (List.replicate 16 0) 0 1) 1 0) 5 0) [] [3] fun _ _=>bu [2,9999] 1 fun nm2=>xV (gZ (t:=26) (e:=27) (ty:=26) (k:=1) (by_:=24) (z:=.slice none 0 0) underlying26 (nm2 0) 0 1 1 ([sA x1 16 16])) [4] [] (Views.less (.cl [sA x1 16 16] 27) bA Views.nil) fun ⟨x2,x3⟩ _=>fE 5 x2 (bn 27 1 1 x3 [sA x1 16 16]) bx fun hc=>bj [2,0,0]<|xE (eq .i64 .i64 16) [] [] fun x4 _=>bj [9999,9999]<|xE (cn x4 0 (List.replicate 16 0) 5 2) [] [6] fun _ _=>bj [9999,9999]<|xE (cn x4 1 (List.set (List.replicate 16 0) 0 2) 5 0) [] [6] ?_
 intro _ _
 refine bj [9999]<|xE (cn x4 2 (List.set (List.set (List.replicate 16 0) 0 2) 1 0) 5 0) [] [6] fun _ _=>bu [2,9999] 1 fun nm3=>xV (gH (t:=26) (e:=27) (ty:=26) (k:=1) (by_:=24) (z:=.slice none 0 0) underlying26 x2 1 x3 ([sA x1 16 16]) (nm3 0) 1 1 ([sA x4 16 16])) [7] [5] (Views.less (.cl [sA x4 16 16] 27) bA Views.nil) fun ⟨x5,x6⟩ _=>fE 8 x5 (bn 27 1 (1+1) x6 ([sA x1 16 16]++[sA x4 16 16])) bx fun hc1=>bj [2,0,0]<|xE (eq .i64 .i64 16) [] [] fun x7 _=>bj [9999,9999]<|xE (cn x7 0 (List.replicate 16 0) 5 3) [] [9] fun _ _=>bj [9999,9999]<|xE (cn x7 1 (List.set (List.replicate 16 0) 0 3) 5 0) [] [9] ?_
 intro _ _
 refine bj [9999]<|xE (cn x7 2 (List.set (List.set (List.replicate 16 0) 0 3) 1 0) 5 0) [] [9] fun _ _=>bu [2,9999] 1 fun nm4=>xV (gH (t:=26) (e:=27) (ty:=26) (k:=1) (by_:=24) (z:=.slice none 0 0) underlying26 x5 2 x6 ([sA x1 16 16]++[sA x4 16 16]) (nm4 0) 1 1 ([sA x7 16 16])) [10] [8] (Views.less (.cl [sA x7 16 16] 27) bA Views.nil) fun ⟨x8,x9⟩ _=>fE 11 x8 (bn 27 1 (2+1) x9 ([sA x1 16 16]++[sA x4 16 16]++[sA x7 16 16])) bx fun hc2=>bj [2,0,0]<|xE (eq .i64 .i64 16) [] [] fun x10 _=>bj [9999,9999]<|xE (cn x10 0 (List.replicate 16 0) 5 4) [] [12] fun _ _=>bj [9999,9999]<|xE (cn x10 1 (List.set (List.replicate 16 0) 0 4) 5 0) [] [12] ?_
 intro _ _
 refine bj [9999]<|xE (cn x10 2 (List.set (List.set (List.replicate 16 0) 0 4) 1 0) 5 0) [] [12] fun _ _=>bu [2,9999] 1 fun nm5=>xV (gH (t:=26) (e:=27) (ty:=26) (k:=1) (by_:=24) (z:=.slice none 0 0) underlying26 x8 3 x9 ([sA x1 16 16]++[sA x4 16 16]++[sA x7 16 16]) (nm5 0) 1 1 ([sA x10 16 16])) [13] [11] (Views.less (.cl [sA x10 16 16] 27) bA Views.nil) fun ⟨x11,x12⟩ _=>fE 14 x11 (bn 27 1 (3+1) x12 ([sA x1 16 16]++[sA x4 16 16]++[sA x7 16 16]++[sA x10 16 16])) bx fun hc3=>bj [2,0,0]<|xE (eq .i64 .i64 16) [] [] fun x13 _=>bj [9999,9999]<|xE (cn x13 0 (List.replicate 16 0) 5 5) [] [15] fun _ _=>bj [9999,9999]<|xE (cn x13 1 (List.set (List.replicate 16 0) 0 5) 5 0) [] [15] ?_
 intro _ _
 exact bj [9999]<|xE (cn x13 2 (List.set (List.set (List.replicate 16 0) 0 5) 1 0) 5 0) [] [15] fun _ _=>bu [2,9999] 1 fun nm6=>xV (gH (t:=26) (e:=27) (ty:=26) (k:=1) (by_:=24) (z:=.slice none 0 0) underlying26 x11 4 x12 ([sA x1 16 16]++[sA x4 16 16]++[sA x7 16 16]++[sA x10 16 16]) (nm6 0) 1 1 ([sA x13 16 16])) [16] [14] (Views.less (.cl [sA x13 16 16] 27) bA Views.nil) fun ⟨x14,x15⟩ _=>fE 17 x14 (bn 27 1 (4+1) x15 ([sA x1 16 16]++[sA x4 16 16]++[sA x7 16 16]++[sA x10 16 16]++[sA x13 16 16])) bx fun hc4=>bj [2,0,0,2,0]<|fE 17 x14 (bn 27 1 5 x15 [sA x1 16 16,sA x4 16 16,sA x7 16 16,sA x10 16 16,sA x13 16 16]) bx fun hcp=>rT ((x1,x4,x7,x10,x13),x,x14,x15) 0 [1,3,6,9,12,15,17] rfl hcp
theorem Gk (N lim kb C dr D g i k q s:Nat) (vkey a t w y z:Bs) (A:32=vkey.length) (h0:a.length=16) (h1:t.length=16) (h2:w.length=16) (h3:y.length=16) (h4:z.length=16) (b:8≤N) (f:N≤4096) :
 TT 9 #[.agg #[i64 N,u64 lim,sA dr 5 D,sA kb 32 32]] [(C,.fa (BF (pA kb) 32 32 vkey)),(dr,.pr (bG 0 [sA g 16 16,sA i 16 16,sA k 16 16,sA q 16 16,sA s 16 16])),(g,.pr (bG 0 (a.map B8))),(i,.pr (bG 0 (t.map B8))),(k,.pr (bG 0 (w.map B8))),(q,.pr (bG 0 (y.map B8))),(s,.pr (bG 0 (z.map B8)))] [] (fun x:NwX=>(32≤x.vc∧5≤x.rc∧16≤x.tk)∧RunsP x.o.L∧∀ m,bR x.o.L m↔2≤m∧m<N∧m∉([]:List Nat)) (fun x=>.returned (.tuple #[bi x.v,i64 0])) (fun _=>[])
  (fun x=>[(x.v,.cl (bU N lim (sA x.vk 32 x.vc) x.d x.rs x.lg true x.o.r x.o.p 0 0 0 0 1 0 x.o.al) 90),(x.d,.cl (bQ x.na x.nfm N (.slice none 0 0) 0) bT),(x.na,.cl (bE (List.replicate N (List.replicate 256 0))) 166),(x.nfm,.cl (bE (List.replicate N (List.replicate 256 0))) 166),(x.rs,.cl (dc x.d (lim:Int) 0 0 (sA x.ra 5 x.rc)) df),(x.ra,.pr (bG 0 [sA x.tb 16 x.tk])),(x.tb,.fa (BF (pA x.tb) 16 x.tk a)),(x.lg,.cl [.slice none 0 0] 128),(x.vk,.fa (BF (pA x.vk) 32 x.vc vkey)),(x.o.r,.cl [.map (some x.o.m)] 182),(x.o.m,.pr (bB eW [((0,1),sA x.o.kb 32 x.o.kc)])),(x.o.kb,.fa (BF (pA x.o.kb) 32 x.o.kc (bW vkey 1 1))),(x.o.p,.cl (bM x.d x.o.r x.lg x.o.Af x.o.L.length x.o.c x.o.kn x.o.wt none none x.o.pi 0 0 false) 199),(x.o.kn,.pr (MU [])),(x.o.wt,.pr (MU (bF []))),(x.o.pi,.pr (MU [])),(x.o.fa,.fa (bN x.o.Af x.o.L.length x.o.c x.o.L)),(x.o.al,.pr (MU []))]):=by
 refine cJ func9 (by kernel_rfl) fun w0 ho=>?_
 have B:0<32:=by omega
 refine bu [9999,7,0,0,7] 1 fun nm=>cE (Dw N b f) [] [] fun ⟨x,x1,x2⟩ _=>bj [0,0,7,7]<|cE (GS x dr D g i k q s ((↑lim:Int)) a t w y z h0 h1 h2 h3 h4) [1,2,3,4,5,6] [] fun ⟨x3,x4,x5,x6,x7,x8⟩ ⟨hx,hx1,hx2⟩=>?_
 try dsimp only at hx hx1 hx2
 refine fE 12 x4 (bn 27 1 5 x5 (sA x6 16 x7::x8)) bx fun hc=>fE 13 x6 (bn 5 1 16 x7 (List.map B8 a)) bx fun hc=>bj [0,0,7]<|cE (lD kb 0 32 32 C vkey A B) [0] [] fun ⟨x9,x10⟩ _=>bj [7,7]<|bj [9999,0,7]<|cE zZ [] [] fun x11 _=>bu [9999,9999] 1 fun nm1=>fP 14 x9 (BF (pA x9) 32 x10 vkey) db fun ⟨fl,fc,fm⟩=>cE (AI (nm1 0) N lim x x3 x11 x9 x10 x9 x1 x2 vkey fl fc b f 0 ((↑lim:Int)) (sA x4 5 x5)) [14,11,8,9] [16] fun x12 ⟨hx3,hx4⟩=>zE ?_
 refine fP 14 x9 (BF (pA x9) 32 x10 vkey) db fun ⟨_,hvc,_⟩=>eh (e:=5) (n:=16) (c:=x7) (l:=a) 13 x6 h0.symm<|lE 12 x4 (.pr (bn 27 1 5 x5 (sA x6 16 x7::x8))) (.pr (bG 0 [sA x6 16 x7])) (lC 0 _ (fun j u h=>by cases j with | zero=>simpa using h | succ j=>simp at h)) ?_
 have E:5≤x5:=by assumption
 have F:16≤x7:=by assumption
 exact rT (⟨nm1 0,x,x1,x2,x3,x11,x9,x10,x4,x5,x6,x7,x12⟩:NwX) 9999 [16,8,9,10,11,12,13,15,14,17,18,19,20,21,22,23,24,25] rfl ⟨⟨hvc,E,F⟩,by first | assumption | exact ⟨by assumption,by assumption⟩⟩
section
variable (p d r g:Nat) (kn wt:Nat) (pu dr:Option Nat) (pi lst:Nat) (fl:Bool)
theorem GN (na nfm N:Nat) (j:Vl) (steps:Int) (now:List Bs) (D:now.length=N) (E:bP now) (h8:8≤N) (ar:N≤4096) (rb kc c f I M O P:Nat) (K:List (Nat×Vl)) (hK:∀ m,m∉[c,f]→lk K m=none) (ad:c≠f) (ae:2≤c) (af:c<N) (ag:2≤f) (ah:f<N) (hz:∀ m,2≤m→m<N→m∉[c,f]→now.getD m []=List.replicate 256 0) :
 TT 61 #[bi p,sA rb 2 kc] [(d,.cl (bQ na nfm N j steps) bT),(na,.cl (bE now) 166),(rb,.cl [u32 c,u64 I,u16 M,u32 f,u64 O,u16 P] 70)] [(p,.cl (bM d r g none 0 0 kn wt pu dr pi 0 lst fl) 199),(kn,.pr (MU K))] (fun x:bV×Option Addr×Nat×Nat×Nat=>RunsP x.1∧∀ m,bR x.1 m↔2≤m∧m<N∧m∉[c,f]) (fun _=>.returned (i64 0)) (fun x=>[(p,.cl (bM d r g x.2.1 x.1.length x.2.2.1 kn x.2.2.2.1 pu dr pi 0 lst fl) 199),(kn,.pr (MU K))]) (fun x=>[(x.2.2.2.1,.pr (MU [])),(x.2.2.2.2,.fa (bN x.2.1 x.1.length x.2.2.1 x.1))]):=by
 refine cJ func61 (by kernel_rfl) fun w0 ho=>zE<|bv (iJ p d r g none 0 0 kn wt pu dr pi 0 lst fl) [3] []<|bu [0,0,3,0,0,4,0,0,9999,2,6,6] 2 fun nm=>bv (jA p d r g none 0 0 kn wt pu dr pi 0 lst fl na nfm N j steps c ae af (by omega)) [3,0] []<|bu [0,6,5,0,0,9999,2,7,7] 1 fun nm1=>bv (jA p d r g none 0 0 kn wt pu dr pi 0 lst fl na nfm N j steps f ag ah (by omega)) [3,0] []<|bj [0,7]<|lE 5 (nm 0) (.ob (.map #[{key:=u32 c,val:=.bool true,born:=0}] 1)) (.pr (MU (bF [c]))) (fun o ho=>⟨_,_,ho,by simp [bF],by simp,by simp⟩)<|xE (gE (kt:=37) (et:=4) (T:=196) (κ:=.u32) underlying196 underlying37 (nm 0) (bF [c]) f (.bool true)) [] [5] fun _ _=>bj [0,0] ?_
 refine kE 102 [(0,bi p),(4,i64 0),(6,.map (some (nm 0))),(9,.slice none 0 0),(10,.slice none 0 0),(11,u32 2)] [.code (cZ f61 53),.blk 2,.code (cZ f61 86)] [(d,.cl (bQ na nfm N j steps) 123),(na,.cl (bE now) 166),(rb,.cl [u32 c,u64 I,u16 M,u32 f,u64 O,u16 P] 70),(p,.cl (bM d r g none 0 0 kn wt pu dr pi 0 lst fl) 199),(kn,.pr (MU K)),(nm 0,.pr (MU (up (bF [c]) f (.bool true)))),(nm 1,.cl [u32 c,u64 I,u16 M] 70),(nm1 0,.cl [u32 f,u64 O,u16 P] 70)] ([]) 3 fun u=>qE 5 (nm 0) (.pr (MU (up (bF [c]) f (.bool true)))) (.pr (MU (bF [c,f]))) (by rw [nH (by simp;exact fun h=>ad h.symm)];rfl)<|wE [0,1,2,3,4,5] 3 [(d,.cl (bQ na nfm N j steps) bT),(na,.cl (bE now) 166),(rb,.cl [u32 c,u64 I,u16 M,u32 f,u64 O,u16 P] 70),(p,.cl (bM d r g none 0 0 kn wt pu dr pi 0 lst fl) 199),(kn,.pr (MU K)),(nm 0,.pr (MU (bF [c,f])))]<|lV<|kq (X:=Nat×Vl×Nat×SB) (fun y=>2≤y.1∧y.1≤N∧SlE 37 1 (eD [c,f] y.1).length ((eD [c,f] y.1).map cr) y.2.1 (y.2.2.1,y.2.2.2)) (fun y=>N-y.1) 102 (fun y=>[(0,bi p),(6,.map (some (nm 0))),(9,y.2.1),(10,.slice none 0 0),(11,u32 y.1)]) (fun y=>[(d,.cl (bQ na nfm N j steps) bT),(na,.cl (bE now) 166),(rb,.cl [u32 c,u64 I,u16 M,u32 f,u64 O,u16 P] 70),(p,.cl (bM d r g none 0 0 kn wt pu dr pi 0 lst fl) 199),(kn,.pr (MU K)),(nm 0,.pr (MU (bF [c,f]))),(y.2.2.1,y.2.2.2)]) (2,.slice none 0 0,0,.dead) ⟨Nat.le_refl _,by omega,by rw [w5];exact SlE.nil 37 1⟩ fun ⟨n,v,b,sb⟩ u J hpre back=>?_
 have l:2≤n:=hpre.1
 have gN:n≤N:=hpre.2.1
 have s:SlE 37 1 (eD [c,f] n).length ((eD [c,f] n).map cr) v (b,sb):=hpre.2.2
 have Q:=lT [c,f] n
 have R:n<4294967296:=by omega
 clear hpre
 by_cases hnN:n<N
 · by_cases hm:n∈[c,f]
   · have S:=rL hm
     exact zE<|bv (jA p d r g none 0 0 kn wt pu dr pi 0 lst fl na nfm N j steps n l hnN R) [3,0] []<|bj [0]<|rE (eI (kt:=37) (et:=4) (T:=196) (κ:=.u32) underlying196 underlying37 (nm 0) (bF [c,f]) n (.bool true) S) [5]<|bj [0]<|vC 11 u32 (show IntKind.u32.wrap ((n:Int)+1)=((n+1:Nat):Int) from (jr (eT)))<|back _ (n+1,v,b,sb) (List.range 7) ⟨by dsimp only;omega,by dsimp only;omega,by dsimp only;rw [uB hm];exact s⟩ (by dsimp only;omega) (by kernel_rfl)
   · have S:=nz hm
     have ai:fB (now.getD n [])=true:=by rw [hz n l hnN hm];exact qm 256
     have U:256=(now.getD n []).length:=(E _ (by simp [D,hnN])).symm
     have V:(!fB (now.getD n []))=false:=by rw [ai];rfl
     refine zE<|bv (jA p d r g none 0 0 kn wt pu dr pi 0 lst fl na nfm N j steps n l hnN R) [3,0] []<|bj [0]<|rE (i8 (kt:=37) (et:=4) (T:=196) (κ:=.u32) underlying196 underlying37 (z:=.bool false) (fun w=>by kernel_rfl) (nm 0) (bF [c,f]) n S) [5]<|bu [0,9999] 1 fun nm2=>iI (j0 (t:=45) (e:=37) (ty:=45) (k:=1) (by_:=4) (z:=u32 0) underlying45 v b sb (List.length (eD [c,f] n)) (List.map cr (eD [c,f] n)) s (nm2 0) 1 1 ([u32 n])) [7] [6] (Views.less (.cl [u32 n] 37) bA Views.nil) fun ⟨x,x1,x2,x3⟩ hx=>?_
     try dsimp only at hx
     exact bj [3,9999]<|vC 61 i64 (nI n)<|cE (jh d na nfm N j steps now D E n hnN) [0,1] [] fun x4 _=>bj [0,0]<|cV (u4 x4 0 256 256 (List.getD now n []) U (by omega) (by decide)) [9] [] (Views.less (.cl (List.map B8 (List.getD now n [])) 166) bA Views.nil) fun _ _=>bK [2] (br V bt)<|vC 11 u32 (show IntKind.u32.wrap ((n:Int)+1)=((n+1:Nat):Int) from (jr (eT)))<|back _ (n+1,.slice x ((eD [c,f] n).length+1) x1,x2,x3) [0,1,2,3,4,5,8] ⟨by dsimp only;omega,by dsimp only;omega,by dsimp only;rw [sm l hm,List.length_append,List.map_append];exact hx⟩ (by dsimp only;omega) (by kernel_rfl)
 · have aj:N≤n:=by omega
   obtain rfl:N=n:=by omega
   have F:0<(eD [c,f] N).length:=by
    by_cases q2:2∈[c,f]
    · by_cases q3:3∈[c,f]
      · exact List.length_pos_of_mem (a:=4) (ic.2 ⟨by omega,by omega,fun q4=>by revert q2 q3 q4;simp <;> omega⟩)
      · exact List.length_pos_of_mem (a:=3) (ic.2 ⟨by omega,by omega,q3⟩)
    · exact List.length_pos_of_mem (a:=2) (ic.2 ⟨by omega,by omega,q2⟩)
   obtain ⟨Gl,hG⟩:∃ G,eD [c,f] N=G:=⟨_,rfl⟩
   rw [hG] at s F
   obtain ⟨cap,rfl,rfl⟩:=s.pos F
   clear back
   refine zE<|bv (wm p d r g none 0 0 kn wt pu dr pi 0 lst fl na nfm N j steps N aj l R) [3,0] []<|bj [0]<|bv (lO p none 0) [] []<|bv (jx p d r g none 0 0 kn wt pu dr pi 0 lst fl) [] [3]<|bj [0,0,3]<|kE 102 [(0,bi p),(88,sA b Gl.length cap),(89,i64 ↑Gl.length),(90,i64 0)] [.code (cZ f61 102),.blk 4,.code (cZ f61 115)] [(d,.cl (bQ na nfm N j steps) 123),(na,.cl (bE now) 166),(rb,.cl [u32 c,u64 I,u16 M,u32 f,u64 O,u16 P] 70),(p,.cl (bM d r g none 0 0 kn wt pu dr pi 0 lst fl) 199),(kn,.pr (MU K)),(nm 0,.pr (MU (bF [c,f]))),(b,.pr (bn 37 1 Gl.length cap (List.map cr Gl)))] ([]) 3 fun u1=>fq [] [] (bN none 0 0 []) (fun w _=>⟨rfl,Nat.le_refl _,Nat.zero_le _,fun h=>absurd h (by decide)⟩)<|kq (X:=Nat×bV×Option Addr×Nat×Nat) (fun y=>y.1≤Gl.length∧RunsP y.2.1∧y.2.1.length≤y.1∧∀ m,bR y.2.1 m↔m∈Gl.take y.1) (fun y=>Gl.length-y.1) 102 (fun y=>[(0,bi p),(88,sA b Gl.length cap),(89,i64 Gl.length),(90,i64 y.1)]) (fun y=>[(d,.cl (bQ na nfm N j steps) bT),(na,.cl (bE now) 166),(rb,.cl [u32 c,u64 I,u16 M,u32 f,u64 O,u16 P] 70),(p,.cl (bM d r g y.2.2.1 y.2.1.length y.2.2.2.1 kn wt pu dr pi 0 lst fl) 199),(kn,.pr (MU K)),(nm 0,.pr (MU (bF [c,f]))),(b,.pr (bn 37 1 Gl.length cap (Gl.map cr))),(y.2.2.2.2,.fa (bN y.2.2.1 y.2.1.length y.2.2.2.1 y.2.1))]) (0,[],none,0,0) ⟨by omega,RunsP.nil,by simp,fun m=>by simp [bR]⟩ fun ⟨i,L,Af,cf,fa⟩ u J hpre back=>?_
   have hi:i≤Gl.length:=hpre.1
   have hL:RunsP L:=hpre.2.1
   have aw:L.length≤i:=hpre.2.2.1
   have A:∀ m,bR L m↔m∈Gl.take i:=hpre.2.2.2
   clear hpre
   have B:∀ m,m∈Gl↔m<N∧2≤m∧m∉[c,f]:=fun m=>by rw [← hG];exact ic
   have ax:Gl.length≤N:=by rw [← hG];exact lT _ _
   have ak:Gl.Nodup:=by rw [← hG];exact uO _ _
   by_cases hlt:i<Gl.length
   · have W:Gl.getD i 0∈Gl:=by simp [hlt]
     have Y:=(B _).1 W
     have Z:¬ bR L (Gl.getD i 0):=fun hm=>t8 ak hlt ((A _).1 hm)
     have al:∀ r∈L,r.2<4294967296:=fun r hr=>by
      have:=su hL (N:=N) (fun m hm=>((B m).1 (List.mem_of_mem_take ((A m).1 hm))).1) r hr
      omega
     have Q:Gl.getD i 0<4294967295:=by omega
     have am:L.length≤50000:=by omega
     have aa:=take_snoc hlt
     have ab:(Gl.map cr)[i]?=some (cr (Gl.getD i 0)):=by rw [List.getElem?_map];simp [hlt]
     have C:=hK (Gl.getD i 0) Y.2.2
     have H:del K (Gl.getD i 0)=K:=oC (i:=0) (by
      unfold lk at C
      cases hf:eV K (Gl.getD i 0) 0 with
      | none=>rfl
      | some x=>rw [hf] at C;cases C)
     obtain ⟨q,hq⟩:∃ q,Gl.getD i 0=q:=⟨_,rfl⟩
     rw [hq] at ab Y Z Q aa C H
     clear W B
     refine bK [1,0] (br (dT ((↑i:Int)<(↑Gl.length:Int))) bt)<|rE (bL (t:=45) (e:=37) (k:=1) underlying45 .i64 b 0 Gl.length cap i hlt) []<|mK (g7 (T:=37) b 0 i (List.map cr Gl) (cr q) ab) [6] (Views.less (.pr (bn 37 1 Gl.length cap (List.map cr Gl))) ci Views.nil)<|zE<|cE (oa p d r g Af L.length cf kn wt pu dr pi 0 lst fl q fa L K hL am Q Z al) [7] [3,4] fun ⟨x,x1,x2⟩ ⟨hx,hx1,hx2⟩=>?_
     try dsimp only at hx hx1 hx2
     refine zE ?_
     have ac:∀ m,bR x m↔bR L m∨m=q:=by assumption
     have an:RunsP x:=by assumption
     have ay:x.length≤L.length+1:=by assumption
     exact qE 4 kn (.pr (MU (del K q))) (.pr (MU K)) (by rw [H])<|vC 90 i64 (show IntKind.i64.wrap ((i:Int)+1)=((i+1:Nat):Int) from (di (eT)))<|back _ (i+1,x,some ⟨x1,0,none⟩,x2,x1) [0,1,2,3,4,5,6,8] ⟨hlt,an,by dsimp only;omega,fun m=>by dsimp only;rw [aa,ac m,List.mem_append,List.mem_singleton,A m]⟩ (by dsimp only;omega) (by kernel_rfl)
   · have ao:i=Gl.length:=by omega
     subst ao
     clear back
     have aq:∀ m,bR L m↔2≤m∧m<N∧m∉[c,f]:=fun m=>by
      rw [A m,List.take_length,B m]
      exact ⟨fun h=>⟨h.2.1,h.1,h.2.2⟩,fun h=>⟨h.2.1,h.1,h.2.2⟩⟩
     refine fe [2,0,3] 1 _ (br (show (decide ((↑Gl.length:Int)<(↑Gl.length:Int)))=false by (simp;done)) bt) fun nm2=>⟨by kernel_rfl,?_⟩
     exact lE 8 (nm2 0) (.ob (Obj.map #[] 0)) (.pr (MU [])) (dL (eK .u32) 0)<|rT ((L,Af,cf,nm2 0,fa)) 9999 [8,7]
end
abbrev sp (n c:Nat):Vl:=.agg #[u32 (n:Int),u64 (c:Int),u16 1,u8 0]
abbrev k8 (t n c:Nat):List Vl:=[u32 (t:Int),u8 1,u8 0,u32 (n:Int),u64 (c:Int),u16 1]
theorem Ej (b d a p c:Nat) (key pl:Bs) (e:224=pl.length) (hc:c<18446744073709551616) :
 TT 44 #[sO b d 256 256] [(a,.fa (BF (pO b d) 256 256 (bI key 0 4 0 p c 1 pl)))] [] uT (fun _=>.returned (.tuple #[u8 4,u8 0,u16 1,u64 c,i64 0])) (fun _=>[]) (fun _=>[]):=
 ru b d a 0 4 0 p c 1 key pl e hc (by omega)
section
variable (d rs r:Nat)
theorem tp (b a:Int) (dv:Vl) (na nfm N:Nat) (n:Vl) (steps:Int) (now:List Bs) (f:now.length=N) (g:bP now) (p:8≤N) (m o c pp rc kb i kc:Nat) (key:Bs) (l:List ((Nat×Nat)×Vl)) (h:lk l (0,1)=some (sO kb i 32 kc)) (j:32=key.length) (h0:0<c) (hc:c<4294967296) (q:pp<4294967296) (k:rc<18446744073709551616) (s:now.getD (c%2) []=bI key 0 4 0 (c%2) c 1 (bO c pp rc 1 0 1 1)) (e:256=(bI key 0 4 0 (c%2) c 1 (bO c pp rc 1 0 1 1)).length) :
 Same 52 #[bi d,bi rs,bi r] [(rs,.cl (dc d b a (c:Int) dv) df),(d,.cl (bQ na nfm N n steps) bT),(na,.cl (bE now) 166),(r,.cl [.map (some m)] 182),(m,.pr (bB eW l)),(o,.fa (BF (pO kb i) 32 kc key))] (.tuple #[.agg #[u64 c,u32 pp,u64 rc,u16 1,u8 0,u16 1,u32 1],i64 0]):=
 Cp d rs r b a dv na nfm N n steps now f g p m o c pp rc 1 1 1 kb i kc key l h j h0 hc q k (by omega) (by omega) (by omega) s e
end
section
variable (p d r g:Nat) (kn wt:Nat) (pu dr:Option Nat) (pi cm lst:Nat) (fl:Bool)
theorem u9 (na nfm N:Nat) (q:Vl) (steps:Int) (now:List Bs) (e:now.length=N) (f:bP now) (t n c a m s kb i b kc:Nat) (key val h:Bs) (G:List ((Nat×Nat)×Vl)) (j:b=h.length) (u:b=16∨b=32) (v:lk G (t,1)=some (sO kb i b kc)) (K:List (Nat×Vl)) (M:Nat→Option Pg) (k:KM K M) (w:M n=none) (h2:2≤n) (y:n<N) (l:n<4294967296) (z:t<4294967296) (hc:c<18446744073709551616) (o:224=(bw key val).length) (A:now.getD n []=bI h t 1 0 n c 1 (bw key val)) (k1:1≤key.length) (B:key.length≤32) (C:1≤val.length) (D:val.length≤64) :
 TT 35 #[dN p,u32 t,sp n c] [(p,.cl (bM d r g none 0 0 kn wt pu dr pi cm lst fl) 199),(d,.cl (bQ na nfm N q steps) bT),(na,.cl (bE now) 166),(r,.cl [.map (some m)] 182),(m,.pr (bB eW G)),(s,.fa (BF (pO kb i) b kc h)),(a,.fa (PgsF K M))] [(kn,.pr (MU K))] (fun x:List (Nat×Vl)×Nat×Nat=>KM x.1 (bX M n ⟨t,1,0,c,1,bw key val⟩)) (fun x=>.returned (.tuple #[ck x.2.1 1 x.2.2,i64 0])) (fun x=>[(kn,.pr (MU x.1))]) (fun x=>[(0,.fa (PgsF x.1 (bX M n ⟨t,1,0,c,1,bw key val⟩))),(x.2.1,.pr (bn 72 6 1 x.2.2 (k8 t n c)))]):=
 Fp p d r g kn wt pu dr pi cm lst fl na nfm N q steps now e f t n c 1 a m s kb i b kc key val h G j u v K M k w h2 y l z hc (by omega) o A k1 B C D
theorem uW (na nfm N:Nat) (l:Vl) (steps:Int) (now:List Bs) (a:now.length=N) (b:bP now) (n c m o kb f kc:Nat) (key val e:Bs) (G:List ((Nat×Nat)×Vl)) (i:32=e.length) (q:lk G (0,1)=some (sO kb f 32 kc)) (h2:2≤n) (s:n<N) (j:n<4294967296) (hc:c<18446744073709551616) (k:224=(bw key val).length) (t:now.getD n []=bI e 0 1 0 n c 1 (bw key val)) (k1:1≤key.length) (u:key.length≤32) (v:1≤val.length) (y:val.length≤64) :
 TT 35 #[dN p,u32 0,sp n c] [(p,.cl (bM d r g none 0 0 kn wt pu dr pi cm lst fl) 199),(d,.cl (bQ na nfm N l steps) bT),(na,.cl (bE now) 166),(r,.cl [.map (some m)] 182),(m,.pr (bB eW G)),(o,.fa (BF (pO kb f) 32 kc e))] [(kn,.pr (MU []))] (fun x:List (Nat×Vl)×Nat×Nat=>KM x.1 (bX (fun _=>none) n ⟨0,1,0,c,1,bw key val⟩)) (fun x=>.returned (.tuple #[ck x.2.1 1 x.2.2,i64 0])) (fun x=>[(kn,.pr (MU x.1))]) (fun x=>[(0,.fa (PgsF x.1 (bX (fun _=>none) n ⟨0,1,0,c,1,bw key val⟩))),(x.2.1,.pr (bn 72 6 1 x.2.2 [u32 0,u8 1,u8 0,u32 n,u64 c,u16 1]))]):=
 (u9 p d r g kn wt pu dr pi cm lst fl na nfm N l steps now a b 0 n c 0 m o kb f 32 kc key val e G i (.inr rfl) q [] (fun _=>none) KM.nil rfl h2 s j (by omega) hc k t k1 u v y).fw rfl (fun w h=>⟨h.1,PgsF.nil w,trivial⟩) fun x hx=>⟨x,hx,rfl,rfl,rfl,fun w _ h=>h⟩
theorem uA (t q ch rp rc hcm:Nat) (mark wr:Bs) (e:16=mark.length) (f:32=wr.length) (v:0<t) (b:t<4294967296) (w:1≤q) (h:q<128) (i:ch≤q) (j:0<ch) (k:0<rp) (h1:rp<128) (h2:rc<128) (l:hcm<128)
 (na nfm N:Nat) (u:Vl) (steps:Int) (n c a:Nat) (K:List (Nat×Vl)) (M:Nat→Option Pg) (m:KM K M) (y:M n=some ⟨0,1,0,c,1,bw (be t 4) (bJ q ch mark rp rc 1 0 1 hcm wr)⟩) (o:2≤n) (z:n<N) (s:n<4294967296) :
 TT 57 #[dN p,sp n c] [(p,.cl (bM d r g none 0 0 kn wt pu dr pi cm lst fl) 199),(d,.cl (bQ na nfm N u steps) bT),(kn,.pr (MU K)),(a,.fa (PgsF K M))] [] (fun _:CS×Nat×Nat=>True) (fun x=>.returned (.tuple #[ck x.2.1 1 x.2.2,i64 0])) (fun _=>[])
  (fun x=>[(x.2.1,.pr (bn 109 9 1 x.2.2 [u32 t,i64 q,sA x.1.1.1 16 x.1.1.2,u32 rp,u64 rc,u16 1,u8 0,i64 ch,sA x.1.2.1.1 1 x.1.2.1.2])),(x.1.1.1,.fa (BF (pA x.1.1.1) 16 x.1.1.2 mark)),(x.1.2.1.1,.fa (CF x.1.2.1.1 0 [u16 1,u64 hcm,sA x.1.2.2.1 32 x.1.2.2.2])),(x.1.2.2.1,.fa (BF (pA x.1.2.2.1) 32 x.1.2.2.2 wr))]):=
 D3 p d r g none 0 0 kn wt pu dr pi cm lst fl t q ch rp rc 1 0 1 hcm mark wr e f v b w h i (.inr ⟨j,k⟩) h1 h2 (by omega) (by omega) (by omega) l na nfm N u steps n c 1 a K M m y o z s
end
theorem GT (A:Option Addr) (c:Nat):Same 89 #[.slice A 0 c,u16 1] [] (i64 (-1)):=iE func89<|bj [3,0,0]<|rT ()
theorem GR (b c:Nat):Same 89 #[sA b 1 c,u16 1] [(b,.pr (bn 68 1 1 c [u16 1]))] (i64 0):=iE func89<|bj [3,0,0,9999]<|rE (cx (T:=68) (e:=68) b 0 1 1 c ([u16 1]) (u16 1) (fun w=>by kernel_rfl) (by kernel_rfl)) [0]<|bj [0,0]<|rT ()
theorem As (A:Option Addr) (c:Nat):Same 47 #[.slice A 0 c,u16 1] [] (.bool false):=iE func47<|zE<|bv (GT A c) [] []<|bj [0]<|rT ()
theorem zW (b c:Nat):Same 47 #[sA b 1 c,u16 1] [(b,.pr (bn 68 1 1 c [u16 1]))] (.bool true):=iE func47<|zE<|bv (GR b c) [0] []<|bj [0]<|rT ()
theorem nF (b d a p c:Nat) (key pl B:Bs) (e:224=pl.length) (hc:c<18446744073709551616) (f:B=bI key 0 4 0 p c 1 pl) :
 TT 44 #[sO b d 256 256] [(a,.fa (BF (pO b d) 256 256 B))] [] uT (fun _=>.returned (.tuple #[u8 4,u8 0,u16 1,u64 c,i64 0])) (fun _=>[]) (fun _=>[]):=by
 subst f
 exact Ej b d a p c key pl e hc
theorem kJ (r m:Nat) (s:Vl) :
 TT 48 #[bi r,u32 0] [(r,.cl [.map (some m)] 182),(m,.pr (bB eW (up [] (0,1) s)))] [] (fun _:Nat×Nat=>True) (fun x=>.returned (sA x.1 1 x.2)) (fun _=>[]) (fun x=>[(x.1,.pr (bn 68 1 1 x.2 [u16 1]))]):=zw r m _ (by simp [up]) rfl
theorem Tri.frzN {P:Program} {f:FuncId} {args:Array Vl} {HR HW:HP} {X:Type} {φ:X→Prop} {e:X→Ending} {HW':X→HP} {b:X→Nat} {s:X→SB} {q:X→World→Prop} (h:Tri P f args HR HW φ e HW' (fun x=>[(b x,s x)])) (hs:∀ x,(s x).live=true) (j:∀ x w,At (b x) (s x) w→q x w) :
 Tri P f args HR HW φ e HW' (fun x=>[(b x,.fa (q x))]):=by
 intro K w ho hk
 refine (h K w ho hk).mono fun en w' ⟨x,K',hx,he,ho',hf',hn',hkx,hk'⟩=>?_
 rw [jH] at ho'
 rw [kT] at hk'
 have k:lv [(b x,s x)]=[b x]:=sy (hs x)
 have g:lv [(b x,SB.fa (q x))]=[]:=sB rfl
 simp only [cy,k] at ho' hk' hn'
 obtain ⟨hn,ho'⟩:=ho'
 obtain ⟨g1,g2⟩:=hk'
 rw [List.nodup_append] at hn
 have i:b x∉lv HR++lv (HW' x):=fun hb=>hn.2.2 _ hb _ (List.mem_singleton.2 rfl) rfl
 obtain ⟨o,hb1,hb2⟩:=ho' (b x,s x) (by simp) (hs x)
 have d:b x<w'.heap.size:=dR hb1
 refine ⟨x,fun y=>K' y∨y=b x,hx,he,?_,hf',?_,?_,?_⟩
 · rw [jH]
   refine ⟨?_,?_⟩
   · simp only [cy,g,List.append_nil];exact hn.1
   · intro y c hl
     simp only [List.mem_append,List.mem_singleton] at c
     rcases c with c | rfl
     · exact ho' y (by simp only [List.mem_append];exact .inl c) hl
     · cases hl
 · intro y c
   have c:y∈lv [(b x,SB.fa (q x))]:=c
   rw [g] at c
   cases c
 · refine ⟨fun y c=>.inl (hkx.1 y c),fun y c=>?_⟩
   rcases c with c | rfl
   · exact hkx.2 y c
   · rcases hn' (b x) (List.mem_singleton.2 rfl) with h1 | h1
     · exact .inr (.inl h1)
     · exact .inr (.inr h1)
 · rw [kT]
   refine ⟨?_,?_⟩
   · simp only [cy,g,List.append_nil]
     rintro y (c | rfl)
     · obtain ⟨h1,h2⟩:=g1 y c
       exact ⟨h1,fun hm=>h2 (by rw [List.mem_append] at hm ⊢;exact .inl (by simpa using hm))⟩
     · exact ⟨d,i⟩
   · intro a p c
     simp only [List.mem_append,List.mem_singleton] at c
     rcases c with c | c
     · intro w2 hw2;exact g2 a p (by simp only [List.mem_append];exact .inl c) w2 fun z hz=>hw2 z (.inl hz)
     · injection c with _ c
       injection c with c
       subst c
       intro w2 hw2
       exact j x w2 ⟨o,(hw2 (b x) (.inr rfl)).trans hb1,hb2⟩
theorem Ay (rb d rc a kb e i t c:Nat) (root key:Bs) (f:32=root.length) (g:32≤rc) (b:16=key.length) (j:t<4294967296) (hc:c<18446744073709551616) (kc:Nat) (h:32≤kc) :
 TT 59 #[sO rb d 32 rc,u32 t,.agg #[u16 1,u64 c,sO kb e 32 kc]] [(a,.fa (BF (pO rb d) 32 rc root)),(i,.fa (BF (pO kb e) 32 kc (bZ root t 1 c key)))] [] (fun _:Nat=>True) (fun x=>.returned (.tuple #[sA x 16 16,i64 0])) (fun _=>[]) (fun x=>[(x,.fa (BF (pA x) 16 16 key))]):=
 (CH rb d rc a kb e i t c root key f g b j hc kc h).frzN (fun _=>rfl) fun x w hw=>by
  obtain ⟨o,ho,hc2⟩:=hw
  refine ⟨b,Nat.le_refl _,by simp only [maxLen];omega,fun h0=>⟨x,0,rfl,fun k hk=>?_⟩⟩
  have:=dU ho (bA o hc2) k (B8 (key.getD k 0)) (by simp [List.getD,List.getElem?_eq_getElem (show k<key.length by omega)])
  rw [Addr.add_lit] at this
  exact this
theorem wl (r m t kb b kc a:Nat) (key:Bs) (s:Vl) (d:0<t) (c:16=key.length) :
 TT 49 #[bi r,u32 t,u16 1,sO kb b 16 kc] [(r,.cl [.map (some m)] 182),(a,.fa (BF (pO kb b) 16 kc key))] [(m,.pr (bB eW (up [] (0,1) s)))] (fun _:Nat×Nat=>True) (fun x=>.returned (i64 0)) (fun x=>[(m,.pr (bB eW (up (up [] (0,1) s) (t,1) (sA x.1 16 x.2))))]) (fun x=>[(x.1,.fa (BF (pA x.1) 16 x.2 key))]):=
 xW r m t kb b kc a key _ (by rw [lr,if_neg (by simp;omega)];rfl) c
section
variable (p d r g:Nat) (kn wt:Nat) (pu dr:Option Nat) (pi cm lst:Nat) (fl:Bool)
theorem BE (s:Vl) (na nfm N:Nat) (l:Vl) (steps:Int) (now:List Bs) (b:now.length=N) (e:bP now) (t n c a m o kb kc:Nat) (key val f:Bs) (h:16=f.length) (K:List (Nat×Vl)) (M:Nat→Option Pg) (i:KM K M) (q:M n=none) (h2:2≤n) (u:n<N) (j:n<4294967296) (v:t<4294967296) (hc:c<18446744073709551616) (k:224=(bw key val).length) (w:now.getD n []=bI f t 1 0 n c 1 (bw key val)) (k1:1≤key.length) (y:key.length≤32) (z:1≤val.length) (A:val.length≤64) :
 TT 35 #[dN p,u32 t,sp n c] [(p,.cl (bM d r g none 0 0 kn wt pu dr pi cm lst fl) 199),(d,.cl (bQ na nfm N l steps) bT),(na,.cl (bE now) 166),(r,.cl [.map (some m)] 182),(m,.pr (bB eW (up (up [] (0,1) s) (t,1) (sA kb 16 kc)))),(o,.fa (BF (pA kb) 16 kc f)),(a,.fa (PgsF K M))] [(kn,.pr (MU K))] (fun x:List (Nat×Vl)×Nat×Nat=>KM x.1 (bX M n ⟨t,1,0,c,1,bw key val⟩)) (fun x=>.returned (.tuple #[ck x.2.1 1 x.2.2,i64 0])) (fun x=>[(kn,.pr (MU x.1))]) (fun x=>[(0,.fa (PgsF x.1 (bX M n ⟨t,1,0,c,1,bw key val⟩))),(x.2.1,.pr (bn 72 6 1 x.2.2 (k8 t n c)))]):=
 u9 p d r g kn wt pu dr pi cm lst fl na nfm N l steps now b e t n c a m o kb 0 16 kc key val f _ h (.inl rfl) (by rw [lr,if_pos rfl]) K M i q h2 u j v hc k w k1 y z A
end
section
variable (p d r g:Nat) (kn wt:Nat) (pu dr:Option Nat) (pi lst:Nat) (fl:Bool)
theorem DB (na nfm N:Nat) (n:Vl) (steps:Int) (now:List Bs) (c:now.length=N) (e:bP now) (s:8≤N) (f:N≤4096) (rb kc a b o q:Nat) (K:List (Nat×Vl)) (t:∀ m,m∉[a,b]→lk K m=none) (h:a≠b) (i:2≤a) (j:a<N) (k:2≤b) (l:b<N) (u:∀ m,2≤m→m<N→m∉[a,b]→now.getD m []=List.replicate 256 0) :
 TT 61 #[bi p,sA rb 2 kc] [(d,.cl (bQ na nfm N n steps) bT),(na,.cl (bE now) 166),(rb,.cl [u32 a,u64 o,u16 1,u32 b,u64 q,u16 1] 70)] [(p,.cl (bM d r g none 0 0 kn wt pu dr pi 0 lst fl) 199),(kn,.pr (MU K))] (fun x:bV×Option Addr×Nat×Nat×Nat=>RunsP x.1∧∀ m,bR x.1 m↔2≤m∧m<N∧m∉[a,b]) (fun _=>.returned (i64 0)) (fun x=>[(p,.cl (bM d r g x.2.1 x.1.length x.2.2.1 kn x.2.2.2.1 pu dr pi 0 lst fl) 199),(kn,.pr (MU K))]) (fun x=>[(x.2.2.2.1,.pr (MU [])),(x.2.2.2.2,.fa (bN x.2.1 x.1.length x.2.2.1 x.1))]):=
 GN p d r g kn wt pu dr pi lst fl na nfm N n steps now c e s f rb kc a b o 1 q 1 K t h i j k l u
end
section
variable (v N lim:Nat) (key:Vl) (d rs lg:Nat) (r p c pp rc rg gn n al:Nat)
variable (t:Nat) (sec:Vl) (q1 n1:Int) (h o s rt:Nat) (ops ky fr too:Vl) (bk:Bool)
variable (tt q mb mc rp rc2 rg2 ch hb hc cb sh made ca cm tn:Nat) (T A:List (Nat×Vl))
theorem DQ (h64:h<18446744073709551616) (hT:lk T (h/4294967296)=some (bi tn)) (a b:Nat) (hA:lk A (h%4294967296)=some (hV a b)) (h0:(cM 0 a != 0)=false) (e:¬ bits .and .u8 a 8=0) (hr:(cM rt a != 0)=true) :
 Same 10 #[bi v,cR 9 t sec q1 n1 h o s rt ops ky fr too bk] [(v,.cl (bU N lim key d rs lg true r p c pp rc rg gn n al) 90),(al,.pr (MU T)),(tn,.cl (b9 tt q mb mc rp rc2 rg2 ch hb hc cb sh made) 113),(cb,.cl (cL ca cm) 212),cH ca A] (dt 250):=by
 refine dE func10 fun w0 ho=>bu [9999] 2 fun nm=>bv (ea v N lim key d rs lg true r p c pp rc rg gn n al) [0] []<|bu [0,0,0,7] 1 fun nm1=>cS ⟨.fn (.func 25) #[bi (nm1 0),bi (nm 1)],#[]⟩<|zE<|cS ⟨.fn (.func 26) #[],#[bi v,bi (nm1 0)]⟩<|bj [5]<|bv (vq v) [] []<|bj [0,0,5]<|iq (D8 v N lim key d rs lg true r p c pp rc rg gn n al 9 t sec q1 n1 h o s rt ops ky fr too bk tt q mb mc rp rc2 rg2 ch hb hc cb sh made ca cm tn T A h64 hT a b hA h0 e hr) [0,1,2,3,4] [] (fun _=>bH) fun _ _=>?_
 exact dG #[] #[bi v,bi (nm1 0)] [⟨.fn (.func 25) #[bi (nm1 0),bi (nm 1)],#[]⟩] (ig v (nm1 0) 250) [] [7] fun _ _=>dG #[bi (nm1 0),bi (nm 1)] #[] [] (ji (nm1 0) (nm 1) 250 .returning) [7] [6] fun _ _=>fS () (dt 250) [] (fN _ 6)
end
theorem wR {SH:List (Nat×Vl)} {k:Nat} (h:∀ p∈SH,p.1<k) (v:Vl):up SH k v=SH++[(k,v)]:=by
 induction SH with
 | nil=>rfl
 | cons q l ih=>
  obtain ⟨m,u⟩:=q
  have h1:m<k:=h (m,u) List.mem_cons_self
  have h2:=ih fun p hp=>h p (List.mem_cons_of_mem _ hp)
  rw [up,if_neg (by omega),h2]
  rfl
theorem Bi (SH:List (Nat×Vl)) (k ch:Nat):go (SH++[(k,fR 0 0 0 ch none 0 0)])=go SH:=by
 unfold go
 rw [List.filterMap_append]
 simp [ia]
theorem Cc (SH:List (Nat×Vl)) (k rp rc rg ch:Nat) (a:Addr) (n c:Nat):go (SH++[(k,fR rp rc rg ch (some a) n c)])=go SH++[rp]:=by
 unfold go
 rw [List.filterMap_append]
 simp [ia]
theorem ShF.up0 {t:Nat} {SH:List (Nat×Vl)} {w:World} (h:ShF t SH w) (k ch:Nat):ShF t (SH++[(k,fR 0 0 0 ch none 0 0)]) w:=by
 intro p hp rp rc rg c2 lb lc e
 rcases List.mem_append.1 hp with hp | hp
 · exact h p hp rp rc rg c2 lb lc e
 · rw [List.mem_singleton.1 hp] at e
   have:=congrArg ia e
   rw [tl,m7] at this
   cases this
theorem ShF.up1 {t:Nat} {SH:List (Nat×Vl)} {w:World} (h:ShF t SH w) (k rp rc rg ch lb a:Nat) (b:CF lb 0 (ga t rp rc rg) w):ShF t (SH++[(k,fR rp rc rg ch (pA lb) 1 a)]) w:=by
 intro p hp rp2 rc2 rg2 c2 lb2 lc2 e
 rcases List.mem_append.1 hp with hp | hp
 · exact h p hp rp2 rc2 rg2 c2 lb2 lc2 e
 · rw [List.mem_singleton.1 hp] at e
   simp only [Value.agg.injEq,Array.mk.injEq,List.cons.injEq,Value.int.injEq,Value.slice.injEq,Option.some.injEq,Addr.mk.injEq,true_and,and_true,Int.natCast_inj,Int.ofNat_inj] at e
   obtain ⟨e1,e2,e3,e4,e5,e6⟩:=e
   subst e1 e2 e3 e5
   exact b
abbrev VS.snap0 (s:VS):VS:={s with made:=s.made+1,SH:=s.SH++[(s.made+1,fR 0 0 0 s.ch none 0 0)]}
section
variable (c:VC) (s:VS) (h rt:Nat) (hs:s.Ok c) (hc:c.Ok) (h64:h<18446744073709551616) (hT:h/4294967296=c.tt)
include h64 hT in
theorem E3 (r1 b1:Nat) (hA:lk s.A (h%4294967296)=some (hV r1 b1)) (h0:(cM 0 r1 != 0)=false) (h8:¬ bits .and .u8 r1 8=0) (hr:(cM rt r1 != 0)=true) :
 TT 10 #[bi s.v,.agg #[i64 9,u32 0,bp,i64 0,i64 0,u64 h,u64 0,u64 0,u8 rt,bp,bp,bp,bp,.bool false]] [] (vH c s) (fun x:VS=>x=s) (fun _=>.returned (dt 250)) (fun _=>deadL (vH c s)) (fun x=>vH c x):=
 (DQ s.v c.N c.lim (.slice (some ⟨s.vk,0,none⟩) 32 s.vc) s.d s.rs s.lg s.r s.p s.cm s.pp s.rc 1 1 1 s.al 0 bp 0 0 h 0 0 rt bp bp bp bp false c.tt c.q s.mb s.mc s.rp s.rc2 s.rg2 s.ch s.hb s.hc s.cb s.sh s.made s.ca s.cct s.tn [(c.tt,bi s.tn)] s.A h64 (by rw [hT,cp,if_pos rfl]) r1 b1 hA h0 h8 hr).lift [0,1,2,3,4] [] (by kernel_rfl) (fun _=>bH) fun _ _=>⟨s,rfl,rfl,List.range 26,by kernel_rfl⟩
end
abbrev VS.snap1 (s:VS) (lb lc:Nat):VS:={s with made:=s.made+1,SH:=s.SH++[(s.made+1,fR s.rp s.rc2 s.rg2 s.ch (pA lb) 1 lc)],I:=up s.I s.rp (i64 ((s.pin s.rp+1:Nat):Int)),pin:=fun m=>if m=s.rp then s.pin s.rp+1 else s.pin m}
theorem VS.Ok.snap0 {c:VC} {s:VS} (h:s.Ok c):s.snap0.Ok c:=
 ⟨h.km,h.rg,h.gt,h.g0,h.runs,h.cover,h.rng,h.roll,h.pp2,h.ppN,h.ppL,h.ppW,h.root,h.wnd,h.wp,h.pins,fun m=>by show s.pin m=_;rw [Bi];exact h.pinc m,fun p hp=>by
  rcases List.mem_append.1 hp with hp | hp
  · exact h.shp p hp
  · rw [List.mem_singleton.1 hp];exact .inl ⟨s.ch,rfl⟩,h.now,h.firm,h.n256,h.f256,h.log,h.lst,h.vc⟩
theorem VS.Ok.snap1 {c:VC} {s:VS} (h:s.Ok c) (hr:oL c s) (lb a:Nat):(s.snap1 lb a).Ok c:=by
 refine ⟨h.km,h.rg,h.gt,h.g0,h.runs,h.cover,h.rng,h.roll,h.pp2,h.ppN,h.ppL,h.ppW,h.root,h.wnd,fun n hn=>?_,?_,fun m=>?_,fun p hp=>?_,h.now,h.firm,h.n256,h.f256,h.log,h.lst,h.vc⟩
 · obtain ⟨h1,h2,h3,h4⟩:=h.wp n hn
   refine ⟨h1,h2,h3,?_⟩
   show (if n=s.rp then s.pin s.rp+1 else s.pin n)≠0
   split <;> omega
 · exact h.pins.up s.rp (s.pin s.rp+1)
 · show (if m=s.rp then s.pin s.rp+1 else s.pin m)=_
   rw [Cc,List.count_append,← h.pinc m]
   by_cases e:m=s.rp
   · subst e;simp
   · rw [if_neg e]
     have:List.count m [s.rp]=0:=List.count_eq_zero.2 (by simpa using e)
     omega
 · rcases List.mem_append.1 hp with hp | hp
   · exact h.shp p hp
   · rw [List.mem_singleton.1 hp]
     exact .inr ⟨s.rp,s.rc2,s.rg2,s.ch,lb,a,rfl,hr.2.2.1,hr.2.2.2.1⟩
section
variable (c:VC) (s:VS) (h:Nat) (hs:s.Ok c) (hc:c.Ok) (h64:h<18446744073709551616) (hT:h/4294967296=c.tt)
include hs hc h64 hT in
theorem EK (e1:s.rp=0) (e2:s.rc2=0) (e3:s.rg2=0) (r1 b1:Nat) (hA:lk s.A (h%4294967296)=some (hV r1 b1)) (hr:(cM 4 r1 != 0)=false) (h19:s.SH.length≤19) (hk:∀ p∈s.SH,p.1<s.made+1) (hOv:s.ch+(dV s.SH+s.ch+1)≤c.q) (hmd:s.made<1000000) :
 TT 10 #[bi s.v,.agg #[i64 14,u32 0,bp,i64 0,i64 0,u64 h,u64 0,u64 0,u8 0,bp,bp,bp,bp,.bool false]] [] (vH c s) (fun x:VS=>x=s.snap0) (fun _=>.returned (cP 0 0 (s.made+1) bp bp 0 bp)) (fun _=>deadL (vH c s)) (fun x=>vH c x):=by
 have hq:c.q<2147483648:=by have:=hc.q2;omega
 have D:=Ey s.v c.N c.lim (.slice (some ⟨s.vk,0,none⟩) 32 s.vc) s.d s.rs s.lg s.r s.p s.cm s.pp s.rc 1 1 1 s.al 0 bp 0 0 h 0 0 0 bp bp bp bp false c.tt c.q s.mb s.mc s.ch s.hb s.hc s.cb s.sh s.made s.ca s.cct s.tn [(c.tt,bi s.tn)] s.A s.SH h64 (by rw [hT,cp,if_pos rfl]) r1 b1 hA hr h19 hs.shp.shots hq hOv hmd
 have E:b9 c.tt c.q s.mb s.mc 0 0 0 s.ch s.hb s.hc s.cb s.sh s.made=b9 c.tt c.q s.mb s.mc s.rp s.rc2 s.rg2 s.ch s.hb s.hc s.cb s.sh s.made:=by rw [e1,e2,e3]
 have E2:b9 c.tt c.q s.mb s.mc 0 0 0 s.ch s.hb s.hc s.cb s.sh (s.made+1)=b9 c.tt c.q s.mb s.mc s.rp s.rc2 s.rg2 s.ch s.hb s.hc s.cb s.sh (s.made+1):=by rw [e1,e2,e3]
 rw [E,E2,wR hk] at D
 have D2:=D.fw (φ2:=fun _:Unit=>True) (e2:=fun _=>.returned (cP 0 0 (s.made+1) bp bp 0 bp)) (HR2:=[(s.v,.cl (bU c.N c.lim (sA s.vk 32 s.vc) s.d s.rs s.lg true s.r s.p s.cm s.pp s.rc 1 1 1 s.al) 90),(s.al,.pr (MU [(c.tt,bi s.tn)])),(s.cb,.cl (cL s.ca s.cct) 212),cH s.ca s.A,(0,.fa (ShF c.tt s.SH))]) (HW2:=fun _=>[(s.tn,.cl (b9 c.tt c.q s.mb s.mc s.rp s.rc2 s.rg2 s.ch s.hb s.hc s.cb s.sh (s.made+1)) 113),(s.sh,.pr (MV (s.SH++[(s.made+1,fR 0 0 0 s.ch none 0 0)])))]) (HN2:=fun _=>[(0,.fa (ShF c.tt (s.SH++[(s.made+1,fR 0 0 0 s.ch none 0 0)])))]) rfl (fun w h=>trivial) fun x _=>⟨(),trivial,rfl,rfl,rfl,fun w h _=>⟨ShF.up0 h.1 _ _,trivial⟩⟩
 exact D2.lift [0,1,3,4,25] [2,5] (by kernel_rfl) (fun _=>bD (bD bH (fun _=>rfl)) (fun _=>rfl)) fun _ _=>⟨_,rfl,rfl,List.range 25++[26],by kernel_rfl⟩
include hs hc h64 hT in
theorem D6 (hr0:oL c s) (r1 b1:Nat) (hA:lk s.A (h%4294967296)=some (hV r1 b1)) (hr:(cM 4 r1 != 0)=false) (h19:s.SH.length≤19) (hk:∀ p∈s.SH,p.1<s.made+1) (hOv:s.ch+(dV s.SH+s.ch+1)≤c.q) (hmd:s.made<1000000) (hpin:s.pin s.rp<1000000) :
 TT 10 #[bi s.v,.agg #[i64 14,u32 0,bp,i64 0,i64 0,u64 h,u64 0,u64 0,u8 0,bp,bp,bp,bp,.bool false]] [] (vH c s) (fun x:VS=>∃ lb lc,x=s.snap1 lb lc) (fun _=>.returned (cP 0 0 (s.made+1) bp bp 0 bp)) (fun _=>deadL (vH c s)) (fun x=>vH c x):=by
 have hq:c.q<2147483648:=by have:=hc.q2;omega
 obtain ⟨e1,-,e2,e3,-,-,-,e4,k1,k2,v0,v3⟩:=hr0
 have hN4:=hc.N4
 have D:=E7 s.v c.N c.lim (.slice (some ⟨s.vk,0,none⟩) 32 s.vc) s.d s.rs s.lg s.r s.p s.cm s.pp s.rc 1 1 1 s.al 0 bp 0 0 h 0 0 0 bp bp bp bp false c.tt c.q s.mb s.mc s.rp s.rc2 s.rg2 s.ch s.hb s.hc s.cb s.sh s.made s.ca s.cct s.tn [(c.tt,bi s.tn)] s.A s.SH s.nf s.cf s.kn s.wt s.Af s.pu s.dr s.pi 0 s.lst s.fl h64 (by rw [hT,cp,if_pos rfl]) r1 b1 hA hr h19 hs.shp.shots hq hOv hmd s.na s.nfm (.slice none 0 0) s.steps 0 s.kk s.val s.K s.M hs.km (by rw [e4,e1]) e2 e3 (by omega) k1 k2 v0 v3 s.I s.pin hs.pins hpin
 simp only [wR hk] at D
 have D1:=D.frzN (fun _=>rfl) (q:=fun x=>CF x.1 0 (ga c.tt s.rp s.rc2 s.rg2)) fun x w hw=>by
  obtain ⟨o,ho,hr⟩:=hw
  exact ⟨o,ho,ci o hr⟩
 have D2:=D1.fw (φ2:=fun _:Nat×Nat=>True) (e2:=fun _=>.returned (cP 0 0 (s.made+1) bp bp 0 bp)) (HR2:=[(s.v,.cl (bU c.N c.lim (sA s.vk 32 s.vc) s.d s.rs s.lg true s.r s.p s.cm s.pp s.rc 1 1 1 s.al) 90),(s.al,.pr (MU [(c.tt,bi s.tn)])),(s.cb,.cl (cL s.ca s.cct) 212),cH s.ca s.A,(s.p,.cl (bM s.d s.r s.lg s.Af s.nf s.cf s.kn s.wt s.pu s.dr s.pi 0 s.lst s.fl) 199),(s.d,.cl (bQ s.na s.nfm c.N (.slice none 0 0) s.steps) bT),(s.kn,.pr (MU s.K)),(0,.fa (PgsF s.K s.M)),(0,.fa (ShF c.tt s.SH))]) (HW2:=fun x=>[(s.tn,.cl (b9 c.tt c.q s.mb s.mc s.rp s.rc2 s.rg2 s.ch s.hb s.hc s.cb s.sh (s.made+1)) 113),(s.sh,.pr (MV (s.SH++[(s.made+1,fR s.rp s.rc2 s.rg2 s.ch (pA x.1) 1 x.2)]))),(s.pi,.pr (MU (up s.I s.rp (i64 ((s.pin s.rp+1:Nat):Int)))))]) (HN2:=fun x=>[(0,.fa (ShF c.tt (s.SH++[(s.made+1,fR s.rp s.rc2 s.rg2 s.ch (some ⟨x.1,0,none⟩) 1 x.2)])))]) rfl (fun w h=>⟨h.1,trivial⟩) fun x _=>⟨x,trivial,rfl,rfl,rfl,fun w h h1=>⟨ShF.up1 h.2.1 _ _ _ _ _ _ _ h1.1,trivial⟩⟩
 exact D2.lift [0,1,3,4,8,15,9,19,25] [2,5,11] (by kernel_rfl) (fun _=>bD (bD (bD bH (fun _=>rfl)) (fun _=>rfl)) (fun _=>rfl)) fun x _=>⟨_,⟨x.1,x.2,rfl⟩,rfl,List.range 25++[26],by kernel_rfl⟩
end
theorem nh {N:Nat}:∀ (L:bV) (lo:Nat),(∀ r∈L,r.1<r.2)→(L.Pairwise fun a b=>a.2<b.1)→(∀ r∈L,lo≤r.1)→(∀ r∈L,r.1<N)→L=[]∨L.length+lo≤N
 | [],_,_,_,_,_=>.inl rfl
 | r::L,lo,hp,hg,hl,hN=>.inr (by
  have h1:=hp r List.mem_cons_self
  have h2:=List.pairwise_cons.1 hg
  have h3:=hl r List.mem_cons_self
  have h4:=hN r List.mem_cons_self
  rcases nh L (lo+1) (fun q hq=>hp q (List.mem_cons_of_mem _ hq)) h2.2 (fun q hq=>by have:=h2.1 q hq;omega) (fun q hq=>hN q (List.mem_cons_of_mem _ hq)) with e | e
  · rw [e];simp;omega
  · simp;omega)
theorem VS.Ok.len {c:VC} {s:VS} (h:s.Ok c):s.L.length≤c.N:=by
 rcases nh s.L 0 h.runs.pos h.runs.gap (fun r _=>Nat.zero_le _) (fun r hr=>(h.rng r.1 ⟨r,hr,Nat.le_refl _,h.runs.pos r hr⟩).2) with e | e
 · rw [e];exact Nat.zero_le _
 · omega
theorem VS.Ok.pin {c:VC} {s:VS} (h:s.Ok c) (m:Nat):s.pin m≤s.SH.length:=by
 rw [h.pinc m]
 have h1:=List.count_le_length (a:=m) (l:=go s.SH)
 have h2:(go s.SH).length≤s.SH.length:=List.length_filterMap_le _ _
 omega
theorem ml {c:VC} (hc:c.Ok) (ch rp rc rg:Nat):(bJ c.q ch c.mark rp rc rg 0 1 c.hcm c.wr).length=59:=by
 have h1:=hc.mark
 have h2:=hc.wr
 simp [bJ,fC,← h1,← h2]
section
variable (c:VC) (s:VS) (hs:s.Ok c) (hc:c.Ok)
include hs hc in
theorem ID (hW8:s.W.length≤8) (hS20:s.SH.length≤20) (hMg:s.Mg≤800000) (hcm7:s.cm+1<128) (hlim:s.cm<c.lim) :
 TT 10 #[bi s.v,.agg #[i64 2,u32 c.tt,bp,i64 0,i64 0,u64 0,u64 0,u64 0,u8 0,bp,bp,bp,bp,.bool false]] [] (vH c s) uT (fun _=>.returned (cP 0 0 0 bp bp 0 bp)) (fun _=>deadL (vH c s)) (fun _=>[(s.v,.cl (bU c.N c.lim (sA s.vk 32 s.vc) s.d s.rs s.lg true s.r s.p (s.cm+1) 0 0 0 1 0 s.al) 90),(s.al,.pr (MU []))]):=by
 have hlen:=hs.len
 refine Tri.facW (q:=s.nf=s.L.length) 18 0 _ rfl (fun w h=>h.1) fun hnf=>?_
 have hN4:=hc.N4
 have hpin:∀ m,s.pin m<1000000:=fun m=>by have:=hs.pin m;omega
 have z:(bJ c.q s.ch c.mark s.rp s.rc2 s.rg2 0 1 c.hcm c.wr).length=59:=ml hc _ _ _ _
 have z0:1≤(bJ c.q s.ch c.mark s.rp s.rc2 s.rg2 0 1 c.hcm c.wr).length:=by omega
 have z3:(bJ c.q s.ch c.mark s.rp s.rc2 s.rg2 0 1 c.hcm c.wr).length≤64:=by omega
 have hd:del [(c.tt,bi s.tn)] c.tt=[]:=by simp [del]
 obtain ⟨-,kb,ko,kc,hgv⟩:=hs.rg.yes _ _ hc.kft
 rcases hs.root with ⟨e1,e2,e3,-⟩ | ⟨e1,-,e2,e3,e5,g5,g6,e4,k1,k2,v0,v3⟩
 · have hw12:(s.W++[s.pp]).length≤12:=by simp;omega
   have hwu:(s.W++[s.pp]).Nodup:=by
    rw [List.nodup_append]
    exact ⟨hs.wnd,by simp,fun a ha b hb e=>hs.ppW (by rw [← List.mem_singleton.1 hb,← e];exact ha)⟩
   have hwn:∀ n∈s.W++[s.pp],2≤n∧n<c.N∧¬ bR s.L n:=fun n hn=>by
    rcases List.mem_append.1 hn with hn | hn
    · exact ⟨(hs.wp n hn).1,(hs.wp n hn).2.1,(hs.wp n hn).2.2.1⟩
    · rw [List.mem_singleton.1 hn];exact ⟨hs.pp2,hs.ppN,hs.ppL⟩
   have D:=Fw s.v c.N c.lim (sA s.vk 32 s.vc) s.d s.rs s.lg s.r s.p s.cm s.pp s.rc 1 1 1 s.al c.tt bp 0 0 0 0 0 0 bp bp bp bp false c.tt c.q s.mb s.mc s.ch s.hb s.hc s.cb s.sh s.made s.tn s.nf s.cf s.kn s.wt s.Af s.pi s.cm s.lst [(c.tt,bi s.tn)] s.SH rfl (by rw [cp,if_pos rfl]) hs.shp hc.tt s.na s.nfm s.steps 0 0 0 0 s.m (bJ c.q s.ch c.mark s.rp s.rc2 s.rg2 0 1 c.hcm c.wr) s.K s.M hs.km s.L hs.runs s.W (by omega) (by rw [hs.roll]) z0 z3 hs.ppL hs.ppW hs.pp2 hs.ppN (by have:=hs.ppN;omega) hN4 hc.N8 s.I s.pin hs.pins hpin hs.pinc s.now s.firm hs.now hs.firm hs.n256 hs.f256 s.lb s.Mg s.lsb s.lv s.xs hs.log hMg s.G c.Kf hs.rg hs.rg.len hs.gt _ hgv c.rkey hc.kf0 hc.rkey (by omega) (fun m hm=>(hs.rng m hm).2) hw12 hwu hwn s.dv s.fl s.pu s.dr hs.lst hcm7 hlim hc.lim
   have E:b9 c.tt c.q s.mb s.mc 0 0 0 s.ch s.hb s.hc s.cb s.sh s.made=b9 c.tt c.q s.mb s.mc s.rp s.rc2 s.rg2 s.ch s.hb s.hc s.cb s.sh s.made:=by rw [e1,e2,e3]
   rw [E,hd] at D
   exact D.lift [6,2,5,18,19,20,25] [0,1,7,8,9,10,11,12,13,14,15,16,17] (by kernel_rfl) (fun _=>sameAd_dead _) fun _ _=>⟨(),trivial,rfl,[26,27],by kernel_rfl⟩
 · have hw12:(s.W++[s.rp]++[s.pp]).length≤12:=by simp;omega
   have hwu:(s.W++[s.rp]++[s.pp]).Nodup:=by
    rw [List.nodup_append,List.nodup_append]
    refine ⟨⟨hs.wnd,by simp,fun a ha b hb e=>g6 (by rw [← List.mem_singleton.1 hb,← e];exact ha)⟩,by simp,fun a ha b hb e=>?_⟩
    rw [List.mem_singleton.1 hb] at e
    subst e
    rcases List.mem_append.1 ha with ha | ha
    · exact hs.ppW ha
    · exact e5 (List.mem_singleton.1 ha).symm
   have hwn:∀ n∈s.W++[s.rp]++[s.pp],2≤n∧n<c.N∧¬ bR s.L n:=fun n hn=>by
    rcases List.mem_append.1 hn with hn | hn
    · rcases List.mem_append.1 hn with hn | hn
      · exact ⟨(hs.wp n hn).1,(hs.wp n hn).2.1,(hs.wp n hn).2.2.1⟩
      · rw [List.mem_singleton.1 hn];exact ⟨e2,e3,g5⟩
    · rw [List.mem_singleton.1 hn];exact ⟨hs.pp2,hs.ppN,hs.ppL⟩
   have D:=He s.v c.N c.lim (sA s.vk 32 s.vc) s.d s.rs s.lg s.r s.p s.cm s.pp s.rc 1 1 1 s.al c.tt bp 0 0 0 0 0 0 bp bp bp bp false c.tt c.q s.mb s.mc s.rp s.rc2 s.rg2 s.ch s.hb s.hc s.cb s.sh s.made s.tn s.nf s.cf s.kn s.wt s.Af s.pi s.cm s.lst [(c.tt,bi s.tn)] s.SH rfl (by rw [cp,if_pos rfl]) hs.shp hc.tt s.na s.nfm s.steps 0 0 0 0 s.m (bJ c.q s.ch c.mark s.rp s.rc2 s.rg2 0 1 c.hcm c.wr) s.K s.M hs.km s.L hs.runs s.W s.kk s.val (by rw [e4,e1]) k1 k2 v0 v3 g5 g6 e2 e3 (by omega) (by omega) (by rw [hs.roll]) z0 z3 hs.ppL (by simp;exact ⟨hs.ppW,fun h=>e5 h.symm⟩) hs.pp2 hs.ppN (by have:=hs.ppN;omega) hN4 hc.N8 s.I s.pin hs.pins hpin hs.pinc s.now s.firm hs.now hs.firm hs.n256 hs.f256 s.lb s.Mg s.lsb s.lv s.xs hs.log hMg s.G c.Kf hs.rg hs.rg.len hs.gt _ hgv c.rkey hc.kf0 hc.rkey (by omega) (fun m hm=>(hs.rng m hm).2) hw12 hwu hwn s.dv s.fl s.pu s.dr hs.lst hcm7 hlim hc.lim
   rw [hd] at D
   exact D.lift [6,2,5,18,19,20,25] [0,1,7,8,9,10,11,12,13,14,15,16,17] (by kernel_rfl) (fun _=>sameAd_dead _) fun _ _=>⟨(),trivial,rfl,[26,27],by kernel_rfl⟩
end
end Go.Proofs.YtlkeemedalncoaaGreat.En
