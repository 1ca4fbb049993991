/- TopHandles, part 20: no condition. -/
import Derived.Test.YtlkeemedalncoaaGreatP19
set_option linter.all false
set_option maxHeartbeats 16000000
set_option maxRecDepth 100000
namespace Go.Proofs.YtlkeemedalncoaaGreat.En
open Go Go.RowKit Go.Proofs.YtlkeemedalncoaaGreat Go.Proofs.Tryz
section
variable (v N lim:Nat) (key:Vl) (d rs lg:Nat) (op:Bool) (r p c pp rc rg gn n al:Nat)
variable (k t:Nat) (sec:Vl) (q1 n1:Int) (h o s rt:Nat) (ops ky fr to9:Vl) (bk:Bool)
variable (tt q mb mc rp rc2 rg2 ch hb hc cb sh made ca cm tn:Nat) (T A:List (Nat×Vl))
theorem CO (h64:h<18446744073709551616) (hT:lk T (h/4294967296)=some (bi tn)) (a b:Nat) (hA:lk A (h%4294967296)=some (hV a b)) (h0:(cM 0 a != 0)=false) (e:¬ bits .and .u8 a 8=0) (hr:(cM rt a != 0)=false) (f:A.length<64) (g:cm<1000000) (i:tt<4294967296) :
 TT 70 #[bi v,cR k t sec q1 n1 h o s rt ops ky fr to9 bk] [(v,.cl (bU N lim key d rs lg op r p c pp rc rg gn n al) 90),(al,.pr (MU T)),(tn,.cl (b9 tt q mb mc rp rc2 rg2 ch hb hc cb sh made) 113)] [(cb,.cl (cL ca cm) 212),cH ca A] uT (fun _=>.returned (cP 0 (tt*4294967296+(cm+1)) 0 (.slice none 0 0) (.slice none 0 0) 0 (.slice none 0 0))) (fun _=>[(cb,.cl (cL ca (cm+1)) 212),cH ca (up A (cm+1) (hV rt (h%4294967296)))]) (fun _=>[]):=by
 refine iE func70<|bu [9999,5] 2 fun nm=>bv (k6 v N lim key d rs lg op r p c pp rc rg gn n al k t sec q1 n1 h o s rt ops ky fr to9 bk tt q mb mc rp rc2 rg2 ch hb hc cb sh made ca cm tn T A 0 h64 hT a b hA h0) [0,1,2,3,4] []<|zE<|bj [9999,88,2,2,5]<|cE (nS tt) [] [] fun x _=>zE<|bv (Cv cb ca cm (h%4294967296) rt a b A hA e hr f g) [] [3,4]<|zE<|bv (sG tt x (cm+1) i (by omega)) [7] []<|bj [6] ?_
 exact rT () 6
theorem Fh (h64:h<18446744073709551616) (hT:lk T (h/4294967296)=some (bi tn)) (a b:Nat) (hA:lk A (h%4294967296)=some (hV a b)) (h0:(cM 0 a != 0)=false) (e:bits .and .u8 a 8=0) :
 eG 70 #[bi v,cR k t sec q1 n1 h o s rt ops ky fr to9 bk] [(v,.cl (bU N lim key d rs lg op r p c pp rc rg gn n al) 90),(al,.pr (MU T)),(tn,.cl (b9 tt q mb mc rp rc2 rg2 ch hb hc cb sh made) 113),(cb,.cl (cL ca cm) 212),cH ca A] (fz 250):=iE func70<|bu [9999,5] 2 fun nm=>bv (k6 v N lim key d rs lg op r p c pp rc rg gn n al k t sec q1 n1 h o s rt ops ky fr to9 bk tt q mb mc rp rc2 rg2 ch hb hc cb sh made ca cm tn T A 0 h64 hT a b hA h0) [0,1,2,3,4] []<|zE<|bj [9999,0,2,2,5]<|cE (nS tt) [] [] fun x _=>zE<|bv (B7 cb ca cm (h%4294967296) rt a b A hA e) [3,4] []<|zE<|uV (rZ x 0) [] () [] rfl
theorem D8 (h64:h<18446744073709551616) (hT:lk T (h/4294967296)=some (bi tn)) (a b:Nat) (hA:lk A (h%4294967296)=some (hV a b)) (h0:(cM 0 a != 0)=false) (e:¬ bits .and .u8 a 8=0) (hr:(cM rt a != 0)=true) :
 eG 70 #[bi v,cR k t sec q1 n1 h o s rt ops ky fr to9 bk] [(v,.cl (bU N lim key d rs lg op r p c pp rc rg gn n al) 90),(al,.pr (MU T)),(tn,.cl (b9 tt q mb mc rp rc2 rg2 ch hb hc cb sh made) 113),(cb,.cl (cL ca cm) 212),cH ca A] (fz 250):=iE func70<|bu [9999,5] 2 fun nm=>bv (k6 v N lim key d rs lg op r p c pp rc rg gn n al k t sec q1 n1 h o s rt ops ky fr to9 bk tt q mb mc rp rc2 rg2 ch hb hc cb sh made ca cm tn T A 0 h64 hT a b hA h0) [0,1,2,3,4] []<|zE<|bj [9999,0,2,2,5]<|cE (nS tt) [] [] fun x _=>zE<|bv (B3 cb ca cm (h%4294967296) rt a b A hA e hr) [3,4] []<|zE<|uV (rZ x 0) [] () [] rfl
end
theorem kZ (a b:Nat) (u:FrameMode):jZ prog 25 #[bi a,bi b] u u [(a,.cl [i64 0] 33)] [] uT (fun _=>.tuple #[]) (fun _=>[]) (fun _=>[]):=qL func25 fun w0 ho=>bj [0,0,0]<|rT ()
theorem ji (b a:Nat) (e:Int) (u:FrameMode) (c:(e != 0)=true:=by rfl):jZ prog 25 #[bi b,bi a] u u [(b,.cl [i64 e] 33)] [(a,.cl [i64 0,u64 0,u64 0,.slice none 0 0,.slice none 0 0,i64 0,.slice none 0 0] 47)] uT (fun _=>.tuple #[]) (fun _=>[(a,.cl [i64 e,u64 0,u64 0,.slice none 0 0,.slice none 0 0,i64 0,.slice none 0 0] 47)]) (fun _=>[]):=qL func25 fun w0 ho=>bK [0,1,0,0,9999,1] (br c bt)<|rT ()
section
variable (v N lim:Nat) (key:Vl) (d rs lg:Nat) (r p c pp rc rg gn n al:Nat)
variable (t:Nat) (sec:Vl) (q1 n1:Int) (h o s rt:Nat) (ops ky fr to9:Vl) (bk:Bool)
variable (tt q mb mc rp rc2 rg2 ch hb hc cb sh made ca cm tn:Nat) (T A:List (Nat×Vl))
theorem DN (h64:h<18446744073709551616) (hT:lk T (h/4294967296)=some (bi tn)) (a b:Nat) (hA:lk A (h%4294967296)=some (hV a b)) (h0:(cM 0 a != 0)=false) (e:¬ bits .and .u8 a 8=0) (hr:(cM rt a != 0)=false) (f:A.length<64) (g:cm<1000000) (i:tt<4294967296) :
 TT 10 #[bi v,cR 9 t sec q1 n1 h o s rt ops ky fr to9 bk] [(v,.cl (bU N lim key d rs lg true r p c pp rc rg gn n al) 90),(al,.pr (MU T)),(tn,.cl (b9 tt q mb mc rp rc2 rg2 ch hb hc cb sh made) 113)] [(cb,.cl (cL ca cm) 212),cH ca A] uT (fun _=>.returned (cP 0 (tt*4294967296+(cm+1)) 0 (.slice none 0 0) (.slice none 0 0) 0 (.slice none 0 0))) (fun _=>[(cb,.cl (cL ca (cm+1)) 212),cH ca (up A (cm+1) (hV rt (h%4294967296)))]) (fun _=>[]):=by
 refine dE func10 fun w0 ho=>bu [9999] 2 fun nm=>bv (ea v N lim key d rs lg true r p c pp rc rg gn n al) [0] []<|bu [0,0,0,7] 1 fun nm1=>cS ⟨.fn (.func 25) #[bi (nm1 0),bi (nm 1)],#[]⟩<|zE<|cS ⟨.fn (.func 26) #[],#[bi v,bi (nm1 0)]⟩<|bj [5]<|bv (vq v) [] []<|bj [0,0,5]<|cE (CO v N lim key d rs lg true r p c pp rc rg gn n al 9 t sec q1 n1 h o s rt ops ky fr to9 bk tt q mb mc rp rc2 rg2 ch hb hc cb sh made ca cm tn T A h64 hT a b hA h0 e hr f g i) [0,1,2] [3,4] ?_
 intro _ _
 exact bj [6]<|fV<|dG #[] #[bi v,bi (nm1 0)] [⟨.fn (.func 25) #[bi (nm1 0),bi (nm 1)],#[]⟩] (gx v (nm1 0)) [] [] fun _ _=>dG #[bi (nm1 0),bi (nm 1)] #[] [] (kZ (nm1 0) (nm 1) .returning) [7] [] fun _ _=>fS () (cP 0 (tt*4294967296+(cm+1)) 0 (.slice none 0 0) (.slice none 0 0) 0 (.slice none 0 0)) [] (fN _ 6)
theorem Ee (h64:h<18446744073709551616) (hT:lk T (h/4294967296)=some (bi tn)) (a b:Nat) (hA:lk A (h%4294967296)=some (hV a b)) (h0:(cM 0 a != 0)=false) (e:bits .and .u8 a 8=0) :
 Same 10 #[bi v,cR 9 t sec q1 n1 h o s rt ops ky fr to9 bk] [(v,.cl (bU N lim key d rs lg true r p c pp rc rg gn n al) 90),(al,.pr (MU T)),(tn,.cl (b9 tt q mb mc rp rc2 rg2 ch hb hc cb sh made) 113),(cb,.cl (cL ca cm) 212),cH ca A] (dt 250):=by
 refine dE func10 fun w0 ho=>bu [9999] 2 fun nm=>bv (ea v N lim key d rs lg true r p c pp rc rg gn n al) [0] []<|bu [0,0,0,7] 1 fun nm1=>cS ⟨.fn (.func 25) #[bi (nm1 0),bi (nm 1)],#[]⟩<|zE<|cS ⟨.fn (.func 26) #[],#[bi v,bi (nm1 0)]⟩<|bj [5]<|bv (vq v) [] []<|bj [0,0,5]<|iq (Fh v N lim key d rs lg true r p c pp rc rg gn n al 9 t sec q1 n1 h o s rt ops ky fr to9 bk tt q mb mc rp rc2 rg2 ch hb hc cb sh made ca cm tn T A h64 hT a b hA h0 e) [0,1,2,3,4] [] (fun _=>bH) fun _ _=>?_
 exact dG #[] #[bi v,bi (nm1 0)] [⟨.fn (.func 25) #[bi (nm1 0),bi (nm 1)],#[]⟩] (ig v (nm1 0) 250) [] [7] fun _ _=>dG #[bi (nm1 0),bi (nm 1)] #[] [] (ji (nm1 0) (nm 1) 250 .returning) [7] [6] fun _ _=>fS () (dt 250) [] (fN _ 6)
end
section
variable (v N lim:Nat) (key:Vl) (d rs lg:Nat) (op:Bool) (r p c pp rc rg gn n al:Nat)
variable (k t:Nat) (sec:Vl) (q1 n1:Int) (h o s rt:Nat) (ops ky fr too:Vl) (bk:Bool)
variable (tt q mb mc rp rc2 rg2 ch hb hc cb sh made ca cm tn:Nat) (T A:List (Nat×Vl))
theorem GP (h64:h<18446744073709551616) (hT:lk T (h/4294967296)=some (bi tn)) (a b:Nat) (hA:lk A (h%4294967296)=some (hV a b)) (hr:(cM 1 a != 0)=true):eG 73 #[bi v,cR k t sec q1 n1 h o s rt ops ky fr too bk] [(v,.cl (bU N lim key d rs lg op r p c pp rc rg gn n al) 90),(al,.pr (MU T)),(tn,.cl (b9 tt q mb mc rp rc2 rg2 ch hb hc cb sh made) 113),(cb,.cl (cL ca cm) 212),cH ca A] (fz 250):=iE func73<|bu [9999,5] 2 fun nm=>gB (BB v N lim key d rs lg op r p c pp rc rg gn n al k t sec q1 n1 h o s rt ops ky fr too bk tt q mb mc rp rc2 rg2 ch hb hc cb sh made ca cm tn T A h64 hT a b hA hr) [0,1,2,3,4] () []
theorem Hx (h64:h<18446744073709551616) (hT:lk T (h/4294967296)=some (bi tn)) (a b:Nat) (hA:lk A (h%4294967296)=some (hV a b)) (hr:(cM 1 a != 0)=true):Same 10 #[bi v,cR 12 t sec q1 n1 h o s rt ops ky fr too bk] [(v,.cl (bU N lim key d rs lg true r p c pp rc rg gn n al) 90),(al,.pr (MU T)),(tn,.cl (b9 tt q mb mc rp rc2 rg2 ch hb hc cb sh made) 113),(cb,.cl (cL ca cm) 212),cH ca A] (dt 250):=by
 refine dE func10 fun w0 ho=>bu [9999] 2 fun nm=>bv (ea v N lim key d rs lg true r p c pp rc rg gn n al) [0] []<|bu [0,0,0,7] 1 fun nm1=>cS ⟨.fn (.func 25) #[bi (nm1 0),bi (nm 1)],#[]⟩<|zE<|cS ⟨.fn (.func 26) #[],#[bi v,bi (nm1 0)]⟩<|bj [5]<|bv (nj v) [] []<|bj [0,0,5]<|iq (GP v N lim key d rs lg true r p c pp rc rg gn n al 12 t sec q1 n1 h o s rt ops ky fr too bk tt q mb mc rp rc2 rg2 ch hb hc cb sh made ca cm tn T A h64 hT a b hA hr) [0,1,2,3,4] [] (fun _=>bH) fun _ _=>?_
 exact dG #[] #[bi v,bi (nm1 0)] [⟨.fn (.func 25) #[bi (nm1 0),bi (nm 1)],#[]⟩] (ig v (nm1 0) 250) [] [7] fun _ _=>dG #[bi (nm1 0),bi (nm 1)] #[] [] (ji (nm1 0) (nm 1) 250 .returning) [7] [6] fun _ _=>fS () (dt 250) [] (fN _ 6)
theorem FN (h64:h<18446744073709551616) (hT:lk T (h/4294967296)=some (bi tn)) (hA:lk A (h%4294967296)=none):eG 73 #[bi v,cR k t sec q1 n1 h o s rt ops ky fr too bk] [(v,.cl (bU N lim key d rs lg op r p c pp rc rg gn n al) 90),(al,.pr (MU T)),(tn,.cl (b9 tt q mb mc rp rc2 rg2 ch hb hc cb sh made) 113),(cb,.cl (cL ca cm) 212),cH ca A] (fz 7):=iE func73<|bu [9999,5] 2 fun nm=>gB (Cf v N lim key d rs lg op r p c pp rc rg gn n al k t sec q1 n1 h o s rt ops ky fr too bk tt q mb mc rp rc2 rg2 ch hb hc cb sh made ca cm tn T A h64 hT hA) [0,1,2,3,4] () []
theorem FL (h64:h<18446744073709551616) (hT:lk T (h/4294967296)=some (bi tn)) (hA:lk A (h%4294967296)=none):Same 10 #[bi v,cR 12 t sec q1 n1 h o s rt ops ky fr too bk] [(v,.cl (bU N lim key d rs lg true r p c pp rc rg gn n al) 90),(al,.pr (MU T)),(tn,.cl (b9 tt q mb mc rp rc2 rg2 ch hb hc cb sh made) 113),(cb,.cl (cL ca cm) 212),cH ca A] (dt 7):=by
 refine dE func10 fun w0 ho=>bu [9999] 2 fun nm=>bv (ea v N lim key d rs lg true r p c pp rc rg gn n al) [0] []<|bu [0,0,0,7] 1 fun nm1=>cS ⟨.fn (.func 25) #[bi (nm1 0),bi (nm 1)],#[]⟩<|zE<|cS ⟨.fn (.func 26) #[],#[bi v,bi (nm1 0)]⟩<|bj [5]<|bv (nj v) [] []<|bj [0,0,5]<|iq (FN v N lim key d rs lg true r p c pp rc rg gn n al 12 t sec q1 n1 h o s rt ops ky fr too bk tt q mb mc rp rc2 rg2 ch hb hc cb sh made ca cm tn T A h64 hT hA) [0,1,2,3,4] [] (fun _=>bH) fun _ _=>?_
 exact dG #[] #[bi v,bi (nm1 0)] [⟨.fn (.func 25) #[bi (nm1 0),bi (nm 1)],#[]⟩] (ig v (nm1 0) 7) [] [7] fun _ _=>dG #[bi (nm1 0),bi (nm 1)] #[] [] (ji (nm1 0) (nm 1) 7 .returning) [7] [6] fun _ _=>fS () (dt 7) [] (fN _ 6)
theorem FQ (h64:h<18446744073709551616) (hT:lk T (h/4294967296)=some (bi tn)) (a b:Nat) (hA:lk A (h%4294967296)=some (hV a b)) (hr:(cM 2 a != 0)=true):eG 72 #[bi v,cR k t sec q1 n1 h o s rt ops ky fr too bk] [(v,.cl (bU N lim key d rs lg op r p c pp rc rg gn n al) 90),(al,.pr (MU T)),(tn,.cl (b9 tt q mb mc rp rc2 rg2 ch hb hc cb sh made) 113),(cb,.cl (cL ca cm) 212),cH ca A] (fz 250):=iE func72<|bu [9999,9999,5,6] 3 fun nm=>gB (BD v N lim key d rs lg op r p c pp rc rg gn n al k t sec q1 n1 h o s rt ops ky fr too bk tt q mb mc rp rc2 rg2 ch hb hc cb sh made ca cm tn T A h64 hT a b hA hr) [0,1,2,3,4] () []
theorem Fz (h64:h<18446744073709551616) (hT:lk T (h/4294967296)=some (bi tn)) (a b:Nat) (hA:lk A (h%4294967296)=some (hV a b)) (hr:(cM 2 a != 0)=true):Same 10 #[bi v,cR 11 t sec q1 n1 h o s rt ops ky fr too bk] [(v,.cl (bU N lim key d rs lg true r p c pp rc rg gn n al) 90),(al,.pr (MU T)),(tn,.cl (b9 tt q mb mc rp rc2 rg2 ch hb hc cb sh made) 113),(cb,.cl (cL ca cm) 212),cH ca A] (dt 250):=by
 refine dE func10 fun w0 ho=>bu [9999] 2 fun nm=>bv (ea v N lim key d rs lg true r p c pp rc rg gn n al) [0] []<|bu [0,0,0,7] 1 fun nm1=>cS ⟨.fn (.func 25) #[bi (nm1 0),bi (nm 1)],#[]⟩<|zE<|cS ⟨.fn (.func 26) #[],#[bi v,bi (nm1 0)]⟩<|bj [5]<|bv (px v) [] []<|bj [0,0,5]<|iq (FQ v N lim key d rs lg true r p c pp rc rg gn n al 11 t sec q1 n1 h o s rt ops ky fr too bk tt q mb mc rp rc2 rg2 ch hb hc cb sh made ca cm tn T A h64 hT a b hA hr) [0,1,2,3,4] [] (fun _=>bH) fun _ _=>?_
 exact dG #[] #[bi v,bi (nm1 0)] [⟨.fn (.func 25) #[bi (nm1 0),bi (nm 1)],#[]⟩] (ig v (nm1 0) 250) [] [7] fun _ _=>dG #[bi (nm1 0),bi (nm 1)] #[] [] (ji (nm1 0) (nm 1) 250 .returning) [7] [6] fun _ _=>fS () (dt 250) [] (fN _ 6)
theorem G3 (h64:h<18446744073709551616) (hT:lk T (h/4294967296)=some (bi tn)) (hA:lk A (h%4294967296)=none):eG 72 #[bi v,cR k t sec q1 n1 h o s rt ops ky fr too bk] [(v,.cl (bU N lim key d rs lg op r p c pp rc rg gn n al) 90),(al,.pr (MU T)),(tn,.cl (b9 tt q mb mc rp rc2 rg2 ch hb hc cb sh made) 113),(cb,.cl (cL ca cm) 212),cH ca A] (fz 7):=iE func72<|bu [9999,9999,5,6] 3 fun nm=>gB (Bp v N lim key d rs lg op r p c pp rc rg gn n al k t sec q1 n1 h o s rt ops ky fr too bk tt q mb mc rp rc2 rg2 ch hb hc cb sh made ca cm tn T A h64 hT hA) [0,1,2,3,4] () []
theorem Hv (h64:h<18446744073709551616) (hT:lk T (h/4294967296)=some (bi tn)) (hA:lk A (h%4294967296)=none):Same 10 #[bi v,cR 11 t sec q1 n1 h o s rt ops ky fr too bk] [(v,.cl (bU N lim key d rs lg true r p c pp rc rg gn n al) 90),(al,.pr (MU T)),(tn,.cl (b9 tt q mb mc rp rc2 rg2 ch hb hc cb sh made) 113),(cb,.cl (cL ca cm) 212),cH ca A] (dt 7):=by
 refine dE func10 fun w0 ho=>bu [9999] 2 fun nm=>bv (ea v N lim key d rs lg true r p c pp rc rg gn n al) [0] []<|bu [0,0,0,7] 1 fun nm1=>cS ⟨.fn (.func 25) #[bi (nm1 0),bi (nm 1)],#[]⟩<|zE<|cS ⟨.fn (.func 26) #[],#[bi v,bi (nm1 0)]⟩<|bj [5]<|bv (px v) [] []<|bj [0,0,5]<|iq (G3 v N lim key d rs lg true r p c pp rc rg gn n al 11 t sec q1 n1 h o s rt ops ky fr too bk tt q mb mc rp rc2 rg2 ch hb hc cb sh made ca cm tn T A h64 hT hA) [0,1,2,3,4] [] (fun _=>bH) fun _ _=>?_
 exact dG #[] #[bi v,bi (nm1 0)] [⟨.fn (.func 25) #[bi (nm1 0),bi (nm 1)],#[]⟩] (ig v (nm1 0) 7) [] [7] fun _ _=>dG #[bi (nm1 0),bi (nm 1)] #[] [] (ji (nm1 0) (nm 1) 7 .returning) [7] [6] fun _ _=>fS () (dt 7) [] (fN _ 6)
theorem El (h64:h<18446744073709551616) (hT:lk T (h/4294967296)=some (bi tn)) (a b:Nat) (hA:lk A (h%4294967296)=some (hV a b)) (hr:(cM 4 a != 0)=true):eG 75 #[bi v,cR k t sec q1 n1 h o s rt ops ky fr too bk] [(v,.cl (bU N lim key d rs lg op r p c pp rc rg gn n al) 90),(al,.pr (MU T)),(tn,.cl (b9 tt q mb mc rp rc2 rg2 ch hb hc cb sh made) 113),(cb,.cl (cL ca cm) 212),cH ca A] (fz 250):=iE func75<|bu [9999,5] 2 fun nm=>gB (A5 v N lim key d rs lg op r p c pp rc rg gn n al k t sec q1 n1 h o s rt ops ky fr too bk tt q mb mc rp rc2 rg2 ch hb hc cb sh made ca cm tn T A h64 hT a b hA hr) [0,1,2,3,4] () []
theorem Ev (h64:h<18446744073709551616) (hT:lk T (h/4294967296)=some (bi tn)) (a b:Nat) (hA:lk A (h%4294967296)=some (hV a b)) (hr:(cM 4 a != 0)=true):Same 10 #[bi v,cR 14 t sec q1 n1 h o s rt ops ky fr too bk] [(v,.cl (bU N lim key d rs lg true r p c pp rc rg gn n al) 90),(al,.pr (MU T)),(tn,.cl (b9 tt q mb mc rp rc2 rg2 ch hb hc cb sh made) 113),(cb,.cl (cL ca cm) 212),cH ca A] (dt 250):=by
 refine dE func10 fun w0 ho=>bu [9999] 2 fun nm=>bv (ea v N lim key d rs lg true r p c pp rc rg gn n al) [0] []<|bu [0,0,0,7] 1 fun nm1=>cS ⟨.fn (.func 25) #[bi (nm1 0),bi (nm 1)],#[]⟩<|zE<|cS ⟨.fn (.func 26) #[],#[bi v,bi (nm1 0)]⟩<|bj [5]<|bv (oU v) [] []<|bj [0,0,5]<|iq (El v N lim key d rs lg true r p c pp rc rg gn n al 14 t sec q1 n1 h o s rt ops ky fr too bk tt q mb mc rp rc2 rg2 ch hb hc cb sh made ca cm tn T A h64 hT a b hA hr) [0,1,2,3,4] [] (fun _=>bH) fun _ _=>?_
 exact dG #[] #[bi v,bi (nm1 0)] [⟨.fn (.func 25) #[bi (nm1 0),bi (nm 1)],#[]⟩] (ig v (nm1 0) 250) [] [7] fun _ _=>dG #[bi (nm1 0),bi (nm 1)] #[] [] (ji (nm1 0) (nm 1) 250 .returning) [7] [6] fun _ _=>fS () (dt 250) [] (fN _ 6)
theorem Fv (h64:h<18446744073709551616) (hT:lk T (h/4294967296)=some (bi tn)) (hA:lk A (h%4294967296)=none):eG 75 #[bi v,cR k t sec q1 n1 h o s rt ops ky fr too bk] [(v,.cl (bU N lim key d rs lg op r p c pp rc rg gn n al) 90),(al,.pr (MU T)),(tn,.cl (b9 tt q mb mc rp rc2 rg2 ch hb hc cb sh made) 113),(cb,.cl (cL ca cm) 212),cH ca A] (fz 7):=iE func75<|bu [9999,5] 2 fun nm=>gB (Cj v N lim key d rs lg op r p c pp rc rg gn n al k t sec q1 n1 h o s rt ops ky fr too bk tt q mb mc rp rc2 rg2 ch hb hc cb sh made ca cm tn T A h64 hT hA) [0,1,2,3,4] () []
theorem EN (h64:h<18446744073709551616) (hT:lk T (h/4294967296)=some (bi tn)) (hA:lk A (h%4294967296)=none):Same 10 #[bi v,cR 14 t sec q1 n1 h o s rt ops ky fr too bk] [(v,.cl (bU N lim key d rs lg true r p c pp rc rg gn n al) 90),(al,.pr (MU T)),(tn,.cl (b9 tt q mb mc rp rc2 rg2 ch hb hc cb sh made) 113),(cb,.cl (cL ca cm) 212),cH ca A] (dt 7):=by
 refine dE func10 fun w0 ho=>bu [9999] 2 fun nm=>bv (ea v N lim key d rs lg true r p c pp rc rg gn n al) [0] []<|bu [0,0,0,7] 1 fun nm1=>cS ⟨.fn (.func 25) #[bi (nm1 0),bi (nm 1)],#[]⟩<|zE<|cS ⟨.fn (.func 26) #[],#[bi v,bi (nm1 0)]⟩<|bj [5]<|bv (oU v) [] []<|bj [0,0,5]<|iq (Fv v N lim key d rs lg true r p c pp rc rg gn n al 14 t sec q1 n1 h o s rt ops ky fr too bk tt q mb mc rp rc2 rg2 ch hb hc cb sh made ca cm tn T A h64 hT hA) [0,1,2,3,4] [] (fun _=>bH) fun _ _=>?_
 exact dG #[] #[bi v,bi (nm1 0)] [⟨.fn (.func 25) #[bi (nm1 0),bi (nm 1)],#[]⟩] (ig v (nm1 0) 7) [] [7] fun _ _=>dG #[bi (nm1 0),bi (nm 1)] #[] [] (ji (nm1 0) (nm 1) 7 .returning) [7] [6] fun _ _=>fS () (dt 7) [] (fN _ 6)
theorem Hb (h64:h<18446744073709551616) (hT:lk T (h/4294967296)=none):eG 77 #[bi v,cR k t sec q1 n1 h o s rt ops ky fr too bk] [(v,.cl (bU N lim key d rs lg op r p c pp rc rg gn n al) 90),(al,.pr (MU T))] (fz 7):=iE func77<|bu [9999,2] 2 fun nm=>gB (Ca v N lim key d rs lg op r p c pp rc rg gn n al k t sec q1 n1 h o s rt ops ky fr too bk T h64 hT) [0,1] () []
theorem Gu (h64:h<18446744073709551616) (hT:lk T (h/4294967296)=none):Same 10 #[bi v,cR 16 t sec q1 n1 h o s rt ops ky fr too bk] [(v,.cl (bU N lim key d rs lg true r p c pp rc rg gn n al) 90),(al,.pr (MU T))] (dt 7):=by
 refine dE func10 fun w0 ho=>bu [9999] 2 fun nm=>bv (ea v N lim key d rs lg true r p c pp rc rg gn n al) [0] []<|bu [0,0,0,4] 1 fun nm1=>cS ⟨.fn (.func 25) #[bi (nm1 0),bi (nm 1)],#[]⟩<|zE<|cS ⟨.fn (.func 26) #[],#[bi v,bi (nm1 0)]⟩<|bj [2]<|bv (EW v) [] []<|bj [0,0,2]<|iq (Hb v N lim key d rs lg true r p c pp rc rg gn n al 16 t sec q1 n1 h o s rt ops ky fr too bk T h64 hT) [0,1] [] (fun _=>bH) fun _ _=>?_
 exact dG #[] #[bi v,bi (nm1 0)] [⟨.fn (.func 25) #[bi (nm1 0),bi (nm 1)],#[]⟩] (ig v (nm1 0) 7) [] [4] fun _ _=>dG #[bi (nm1 0),bi (nm 1)] #[] [] (ji (nm1 0) (nm 1) 7 .returning) [4] [3] fun _ _=>fS () (dt 7) [] (fN _ 3)
end
section
variable (v N lim:Nat) (key:Vl) (d rs lg:Nat) (op:Bool) (r p c pp rc rg gn n al:Nat)
variable (k t:Nat) (sec:Vl) (q1 n1:Int) (h o rt:Nat) (ops fr too:Vl) (bk:Bool)
variable (tt q mb mc rp rc2 rg2 ch hb hc cb sh made ca cm tn:Nat) (T A:List (Nat×Vl))
variable (qb qo qc:Nat)
theorem B6 (e g:Nat) (Af:Option Addr) (nf cf kn wt:Nat) (pu dr:Option Nat) (pi cm lst:Nat) (fl:Bool) (na nfm N:Nat) (m:Vl) (steps:Int) (t n c f a h i j o:Nat) (key val q:Bs) (s:e=q.length) (b:Lib.compareBytes key q=1) (K:List (Nat×Vl)) (M:Nat→Option Pg) (k:KM K M) (u:M n=some ⟨t,1,0,c,f,bw key val⟩) (h2:2≤n) (v:n<N) (l:n<4294967296) (k1:1≤key.length) (w:key.length≤32) (y:1≤val.length) (z:val.length≤64) (q1:1≤q.length) (q2:q.length≤32) :
 TT 152 #[dN p,.int .u32 t,cu n c f,cB h i e j] [(p,.cl (bM d r g Af nf cf kn wt pu dr pi cm lst fl) 199),(d,.cl (bQ na nfm N m steps) bT),(kn,.pr (MU K)),(a,.fa (PgsF K M)),(o,.fa (BF (pO h i) e j q))] [] uT (fun x=>.returned (.tuple #[bp,i64 7])) (fun _=>[]) (fun _=>[]):=by
 subst s
 exact D0 (p:=p) (d:=d) (r:=r) (g:=g) (Af:=Af) (nf:=nf) (cf:=cf) (kn:=kn) (wt:=wt) (pu:=pu) (dr:=dr) (pi:=pi) (cm:=cm) (lst:=lst) (fl:=fl) na nfm N m steps t n c f a h i j o key val q b K M k u h2 v l k1 w y z q1 q2
theorem xU (a:Vl):Same 153 #[bi tn,cR k t sec q1 n1 h o 0 rt ops a fr too bk] [(tn,.cl (b9 tt q mb mc rp rc2 rg2 ch hb hc cb sh made) 113)] (cu rp rc2 rg2):=iE func153<|bu [9999,1,0,0,0,2] 2 fun nm=>rT () 2
theorem AU (a:Vl):Same 153 #[bi tn,cR k t sec q1 n1 h o 0 rt ops a fr too bk] [(tn,.cl (b9 tt q mb mc 0 0 0 ch hb hc cb sh made) 113)] (cu 0 0 0):=iE func153<|bu [9999,1,0,0,0,2] 2 fun nm=>rT () 2
theorem GL (h64:h<18446744073709551616) (hT:lk T (h/4294967296)=some (bi tn)) (b e:Nat) (hA:lk A (h%4294967296)=some (hV b e)) (hr:(cM 1 b != 0)=false) (a:Nat) (k1:1≤a) (f:a≤32):eG 73 #[bi v,cR k t sec q1 n1 h o 0 rt ops (cB qb qo a qc) fr too bk] [(v,.cl (bU N lim key d rs lg op r p c pp rc rg gn n al) 90),(al,.pr (MU T)),(tn,.cl (b9 tt q mb mc 0 0 0 ch hb hc cb sh made) 113),(cb,.cl (cL ca cm) 212),cH ca A] (fz 7):=iE func73<|bu [9999,5] 2 fun nm=>bv (pI v N lim key d rs lg op r p c pp rc rg gn n al k t sec q1 n1 h o 0 rt ops (sO qb qo a qc) fr too bk tt q mb mc 0 0 0 ch hb hc cb sh made ca cm tn T A h64 hT b e hA hr) [0,1,2,3,4] []<|bK [5,2,5,2,0] (br (dF ((↑a:Int)>32)) (br (tF ((↑a:Int)==0)) bt))<|bj [9999,0,0,2,5,5]<|bv (AU k t sec q1 n1 h o rt ops fr too bk tt q mb mc ch hb hc cb sh made tn (sO qb qo a qc)) [2] []<|zE<|bv (xC p tt qb qo a qc k1 f) [] []<|bj [0,0]<|gB (kC 7) [] () []
theorem Hz (h64:h<18446744073709551616) (hT:lk T (h/4294967296)=some (bi tn)) (b e:Nat) (hA:lk A (h%4294967296)=some (hV b e)) (hr:(cM 1 b != 0)=false) (a:Nat) (k1:1≤a) (f:a≤32):Same 10 #[bi v,cR 12 t sec q1 n1 h o 0 rt ops (cB qb qo a qc) fr too bk] [(v,.cl (bU N lim key d rs lg true r p c pp rc rg gn n al) 90),(al,.pr (MU T)),(tn,.cl (b9 tt q mb mc 0 0 0 ch hb hc cb sh made) 113),(cb,.cl (cL ca cm) 212),cH ca A] (dt 7):=by
 refine dE func10 fun w0 ho=>bu [9999] 2 fun nm=>bv (ea v N lim key d rs lg true r p c pp rc rg gn n al) [0] []<|bu [0,0,0,7] 1 fun nm1=>cS ⟨.fn (.func 25) #[bi (nm1 0),bi (nm 1)],#[]⟩<|zE<|cS ⟨.fn (.func 26) #[],#[bi v,bi (nm1 0)]⟩<|bj [5]<|bv (nj v) [] []<|bj [0,0,5]<|iq (GL v N lim key d rs lg true r p c pp rc rg gn n al 12 t sec q1 n1 h o rt ops fr too bk tt q mb mc ch hb hc cb sh made ca cm tn T A qb qo qc h64 hT b e hA hr a k1 f) [0,1,2,3,4] [] (fun _=>bH) fun _ _=>?_
 exact dG #[] #[bi v,bi (nm1 0)] [⟨.fn (.func 25) #[bi (nm1 0),bi (nm 1)],#[]⟩] (ig v (nm1 0) 7) [] [7] fun _ _=>dG #[bi (nm1 0),bi (nm 1)] #[] [] (ji (nm1 0) (nm 1) 7 .returning) [7] [6] fun _ _=>fS () (dt 7) [] (fN _ 6)
theorem FW (h64:h<18446744073709551616) (hT:lk T (h/4294967296)=some (bi tn)) (i m:Nat) (hA:lk A (h%4294967296)=some (hV i m)) (hr:(cM 1 i != 0)=false) (Af:Option Addr) (nf cf kn wt:Nat) (pu dr:Option Nat) (pi f lst:Nat) (fl:Bool) (na nfm:Nat) (s:Vl) (steps:Int) (a u:Nat) (b:Nat) (kk val e:Bs) (w:b=e.length) (g:Lib.compareBytes kk e=1) (K:List (Nat×Vl)) (M:Nat→Option Pg) (j:KM K M) (x:M rp=some ⟨tt,1,0,rc2,rg2,bw kk val⟩) (h2:2≤rp) (y:rp<N) (l:rp<4294967296) (k1:1≤kk.length) (z:kk.length≤32) (B:1≤val.length) (C:val.length≤64) (D:1≤e.length) (E:e.length≤32):eG 73 #[bi v,cR k t sec q1 n1 h o 0 rt ops (cB qb qo b qc) fr too bk] [(v,.cl (bU N lim key d rs lg op r p c pp rc rg gn n al) 90),(al,.pr (MU T)),(tn,.cl (b9 tt q mb mc rp rc2 rg2 ch hb hc cb sh made) 113),(cb,.cl (cL ca cm) 212),cH ca A,(p,.cl (bM d r lg Af nf cf kn wt pu dr pi f lst fl) 199),(d,.cl (bQ na nfm N s steps) bT),(kn,.pr (MU K)),(a,.fa (PgsF K M)),(u,.fa (BF (pO qb qo) b qc e))] (fz 7):=iE func73<|bu [9999,10] 2 fun nm=>bv (pI v N lim key d rs lg op r p c pp rc rg gn n al k t sec q1 n1 h o 0 rt ops (sO qb qo b qc) fr too bk tt q mb mc rp rc2 rg2 ch hb hc cb sh made ca cm tn T A h64 hT i m hA hr) [0,1,2,3,4] []<|bK [10,2,10,2,0] (br (dF ((↑b:Int)>32)) (br (tF ((↑b:Int)==0)) bt))<|bj [9999,0,0,2,10,10]<|bv (xU k t sec q1 n1 h o rt ops fr too bk tt q mb mc rp rc2 rg2 ch hb hc cb sh made tn (sO qb qo b qc)) [2] []<|zE<|bv (B6 d r p b lg Af nf cf kn wt pu dr pi f lst fl na nfm N s steps tt rp rc2 rg2 a qb qo qc u kk val e w g K M j x h2 y l k1 z B C D E) [5,6,7,8,9] []<|bj [0,0]<|gB (kC 7) [] () []
theorem FJ (h64:h<18446744073709551616) (hT:lk T (h/4294967296)=some (bi tn)) (i l:Nat) (hA:lk A (h%4294967296)=some (hV i l)) (hr:(cM 1 i != 0)=false) (Af:Option Addr) (nf cf kn wt:Nat) (pu dr:Option Nat) (pi e lst:Nat) (fl:Bool) (na nfm:Nat) (m:Vl) (steps:Int) (a s:Nat) (g:Nat) (kk val b:Bs) (u:g=b.length) (f:Lib.compareBytes kk b=1) (K:List (Nat×Vl)) (M:Nat→Option Pg) (j:KM K M) (w:M rp=some ⟨tt,1,0,rc2,rg2,bw kk val⟩) (h2:2≤rp) (x:rp<N) (k:rp<4294967296) (k1:1≤kk.length) (y:kk.length≤32) (z:1≤val.length) (B:val.length≤64) (C:1≤b.length) (D:b.length≤32):Same 10 #[bi v,cR 12 t sec q1 n1 h o 0 rt ops (cB qb qo g qc) fr too bk] [(v,.cl (bU N lim key d rs lg true r p c pp rc rg gn n al) 90),(al,.pr (MU T)),(tn,.cl (b9 tt q mb mc rp rc2 rg2 ch hb hc cb sh made) 113),(cb,.cl (cL ca cm) 212),cH ca A,(p,.cl (bM d r lg Af nf cf kn wt pu dr pi e lst fl) 199),(d,.cl (bQ na nfm N m steps) bT),(kn,.pr (MU K)),(a,.fa (PgsF K M)),(s,.fa (BF (pO qb qo) g qc b))] (dt 7):=by
 refine dE func10 fun w0 ho=>bu [9999] 2 fun nm=>bv (ea v N lim key d rs lg true r p c pp rc rg gn n al) [0] []<|bu [0,0,0,12] 1 fun nm1=>cS ⟨.fn (.func 25) #[bi (nm1 0),bi (nm 1)],#[]⟩<|zE<|cS ⟨.fn (.func 26) #[],#[bi v,bi (nm1 0)]⟩<|bj [10]<|bv (nj v) [] []<|bj [0,0,10]<|iq (FW v N lim key d rs lg true r p c pp rc rg gn n al 12 t sec q1 n1 h o rt ops fr too bk tt q mb mc rp rc2 rg2 ch hb hc cb sh made ca cm tn T A qb qo qc h64 hT i l hA hr Af nf cf kn wt pu dr pi e lst fl na nfm m steps a s g kk val b u f K M j w h2 x k k1 y z B C D) [0,1,2,3,4,5,6,7,8,9] [] (fun _=>bH) fun _ _=>?_
 exact dG #[] #[bi v,bi (nm1 0)] [⟨.fn (.func 25) #[bi (nm1 0),bi (nm 1)],#[]⟩] (ig v (nm1 0) 7) [] [12] fun _ _=>dG #[bi (nm1 0),bi (nm 1)] #[] [] (ji (nm1 0) (nm 1) 7 .returning) [12] [11] fun _ _=>fS () (dt 7) [] (fN _ 11)
end
theorem y6 (L:List Nat):(L.map (·+1)).sum=L.sum+L.length:=by
 induction L with
 | nil=>rfl
 | cons a l ih=>simp only [List.map_cons,List.sum_cons,List.length_cons,ih];omega
theorem yI {L c:List Nat} (h:L.Perm c):L.sum=c.sum:=by
 induction h with
 | nil=>rfl
 | cons _ _ ih=>simp only [List.sum_cons,ih]
 | swap=>simp only [List.sum_cons];omega
 | trans _ _ a b=>exact a.trans b
def dV (SH:List (Nat×Vl)):Nat:=(SH.map fun p=>gU p.2).sum+SH.length
theorem xH {L:List Nat} {SH:List (Nat×Vl)} (h:L.Perm (SH.map fun p=>gU p.2)):eJ L L.length=dV SH∧L.length=SH.length:=by
 have h1:L.length=SH.length:=by simpa using h.length_eq
 refine ⟨?_,h1⟩
 unfold eJ dV
 rw [List.take_length,y6,yI h,h1]
theorem i9 (tt q mb mc rp rc2 rg2 ch hb hc cb sh made tn:Nat) (SH:List (Nat×Vl)) (a:SH.length≤20) (b:kA SH) :
 TT 149 #[bi tn] [(tn,.cl (b9 tt q mb mc rp rc2 rg2 ch hb hc cb sh made) 113),(sh,.pr (MV SH))] [] (fun x:List Nat×Vl×Nat×SB=>(eJ x.1 x.1.length=dV SH∧x.1.length=SH.length)∧SlE 3 1 x.1.length (x.1.map iV) x.2.1 (x.2.2.1,x.2.2.2)) (fun x=>.returned x.2.1) (fun _=>[]) (fun x=>[(x.2.2.1,x.2.2.2)]):=by
 refine Tri.fw (yy tt q mb mc rp rc2 rg2 ch hb hc cb sh made tn SH a b) rfl (fun _ h=>h) fun x hx=>?_
 have h:=xH hx.1
 exact ⟨x,⟨⟨h.1,h.2⟩,hx.2⟩,rfl,rfl,rfl,fun _ _ h=>h⟩
theorem sM (q ch b:Nat) (sb:SB) (lv:Vl) (L:List Nat) (d:SlE 3 1 L.length (L.map iV) lv (b,sb)) (c:q<2147483648:=by omega) (g:L.length≤20:=by omega) (hs:ch+eJ L L.length<2147483648:=by omega):Same 148 #[i64 q,i64 ch,lv] [(b,sb)] (.bool (decide (ch+eJ L L.length>q))):=by
 rcases d with ⟨e1,e2,_,e3⟩ | ⟨cap,e1,e2⟩
 · simp only at e3
   subst e1 e3
   have e:L=[]:=List.eq_nil_of_length_eq_zero e2
   subst e
   have f:ch+eJ [] ([]:List Nat).length=ch:=by simp [eJ]
   rw [f] at hs ⊢
   refine Tri.fw (C8 q ch c hs) ?_ (fun _ h=>?_) ?_
   · rfl
   · simpa [FA.iff] using fun j a p hj=>by simp at hj
   · intro x hx;exact ⟨x,hx,rfl,rfl,rfl,fun _ _ h=>h⟩
 · simp only at e2
   subst e1 e2
   exact Dg q ch b cap c L (by omega) hs
abbrev ga (t n c gn:Nat):List Vl:=[.int .u32 (t:Int),u8 1,u8 0,.int .u32 (n:Int),.int .u64 (c:Int),.int .u16 (gn:Int)]
abbrev Jv (t n c gn:Nat):Vl:=.agg #[.int .u32 (t:Int),u8 1,u8 0,.int .u32 (n:Int),.int .u64 (c:Int),.int .u16 (gn:Int)]
section
variable (p d r g:Nat) (Af:Option Addr) (nf cf kn wt:Nat) (pu dr:Option Nat) (pi cm lst:Nat) (fl:Bool)
theorem zS (t n c a b:Nat):TT 79 #[Jv t n c a,bi b] [] [(b,.cl [bp] 64)] (fun _:Nat×Nat=>True) (fun _=>.returned (.tuple #[])) (fun x=>[(b,.cl [ck x.1 1 x.2] 64)]) (fun x=>[(x.1,.pr (bn 72 6 1 x.2 (ga t n c a)))]):=iE func79<|bu [9999,0,1,9999] 2 fun nm=>xV (gZ (t:=64) (e:=72) (ty:=64) (k:=6) (by_:=32) (z:=.agg #[u32 0,u8 0,u8 0,u32 0,u64 0,u16 0]) underlying64 (nm 1) 0 1 1 ([u32 t,u8 1,u8 0,u32 n,u64 c,u16 a])) [2] [] (Views.less (.cl [u32 t,u8 1,u8 0,u32 n,u64 c,u16 a] 72) bA Views.nil) fun ⟨x,x1⟩ _=>fE 3 x (bn 72 6 1 x1 [u32 t,u8 1,u8 0,u32 n,u64 c,u16 a]) bx fun hc=>bj [0]<|rT ((x,x1)) 9999 [3]
theorem A7 (t:Nat) (f:Vl):Same 78 #[gV p t,cu 0 0 0,f] [] (i64 0):=iE func78<|bu [9999,9999,9999,1,9999,0,0] 3 fun nm=>rT ()
theorem AT (na nfm N:Nat) (j:Vl) (steps:Int) (t n c b a f:Nat) (key val:Bs) (K:List (Nat×Vl)) (M:Nat→Option Pg) (h:KM K M) (k:M n=some ⟨t,1,0,c,b,bw key val⟩) (h2:2≤n) (l:n<N) (i:n<4294967296) (k1:1≤key.length) (m:key.length≤32) (o:1≤val.length) (q:val.length≤64) :
 TT 78 #[gV p t,cu n c b,.func (.func 79) #[] #[bi f]] [(p,.cl (bM d r g Af nf cf kn wt pu dr pi cm lst fl) 199),(d,.cl (bQ na nfm N j steps) bT),(kn,.pr (MU K)),(a,.fa (PgsF K M))] [(f,.cl [bp] 64)] (fun _:Nat×Nat=>True) (fun _=>.returned (i64 0)) (fun x=>[(f,.cl [ck x.1 1 x.2] 64)]) (fun x=>[(x.1,.pr (bn 72 6 1 x.2 (ga t n c b)))]):=by
 refine iE func78<|bu [9999,9999,9999,6,9999] 3 fun nm=>rE (gS (Operand.tmp 11) (Operand.tmp 12) ((↑n:Int)) ((↑c:Int)) ((↑b:Int)) 0 0 0 0 0 (by omega)) []<|bj [0,5,6]<|cE (mF p d r g Af nf cf kn wt pu dr pi cm lst fl na nfm N j steps t n c b a key val K M h k h2 l i k1 m o q) [0,1,2,3] [] fun ⟨⟨x,x1⟩,⟨x2,x3⟩,x4,x5⟩ _=>fE 8 x (bn 265 9 1 x1 (cq x2 key.length x3 x4 val.length x5)) bx fun hc=>bu [11,0,0,7,5,11,6,6,9999] 1 fun nm1=>cE (zS t n c b f) [] [4] fun ⟨x6,x7⟩ _=>fE 12 x6 (bn 72 6 1 x7 (ga t n c b)) bx fun hc1=>bj [11,2,0,0,9999]<|rE (er (T:=265) underlying265 (e:=265) x 0 9 1 x1 9 (cq x2 key.length x3 x4 val.length x5) (by (simp;done))) [8] ?_
 exact bu [] 1 fun nm2=>vE 41 (.agg ⟨List.take 9 (List.drop 0 (cq x2 key.length x3 x4 val.length x5))⟩) (.agg ⟨[sA x2 key.length x3,sA x4 val.length x5,i64 0,u32 0,u64 0,u16 0,u32 0,u64 0,u16 0]⟩) (by rfl)<|bj [13,6,0,0,5,13]<|bv (ou p t (.func (Fn.func 160) ⟨[]⟩ ⟨[bi (nm 2),bi (nm 0)]⟩)) [] []<|bj [0,0,0,0]<|rT ((x6,x7)) 9999 [12]
theorem pe (t:Nat):Same 35 #[dN p,.int .u32 t,cu 0 0 0] [] (.tuple #[bp,i64 0]):=iE func35<|bu [9999,0,0,9999,0] 2 fun nm=>bv (A7 p t (.func (Fn.func 79) ⟨[]⟩ ⟨[bi (nm 1)]⟩)) [] []<|bj [0,0,1]<|rT ()
theorem m4 (na nfm N:Nat) (h:Vl) (steps:Int) (t n c b a:Nat) (key val:Bs) (K:List (Nat×Vl)) (M:Nat→Option Pg) (e:KM K M) (i:M n=some ⟨t,1,0,c,b,bw key val⟩) (h2:2≤n) (j:n<N) (f:n<4294967296) (k1:1≤key.length) (k:key.length≤32) (l:1≤val.length) (m:val.length≤64) :
 TT 35 #[dN p,.int .u32 t,cu n c b] [(p,.cl (bM d r g Af nf cf kn wt pu dr pi cm lst fl) 199),(d,.cl (bQ na nfm N h steps) bT),(kn,.pr (MU K)),(a,.fa (PgsF K M))] [] (fun _:Nat×Nat=>True) (fun x=>.returned (.tuple #[ck x.1 1 x.2,i64 0])) (fun _=>[]) (fun x=>[(x.1,.pr (bn 72 6 1 x.2 (ga t n c b)))]):=iE func35<|bu [9999,0,0,9999,4] 2 fun nm=>cE (AT p d r g Af nf cf kn wt pu dr pi cm lst fl na nfm N h steps t n c b a (nm 1) key val K M e i h2 j f k1 k l m) [0,1,2,3] [5] fun ⟨x,x1⟩ _=>fE 6 x (bn 72 6 1 x1 (ga t n c b)) bx fun hc=>bj [0,0,5]<|rT ((x,x1)) 9999 [6]
theorem EJ (t:Nat):Same 120 #[dN p,.int .u32 t,cu 0 0 0] [] (i64 0):=iE func120<|bu [9999,0] 1 fun nm=>bv (pe p t) [] []<|bj [2,0,0]<|rT ()
end
section
variable (p d r g:Nat) (Af:Option Addr) (nf cf kn wt:Nat) (pi cm lst:Nat)
theorem DO (na nfm N:Nat) (j:Vl) (steps:Int) (t n c b a m i f:Nat) (key val:Bs) (K:List (Nat×Vl)) (M:Nat→Option Pg) (k:KM K M) (q:M n=some ⟨t,1,0,c,b,bw key val⟩) (k1:1≤key.length) (s:key.length≤32) (u:1≤val.length) (v:val.length≤64)
 (L:bV) (w:RunsP L) (y:nf≤50000) (l:¬ bR L n) (W U D:List Nat) (z:n∉W) (A:n∉U) (B:n∉D) (h2:2≤n) (o:n<N) (h:n<4294967296) (hc:0<cm) :
 TT 120 #[dN p,.int .u32 t,cu n c b]
  [(p,.cl (bM d r g Af nf cf kn wt (some i) (some f) pi cm lst false) 199),(d,.cl (bQ na nfm N j steps) bT),(kn,.pr (MU K)),(a,.fa (PgsF K M)),(m,.fa (bN Af nf cf L)),(i,.pr (MU (bF U)))]
  [(wt,.pr (MU (bF W))),(f,.pr (MU (bF D)))] uT (fun x=>.returned (i64 0))
  (fun _=>[(wt,.pr (MU (bF (W++[n])))),(f,.pr (MU (bF (D++[n]))))]) (fun _=>[]):=by
 refine iE func120<|bu [9999,8] 1 fun nm=>cE (m4 p d r g Af nf cf kn wt (some i) (some f) pi cm lst false na nfm N j steps t n c b a key val K M k q h2 o h k1 s u v) [0,1,2,3] [] fun ⟨x,x1⟩ _=>fE 9 x (bn 72 6 1 x1 (ga t n c b)) bx fun hc1=>bj [2,0,0,9999]<|rE (er (T:=72) underlying72 (e:=72) x 0 6 1 x1 6 (ga t n c b) (by (simp;done))) [9]<|bu [] 1 fun nm1=>vE 23 (.agg ⟨List.take 6 (List.drop 0 (ga t n c b))⟩) (.agg ⟨[u32 t,u8 1,u8 0,u32 n,u64 c,u16 b]⟩) (by rfl)<|bj [10,10]<|bv (q9 p d r g Af nf cf kn wt pi cm lst na nfm N j steps n c b m i f L w y l W U D z A B h2 o h hc) [0,1,4,5] [6,7]<|bj [0,0,0,0] ?_
 exact rT ()
end
theorem qs (L:List Nat) (c:Nat):eJ (L++[c]) (L++[c]).length=eJ L L.length+c+1:=by
 unfold eJ
 rw [List.take_length,List.take_length]
 simp;omega
theorem oO (q ch a b c n:Nat) (sb:SB) (lv:Vl) (f:q<2147483648) (L:List Nat) (g:SlE 3 1 (L.length+1) (L.map iV++[i64 a]) lv (b,sb)) (d:eJ L L.length=c) (e:L.length=n) (i:n≤19) (hs:ch+(c+a+1)<2147483648:=by omega):Same 148 #[i64 q,i64 ch,lv] [(b,sb)] (.bool (decide (ch+(c+a+1)>q))):=by
 subst d e
 have h:=sM q ch b sb lv (L++[a]) (by simpa [iV] using g) f (by simp;omega) (by rw [qs];exact hs)
 rw [qs] at h
 exact h
section
variable (v N lim:Nat) (key:Vl) (d rs lg:Nat) (op:Bool) (r p c pp rc rg gn n al:Nat)
variable (k t:Nat) (sec:Vl) (q1 n1:Int) (h o s rt:Nat) (ops ky fr too:Vl) (bk:Bool)
variable (tt q mb mc ch hb hc cb sh made ca cm tn:Nat) (T A SH:List (Nat×Vl))
theorem Ef (h64:h<18446744073709551616) (hT:lk T (h/4294967296)=some (bi tn)) (g i:Nat) (hA:lk A (h%4294967296)=some (hV g i)) (hr:(cM 4 g != 0)=false) (a:SH.length≤19) (b:kA SH) (j:q<2147483648) (l:ch+(dV SH+ch+1)≤q) (m:made<1000000) :
 TT 75 #[bi v,cR k t sec q1 n1 h o s rt ops ky fr too bk] [(v,.cl (bU N lim key d rs lg op r p c pp rc rg gn n al) 90),(al,.pr (MU T)),(cb,.cl (cL ca cm) 212),cH ca A] [(tn,.cl (b9 tt q mb mc 0 0 0 ch hb hc cb sh made) 113),(sh,.pr (MV SH))] uT (fun _=>.returned (cP 0 0 (made+1) bp bp 0 bp))
  (fun _=>[(tn,.cl (b9 tt q mb mc 0 0 0 ch hb hc cb sh (made+1)) 113),(sh,.pr (MV (up SH (made+1) (fR 0 0 0 ch none 0 0))))]) (fun _=>[]):=by
 have f:SH.length≤20:=by omega
 refine iE func75<|bu [9999,6] 2 fun nm=>bv (uL v N lim key d rs lg op r p c pp rc rg gn n al k t sec q1 n1 h o s rt ops ky fr too bk tt q mb mc 0 0 0 ch hb hc cb sh made ca cm tn T A h64 hT g i hA hr) [0,1,4,2,3] []<|bu [4,8] 1 fun nm1=>bj [9999,0,8,8,8]<|ef (Nat×Nat×SB) (fun ⟨nm2q,x6,x7⟩=>True) 88 (fun ⟨nm2q,x6,x7⟩=>[(0,bi v),(4,bi (nm 1)),(5,bi tn),(7,bi (nm1 0)),(31,.bool (decide (ch+(dV SH+ch+1)>q)))]) [.code (cZ f75 9),.code (cZ f75 12)] (fun ⟨nm2q,x6,x7⟩=>[(v,.cl (bU N lim key d rs lg op r p c pp rc rg gn n al) 90),(al,.pr (MU T)),(cb,.cl [.map (some ca),u64 cm] 212),(ca,.pr (MV A)),(tn,.cl (b9 tt q mb mc 0 0 0 ch hb hc cb sh made) 113),(sh,.pr (MV SH)),(nm 0,.cl (eO k t sec q1 n1 h o s rt ops ky fr too bk) 41),(nm 1,.cl [i64 0,u64 0,u64 0,.slice none 0 0,.slice none 0 0,i64 0,.slice none 0 0] 47),(nm1 0,.cl [u32 tt,i64 q,sA mb 16 mc,u32 0,u64 0,u16 0,u8 0,i64 ch,sA hb 1 hc] 109),(nm2q,.cl [i64 ch] 3),(x6,x7)]) ([]) 4 (fun key1=>?_) ?_
 · refine dq 5 8 ?_ ?_
   · refine cE (i9 tt q mb mc 0 0 0 ch hb hc cb sh made tn SH f b) [4,5] [] fun ⟨x,x1,x2,x3⟩ ⟨⟨hx,hx1⟩,hx2⟩=>?_
     try dsimp only at hx hx1 hx2
     refine bu [9999] 1 fun nm2=>iI (j0 (t:=23) (e:=3) (ty:=23) (k:=1) (by_:=8) (z:=i64 0) underlying23 x1 x2 x3 x.length (List.map iV x) hx2 (nm2 0) 1 1 ([i64 ch])) [10] [9] (Views.less (.cl [i64 ch] 3) bA Views.nil) fun ⟨x4,x5,x6,x7⟩ hx3=>?_
     try dsimp only at hx3
     exact zE<|bv (oO q ch ch x6 (dV SH) SH.length x7 (.slice x4 (List.length x+1) x5) j x hx3 hx hx1 a) [11] []<|zE<|jT [0,1,2,3,4,5,6,7,8,10,11] (fun u=>key1 (nm2 0,x6,x7) u trivial)
   · refine bu [9999] 1 fun nm2=>cE (i9 tt q mb mc 0 0 0 ch hb hc cb sh made tn SH f b) [4,5] [] fun ⟨x,x1,x2,x3⟩ ⟨⟨hx,hx1⟩,hx2⟩=>?_
     try dsimp only at hx hx1 hx2
     refine zE<|iI (j0 (t:=23) (e:=3) (ty:=23) (k:=1) (by_:=8) (z:=i64 0) underlying23 x1 x2 x3 x.length (List.map iV x) hx2 (nm2 0) 1 1 ([i64 ch])) [9] [10] (Views.less (.cl [i64 ch] 3) bA Views.nil) fun ⟨x4,x5,x6,x7⟩ hx3=>?_
     try dsimp only at hx3
     exact zE<|bv (oO q ch ch x6 (dV SH) SH.length x7 (.slice x4 (List.length x+1) x5) j x hx3 hx hx1 a) [11] []<|zE<|jT [0,1,2,3,4,5,6,7,8,9,11] (fun u=>key1 (nm2 0,x6,x7) u trivial)
 rintro ⟨nm2q,x6,x7⟩ u _
 refine bK [2] (br (dF (ch+(dV SH+ch+1)>q)) bt)<|bj [9999,0,8,8,0,8,8]<|ef Nat (fun nm3q=>True) 88 (fun nm3q=>[(0,bi v),(4,bi (nm 1)),(5,bi tn),(8,bi nm3q),(52,.slice none 0 0),(53,i64 0),(54,i64 0)]) [.code (cZ f75 18),.blk 0,.code (cZ f75 31)] (fun nm3q=>[(v,.cl (bU N lim key d rs lg op r p c pp rc rg gn n al) 90),(al,.pr (MU T)),(cb,.cl [.map (some ca),u64 cm] 212),(ca,.pr (MV A)),(tn,.cl (b9 tt q mb mc 0 0 0 ch hb hc cb sh made) 113),(sh,.pr (MV SH)),(nm 0,.cl (eO k t sec q1 n1 h o s rt ops ky fr too bk) 41),(nm 1,.cl [i64 0,u64 0,u64 0,.slice none 0 0,.slice none 0 0,i64 0,.slice none 0 0] 47),(nm1 0,.cl [u32 tt,i64 q,sA mb 16 mc,u32 0,u64 0,u16 0,u8 0,i64 ch,sA hb 1 hc] 109),(nm2q,.cl [i64 ch] 3),(x6,x7),(nm3q,.cl [u32 0,u64 0,u16 0,u8 0,i64 ch,.slice none 0 0] 119)]) ([]) 4 (fun key1=>?_) ?_
 · refine dq 13 18 ?_ ?_
   · refine bv (pe p tt) [] []<|zE<|dq 16 18 ?_ ?_
     · exact bv (g8 (.slice none 0 0)) [] []<|bu [9999,11,11] 1 fun nm3=>jT [0,1,2,3,4,5,6,7,8,9,10,11] (fun u=>key1 (nm3 0) u trivial)
     · exact bu [] 1 fun nm3=>bv (g8 (.slice none 0 0)) [] []<|bj [9999,11,11]<|jT [0,1,2,3,4,5,6,7,8,9,10,11] (fun u=>key1 (nm3 0) u trivial)
   · exact bu [] 1 fun nm3=>bv (pe p tt) [] []<|zE<|bv (g8 (.slice none 0 0)) [] []<|bj [9999,11,11]<|jT [0,1,2,3,4,5,6,7,8,9,10,11] (fun u=>key1 (nm3 0) u trivial)
 rintro nm3q u1 _
 exact bj [2,0,0,4,4]<|bj [9999,32,4,4,11]<|vC 81 u64 (n5 ((↑made:Int)+1) (made+1))<|xE (gE (kt:=25) (et:=119) (T:=111) (κ:=.u64) underlying111 underlying25 sh SH (made+1) (.agg ⟨[u32 0,u64 0,u16 0,u8 0,i64 ch,.slice none 0 0]⟩)) [] [5] fun _ _=>bj [4,9999,7]<|qC 4 tn (fun z9:Int=>(.cl [u32 tt,i64 q,sA mb 16 mc,u32 0,u64 0,u16 0,u8 0,i64 ch,sA hb 1 hc,bi cb,.map (some sh),u64 z9] 113)) (n5 ((↑made:Int)+1) (made+1))<|qC 7 (nm 1) (fun z9:Int=>(.cl [i64 0,u64 0,u64 z9,.slice none 0 0,.slice none 0 0,i64 0,.slice none 0 0] 47)) (n5 ((↑made:Int)+1) (made+1))<|rT () 7
end
section
variable (v N lim:Nat) (key:Vl) (d rs lg:Nat) (op:Bool) (r p c pp rc rg gn n al:Nat)
variable (k t:Nat) (sec:Vl) (q1 n1:Int) (h o s rt:Nat) (ops ky fr too:Vl) (bk:Bool)
variable (tt q mb mc ch hb hc cb sh made ca cm tn:Nat) (T A SH:List (Nat×Vl))
theorem Ey (h64:h<18446744073709551616) (hT:lk T (h/4294967296)=some (bi tn)) (a i:Nat) (hA:lk A (h%4294967296)=some (hV a i)) (hr:(cM 4 a != 0)=false) (b:SH.length≤19) (e:kA SH) (j:q<2147483648) (f:ch+(dV SH+ch+1)≤q) (g:made<1000000) :
 TT 10 #[bi v,cR 14 t sec q1 n1 h o s rt ops ky fr too bk] [(v,.cl (bU N lim key d rs lg true r p c pp rc rg gn n al) 90),(al,.pr (MU T)),(cb,.cl (cL ca cm) 212),cH ca A] [(tn,.cl (b9 tt q mb mc 0 0 0 ch hb hc cb sh made) 113),(sh,.pr (MV SH))] uT (fun _=>.returned (cP 0 0 (made+1) bp bp 0 bp))
  (fun _=>[(tn,.cl (b9 tt q mb mc 0 0 0 ch hb hc cb sh (made+1)) 113),(sh,.pr (MV (up SH (made+1) (fR 0 0 0 ch none 0 0))))]) (fun _=>[]):=by
 refine dE func10 fun w0 ho=>bu [9999] 2 fun nm=>bv (ea v N lim key d rs lg true r p c pp rc rg gn n al) [0] []<|bu [0,0,0,8] 1 fun nm1=>cS ⟨.fn (.func 25) #[bi (nm1 0),bi (nm 1)],#[]⟩<|zE<|cS ⟨.fn (.func 26) #[],#[bi v,bi (nm1 0)]⟩<|bj [6]<|bv (oU v) [] []<|bj [0,0,6]<|cE (Ef v N lim key d rs lg true r p c pp rc rg gn n al 14 t sec q1 n1 h o s rt ops ky fr too bk tt q mb mc ch hb hc cb sh made ca cm tn T A SH h64 hT a i hA hr b e j f g) [0,1,2,3] [4,5] ?_
 intro _ _
 exact bj [7]<|fV<|dG #[] #[bi v,bi (nm1 0)] [⟨.fn (.func 25) #[bi (nm1 0),bi (nm 1)],#[]⟩] (gx v (nm1 0)) [] [] fun _ _=>dG #[bi (nm1 0),bi (nm 1)] #[] [] (kZ (nm1 0) (nm 1) .returning) [8] [] fun _ _=>fS () (cP 0 0 (made+1) bp bp 0 bp) [] (fN _ 7)
end
end Go.Proofs.YtlkeemedalncoaaGreat.En
