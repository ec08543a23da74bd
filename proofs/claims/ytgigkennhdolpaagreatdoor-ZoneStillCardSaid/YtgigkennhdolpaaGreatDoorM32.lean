/- Bodies by their IDs; squares. -/
import Derived.Test.YtgigkennhdolpaaGreatDoorM29
import Derived.Test.YtgigkennhdolpaaGreatDoorM17
import Derived.Test.YtgigkennhdolpaaGreatDoorM18
import Derived.Test.YtgigkennhdolpaaGreatDoorM31
namespace Go.Proofs.YtgigkennhdolpaaGreatDoor
open Go.RowKit
set_option maxRecDepth 8000
set_option maxHeartbeats 2000000
def rkq(x:SV):Int:=match x with|.rp (y::_) _=>y.iv|_=>0
def kxq(x:SV):Int:=match x with|.f _ _ (y::_)=>rkq y|_=>0
theorem GL:∀a,aA ((λn=>[UU (n*n)]) a)->aH (C:=cx) [] [] 0 ai Tryz.f232 ((bs (Vm .i64)).enc a) λv H _=>af ((λn=>.v (.int .i64 (n*n))) a) H v:=by intro n hn;exact⟨hn,rfl⟩
noncomputable def Eg:UW cx:=ae 232 Tryz.call232 (bs (Vm .i64)) _ _ (λ_=>ai) [] (λ_=>rfl) follows Tryz.func232 (by kernel_rfl) GL
def Nq(a b:Body):Int:=(a.posX-b.posX)*(a.posX-b.posX)+(a.posY-b.posY)*(a.posY-b.posY)
structure Av (a b:Body):Prop where
 x1 : -4194304<=a.posX-b.posX
 x2:a.posX-b.posX<=4194304
 y1 : -4194304<=a.posY-b.posY
 y2:a.posY-b.posY<=4194304
theorem HW{x b:Int}(h0:0<=b)(h1 : -b<=x)(h2:x<=b):0<=x*x∧x*x<=b*b:=by rcases Int.le_total 0 x with h|h;exact⟨Int.mul_nonneg h h,Int.mul_le_mul h2 h2 h h0⟩;rw[<-Int.neg_mul_neg];exact⟨Int.mul_nonneg (by omega) (by omega),Int.mul_le_mul (by omega) (by omega) (by omega) h0⟩
theorem CF:∀a,aA ((λa=>[Av a.1 a.2]) a)->aH (C:=cx) [Eg] [] 0 ai Tryz.f190 ((aD bL bL).enc a) λv H _=>af ((λa=>.v (.int .i64 (Nq a.1 a.2))) a) H v:=by intro⟨⟨i,x,y,vx,vy,w,h,r,f⟩,⟨i',x',y',vx',vy',w',h',r',f'⟩⟩ hp;obtain⟨h1,h2,h3,h4⟩:Av ⟨i,x,y,vx,vy,w,h,r,f⟩ ⟨i',x',y',vx',vy',w',h',r',f'⟩:=hp;replace h1 : -4194304<=x-x':=h1;replace h2:x-x'<=4194304:=h2;replace h3 : -4194304<=y-y':=h3;replace h4:y-y'<=4194304:=h4;have a1:=HW (b:=4194304) (by decide) h1 h2;have a2:=HW (b:=4194304) (by decide) h3 h4;refine Ai (show UU (x-x') by unfold UU;omega) ?_;refine Ai (show UU ((x-x')*(x-x')) by unfold UU;omega) ?_;refine Ai (show UU (y-y') by unfold UU;omega) ?_;refine Ai (show UU ((y-y')*(y-y')) by unfold UU;omega) ?_;refine Ai (show UU ((x-x')*(x-x')+(y-y')*(y-y')) by unfold UU;omega) ?_;exact rfl
noncomputable def zU:UW cx:=ae 190 Tryz.call190 (aD bL bL) _ _ (λ_=>ai) [] (λ_=>rfl) follows Tryz.func190 (by kernel_rfl) CF
theorem Hj:∀a,aA ((λa=>[∃q,a.2=.rp [.v (.int .i64 q)] 0]) a)->aH (C:=cx) [] [] 0 ai Tryz.f231 ((aD bL Vy).enc a) λv H _=>af ((λa=>.v (.bool (decide (a.1.iD=rkq a.2)))) a) H v:=by intro⟨b,x⟩ hx;obtain⟨q,hx⟩:∃q,x=.rp [.v (.int .i64 q)] 0:=hx;subst hx;exact rfl
noncomputable def Oj:UW cx:=ae 231 Tryz.call231 (aD bL Vy) _ _ (λ_=>ai) [] (λ_=>rfl) follows Tryz.func231 (by kernel_rfl) Hj
def Qh(F:X3)(q:Int):Cut:=⟨Nat,λk=>k<=F.n∧VI (λi=>decide ((F.e i).iD=q)) 0 F.n=VI (λi=>decide ((F.e i).iD=q)) k (F.n-k),
 λk=>⟨[sl 0 F.sv,sl 1 (.f (.func 231) [] [.rp [.v (.int .i64 q)] 0]),sl 7 (i64 F.n),sl 8 (i64 k)],[],0,0,[],[]⟩,λk=>F.n-k⟩
theorem Cs:∀a,aA ((λa=>[a.1.n<=1000,∃q,a.2=.f (.func 231) [] [.rp [.v (.int .i64 q)] 0]]) a)->aH (C:=cx) [Oj] [] 0 ⟨[],[],[2],0⟩ Tryz.f134 ((aD jy Vy).enc a) λv H _=>af ((λa=>.v (.int .i64 (VO (λi=>decide ((a.1.e i).iD=kxq a.2)) a.1.n))) a) H v:=by
 intro⟨⟨N,F⟩,x⟩ ⟨hm,hx⟩;obtain⟨q,hx⟩:∃q,x=.f (.func 231) [] [.rp [.v (.int .i64 q)] 0]:=hx;subst hx;replace hm:N<=1000:=hm;refine T' (Qh ⟨N,F⟩ q) ?_;refine Ai ?_ ?_
 ·refine⟨(0:Nat),[],[],trivial,⟨Up _,rfl⟩,?_⟩;repeat' (first|refine Ai ?_ ?_|intro _|exact rfl)
 refine fun(k:Nat) (hk:k<=N∧VI (λi=>decide ((F i).iD=q)) 0 N=VI (λi=>decide ((F i).iD=q)) k (N-k))=>?_;obtain⟨k1,k2⟩:=hk;refine Ai (λhb=>?_) (λhb=>?_)
 ·have hb:(k:Int)<N:=Od hb;have e0:=ji (g:=(λi=>decide ((F i).iD=q))) (k:=k) (n:=N) (by omega);refine Ai ⟨by omega,by omega⟩ ?_;refine Ai ⟨q,rfl⟩ ?_;refine Ai (λhc=>?_) (λhc=>?_);have hc:(decide ((F k).iD=q))=true:=hc;simp only[hc] at e0;exact fZ (g:=(λi=>decide ((F i).iD=q))) (n:=N) (k2.trans e0) (by omega);have hc:(decide ((F k).iD=q))=false:=hc;simp only[hc] at e0;refine Ai (by unfold U1;omega:U1 ((k:Int)+1)) ?_;refine⟨k+1,[],[],(by show N-(k+1)<N-k;omega),⟨(by show k+1<=N;omega),by rw[k2,e0]⟩,?_⟩;repeat' (first|refine Ai ?_ ?_|intro _|exact rfl)
 have hb:¬(k:Int)<N:=Uy hb;refine fR (g:=(λi=>decide ((F i).iD=q))) (n:=N) ?_;rw[k2,show N-k=0 by omega];show k=N;omega
noncomputable def Kw:UW cx:=ae 134 Tryz.call134 (aD jy Vy) _ _ (λ_=>⟨[],[],[2],0⟩) [] (λ_=>rfl) follows Tryz.func134 (by kernel_rfl) Cs
theorem Hm:∀a,aA ((λa=>[∃e:UZ,a.2=.rp e.cells 0]) a)->aH (C:=cx) [] [] 0 ai Tryz.f135 ((aD bL Vy).enc a) λv H _=>af ((λa=>.v (.bool (decide (a.1.iD=rkq a.2)))) a) H v:=by intro⟨b,x⟩ hx;obtain⟨e,hx⟩:∃e:UZ,x=.rp e.cells 0:=hx;subst hx;exact rfl
noncomputable def Om:UW cx:=ae 135 Tryz.call135 (aD bL Vy) _ _ (λ_=>ai) [] (λ_=>rfl) follows Tryz.func135 (by kernel_rfl) Hm
def Qi(F:X3)(e:UZ):Cut:=⟨Nat,λk=>k<=F.n∧VI (λi=>decide ((F.e i).iD=e.iD)) 0 F.n=VI (λi=>decide ((F.e i).iD=e.iD)) k (F.n-k),
 λk=>⟨[sl 0 F.sv,sl 1 (.f (.func 135) [] [.rp e.cells 0]),sl 7 (i64 F.n),sl 8 (i64 k)],[],0,0,[],[]⟩,λk=>F.n-k⟩
theorem Ct:∀a,aA ((λa=>[a.1.n<=1000,∃e:UZ,a.2=.f (.func 135) [] [.rp e.cells 0]]) a)->aH (C:=cx) [Om] [] 0 ⟨[],[],[2],0⟩ Tryz.f134 ((aD jy Vy).enc a) λv H _=>af ((λa=>.v (.int .i64 (VO (λi=>decide ((a.1.e i).iD=kxq a.2)) a.1.n))) a) H v:=by
 intro⟨⟨N,F⟩,x⟩ ⟨hm,hx⟩;obtain⟨e,hx⟩:∃e:UZ,x=.f (.func 135) [] [.rp e.cells 0]:=hx;subst hx;replace hm:N<=1000:=hm;refine T' (Qi ⟨N,F⟩ e) ?_;refine Ai ?_ ?_
 ·refine⟨(0:Nat),[],[],trivial,⟨Up _,rfl⟩,?_⟩;repeat' (first|refine Ai ?_ ?_|intro _|exact rfl)
 refine fun(k:Nat) (hk:k<=N∧VI (λi=>decide ((F i).iD=e.iD)) 0 N=VI (λi=>decide ((F i).iD=e.iD)) k (N-k))=>?_;obtain⟨k1,k2⟩:=hk;refine Ai (λhb=>?_) (λhb=>?_)
 ·have hb:(k:Int)<N:=Od hb;have e0:=ji (g:=(λi=>decide ((F i).iD=e.iD))) (k:=k) (n:=N) (by omega);refine Ai ⟨by omega,by omega⟩ ?_;refine Ai ⟨e,rfl⟩ ?_;refine Ai (λhc=>?_) (λhc=>?_);have hc:(decide ((F k).iD=e.iD))=true:=hc;simp only[hc] at e0;exact fZ (g:=(λi=>decide ((F i).iD=e.iD))) (n:=N) (k2.trans e0) (by omega);have hc:(decide ((F k).iD=e.iD))=false:=hc;simp only[hc] at e0;refine Ai (by unfold U1;omega:U1 ((k:Int)+1)) ?_;refine⟨k+1,[],[],(by show N-(k+1)<N-k;omega),⟨(by show k+1<=N;omega),by rw[k2,e0]⟩,?_⟩;repeat' (first|refine Ai ?_ ?_|intro _|exact rfl)
 have hb:¬(k:Int)<N:=Uy hb;refine fR (g:=(λi=>decide ((F i).iD=e.iD))) (n:=N) ?_;rw[k2,show N-k=0 by omega];show k=N;omega
noncomputable def Ky:UW cx:=ae 134 Tryz.call134 (aD jy Vy) _ _ (λ_=>⟨[],[],[2],0⟩) [] (λ_=>rfl) follows Tryz.func134 (by kernel_rfl) Ct
theorem Cz:∀a,aA ((λa=>[∃q,a.2=.rp [.v (.int .i64 q)] 0]) a)->aH (C:=cx) [] [] 0 ai Tryz.f131 ((aD bL Vy).enc a) λv H _=>af ((λa=>.v (.bool (decide (a.1.iD=rkq a.2)))) a) H v:=by intro⟨b,x⟩ hx;obtain⟨q,hx⟩:∃q,x=.rp [.v (.int .i64 q)] 0:=hx;subst hx;exact rfl
noncomputable def KB:UW cx:=ae 131 Tryz.call131 (aD bL Vy) _ _ (λ_=>ai) [] (λ_=>rfl) follows Tryz.func131 (by kernel_rfl) Cz
def MZ(F:X3)(q:Int):Cut:=⟨Nat,λk=>k<=F.n∧VI (λi=>decide ((F.e i).iD=q)) 0 F.n=VI (λi=>decide ((F.e i).iD=q)) k (F.n-k),
 λk=>⟨[sl 0 F.sv,sl 1 (.f (.func 131) [] [.rp [.v (.int .i64 q)] 0]),sl 7 (i64 F.n),sl 8 (i64 k)],[],0,0,[],[]⟩,λk=>F.n-k⟩
theorem Au:∀a,aA ((λa=>[a.1.n<=1000,∃q,a.2=.f (.func 131) [] [.rp [.v (.int .i64 q)] 0]]) a)->aH (C:=cx) [KB] [] 0 ⟨[],[],[2],0⟩ Tryz.f134 ((aD jy Vy).enc a) λv H _=>af ((λa=>.v (.int .i64 (VO (λi=>decide ((a.1.e i).iD=kxq a.2)) a.1.n))) a) H v:=by
 intro⟨⟨N,F⟩,x⟩ ⟨hm,hx⟩;obtain⟨q,hx⟩:∃q,x=.f (.func 131) [] [.rp [.v (.int .i64 q)] 0]:=hx;subst hx;replace hm:N<=1000:=hm;refine T' (MZ ⟨N,F⟩ q) ?_;refine Ai ?_ ?_
 ·refine⟨(0:Nat),[],[],trivial,⟨Up _,rfl⟩,?_⟩;repeat' (first|refine Ai ?_ ?_|intro _|exact rfl)
 refine fun(k:Nat) (hk:k<=N∧VI (λi=>decide ((F i).iD=q)) 0 N=VI (λi=>decide ((F i).iD=q)) k (N-k))=>?_;obtain⟨k1,k2⟩:=hk;refine Ai (λhb=>?_) (λhb=>?_)
 ·have hb:(k:Int)<N:=Od hb;have e0:=ji (g:=(λi=>decide ((F i).iD=q))) (k:=k) (n:=N) (by omega);refine Ai ⟨by omega,by omega⟩ ?_;refine Ai ⟨q,rfl⟩ ?_;refine Ai (λhc=>?_) (λhc=>?_);have hc:(decide ((F k).iD=q))=true:=hc;simp only[hc] at e0;exact fZ (g:=(λi=>decide ((F i).iD=q))) (n:=N) (k2.trans e0) (by omega);have hc:(decide ((F k).iD=q))=false:=hc;simp only[hc] at e0;refine Ai (by unfold U1;omega:U1 ((k:Int)+1)) ?_;refine⟨k+1,[],[],(by show N-(k+1)<N-k;omega),⟨(by show k+1<=N;omega),by rw[k2,e0]⟩,?_⟩;repeat' (first|refine Ai ?_ ?_|intro _|exact rfl)
 have hb:¬(k:Int)<N:=Uy hb;refine fR (g:=(λi=>decide ((F i).iD=q))) (n:=N) ?_;rw[k2,show N-k=0 by omega];show k=N;omega
noncomputable def Gb:UW cx:=ae 134 Tryz.call134 (aD jy Vy) _ _ (λ_=>⟨[],[],[2],0⟩) [] (λ_=>rfl) follows Tryz.func134 (by kernel_rfl) Au
theorem Lm:∀a,aA ((λ_=>[]) a)->aH (C:=cx) [] [] 0 ai Tryz.f185 ((bs bL).enc a) λv H _=>af ((λa=>.v (.int .i64 a.iD)) a) H v:=by intro a _;exact rfl
noncomputable def Q0:UW cx:=ae 185 Tryz.call185 (bs bL) _ _ (λ_=>ai) [] (λ_=>rfl) follows Tryz.func185 (by kernel_rfl) Lm
theorem G3:∀a,aA ((λa=>[a.2.2=.rp [.v (.func (.func 185) #[] #[])] 0]) a)->aH (C:=cx) [Q0,Q3] [] 0 ai Tryz.f229 ((eU bL (Vm .i64) Vy).enc a) λv H _=>af ((λa=>.v (.int .i64 (qa a.1.iD a.2.1))) a) H v:=by intro⟨c,q,x⟩ hx;replace hx:x=.rp [.v (.func (.func 185) #[] #[])] 0:=hx;subst hx;exact rfl
noncomputable def NX:UW cx:=ae 229 Tryz.call229 (eU bL (Vm .i64) Vy) _ _ (λ_=>ai) [] (λ_=>rfl) follows Tryz.func229 (by kernel_rfl) G3
def Tf(l:X3)(q:Int):Cut:=⟨Nat×Nat,λx=>x.1<=x.2∧x.2<=l.n∧(∀t,t<x.1->(λi=>(l.e i).iD) t<q)∧(∀t,x.2<=t->t<l.n->q<=(λi=>(l.e i).iD) t),
 λx=>⟨[sl 0 l.sv,sl 1 (.v (.int .i64 q)),sl 2 (.f (.func 229) [] [.rp [.v (.func (.func 185) #[] #[])] 0]),sl 8 (i64 l.n),sl 9 (i64 x.1),sl 10 (i64 x.2)],[],0,0,[],[]⟩,λx=>x.2-x.1⟩
theorem Lw:∀a,aA ((λa=>[(a.1.n:Int)<=Pd,Yr (λi=>(a.1.e i).iD) a.1.n,a.2.2=(.f (.func 229) [] [.rp [.v (.func (.func 185) #[] #[])] 0])]) a)->aH (C:=cx) [NX] [] 0 ⟨[],[],[3],0⟩ Tryz.f228 ((eU jy (Vm .i64) Vy).enc a) λv H _=>af ((λa=>.tup [i64 (wI (λi=>(a.1.e i).iD) a.1.n a.2.1),.v (.bool (dD (λi=>(a.1.e i).iD) a.1.n a.2.1))]) a) H v:=by
 intro⟨l,q,x⟩ ⟨hn,hs,hx⟩;replace hx:x=(.f (.func 229) [] [.rp [.v (.func (.func 185) #[] #[])] 0]):=hx;replace hn:(l.n:Int)<=4611686018427387903:=hn;replace hs:Yr (λi=>(l.e i).iD) l.n:=hs;subst hx;refine T' (Tf l q) ?_;refine Ai ?_ ?_
 ·refine⟨((0:Nat),l.n),[],[],trivial,⟨Up _,I' _,λt h=>Uw h (F' _),λt h1 h2=>Uw h2 (Nat.not_lt.2 h1)⟩,?_⟩;repeat' (first|refine Ai ?_ ?_|intro _|exact rfl)
 refine fun(x:Nat×Nat) (hx:x.1<=x.2∧x.2<=l.n∧(∀t,t<x.1->(λi=>(l.e i).iD) t<q)∧(∀t,x.2<=t->t<l.n->q<=(λi=>(l.e i).iD) t))=>?_;obtain⟨i,j⟩:=x;obtain⟨x1,x2,x3,x4⟩:i<=j∧j<=l.n∧(∀t,t<i->(λi=>(l.e i).iD) t<q)∧(∀t,j<=t->t<l.n->q<=(λi=>(l.e i).iD) t):=hx;refine Ai (λhb=>?_) (λhb=>?_)
 ·have hb:(i:Int)<j:=Od hb;refine Ai (by unfold U1;omega:U1 ((i:Int)+j)) ?_;have hh:=half i j (by omega);obtain⟨h,hd⟩:∃h,h=(i+j)/2:=⟨_,rfl⟩
  rw[<-hd] at hh;refine Ai (show 0<=_∧_<((l.n:Nat):Int) by rw[hh];omega) ?_;refine Ai rfl ?_;refine Ai (λhc=>?_) (λhc=>?_)
  ·have hc:decide (qa ((λi=>(l.e i).iD) (IntKind.i64.wrap ((IntKind.u64.wrap ((i:Int)+j)).fdiv (2^min (Int.toNat 1) IntKind.u64.bits))).toNat) q<0)=true:=hc;rw[hh] at hc;have hc:(λi=>(l.e i).iD) h<q:=KP (Od hc);have h64:U1 ((h:Int)+1):=(by unfold U1;omega);refine Ai (show U1 (_+1) by rw[hh];exact h64) ?_;refine⟨(h+1,j),[],[],(by show j-(h+1)<j-i;omega),⟨(by omega:h+1<=j),x2,λt ht=>?_,x4⟩,?_⟩;rcases UK (Nat.le_of_lt_succ ht) with rfl|ht;exact hc;exact Int.lt_trans (hs t h ht (by omega)) hc
   (repeat' (first|refine Ai ?_ ?_|intro _|exact rfl));all_goals (show ((h+1:Nat):Int)=_+1;rw[hh];rfl)
  have hc:decide (qa ((λi=>(l.e i).iD) (IntKind.i64.wrap ((IntKind.u64.wrap ((i:Int)+j)).fdiv (2^min (Int.toNat 1) IntKind.u64.bits))).toNat) q<0)=false:=hc;rw[hh] at hc;have hc:q<=(λi=>(l.e i).iD) h:=KQ (Uy hc);refine⟨(i,h),[],[],(by show h-i<j-i;omega),⟨(by omega:i<=h),(by omega:h<=l.n),x3,λt h1 h2=>?_⟩,?_⟩;rcases UK h1 with rfl|h1;exact hc;exact Int.le_trans hc (Int.le_of_lt (hs h t h1 h2))
  (repeat' (first|refine Ai ?_ ?_|intro _|exact rfl));all_goals exact hh.symm
 have hb:¬(i:Int)<j:=Uy hb;have e:wI (λi=>(l.e i).iD) l.n q=i:=Dr (by omega) x3 (λt h1 h2=>x4 t (by omega) h2);refine Ai (λhc=>?_) ?_;have hc:(i:Int)<l.n:=Od hc;exact⟨by omega,hc⟩;refine Ai (λhc=>?_) ?_;exact rfl;refine Ai (Uv (λk:Nat=>(k:Int)) e) ?_;refine UR (a:=dD (λi=>(l.e i).iD) l.n q) (b:=decide ((i:Int)<l.n)&&decide (qa ((λi=>(l.e i).iD) i) q=0)) ?_ rfl;unfold dD;rw[e]
 congr 1
 exact decide_eq_decide.2 (KR (a:=(λi=>(l.e i).iD) i) (b:=q)).symm
noncomputable def Q5:UW cx:=ae 228 Tryz.call228 (eU jy (Vm .i64) Vy) _ _ (λ_=>⟨[],[],[3],0⟩) [] (λ_=>rfl) follows Tryz.func228 (by kernel_rfl) Lw
theorem CB:∀a,aA ((λa=>[(a.1.n:Int)<=Pd,Yr (λi=>(a.1.e i).iD) a.1.n,a.2.2=(.v (.func (.func 185) #[] #[]))]) a)->aH (C:=cx) [Q5] [] 0 ai Tryz.f184 ((eU jy (Vm .i64) Vy).enc a) λv H _=>af ((λa=>.tup [i64 (wI (λi=>(a.1.e i).iD) a.1.n a.2.1),.v (.bool (dD (λi=>(a.1.e i).iD) a.1.n a.2.1))]) a) H v:=by intro⟨l,q,x⟩ ⟨hn,hs,hx⟩;replace hx:x=.v (.func (.func 185) #[] #[]):=hx;subst hx;refine Ai ⟨λ_ _=>trivial,hn,hs,rfl⟩ ?_;repeat' (first|refine Ai ?_ ?_|intro _|exact rfl)
noncomputable def KE:UW cx:=ae 184 Tryz.call184 (eU jy (Vm .i64) Vy) _ _ (λ_=>ai) [] (λ_=>rfl) follows Tryz.func184 (by kernel_rfl) CB
def jo(p:Nat->Bool):Nat->Nat->Nat->Nat
 | 0,i,_=>i
 | f+1,i,j=>match decide (i<j) with
  | true=>(match p ((i+j)/2) with|true=>jo p f i ((i+j)/2)|false=>jo p f ((i+j)/2+1) j)
  | false=>i
theorem oR{p:Nat->Bool} : ∀(f g i j:Nat),j-i<=f->j-i<=g->jo p f i j=jo p g i j
 | 0,0,i,j,_,_=>rfl
 | 0,g+1,i,j,h,_=>by simp only[jo];rw[UA (by omega:¬i<j)]
 | f+1,0,i,j,_,h=>by simp only[jo];rw[UA (by omega:¬i<j)]
 | f+1,g+1,i,j,h1,h2=>by simp only[jo];by_cases h:i<j;rw[UB h];simp only;rw[oR f g i ((i+j)/2) (by omega) (by omega),oR f g ((i+j)/2+1) j (by omega) (by omega)];rw[UA h]
theorem Es{p:Nat->Bool}{f i j:Nat}(h:¬i<j):jo p f i j=i:=by
 cases f with
 | zero=>rfl
 | succ f=>simp only[jo];rw[UA h]
theorem vu{p:Nat->Bool}{i j:Nat}(h:i<j):jo p (j-i) i j=match p ((i+j)/2) with|true=>jo p ((i+j)/2-i) i ((i+j)/2)|false=>jo p (j-((i+j)/2+1)) ((i+j)/2+1) j:=by
 obtain⟨d,hd⟩:∃d,j-i=d+1:=⟨j-i-1,by omega⟩
 rw[hd];show (match decide (i<j) with|true=>(match p ((i+j)/2) with|true=>jo p d i ((i+j)/2)|false=>jo p d ((i+j)/2+1) j)|false=>i)=_;rw[UB h];simp only;rw[oR d ((i+j)/2-i) i ((i+j)/2) (by omega) (by omega),oR d (j-((i+j)/2+1)) ((i+j)/2+1) j (by omega) (by omega)]
theorem xl{p:Nat->Bool} : ∀(f i j:Nat),i<=j->jo p f i j<=j
 | 0,i,j,h=>h
 | f+1,i,j,h=>by
  simp only[jo];by_cases h1:i<j
  ·rw[UB h1];simp only;cases p ((i+j)/2) with
   | true=>have:=xl (p:=p) f i ((i+j)/2) (by omega);simp only;omega
   | false=>have:=xl (p:=p) f ((i+j)/2+1) j (by omega);simp only;omega
  rw[UA h1];exact h
def qI(p:Nat->Bool)(n:Nat):Nat:=jo p (n-0) 0 n
theorem LY{p:Nat->Bool}{n:Nat} : qI p n<=n:=xl _ _ _ (Up _)
def eX(p:Int->Bool)(n:Int):Int:=1+(qI (λi=>p ((i:Int)+1)) n.toNat:Nat)
theorem iW{p:Int->Bool}{n:Int}(h:0<=n):1<=eX p n∧eX p n<=n+1:=by unfold eX;have:=LY (p:=λi=>p ((i:Int)+1)) (n:=n.toNat);omega
def UY.tied(m:UY)(i:Nat):Bool:=match decide (¬(m.sRopes.e i).a=m.bID) with
 | true=>decide ((m.sRopes.e i).b=m.bID)
 | false=>true
def UY.oth(m:UY)(i:Nat):Int:=(m.sRopes.e i).a+(m.sRopes.e i).b-m.bID
def UY.FN(m:UY)(i:Nat):Nat:=VI (λk=>decide ((m.sBodies.e k).iD=m.oth i)) 0 m.sBodies.n
def UY.uu(m:UY)(i:Nat):Body:=m.sBodies.e (m.FN i)
def UY.FM(m:UY)(i:Nat):Int:=max ((m.sRopes.e i).len*(m.sRopes.e i).len) (Nq m.b (m.uu i))
def du(m:UY)(k:Nat):List (Body×Int):=cW (λi=>(m.uu i,m.FM i)) m.tied k
def Z':Body×Int:=(Xk,0)
theorem LS{m:UY}{i:Nat}(h1:¬(m.sRopes.e i).a=m.bID)(h2:¬(m.sRopes.e i).b=m.bID):m.tied i=false:=by unfold UY.tied;rw[UB h1];exact UA h2
theorem HL{m:UY}{i:Nat}(h:(m.sRopes.e i).a=m.bID∨(m.sRopes.e i).b=m.bID):m.tied i=true:=by unfold UY.tied;by_cases h1:(m.sRopes.e i).a=m.bID;rw[UA (λh=>h h1)];rw[UB h1];exact UB (h.resolve_left h1)
def UY.ja(m:UY)(o:Body)(lim:Int)(n:Int):Bool:=decide (lim<Nq (shB m n) o)
def UY.dD(m:UY)(o:Body)(n:Int):Bool:=(shB m n).jY o
def TW(b:Body)(a:Nat):Int:=match a with|0=>b.posX|_=>b.posY
def UY.m8(m:UY)(a:Nat)(o:Body):Int:=m.sign*(TW o a-qK m a)
def UY.eY(m:UY)(a:Nat)(o:Body)(most:Int):Int:=match decide (m.m8 a o<=0) with
 | true=>most+1
 | false=>match decide (eX (m.dD o) (min (m.m8 a o) most)<=min (m.m8 a o) most) with
  | true=>eX (m.dD o) (min (m.m8 a o) most)
  | false=>most+1
def UY.wS(m:UY)(a:Nat)(most:Int):Nat->Int
 | 0=>g9 m a most
 | k+1=>min (m.wS a most k) (eX (m.ja ((du m m.sRopes.n).getD k Z').1 ((du m m.sRopes.n).getD k Z').2) most)
def UY.fI(m:UY)(a:Nat)(most:Int):Nat->Int×Int
 | 0=>(m.wS a most (du m m.sRopes.n).length,-1)
 | k+1=>let r:=m.fI a most k
  let o:=(ca m m.sBodies.n).getD k Xk;let n:=m.eY a o most
  match decide (n<r.1) with
  | true=>(n,o.iD)
  | false=>match decide (n=r.1) with
   | true=>match decide (n<=most) with
    | true=>match decide (r.2<0) with|true=>(n,o.iD)|false=>r
    | false=>r
   | false=>r
def mU(m:UY)(a:Nat)(most:Int):Int×Int:=((m.fI a most (ca m m.sBodies.n).length).1-1,(m.fI a most (ca m m.sBodies.n).length).2)
theorem Ew{m:UY}{a:Nat}{o:Body}{most:Int}(h:0<=most):1<=m.eY a o most∧m.eY a o most<=most+1:=by unfold UY.eY;by_cases h1:m.m8 a o<=0;rw[UB h1];simp only;omega;rw[UA h1];simp only;have:=iW (p:=m.dD o) (n:=min (m.m8 a o) most) (by omega);split<;>omega
theorem rA{m:UY}{a:Nat}{most:Int}(h:0<=most)(hw:0<=jS m a):∀k,1<=m.wS a most k∧m.wS a most k<=most+1∧m.wS a most k<=jS m a+1
 | 0=>by unfold UY.wS g9;omega
 | k+1=>by have h1:=rA h hw k;have h2:=iW (p:=m.ja ((du m m.sRopes.n).getD k Z').1 ((du m m.sRopes.n).getD k Z').2) h;unfold UY.wS;omega
theorem CY{m:UY}{a:Nat}{most:Int}(h:0<=most)(hw:0<=jS m a):∀k,1<=(m.fI a most k).1∧(m.fI a most k).1<=most+1∧(m.fI a most k).1<=jS m a+1
 | 0=>rA h hw _
 | k+1=>by have h1:=CY h hw k;have h2:=Ew (m:=m) (a:=a) (o:=(ca m m.sBodies.n).getD k Xk) h;unfold UY.fI;simp only;by_cases c1:m.eY a ((ca m m.sBodies.n).getD k Xk) most<(m.fI a most k).1;rw[UB c1];simp only;omega;rw[UA c1];simp only;by_cases c2:m.eY a ((ca m m.sBodies.n).getD k Xk) most=(m.fI a most k).1;rw[UB c2];simp only;split;split;show 1<=m.eY a ((ca m m.sBodies.n).getD k Xk) most∧m.eY a ((ca m m.sBodies.n).getD k Xk) most<=most+1∧m.eY a ((ca m m.sBodies.n).getD k Xk) most<=jS m a+1;omega;exact h1;exact h1;rw[UA c2];exact h1
theorem Ic{m:UY}{a:Nat}(hw:0<=jS m a):mU m a 0=(0,-1):=by
 have key:∀k,m.fI a 0 k=(1,-1):=λk=>by
  induction k with
  | zero=>
   have h:=rA (m:=m) (a:=a) (most:=0) (Int.le_refl _) hw (du m m.sRopes.n).length;unfold UY.fI;rw[show m.wS a 0 (du m m.sRopes.n).length=1 by omega]
  | succ k ih=>
   have h2:=Ew (m:=m) (a:=a) (o:=(ca m m.sBodies.n).getD k Xk) (most:=0) (Int.le_refl _);have h3:m.eY a ((ca m m.sBodies.n).getD k Xk) 0=1:=(by omega);unfold UY.fI;simp only[ih,h3];rfl
 unfold mU;rw[key];rfl
end Go.Proofs.YtgigkennhdolpaaGreatDoor
namespace Go.Proofs.YtgigkennhdolpaaGreatDoor
open Go.Conc Go.RowKit
set_option maxRecDepth 8000
noncomputable def esL:Code:=SA (Ve ieB)
noncomputable def esS:Code:=Ve (Ve (Ve esL))
noncomputable def esB:Code:=Th (Vo (Ve (Ve esL)))
noncomputable def es2:Code:=Vo esB
noncomputable def es3:Code:=Vo (Ve esB)
noncomputable def es4:Code:=Vo (Ve (Ve esB))
noncomputable def es5:Code:=Vo (Ve (Ve (Ve esB)))
noncomputable def es6:Array Oper:=rgO (Vo (Ve (Ve (Ve (Ve esB)))))
def FK(m:UY)(l i:Nat):List (Nat×Slot):=[sl 0 (.v (.func (.yield l) #[] #[])),sl 1 (.rp m.cells 0),sl 9 m.sRopes.sv,sl 10 (i64 m.sRopes.n),sl 11 (i64 i)]
theorem QK:esB=.seq es2 (.seq es3 (.seq es4 (.seq es5 (.seq (.region 6 es6 true) (.cond (.tmp 59) .ret .skip))))):=by kernel_rfl
theorem QI:es6.toList.length=10+2:=by kernel_rfl
theorem QJ:Tn es6 10 58 59 48 [49,57]:=⟨_,_,_,_,_,_,_,_,by rfl⟩
theorem Ns:iI es6 10=true:=by kernel_rfl
structure UY.OkE (m:UY):Prop where
 nr:m.sRopes.n<=1000
 nb:m.sBodies.n<=1000
 ix:∀i,i<m.sRopes.n->m.tied i=true->m.FN i<m.sBodies.n
 far:∀i,i<m.sRopes.n->m.tied i=true->Av m.b (m.uu i)
 id:∀i,i<m.sRopes.n->UU ((m.sRopes.e i).a+(m.sRopes.e i).b)∧UU ((m.sRopes.e i).a+(m.sRopes.e i).b-m.bID)
 len:∀i,i<m.sRopes.n->UU ((m.sRopes.e i).len*(m.sRopes.e i).len)
noncomputable def gE:List (UW cx):=[Kw,Eg,zU]
noncomputable def eI:Yj:=gO (C:=cx) gE [] 0
set_option maxHeartbeats 2000000 in
theorem FL(m:UY)(l i:Nat)(hm:m.OkE)(hi:i<m.sRopes.n):ev (C:=cx) gE Tryz.f230.ntmps 0 eI [] ai es2 ⟨FK m l i,[],0,0,[],[]⟩ (λx st=>match x with
  | .normal=>ev (C:=cx) gE Tryz.f230.ntmps 0 eI [] ai es3 st (λx st=>match x with
   | .normal=>ev (C:=cx) gE Tryz.f230.ntmps 0 eI [] ai es4 st (λx st=>match x with
    | .normal=>ev (C:=cx) gE Tryz.f230.ntmps 0 eI [] ai es5 st (λx st=>match x with
     | .normal=>m.tied i=true∧YR (C:=cx) gE Tryz.f230.ntmps eI [] true es6 true 10 10 48 l [49,57] [(m.uu i).sv,i64 (m.FM i)] (FK m l i) st
     | _=>False)
    | _=>False)
   | .exit j=>j=1∧m.tied i=false∧cov (FK m l i) st
   | _=>False)
  | _=>False):=by
 have hid:=hm.id i hi;have hlen:=hm.len i hi;have hnr:=hm.nr;have hnb:=hm.nb;have main:m.tied i=true->0<=VO (λk=>decide ((m.sBodies.e k).iD=m.oth i)) m.sBodies.n∧VO (λk=>decide ((m.sBodies.e k).iD=m.oth i)) m.sBodies.n<m.sBodies.n∧(VO (λk=>decide ((m.sBodies.e k).iD=m.oth i)) m.sBodies.n).toNat=m.FN i:=λht=>by have h1:=hm.ix i hi ht;have h2:VO (λk=>decide ((m.sBodies.e k).iD=m.oth i)) m.sBodies.n=(m.FN i:Nat):=fZ rfl h1;rw[h2];omega
 refine Ai ⟨by omega,by omega⟩ ?_;refine Ai (λhb=>?_) (λhb=>?_)
 ·have hb:(decide (¬(m.sRopes.e i).a=m.bID)&&decide (¬(m.sRopes.e i).b=m.bID))=true:=hb;obtain⟨h1,h2⟩:=Bool.and_eq_true_iff.1 hb;refine⟨rfl,LS (Od h1) (Od h2),[],[],?_⟩;repeat' (first|refine Ai ?_ ?_|intro _|exact rfl)
 have hb:(decide (¬(m.sRopes.e i).a=m.bID)&&decide (¬(m.sRopes.e i).b=m.bID))=false:=hb;have ht:m.tied i=true:=HL (by
  rcases Bool.and_eq_false_iff.1 hb with h|h;exact .inl (Decidable.of_not_not (Uy h))
  ·exact .inr (Decidable.of_not_not (Uy h)))
 obtain⟨x1,x2,x3⟩:=main ht;have hfar:=hm.far i hi ht;refine Ai hid.1 ?_;refine Ai hid.2 ?_;refine Ai ⟨λ_ _=>trivial,hnb,⟨m.oth i,rfl⟩⟩ ?_;refine Ai ⟨x1,x2⟩ ?_;refine Ai ht ?_;refine YR.mk ?_;have hfar':Av m.b (m.sBodies.e (VO (λk=>decide ((m.sBodies.e k).iD=m.oth i)) m.sBodies.n).toNat):=by rw[x3];exact hfar
 refine Ai hlen ?_;refine Ai hfar' ?_;refine⟨[],[],?_⟩;unfold UY.uu;repeat' (first|refine Ai ?_ ?_|intro _|exact rfl)
 all_goals first|exact Uv (λj=>(m.sBodies.e j).iD) x3.symm|exact Uv (λj=>(m.sBodies.e j).posX) x3.symm|exact Uv (λj=>(m.sBodies.e j).posY) x3.symm|exact Uv (λj=>(m.sBodies.e j).velX) x3.symm|exact Uv (λj=>(m.sBodies.e j).velY) x3.symm|exact Uv (λj=>(m.sBodies.e j).w) x3.symm|exact Uv (λj=>(m.sBodies.e j).h) x3.symm|exact Uv (λj=>(m.sBodies.e j).round) x3.symm|exact Uv (λj=>(m.sBodies.e j).fixed) x3.symm|exact Uv (λj=>max ((m.sRopes.e i).len*(m.sRopes.e i).len) (Nq m.b (m.sBodies.e j))) x3.symm
set_option maxHeartbeats 4000000 in
theorem Fx(m:UY)(hm:m.OkE):OK cx 230 [.rp m.cells 0] (du m m.sRopes.n).length (λk=>[((du m m.sRopes.n).getD k Z').1.sv,i64 ((du m m.sRopes.n).getD k Z').2]):=by
 refine DF (Γ:=gE) (I:=eI) (inls:=[]) (h:=ai) (fn:=Tryz.f230) (A:=Vo ieB) (T:=Vo esL) (B:=esB) (S:=esS) (cT:=12) (b0:=0) (b1:=1) (cA follows 0) follows Tryz.func230 (by kernel_rfl) rfl (by kernel_rfl) (by kernel_rfl) (by kernel_rfl) (by kernel_rfl)
  m.sRopes.n (λi=>(du m i).length) _ (FK m) (by rfl) (λ_ _=>by rfl) (λ_ _=>by rfl) (λ_ _=>by rfl) (by rfl) ?_ ?_ ?_ ?_
 ·intro l;refine⟨[],[],?_⟩;repeat' (first|refine Ai ?_ ?_|intro _|exact rfl)
 ·intro l i hi;refine⟨[],[],?_⟩;repeat' (first|refine Ai ?_ ?_|intro _|exact rfl)
  all_goals exact decide_eq_decide.2 (by omega)
 ·intro l J Y i z a W hi hj Yu;rw[QK];have XM:∀n b,(aB z).VK.n n=some b->n<0:=λn b h=>(by cases h);have Ws:∀e l,(aB z).VK.v e=some l->e<0∧l.o<0:=λn b h=>(by cases h);have WS:∀m i l,(aB z).VK.k m i=some l->m<0:=λn b m h=>(by cases h);have hcn:m.tied i=true->(du m (i+1)).length=(du m i).length+1∧(du m i).length<(du m m.sRopes.n).length∧(λk=>[((du m m.sRopes.n).getD k Z').1.sv,i64 ((du m m.sRopes.n).getD k Z').2]) (du m i).length=[(m.uu i).sv,i64 (m.FM i)]:=λhw=>(by obtain⟨k1,k2⟩:=oE (f:=λi=>(m.uu i,m.FM i)) (g:=m.tied) (d:=Z') hw _ hi;exact⟨by unfold du;rw[fJ hw];simp,k2,Uv (λb:Body×Int=>[b.1.sv,i64 b.2]) k1⟩);refine fH (cR (cX (Γ:=gE) (I:=eI) (inls:=[]) (h:=ai) (nm0:=0) (cA follows 0) follows XM Ws WS es2 ⟨FK m l i,[],0,0,[],[]⟩ _ (by kernel_rfl) (FL m l i hm hi) _ a W (Yu.rp rfl)) ?_);rintro e a1 W1 ⟨x,st,ρ,rfl,hk,hr⟩;cases x with
  | exit j=>exact hk.elim
  | ret=>exact hk.elim
  | normal=>
  refine fH (cR (cX (Γ:=gE) (I:=eI) (inls:=[]) (h:=ai) (nm0:=0) (cA follows 0) follows XM Ws WS es3 st _ (by kernel_rfl) hk ρ a1 W1 hr) ?_);rintro e a2 W2 ⟨x,YM,WU,rfl,XE,XK⟩;cases x with
  | exit j=>
   obtain⟨rfl,ht,hc⟩:=XE;obtain⟨z',XR,hp'⟩:=Y.adv hj XK hc rfl;have e:du m (i+1)=du m i:=iq ht;refine⟨.inr rfl,z',?_,hp'⟩;rw[e];exact XR
  | ret=>exact XE.elim
  | normal=>
  refine fH (cR (cX (Γ:=gE) (I:=eI) (inls:=[]) (h:=ai) (nm0:=0) (cA follows 0) follows XM Ws WS es4 YM _ (by kernel_rfl) XE WU a2 W2 XK) ?_);rintro e a3 W3 ⟨x,Z9,ρ3,rfl,hk3,hr3⟩;cases x with
  | exit j=>exact hk3.elim
  | ret=>exact hk3.elim
  | normal=>
  refine fH (cR (cX (Γ:=gE) (I:=eI) (inls:=[]) (h:=ai) (nm0:=0) (cA follows 0) follows XM Ws WS es5 Z9 _ (by kernel_rfl) hk3 ρ3 a3 W3 hr3) ?_);rintro e a4 W4 ⟨x,st4,ρ4,rfl,hk4,hr4⟩;cases x with
  | exit j=>exact hk4.elim
  | ret=>exact hk4.elim
  | normal=>
  have WL:m.tied i=true∧YR (C:=cx) gE Tryz.f230.ntmps eI [] true es6 true 10 10 48 l [49,57] [(m.uu i).sv,i64 (m.FM i)] (FK m l i) st4:=hk4;obtain⟨ht,hy⟩:=WL;have hY:=EI (id:=6) Y (Γ:=gE) (I:=eI) (inls:=[]) (cA follows 0) follows QJ (λ_=>Ns) (by decide) QI (by kernel_rfl) (by kernel_rfl) ⟨rfl,rfl,λt ht=>by
   rcases UI.1 ht with rfl|ht;rfl
   ·obtain rfl:=List.mem_singleton.1 ht;rfl,rfl⟩ (by decide) rfl rfl rfl (hcn ht).2.1 (hcn ht).2.2 hj hr4 hy
  refine fH (cR hY ?_);rintro e a5 W5 ⟨rfl,hv,z',XR,hp'⟩;refine gJ hv (nU ⟨.inl rfl,z',?_,hp'⟩);rw[(hcn ht).1];exact XR
 intro l i hi;have:=hm.nr;refine Ai (by unfold U1;omega:U1 ((i:Int)+1)) ?_;refine⟨[],[],?_⟩;repeat' (first|refine Ai ?_ ?_|intro _|exact rfl)
end Go.Proofs.YtgigkennhdolpaaGreatDoor
