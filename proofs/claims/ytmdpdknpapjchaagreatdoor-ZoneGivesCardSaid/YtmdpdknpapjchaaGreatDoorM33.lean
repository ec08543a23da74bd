/- step: first, body.. -/
import Derived.Test.YtmdpdknpapjchaaGreatDoorM32
set_option linter.all false
namespace Go.Proofs.YtmdpdknpapjchaaGreatDoor
set_option maxRecDepth 100000
noncomputable section
section
open Go.RowKit
set_option maxHeartbeats 2000000
theorem Nf:∀a,aD ((λa=>[∃q,a.2=.rp [.v (.int .u8 q)] 0]) a)->aJ (C:=cx) [] [] 0 ak Tryz.f164 ((aH gE YS).enc a) λv H _=>ae ((λa=>.v (.bool (decide (a.1.kind=rkI a.2)))) a) H v:=by intro⟨c,x⟩ hx;obtain⟨q,hx⟩:∃q,x=.rp [.v (.int .u8 q)] 0:=hx;subst hx;exact rfl
def TO:XR cx:=af 164 Tryz.call164 (aH gE YS) _ _ (λ_=>ak) [] (λ_=>rfl) follows Tryz.func164 (by kernel_rfl) Nf
def SX(l:Zp)(q:Int):Cut:=⟨Nat,λk=>k<=l.n∧YK (λi=>decide ((l.c i).kind=q)) 0 l.n=YK (λi=>decide ((l.c i).kind=q)) k (l.n-k),
 λk=>⟨[sl 0 l.sv,sl 1 (.f (.func 164) [] [.rp [.v (.int .u8 q)] 0]),sl 7 (i64 l.n),sl 8 (i64 k)],[],0,0,[],[]⟩,λk=>l.n-k⟩
theorem Na:∀a,aD ((λa=>[(a.1.n:Int)<=cp,∃q,a.2=(.f (.func 164) [] [.rp [.v (.int .u8 q)] 0])]) a)->aJ (C:=cx) [TO] [] 0 ⟨[],[],[2],0⟩ Tryz.f52 ((aH gU YS).enc a) λv H _=>ae ((λa=>.v (.int .i64 (YO (λi=>decide ((a.1.c i).kind=kxI a.2)) a.1.n))) a) H v:=by
 intro⟨l,x⟩ ⟨hm,hx⟩;obtain⟨q,hx⟩:∃q,x=(.f (.func 164) [] [.rp [.v (.int .u8 q)] 0]):=hx;subst hx;replace hm:(l.n:Int)<=9223372036854775807:=hm;refine F8 (SX l q) ?_;refine Ai ?_ ?_
 ·refine⟨(0:Nat),[],[],trivial,⟨F9 _,rfl⟩,?_⟩;repeat' first|apply Ai|exact rfl|intro
 refine fun(k:Nat) (hk:k<=l.n∧YK (λi=>decide ((l.c i).kind=q)) 0 l.n=YK (λi=>decide ((l.c i).kind=q)) k (l.n-k))=>?_;obtain⟨k1,k2⟩:=hk;refine Ai (λhb=>?_) (λhb=>?_)
 ·have hb:(k:Int)<l.n:=Od hb;have e:=jz (g:=(λi=>decide ((l.c i).kind=q))) (k:=k) (n:=l.n) (by omega);refine Ai ⟨by omega,by omega⟩ ?_;refine Ai ⟨q,rfl⟩ ?_;refine Ai (λhc=>?_) (λhc=>?_);have hc:(decide ((l.c k).kind=q))=true:=hc;simp only[hc] at e;exact iX (g:=(λi=>decide ((l.c i).kind=q))) (n:=l.n) (k2.trans e) (by omega);have hc:(decide ((l.c k).kind=q))=false:=hc;simp only[hc] at e;refine Ai (by unfold XT;omega:XT ((k:Int)+1)) ?_;refine⟨k+1,[],[],(by show l.n-(k+1)<l.n-k;omega),⟨by omega,by rw[k2,e]⟩,?_⟩;repeat' first|apply Ai|exact rfl|intro
 have hb:¬(k:Int)<l.n:=Xg hb;refine gI (g:=(λi=>decide ((l.c i).kind=q))) (n:=l.n) ?_;rw[k2,show l.n-k=0 by omega];show k=l.n;omega
def yJ:XR cx:=af 52 Tryz.call52 (aH gU YS) _ _ (λ_=>⟨[],[],[2],0⟩) [] (λ_=>rfl) follows Tryz.func52 (by kernel_rfl) Na
def Jk(b1 b2 b3:Bool):Int->Bool
 | .ofNat 1=>b1
 | .ofNat 3=>b3
 | _=>b2
def U3(b:Bool)(c:aZ):SV:=match b with|true=>.rp c.cells 0|false=>.v (.pointer none)
section
variable (b1 b2 b3:Bool)
theorem BR:∀a:XO×Int,aD [(a.1.l.n:Int)<=cp,Jk b1 b2 b3 a.2=(bu a.1.l a.2).2]->aJ (C:=cx) [yJ] [] 0 ak Tryz.f113 ((aH eE (Yp .u8)).enc a) λv H _=>ae (U3 (Jk b1 b2 b3 a.2) (bu a.1.l a.2).1) H v:=by
 intro⟨e,q⟩ ⟨hm,hs⟩;replace hs:Jk b1 b2 b3 q=(bu e.l q).2:=hs;rw[hs];refine Ai ⟨λ_ _=>trivial,hm,⟨q,rfl⟩⟩ ?_;replace hm:(e.l.n:Int)<=9223372036854775807:=hm;have hle:=C0 (g:=λi=>decide ((e.l.c i).kind=q)) (r:=e.l.n) (k:=0);by_cases h:YK (λi=>decide ((e.l.c i).kind=q)) 0 e.l.n<e.l.n
 ·have ei:YO (λi=>decide ((e.l.c i).kind=q)) e.l.n=(YK (λi=>decide ((e.l.c i).kind=q)) 0 e.l.n:Nat):=iX rfl h;have ec:bu e.l q=(e.l.c (YK (λi=>decide ((e.l.c i).kind=q)) 0 e.l.n),true):=(by unfold bu;rw[Xj h]);simp only[ec];refine Ai (λhc=>?_) (λhc=>?_);have hc:decide (YO (λi=>decide ((e.l.c i).kind=q)) e.l.n<0)=true:=hc;rw[ei] at hc;have:=Od hc;omega;refine Ai (show 0<=YO (λi=>decide ((e.l.c i).kind=q)) e.l.n∧YO (λi=>decide ((e.l.c i).kind=q)) e.l.n<(e.l.n:Nat) by rw[ei];omega) ?_;have et:(YO (λi=>decide ((e.l.c i).kind=q)) e.l.n).toNat=YK (λi=>decide ((e.l.c i).kind=q)) 0 e.l.n:=(by rw[ei];rfl);repeat' (first|refine Ai ?_ ?_|(intro _))
  all_goals first|exact rfl|exact O' (λi=>(e.l.c i).kind) et.symm|exact O' (λi=>(e.l.c i).v0) et.symm|exact O' (λi=>(e.l.c i).v1) et.symm|exact O' (λi=>(e.l.c i).v2) et.symm|exact O' (λi=>(e.l.c i).v3) et.symm
 have ei:YO (λi=>decide ((e.l.c i).kind=q)) e.l.n = -1:=gI (by omega);have ec:bu e.l q=(aZ.no,false):=by unfold bu;rw[Xi h]
 simp only[ec];refine Ai (λhc=>?_) (λhc=>?_)
 ·repeat' first|apply Ai|exact rfl|intro
 have hc:decide (YO (λi=>decide ((e.l.c i).kind=q)) e.l.n<0)=false:=hc;rw[ei] at hc;exact P' hc (by decide)
def xe:XR cx:=af 113 Tryz.call113 (aH eE (Yp .u8)) (λa=>[(a.1.l.n:Int)<=cp,Jk b1 b2 b3 a.2=(bu a.1.l a.2).2]) (λa=>U3 (Jk b1 b2 b3 a.2) (bu a.1.l a.2).1) (λ_=>ak) [] (λ_=>rfl) follows Tryz.func113 (by kernel_rfl) (BR b1 b2 b3)
end
def I4{α:Type}{Fs:List (Y0 cx)}{d:Nat}(Γ:α->List (XR cx))(f:FuncId)(en:∀(args:Array Value) (w:World),(callFunc f args).run cx.P w=.ok (.enter f args) w)(R:Rds α)(pre:α->List Prop)(out:α->SV)(h:α->How)(fl:List Nat)(hfl:∀a,(h a).fl=fl)(hm:cx.P.follows .mixedOrders=true){fn:Func}
  (hf:cx.P.funcs[f]? = some fn) (hB:gq fl fn=true) (he:∀a,aD (pre a)->aJ (Γ a) Fs d (h a) fn (R.enc a) λv H _=>ae (out a) H v):XR cx:=
 ru f en (de hf hB) R pre out λa ze W vs ha hG hz hd=>pD (h a) hm hf (by rw[hfl a];exact hB) hG hz hd (he a ha)
def Body.no:Body:=⟨0,0,0,0,0,0,0,false,false⟩
def rD(e:XO):Bool:=decide ((bu e.l 3).1.v3=1)||!(bu e.l 2).2
def kN(e:XO):Body:=match rD e with
 | true=>⟨e.iD,(bu e.l 1).1.v0,(bu e.l 1).1.v1,0,0,(bu e.l 3).1.v0,(bu e.l 3).1.v1,decide ((bu e.l 3).1.v2=1),true⟩
 | false=>⟨e.iD,(bu e.l 1).1.v0,(bu e.l 1).1.v1,(bu e.l 2).1.v0,(bu e.l 2).1.v1,(bu e.l 3).1.v0,(bu e.l 3).1.v1,decide ((bu e.l 3).1.v2=1),false⟩
def bL(e:XO):Body×Bool:=match (bu e.l 1).2&&(bu e.l 3).2 with
 | true=>(kN e,true)
 | false=>(Body.no,false)
theorem IP:∀a:XO,aD [(a.l.n:Int)<=cp]->aJ (C:=cx) [xe (bu a.l 1).2 (bu a.l 2).2 (bu a.l 3).2] [] 0 ⟨[1002],[],[],0⟩ Tryz.f109 ((bh eE).enc a) λv H _=>ae (.tup [(bL a).1.sv,.v (.bool (bL a).2)]) H v:=by
 intro e hm;have h1:(bu e.l 1).2=(bu e.l 1).2:=rfl;have h2:(bu e.l 2).2=(bu e.l 2).2:=rfl;have h3:(bu e.l 3).2=(bu e.l 3).2:=rfl;generalize YB:(bu e.l 1).2=b1 at h1 ⊢;generalize Yi:(bu e.l 2).2=b2 at h2 ⊢;generalize ZA:(bu e.l 3).2=b3 at h3 ⊢;clear h1 h2 h3;cases b1<;>cases b2<;>cases b3
 ·have hF:bL e=(Body.no,false):=(by unfold bL;rw[YB,ZA];rfl);simp only[hF];refine Ai ⟨λ_ _=>trivial,hm,YB.symm⟩ ?_;refine Ai ⟨λ_ _=>trivial,hm,ZA.symm⟩ ?_;refine Ai ⟨λ_ _=>trivial,hm,Yi.symm⟩ ?_;repeat' first|apply Ai|exact rfl|intro
 ·have hF:bL e=(Body.no,false):=(by unfold bL;rw[YB,ZA];rfl);simp only[hF];refine Ai ⟨λ_ _=>trivial,hm,YB.symm⟩ ?_;refine Ai ⟨λ_ _=>trivial,hm,ZA.symm⟩ ?_;refine Ai ⟨λ_ _=>trivial,hm,Yi.symm⟩ ?_;repeat' first|apply Ai|exact rfl|intro
 ·have hF:bL e=(Body.no,false):=(by unfold bL;rw[YB,ZA];rfl);simp only[hF];refine Ai ⟨λ_ _=>trivial,hm,YB.symm⟩ ?_;refine Ai ⟨λ_ _=>trivial,hm,ZA.symm⟩ ?_;refine Ai ⟨λ_ _=>trivial,hm,Yi.symm⟩ ?_;repeat' first|apply Ai|exact rfl|intro
 ·have hF:bL e=(Body.no,false):=(by unfold bL;rw[YB,ZA];rfl);simp only[hF];refine Ai ⟨λ_ _=>trivial,hm,YB.symm⟩ ?_;refine Ai ⟨λ_ _=>trivial,hm,ZA.symm⟩ ?_;refine Ai ⟨λ_ _=>trivial,hm,Yi.symm⟩ ?_;repeat' first|apply Ai|exact rfl|intro
 ·have hF:bL e=(Body.no,false):=(by unfold bL;rw[YB,ZA];rfl);simp only[hF];refine Ai ⟨λ_ _=>trivial,hm,YB.symm⟩ ?_;refine Ai ⟨λ_ _=>trivial,hm,ZA.symm⟩ ?_;refine Ai ⟨λ_ _=>trivial,hm,Yi.symm⟩ ?_;repeat' first|apply Ai|exact rfl|intro
 ·have hF:bL e=(kN e,true):=(by unfold bL;rw[YB,ZA];rfl);simp only[hF];refine Ai ⟨λ_ _=>trivial,hm,YB.symm⟩ ?_;refine Ai ⟨λ_ _=>trivial,hm,ZA.symm⟩ ?_;refine Ai ⟨λ_ _=>trivial,hm,Yi.symm⟩ ?_;refine Ai (λhc=>?_) (λhc=>?_);have hc:(!(decide ((bu e.l 3).1.v3=1)||true))=true:=hc;simp at hc;have hV:kN e=⟨e.iD,(bu e.l 1).1.v0,(bu e.l 1).1.v1,0,0,(bu e.l 3).1.v0,(bu e.l 3).1.v1,decide ((bu e.l 3).1.v2=1),true⟩:=(by unfold kN rD;rw[Yi,Bool.not_false,Bool.or_true]);simp only[hV];repeat' first|apply Ai|exact rfl|intro
  all_goals exact(Bool.or_true _).symm
 ·have hF:bL e=(Body.no,false):=(by unfold bL;rw[YB,ZA];rfl);simp only[hF];refine Ai ⟨λ_ _=>trivial,hm,YB.symm⟩ ?_;refine Ai ⟨λ_ _=>trivial,hm,ZA.symm⟩ ?_;refine Ai ⟨λ_ _=>trivial,hm,Yi.symm⟩ ?_;repeat' first|apply Ai|exact rfl|intro
 have hF:bL e=(kN e,true):=by unfold bL;rw[YB,ZA];rfl
 simp only[hF];refine Ai ⟨λ_ _=>trivial,hm,YB.symm⟩ ?_;refine Ai ⟨λ_ _=>trivial,hm,ZA.symm⟩ ?_;refine Ai ⟨λ_ _=>trivial,hm,Yi.symm⟩ ?_;refine Ai (λhc=>?_) (λhc=>?_)
 ·have hc:(!(decide ((bu e.l 3).1.v3=1)||false))=true:=hc;have hd:decide ((bu e.l 3).1.v3=1)=false:=(by simpa using hc);have hV:kN e=⟨e.iD,(bu e.l 1).1.v0,(bu e.l 1).1.v1,(bu e.l 2).1.v0,(bu e.l 2).1.v1,(bu e.l 3).1.v0,(bu e.l 3).1.v1,decide ((bu e.l 3).1.v2=1),false⟩:=(by unfold kN rD;rw[Yi,Bool.not_true,hd];rfl);simp only[hV];repeat' first|apply Ai|exact rfl|intro
  all_goals (refine XA (b:=decide ((bu e.l 3).1.v3=1)||false) ?_ rfl;rw[hd];rfl)
 have hc:(!(decide ((bu e.l 3).1.v3=1)||false))=false:=hc;have hd:decide ((bu e.l 3).1.v3=1)=true:=by simpa using hc
 have hV:kN e=⟨e.iD,(bu e.l 1).1.v0,(bu e.l 1).1.v1,0,0,(bu e.l 3).1.v0,(bu e.l 3).1.v1,decide ((bu e.l 3).1.v2=1),true⟩:=by unfold kN rD;rw[Yi,Bool.not_true,hd];rfl
 simp only[hV];repeat' first|apply Ai|exact rfl|intro
 all_goals (refine XA (b:=decide ((bu e.l 3).1.v3=1)||false) ?_ rfl;rw[hd];rfl)
def FM:XR cx:=I4 (Fs:=[]) (d:=0) (λa:XO=>[xe (bu a.l 1).2 (bu a.l 2).2 (bu a.l 3).2]) 109 Tryz.call109 (bh eE) (λa=>[(a.l.n:Int)<=cp]) (λa=>.tup [(bL a).1.sv,.v (.bool (bL a).2)]) (λ_=>⟨[1002],[],[],0⟩) [1002] (λ_=>rfl) follows Tryz.func109 (by kernel_rfl) IP
def bB(l:ZJ)(k:Nat):List Body:=fP (λi=>(bL (l.e i)).1) (λi=>(bL (l.e i)).2) k
def gR(L:List Body)(i:Nat):Body:=L.getD i Body.no
def RH:List SV:=[.v (.slice none 0 0),.v (.slice none 0 0),.il .i64 0,.il .i64 0]
def WW(l:ZJ)(r:Rps)(x y:Int):Cut:=⟨Nat,λk=>k<=l.n,λk=>⟨[sl 1 r.sv,sl 6 (.p 2 0),sl 7 (.p 3 0),sl 18 l.sv,sl 19 (i64 l.n),sl 20 (i64 k)],
 [(2,.lay RH 149),(3,.lay [.g 4 5 9 0 (bB l k).length,.v (.slice none 0 0),.v (.int .i64 x),.v (.int .i64 y)] 149),(4,.lst 5 9 (bB l k).length (λi=>(gR (bB l k) i).cells) 199)],6,0,[],[]⟩,λk=>l.n-k⟩
set_option maxHeartbeats 2000000 in
theorem B4:∀a,aD ((λa=>[a.1.l.Sm,a.1.l.n<=1000,a.2.1.n=0]) a)->aJ (C:=cx) [FM] [] 0 ⟨[],[],[3],1⟩ Tryz.f79 ((eC cI nP fb).enc a) λv H _=>fH ((λa=>.agg [.rs 9 (bB a.1.l a.1.l.n).length (λi=>(gR (bB a.1.l a.1.l.n) i).cells),.v (.slice none 0 0),.v (.int .i64 a.2.2.x),.v (.int .i64 a.2.2.y)]) a) H v:=by
 intro⟨w,r,g⟩ ⟨hm,hn,hr⟩;replace hr:r.n=0:=hr;replace hm:w.l.Sm:=hm;replace hn:w.l.n<=1000:=hn;refine F8 (WW w.l r g.x g.y) ?_;refine Ai ?_ ?_
 ·refine⟨(0:Nat),[],[.cell2 3 0 9 199],trivial,F9 _,?_⟩;repeat' first|apply Ai|exact rfl|intro
  all_goals exact P' ‹_<0› (F1 _)
 refine fun(k:Nat) (hk:k<=w.l.n)=>?_;refine Ai (λhb=>?_) (λhb=>?_)
 ·have hb:(k:Int)<w.l.n:=Od hb;have hkl:((w.l.e k).l.n:Int)<=cp:=(hm.2 k (by omega)).1;refine Ai ⟨by omega,by omega⟩ ?_;refine Ai ⟨λ_ _=>trivial,hkl⟩ ?_;refine Ai (λhc=>?_) (λhc=>?_)
  ·have hc:(bL (w.l.e k)).2=true:=hc;have hlen:=qz (f:=λi=>(bL (w.l.e i)).1) (g:=λi=>(bL (w.l.e i)).2) k;have ey:=jg (f:=λi=>(bL (w.l.e i)).1) (g:=λi=>(bL (w.l.e i)).2) hc;have em:∀i,i<(bB w.l k).length+1->gR (bB w.l (k+1)) i=bif Nat.ble (bB w.l k).length i then(bL (w.l.e k)).1 else gR (bB w.l k) i:=λi hi=>(O' (λl=>gR l i) ey).trans (UP _ _ hi);have Yo:gQ ((bB w.l k).length+1) 64:=⟨Nat.le_trans (by unfold bB;omega:(bB w.l k).length+1<=1001) (by decide),by unfold bB;omega⟩
   refine Ai ⟨Yo,λ_ _ _=>⟨rfl,rfl,rfl,rfl,rfl,rfl,rfl,trivial,trivial,trivial⟩⟩ ?_;refine Ai (by unfold XT;omega:XT ((k:Int)+1)) ?_;refine⟨k+1,[(5,9)],[],(by show w.l.n-(k+1)<w.l.n-k;omega),(by omega:k+1<=w.l.n),?_⟩;repeat' first|apply Ai|exact rfl|intro
   all_goals first|exact(O' List.length ey).trans List.length_append|exact(O' Body.iD (em _ ‹_›)).trans (cW Body.iD)|exact(O' Body.posX (em _ ‹_›)).trans (cW Body.posX)|exact(O' Body.posY (em _ ‹_›)).trans (cW Body.posY)|exact(O' Body.velX (em _ ‹_›)).trans (cW Body.velX)|exact(O' Body.velY (em _ ‹_›)).trans (cW Body.velY)|exact(O' Body.w (em _ ‹_›)).trans (cW Body.w)|exact(O' Body.h (em _ ‹_›)).trans (cW Body.h)|exact(O' Body.round (em _ ‹_›)).trans (cW Body.round)|exact(O' Body.fixed (em _ ‹_›)).trans (cW Body.fixed)
  have hc:(bL (w.l.e k)).2=false:=hc;have ey:=mH (f:=λi=>(bL (w.l.e i)).1) (g:=λi=>(bL (w.l.e i)).2) hc;refine Ai (by unfold XT;omega:XT ((k:Int)+1)) ?_;refine⟨k+1,[],[],(by show w.l.n-(k+1)<w.l.n-k;omega),(by omega:k+1<=w.l.n),?_⟩;repeat' first|apply Ai|exact rfl|intro
  all_goals first|exact O' List.length ey|exact O' (λl=>(gR l _).iD) ey|exact O' (λl=>(gR l _).posX) ey|exact O' (λl=>(gR l _).posY) ey|exact O' (λl=>(gR l _).velX) ey|exact O' (λl=>(gR l _).velY) ey|exact O' (λl=>(gR l _).w) ey|exact O' (λl=>(gR l _).h) ey|exact O' (λl=>(gR l _).round) ey|exact O' (λl=>(gR l _).fixed) ey
 have hb:¬(k:Int)<w.l.n:=Xg hb;obtain rfl:k=w.l.n:=by omega
 refine Ai (λh=>P' (show (0:Int)<r.n from Od h) (by omega)) (λ_=>?_);refine Ai (λ_ _=>rfl) ?_;repeat' first|apply Ai|exact rfl|intro
 all_goals first|exact O' (λi=>(gR (bB w.l w.l.n) i).iD) (B' _).symm|exact O' (λi=>(gR (bB w.l w.l.n) i).posX) (B' _).symm|exact O' (λi=>(gR (bB w.l w.l.n) i).posY) (B' _).symm|exact O' (λi=>(gR (bB w.l w.l.n) i).velX) (B' _).symm|exact O' (λi=>(gR (bB w.l w.l.n) i).velY) (B' _).symm|exact O' (λi=>(gR (bB w.l w.l.n) i).w) (B' _).symm|exact O' (λi=>(gR (bB w.l w.l.n) i).h) (B' _).symm|exact O' (λi=>(gR (bB w.l w.l.n) i).round) (B' _).symm|exact O' (λi=>(gR (bB w.l w.l.n) i).fixed) (B' _).symm
def HO:XR cx:=jo 79 Tryz.call79 (eC cI nP fb) _ _ (λ_=>⟨[],[],[3],1⟩) [] (λ_=>rfl) follows Tryz.func79 (by kernel_rfl) B4
end
section
open Go.Conc Go.RowKit
set_option maxHeartbeats 2000000
variable {X9:Int}{a:Nat}{m:Z'}
def oD:Y0 cx:=⟨106,Tryz.call106,Tryz.f106,Tryz.func106,[],[],[],0,by kernel_rfl⟩
theorem uV{ρ:Names} : ∀{vs us:List Value},au ρ (vs.map SV.v) us->us=vs
 | [],us,h=>h
 | v::r,us,⟨a,b,e1,e2,e3⟩=>by rw[e1,uV e3];obtain rfl:a=v:=e2;rfl
theorem qF{ρ:Names} : ∀(vs:List Value),au ρ (vs.map SV.v) vs
 | []=>rfl
 | v::r=>⟨v,r,rfl,rfl,qF r⟩
theorem H3(vs:List Value)(t off:Nat):ev (C:=cx) [] oD.fn.ntmps 1 (jB (C:=cx) [] [] 0) (cd (C:=cx) []) ak (eK oD.fn) ⟨bw 0 [.p 0 off],[(0,.lay (vs.map SV.v) t)],1,0,[],[]⟩ (rT cx oD.fn.results.toList λv H' _=>v=.agg [.p 0 (off+0),.p 0 (off+1)]∧cC [(0,.lay (vs.map SV.v) t)] H'):=by repeat' (first|exact cC.cons (cC.cons (cC.refl _) rfl) rfl|(refine Ai ?_ ?_)|(intro _)|exact rfl)
theorem Dt{W:World}{b off t:Nat}{vs:List Value}(hG:cx.ZQ W)(ZM:cx.gm<=b)(hb:Zq W b vs.toArray t)(h1:∀c∈vs,c.oneCell'=true):bj Tryz.prog false 106 #[.pointer (some ⟨b,off,none⟩)] W λe W'=>e=.returned (.agg #[.pointer (some ⟨b,off,none⟩),.pointer (some ⟨b,off+1,none⟩)])∧Gr W W':=by
 let YA:Names:=⟨λn=>if n=0 then some b else none,λ_=>none,λ_ _=>none,λ_ _ _=>False,[],λ_=>False⟩
 have ow:∀n b',bM YA n b'↔n=0∧b'=b:=λn b'=>by constructor;rintro(h|⟨e,l,o,h,-⟩|⟨i,l,o,h,-⟩);by_cases e:n=0;simp only[YA,Xl e] at h;exact⟨e,(Oi h).symm⟩;simp only[YA,Xk e] at h;cases h;cases h;cases h;rintro⟨rfl,rfl⟩;exact .inl (by simp[YA])
 have X':YH cx [(0,.lay (vs.map SV.v) t)] YA W:=by refine⟨⟨λn n' b' h h'=>by rw[((ow _ _).1 h).1,((ow _ _).1 h').1],λn b' h=>?_,λb i c h=>h.elim,hG⟩,λn sb hn=>?_⟩;obtain⟨-,rfl⟩:=(ow _ _).1 h;exact⟨ZM,(E'.1 (show W.heap[b']? = _ from hb)).1⟩;by_cases e:0=n;subst e;obtain rfl:=Oi (show some _=some sb from hn);exact⟨b,vs,by simp[YA],qF vs,hb,h1,λi c h=>h⟩;rw[ah _ _ e] at hn;cases hn
 have X5:∀n b',YA.n n=some b'->n<1:=λn b' h=>by by_cases e:n=0;omega;simp only[YA,Xk e] at h;cases h
 refine(gM (w0:=W) (XN:=YA) (args:=[.p 0 off]) (vs:=[.pointer (some ⟨b,off,none⟩)]) ak (cX follows 0) follows oD.hf (code:=eK oD.fn) (by kernel_rfl) (by kernel_rfl) (by kernel_rfl) X' X5 (λ_ _ h=>by cases h) (λ_ _ _ h=>by cases h) ⟨_,_,rfl,⟨b,by simp[YA],rfl⟩,rfl⟩ _ (H3 vs t off)).mono ?_;rintro e W' ⟨v,val,H',Yl,XM,rfl,⟨rfl,hle⟩,hm,hc,hd⟩;have n0:XM.n 0=some b:=hm.le.n 0 b (by simp[YA,Names.YE]);obtain⟨us,⟨x,y,rfl,⟨b1,e1,rfl⟩,x2,y2,rfl,⟨b2,e2,rfl⟩,rfl⟩,rfl⟩:=hd;obtain rfl:b=b1:=Oi (n0.symm.trans e1);obtain rfl:b=b2:=Oi (n0.symm.trans e2);refine⟨rfl,hm.keep.os,hm.keep.tape,hm.keep.output,hm.keep.size,λx hx=>?_⟩;by_cases e:x=b;subst e;obtain⟨b',us,k1,k2,k3,-⟩:=hc 0 _ (hle 0 _ rfl);obtain rfl:x=b':=Oi (n0.symm.trans k1);obtain rfl:=uV k2;exact(show W'.heap[x]? = _ from k3).trans (show W.heap[x]? = _ from hb).symm;refine hm.keep.block x hx λhmn=>?_;rcases hmn with ⟨n,ho⟩|ho
 exact e ((ow n x).1 ho).2;exact ho
def RA(H:aU)(_:Nat):List SV->Option DR
 | [.p n off]=>match look H n with
  | some (.lay _ _)=>some ⟨none,.agg [.p n (off+0),.p n (off+1)],none,false⟩
  | _=>none
 | _=>none
def fK:XR cx where
 f:=106
 en:=Tryz.call106
 ns:=de oD.hf oD.hB
 run:=λ_=>none
 fresh:=false
 own:=none
 eff:=some RA
 ok:=λze W args vs ob out hG hz hd hr ho=>by cases hr
 effOk:=λg hg ρ W H nm args vs r X' Zz hd hr ho=>by obtain rfl:=Oi hg;unfold RA at hr;split at hr;rename_i n off;split at hr;rename_i cs t hl;obtain rfl:=Oi hr;obtain⟨x,y,rfl,⟨b,hb,rfl⟩,rfl⟩:=hd;obtain⟨b',us,k1,k2,k3,k4,-⟩:=X'.blk n _ hl;obtain rfl:b=b':=Oi (hb.symm.trans k1);refine(Dt X'.hb.grd (X'.hb.low n b (.inl hb)).1 k3 k4).mono ?_;rintro e W' ⟨rfl,hg⟩;exact⟨_,rfl,ρ,⟨.refl ρ,λ_ _ h=>.inl h,λ_ _ h=>.inl h,λ_ _ _ h=>.inl h,λ_ _=>rfl,hg.os,hg.tape,hg.output,hg.size,λx hx _=>hg.block x hx,X'.hb.gr hg⟩,λ_ _ h=>(by cases h),⟨_,⟨_,_,rfl,⟨b,hb,rfl⟩,_,_,rfl,⟨b,hb,rfl⟩,rfl⟩,rfl⟩⟩;cases hr;cases hr
def Te:Y0 cx:=⟨157,Tryz.call157,Tryz.f157,Tryz.func157,[],[],[],0,by kernel_rfl⟩
def KY:Y0 cx:=⟨161,Tryz.call161,Tryz.f161,Tryz.func161,[],[],[],0,by kernel_rfl⟩
def yl:Y0 cx:=⟨193,Tryz.call193,Tryz.f193,Tryz.func193,[],[],[],2,by kernel_rfl⟩
def pf:Y0 cx:=⟨198,Tryz.call198,Tryz.f198,Tryz.func198,[1003],[],[],3,by kernel_rfl⟩
def rnF:List (Y0 cx):=[Te,KY]
def rB:Code:=eK Tryz.f107
def r1:Code:=X3 rB
def r2:Code:=X3 r1
def r3:Code:=X3 r2
def r4:Code:=X3 r3
def r5:Code:=X3 r4
def Sj:Code:=.seq (X6 rB) (.seq (X6 r1) (.seq (X6 r2) (X6 (X6 r3))))
def tF(m:Z')(a:Nat):Int:=match a with|0=>m.bPosX|_=>m.bPosY
def Ea(m:Z')(a:Nat):Int:=1048576-m.sign*tF m a
def kg(m:Z')(a:Nat)(X9:Int):Int:=min X9 (Ea m a)+1
def HA(m:Z')(a:Nat)(X9:Int):Cut:=⟨Unit,λ_=>True,λ_=>⟨[sl 2 (.p 0 0),sl 3 (.p 1 0),sl 7 (.p 2 0),sl 8 (.p 3 0),sl 30 (.f (.func 193) [] [.p 4 0])],[(0,.lay m.cells 206),(1,.lay [i64 X9] 3),(2,.lay [i64 (kg m a X9)] 3),(3,.lay [.il .i64 (-1)] 3),(4,.lay m.cells 206)],5,0,[],[]⟩,λ_=>0⟩
structure Z'.Ok (m:Z') (a:Nat) (X9:Int):Prop where
 ax:m.axis=a
 sg:m.sign=1∨m.sign = -1
 p0 : -1048576<=tF m a
 p1:tF m a<=1048576
 m0:0<=X9
 m1:X9<=8192
 nr:m.sRopes.n=0
 nb:m.sBodies.n<=1
 me:∀i,i<m.sBodies.n->(m.sBodies.e i).iD=m.bID
theorem JQ(m:Z')(X9:Int)(h:m.Ok 0 X9):ev (C:=cx) [fK] 68 0 (jB (C:=cx) [fK] rnF 2) (cd rnF) ⟨[],[],[],1⟩ Sj ⟨bw 0 [m.sv,i64 X9],[],0,0,[],[]⟩ (λx st=>x=.normal∧(HA m 0 X9).at_ 0 st λ_=>True):=by obtain⟨b,r,gx,gy,i,px,py,vx,vy,w,hh,rd,fx,ax,s⟩:=m;obtain⟨h1,h2,h3,h4,h5,h6,-,-,-⟩:=h;obtain rfl:ax=0:=h1;replace h2:s=1∨s = -1:=h2;replace h3 : -1048576<=px:=h3;replace h4:px<=1048576:=h4;refine Ai (show Yd (s*px) by unfold Yd;rcases h2 with rfl|rfl<;>omega) ?_;refine Ai (show Yd (1048576-s*px) by unfold Yd;rcases h2 with rfl|rfl<;>omega) ?_;refine Ai ?_ ?_;show Yd (min X9 (1048576-s*px)+1);unfold Yd;rcases h2 with rfl|rfl<;>omega;refine⟨rfl,(),[],[],trivial,trivial,?_⟩;repeat' first|apply Ai|exact rfl|intro
theorem JP(m:Z')(X9:Int)(h:m.Ok 1 X9):ev (C:=cx) [fK] 68 0 (jB (C:=cx) [fK] rnF 2) (cd rnF) ⟨[],[],[],1⟩ Sj ⟨bw 0 [m.sv,i64 X9],[],0,0,[],[]⟩ (λx st=>x=.normal∧(HA m 1 X9).at_ 0 st λ_=>True):=by obtain⟨b,r,gx,gy,i,px,py,vx,vy,w,hh,rd,fx,ax,s⟩:=m;obtain⟨h1,h2,h3,h4,h5,h6,-,-,-⟩:=h;obtain rfl:ax=1:=h1;replace h2:s=1∨s = -1:=h2;replace h3 : -1048576<=py:=h3;replace h4:py<=1048576:=h4;refine Ai (show Yd (s*py) by unfold Yd;rcases h2 with rfl|rfl<;>omega) ?_;refine Ai (show Yd (1048576-s*py) by unfold Yd;rcases h2 with rfl|rfl<;>omega) ?_;refine Ai ?_ ?_;show Yd (min X9 (1048576-s*py)+1);unfold Yd;rcases h2 with rfl|rfl<;>omega;refine⟨rfl,(),[],[],trivial,trivial,?_⟩;repeat' first|apply Ai|exact rfl|intro
def JA:Code:=X3 (X6 r3)
def JB:Code:=X3 (X6 r4)
def rfP:Code->Array Tmp|.block _ (.rangeFunc _ p _ _)=>p|_=>#[]
def rfA:Code->Code|.block _ (.rangeFunc _ _ a _)=>a|_=>.skip
def rfB:Code->Code|.block _ (.rangeFunc _ _ _ b)=>b|_=>.skip
theorem UJ:rB=.seq (X6 rB) r1:=by kernel_rfl
theorem UN:r1=.seq (X6 r1) r2:=by kernel_rfl
theorem UM:r2=.seq (X6 r2) r3:=by kernel_rfl
theorem UL:r3=.seq (.seq (X6 (X6 r3)) JA) r4:=by kernel_rfl
theorem UK:r4=.seq (.seq (X6 (X6 r4)) JB) r5:=by kernel_rfl
theorem N4:JA=.block 0 (.rangeFunc (.tmp 30) (rfP JA) (rfA JA) (rfB JA)):=by kernel_rfl
theorem N6:JB=.block 2 (.rangeFunc (.tmp 39) (rfP JB) (rfA JB) (rfB JB)):=by kernel_rfl
def ieB:Code:=eK yl.fn
def ibB:Code:=eK pf.fn
theorem PH(m:Z')(a:Nat)(X9:Int)(hn:m.sRopes.n=0)(l:Nat):ev (C:=cx) [] yl.fn.ntmps 5 (jB (C:=cx) [] [] 0) (cd (C:=cx) []) ⟨[],[],[],2⟩ ieB ⟨bw 0 [.v (.func (.yield l) #[] #[]),.p 4 0],((HA m a X9).J ()).H,5,0,[],[]⟩ (rT cx yl.fn.results.toList λ_ H' Yl=>cC ((HA m a X9).J ()).H H'∧Nat.ble Yl 5=true):=by obtain⟨b,⟨n,r⟩,gx,gy,i,px,py,vx,vy,w,hh,rd,fx,ax,s⟩:=m;obtain rfl:n=0:=hn;refine Ai (λhb=>P' (show decide ((0:Int)<0)=true from hb) (by decide)) (λhb=>?_);exact⟨cC.refl _,rfl⟩
def Hz(m:Z')(a:Nat)(X9:Int):Cut:=⟨Unit,λ_=>True,λ_=>⟨[sl 7 (.p 2 0),sl 8 (.p 3 0),sl 39 (.f (.func 198) [] [.p 5 0])],[(2,.lay [i64 (kg m a X9)] 3),(3,.lay [.il .i64 (-1)] 3),(5,.lay m.cells 206)],6,0,[],[]⟩,λ_=>0⟩
theorem SF(m:Z')(a:Nat)(X9:Int):ev (C:=cx) [fK] 68 5 (jB (C:=cx) [fK] rnF 2) (cd rnF) ⟨[],[],[],1⟩ (X6 (X6 r4)) ((HA m a X9).J ()) (λx st=>x=.normal∧(Hz m a X9).at_ 5 st λ_=>True):=by refine⟨rfl,(),[],[],trivial,trivial,?_⟩;repeat' first|apply Ai|exact rfl|intro
theorem HX(m:Z')(a:Nat)(X9:Int)(hn:m.sBodies.n<=1)(hm:∀i,i<m.sBodies.n->(m.sBodies.e i).iD=m.bID)(l:Nat):ev (C:=cx) [] pf.fn.ntmps 6 (jB (C:=cx) [] [] 0) (cd (C:=cx) []) ⟨[1003],[],[],3⟩ ibB ⟨bw 0 [.v (.func (.yield l) #[] #[]),.p 5 0],((Hz m a X9).J ()).H,6,0,[],[]⟩ (rT cx pf.fn.results.toList λ_ H' Yl=>cC ((Hz m a X9).J ()).H H'∧Nat.ble Yl 7=true):=by
 obtain⟨⟨n,e⟩,r,gx,gy,i,px,py,vx,vy,w,hh,rd,fx,ax,s⟩:=m;replace hn:n<=1:=hn;rcases Nat.lt_or_ge 0 n with hp|hp
 ·obtain rfl:n=1:=(by omega);have hi:(e 0).iD=i:=hm 0 (Nat.zero_lt_one);refine Ai (λhb=>?_) (λhb=>P' (show decide ((0:Int)<1)=false from hb) (by decide));refine Ai ⟨(by decide:(0:Int)<=0),(by decide:(0:Int)<1)⟩ ?_;refine Ai (λhb=>P' hi (Od (show decide (¬(e 0).iD=i)=true from hb))) (λhb=>?_);repeat' (first|exact cC.cons (cC.cons (cC.refl _) rfl) rfl|(refine Ai ?_ ?_)|(intro hh;exact P' (show decide ((1:Int)<1)=true from hh) (by decide))|(intro _)|exact rfl)
 obtain rfl:n=0:=by omega
 refine Ai (λhb=>P' (show decide ((0:Int)<0)=true from hb) (by decide)) (λhb=>?_);exact⟨cC.refl _,rfl⟩
def Jw(m:Z')(a:Nat)(X9:Int):Int:=min X9 (Ea m a)
def tr(m:Z')(a:Nat)(X9:Int):SV:=.tup [.v (.int .i64 (Jw m a X9)),.v (.int .i64 (-1))]
theorem Jd(m:Z')(a:Nat)(X9:Int)(h : -1048576<=kg m a X9∧kg m a X9<=4194304):ev (C:=cx) [fK] 68 7 (jB (C:=cx) [fK] rnF 2) (cd rnF) ⟨[],[],[],1⟩ r5 ⟨((Hz m a X9).J ()).sl,((Hz m a X9).J ()).H,7,((Hz m a X9).J ()).rg,[],[]⟩ (λe st=>e=.ret∧qy cx Tryz.f107.results.toList st λv=>ae (tr m a X9) st.H v):=by
 refine Ai (show Yd (kg m a X9-1) by unfold Yd;omega) ?_;repeat' first|apply Ai|exact rfl|intro
 show Jw m a X9=kg m a X9-1;unfold Jw kg;omega
theorem Lm(h:m.Ok a X9) : -1048576<=kg m a X9∧kg m a X9<=4194304:=by obtain⟨h1,h2,h3,h4,h5,h6,-,-,-⟩:=h;unfold kg Ea;rcases h2 with h2|h2<;>rw[h2]<;>omega
set_option maxHeartbeats 1000000 in
theorem GN(h:m.Ok a X9)(ha:a<2){ze:Nat->Nat->Value->Prop}{W:World}{vs:List Value}(hG:cx.ZQ W)(hz:∀b i c,ze b i c->W.cell? ⟨b,i,none⟩=some c∧c.oneCell'=true)(hd:au (aI ze) [m.sv,i64 X9] vs) :
  bj Tryz.prog false 107 vs.toArray W λe W'=>∃v val H' Yl XM,e=.returned val∧ae (tr m a X9) H' v∧Mem cx W (aI ze).YE Yl XM W'∧(∀n sb,look H' n=some sb->cS XM W' n sb)∧den XM v val:=by
 intro E hE cs Zm;have hpre:ev (C:=cx) [fK] 68 0 (jB (C:=cx) [fK] rnF 2) (cd rnF) ⟨[],[],[],1⟩ Sj ⟨bw 0 [m.sv,i64 X9],[],0,0,[],[]⟩ (λx st=>x=.normal∧(HA m a X9).at_ 0 st λ_=>True):=by rcases Nat.lt_or_ge a 1 with h1|h1;obtain rfl:a=0:=(by omega);exact JQ m X9 h;obtain rfl:a=1:=(by omega);exact JP m X9 h
 refine iC hE Tryz.func107 (c:=rB) (by kernel_rfl) Zm ?_;intro k h3;have hb:(c7 107).kind≠.early:=by decide
 have YL:(c7 107).roundOf=none:=rfl;have hI:=cX (C:=cx) (Γ:=[fK]) (Fs:=rnF) follows 2;have hnt:Tryz.f107.ntmps=68:=by kernel_rfl
 rw[hnt];have A0:=xk (C:=cx) (n:=68) (show ([m.sv,i64 X9]:List SV).length<=68 from(by decide:2<=68)) hG hz hd;refine dh (h:=⟨[],[],[],1⟩) hE hI follows hb YL UJ rfl (by kernel_rfl) A0 hpre (λ_ _ h=>h.1) λst1 Yj a1 W1 he1 A1=>?_;refine dh (h:=⟨[],[],[],1⟩) hE hI follows hb YL UN rfl (by kernel_rfl) A1 he1 (λ_ _ h=>h.1) λst2 Y1 a2 W2 he2 A2=>?_;refine dh (h:=⟨[],[],[],1⟩) hE hI follows hb YL UM rfl (by kernel_rfl) A2 he2 (λ_ _ h=>h.1) λst3 ρ3 a3 W3 he3 A3=>?_;rw[UL];refine gL hE ?_;refine lR (h:=⟨[],[],[],1⟩) hE hI follows hb YL rfl (by kernel_rfl) A3 he3 λu ρ4 a4 W4 _ A4=>?_;rw[N4];refine jS hE ?_;refine vh (Γ:=[]) (Fs:=[]) (d:=0) (m:=5) hE follows hb YL A4 yl (cap:=[.p 4 0]) rfl (code:=ieB) (by kernel_rfl) (by kernel_rfl) (λl=>PH m a X9 h.nr l) λD1 ρ5 a5 W5 A5=>?_;refine fJ hE ?_;rw[UK];refine gL hE ?_;refine lR (h:=⟨[],[],[],1⟩) hE hI follows hb YL rfl (by kernel_rfl) A5 (SF m a X9) λu2 ρ6 a6 W6 _ A6=>?_;rw[N6];refine jS hE ?_;refine vh (Γ:=[]) (Fs:=[]) (d:=0) (m:=7) hE follows hb YL A6 pf (cap:=[.p 5 0]) rfl (code:=ibB) (by kernel_rfl) (by kernel_rfl) (λl=>HX m a X9 h.nb h.me l) λD2 ρ7 a7 W7 A7=>?_;refine fJ hE ?_;refine ew (h:=⟨[],[],[],1⟩) hE hI follows hb YL (by kernel_rfl) A7 (Jd m a X9 (Lm h)) λe st8 ρ8 a8 W8 hk A8=>?_;have hend:qy cx Tryz.f107.results.toList st8 (λv=>ae (tr m a X9) st8.H v)->∀todo,E (G { (c7 107).at a8 todo with mode:=.returning} cs) W8:=λhk todo=>by refine pF (K:=λv H _=>ae (tr m a X9) H v) hE Tryz.func107 hk (λv W' fr ⟨v',H',Yl,XM,q1,q2,q3,q4⟩ hfn hl=>?_) todo (XN:=(aI ze).YE) (λb h=>by cases h) A8;exact Zm (.returned v) W' fr ⟨v',v,H',Yl,XM,rfl,q1,q2,q3,q4⟩ hfn hl
 obtain⟨rfl,hk⟩:=hk;exact⟨trivial,hend hk⟩
def TE:XR cx:=ru 107 Tryz.call107 (de (fl:=[]) (fn:=Tryz.f107) Tryz.func107 (by kernel_rfl)) (aH JG (Yp .i64)) (λx=>[x.1.axis=0∨x.1.axis=1,x.1.Ok x.1.axis.toNat x.2]) (λx=>tr x.1 x.1.axis.toNat x.2) λx ze W vs hp hG hz hd=>by obtain⟨m,X9⟩:=x;obtain⟨hx,h⟩:=hp;replace hx:m.axis=0∨m.axis=1:=hx;replace h:m.Ok m.axis.toNat X9:=h;refine(GN h (by rcases hx with e|e<;>rw[e]<;>decide) hG hz hd).mono λe W' ⟨v,val,H',Yl,XM,h1,h2,h3,h4,h5⟩=>?_;obtain⟨q1,q2,q3⟩:=pj h2 h3 h4 h5;exact⟨val,(zR XM W').z,h1,q1,q2,q3⟩
end
end
end Go.Proofs.YtmdpdknpapjchaaGreatDoor
