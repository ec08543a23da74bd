/- step: first, body.. -/
import Derived.Test.YtgigkennhdolpaaGreatDoorM31
import Derived.Test.YtgigkennhdolpaaGreatDoorM19
import Derived.Test.YtgigkennhdolpaaGreatDoorM17
import Derived.Test.YtgigkennhdolpaaGreatDoorM27
import Derived.Test.YtgigkennhdolpaaGreatDoorM25
namespace Go.Proofs.YtgigkennhdolpaaGreatDoor
open Go.RowKit
set_option maxRecDepth 8000
set_option maxHeartbeats 2000000
theorem KM:∀a,aH ((λa=>[∃q,a.2=.rp [.v (.int .u8 q)] 0]) a)->aM (C:=cx) [] [] 0 av Tryz.f194 ((aL gV V4).enc a) λv H _=>ae ((λa=>.v (.bool (decide (a.1.kind=rkI a.2)))) a) H v:=by intro⟨c,x⟩ hx;obtain⟨q,hx⟩:∃q,x=.rp [.v (.int .u8 q)] 0:=hx;subst hx;exact rfl
noncomputable def QI:UO cx:=ai 194 Tryz.call194 (aL gV V4) _ _ (λ_=>av) [] (λ_=>rfl) follows Tryz.func194 (by kernel_rfl) KM
def P0(l:WL)(q:Int):Cut:=⟨Nat,λk=>k<=l.n∧VI (λi=>decide ((l.c i).kind=q)) 0 l.n=VI (λi=>decide ((l.c i).kind=q)) k (l.n-k),
 λk=>⟨[sl 0 l.sv,sl 1 (.f (.func 194) [] [.rp [.v (.int .u8 q)] 0]),sl 7 (i64 l.n),sl 8 (i64 k)],[],0,0,[],[]⟩,λk=>l.n-k⟩
theorem KL:∀a,aH ((λa=>[(a.1.n:Int)<=bY,∃q,a.2=(.f (.func 194) [] [.rp [.v (.int .u8 q)] 0])]) a)->aM (C:=cx) [QI] [] 0 ⟨[],[],[2],0⟩ Tryz.f93 ((aL jc V4).enc a) λv H _=>ae ((λa=>.v (.int .i64 (VM (λi=>decide ((a.1.c i).kind=kxI a.2)) a.1.n))) a) H v:=by
 intro⟨l,x⟩ ⟨hm,hx⟩;obtain⟨q,hx⟩:∃q,x=(.f (.func 194) [] [.rp [.v (.int .u8 q)] 0]):=hx;subst hx;replace hm:(l.n:Int)<=9223372036854775807:=hm;refine Uh (P0 l q) ?_;refine Ai ?_ ?_
 ·refine⟨(0:Nat),[],[],trivial,⟨Ui _,rfl⟩,?_⟩;repeat' (first|refine Ai ?_ ?_|intro _|exact rfl)
 refine fun(k:Nat) (hk:k<=l.n∧VI (λi=>decide ((l.c i).kind=q)) 0 l.n=VI (λi=>decide ((l.c i).kind=q)) k (l.n-k))=>?_;obtain⟨k1,k2⟩:=hk;refine Ai (λhb=>?_) (λhb=>?_)
 ·have hb:(k:Int)<l.n:=Od hb;have e:=iR (g:=(λi=>decide ((l.c i).kind=q))) (k:=k) (n:=l.n) (by omega);refine Ai ⟨by omega,by omega⟩ ?_;refine Ai ⟨q,rfl⟩ ?_;refine Ai (λhc=>?_) (λhc=>?_);have hc:(decide ((l.c k).kind=q))=true:=hc;simp only[hc] at e;exact im (g:=(λi=>decide ((l.c i).kind=q))) (n:=l.n) (k2.trans e) (by omega);have hc:(decide ((l.c k).kind=q))=false:=hc;simp only[hc] at e;refine Ai (by unfold UP;omega:UP ((k:Int)+1)) ?_;refine⟨k+1,[],[],(by show l.n-(k+1)<l.n-k;omega),⟨by omega,by rw[k2,e]⟩,?_⟩;repeat' (first|refine Ai ?_ ?_|intro _|exact rfl)
 have hb:¬(k:Int)<l.n:=Ur hb;refine ga (g:=(λi=>decide ((l.c i).kind=q))) (n:=l.n) ?_;rw[k2,show l.n-k=0 by omega];show k=l.n;omega
noncomputable def w6:UO cx:=ai 93 Tryz.call93 (aL jc V4) _ _ (λ_=>⟨[],[],[2],0⟩) [] (λ_=>rfl) follows Tryz.func93 (by kernel_rfl) KL
def Hf(b1 b2 b3:Bool):Int->Bool
 | .ofNat 1=>b1
 | .ofNat 3=>b3
 | _=>b2
def R9(b:Bool)(c:bd):SV:=match b with|true=>.rp c.cells 0|false=>.v (.pointer none)
section
variable (b1 b2 b3:Bool)
theorem Ac:∀a:U3×Int,aH [(a.1.l.n:Int)<=bY,Hf b1 b2 b3 a.2=(bx a.1.l a.2).2]->aM (C:=cx) [w6] [] 0 av Tryz.f132 ((aL g8 (VK .u8)).enc a) λv H _=>ae (R9 (Hf b1 b2 b3 a.2) (bx a.1.l a.2).1) H v:=by
 intro⟨e,q⟩ ⟨hm,hs⟩;replace hs:Hf b1 b2 b3 q=(bx e.l q).2:=hs;rw[hs];refine Ai ⟨λ_ _=>trivial,hm,⟨q,rfl⟩⟩ ?_;replace hm:(e.l.n:Int)<=9223372036854775807:=hm;have hle:=Bl (g:=λi=>decide ((e.l.c i).kind=q)) (r:=e.l.n) (k:=0);by_cases h:VI (λi=>decide ((e.l.c i).kind=q)) 0 e.l.n<e.l.n
 ·have ei:VM (λi=>decide ((e.l.c i).kind=q)) e.l.n=(VI (λi=>decide ((e.l.c i).kind=q)) 0 e.l.n:Nat):=im rfl h;have ec:bx e.l q=(e.l.c (VI (λi=>decide ((e.l.c i).kind=q)) 0 e.l.n),true):=(by unfold bx;rw[Uu h]);simp only[ec];refine Ai (λhc=>?_) (λhc=>?_);have hc:decide (VM (λi=>decide ((e.l.c i).kind=q)) e.l.n<0)=true:=hc;rw[ei] at hc;have:=Od hc;omega;refine Ai (show 0<=VM (λi=>decide ((e.l.c i).kind=q)) e.l.n∧VM (λi=>decide ((e.l.c i).kind=q)) e.l.n<(e.l.n:Nat) by rw[ei];omega) ?_;have et:(VM (λi=>decide ((e.l.c i).kind=q)) e.l.n).toNat=VI (λi=>decide ((e.l.c i).kind=q)) 0 e.l.n:=(by rw[ei];rfl);repeat' (first|refine Ai ?_ ?_|(intro _))
  all_goals first|exact rfl|exact Uo (λi=>(e.l.c i).kind) et.symm|exact Uo (λi=>(e.l.c i).v0) et.symm|exact Uo (λi=>(e.l.c i).v1) et.symm|exact Uo (λi=>(e.l.c i).v2) et.symm|exact Uo (λi=>(e.l.c i).v3) et.symm
 have ei:VM (λi=>decide ((e.l.c i).kind=q)) e.l.n = -1:=ga (by omega);have ec:bx e.l q=(bd.no,false):=by unfold bx;rw[Ut h]
 simp only[ec];refine Ai (λhc=>?_) (λhc=>?_)
 ·repeat' (first|refine Ai ?_ ?_|intro _|exact rfl)
 have hc:decide (VM (λi=>decide ((e.l.c i).kind=q)) e.l.n<0)=false:=hc;rw[ei] at hc;exact Up hc (by decide)
noncomputable def vk:UO cx:=ai 132 Tryz.call132 (aL g8 (VK .u8)) (λa=>[(a.1.l.n:Int)<=bY,Hf b1 b2 b3 a.2=(bx a.1.l a.2).2]) (λa=>R9 (Hf b1 b2 b3 a.2) (bx a.1.l a.2).1) (λ_=>av) [] (λ_=>rfl) follows Tryz.func132 (by kernel_rfl) (Ac b1 b2 b3)
end
set_option maxRecDepth 100000 in
def G0{α:Type}{Fs:List (V3 cx)}{d:Nat}(Γ:α->List (UO cx))(f:FuncId)(en:∀(args:Array Value) (w:World),(callFunc f args).run cx.P w=.ok (.enter f args) w)(R:ZU α)(pre:α->List Prop)(out:α->SV)(h:α->XA)(fl:List Nat)(Yq:∀a,(h a).fl=fl)(hm:cx.P.follows .mixedOrders=true){fn:Func}
  (hf:cx.P.funcs[f]? = some fn) (hB:fQ fl fn=true) (he:∀a,aH (pre a)->aM (Γ a) Fs d (h a) fn (R.enc a) λv H _=>ae (out a) H v):UO cx:=
 qf f en (cZ hf hB) R pre out λa ze W vs ha hG hz hd=>oE (h a) hm hf (by rw[Yq a];exact hB) hG hz hd (he a ha)
def Body.no:Body:=⟨0,0,0,0,0,0,0,false,false⟩
def ql(e:U3):Bool:=decide ((bx e.l 3).1.v3=1)||!(bx e.l 2).2
def jU(e:U3):Body:=match ql e with
 | true=>⟨e.iD,(bx e.l 1).1.v0,(bx e.l 1).1.v1,0,0,(bx e.l 3).1.v0,(bx e.l 3).1.v1,decide ((bx e.l 3).1.v2=1),true⟩
 | false=>⟨e.iD,(bx e.l 1).1.v0,(bx e.l 1).1.v1,(bx e.l 2).1.v0,(bx e.l 2).1.v1,(bx e.l 3).1.v0,(bx e.l 3).1.v1,decide ((bx e.l 3).1.v2=1),false⟩
def bI(e:U3):Body×Bool:=match (bx e.l 1).2&&(bx e.l 3).2 with
 | true=>(jU e,true)
 | false=>(Body.no,false)
theorem GH:∀a:U3,aH [(a.l.n:Int)<=bY]->aM (C:=cx) [vk (bx a.l 1).2 (bx a.l 2).2 (bx a.l 3).2] [] 0 ⟨[1002],[],[],0⟩ Tryz.f128 ((bh g8).enc a) λv H _=>ae (.tup [(bI a).1.sv,.v (.bool (bI a).2)]) H v:=by
 intro e hm;have h1:(bx e.l 1).2=(bx e.l 1).2:=rfl;have h2:(bx e.l 2).2=(bx e.l 2).2:=rfl;have h3:(bx e.l 3).2=(bx e.l 3).2:=rfl;generalize VD:(bx e.l 1).2=b1 at h1 ⊢;generalize Vi:(bx e.l 2).2=b2 at h2 ⊢;generalize WA:(bx e.l 3).2=b3 at h3 ⊢;clear h1 h2 h3;cases b1<;>cases b2<;>cases b3
 ·have hF:bI e=(Body.no,false):=(by unfold bI;rw[VD,WA];rfl);simp only[hF];refine Ai ⟨λ_ _=>trivial,hm,VD.symm⟩ ?_;refine Ai ⟨λ_ _=>trivial,hm,WA.symm⟩ ?_;refine Ai ⟨λ_ _=>trivial,hm,Vi.symm⟩ ?_;repeat' (first|refine Ai ?_ ?_|intro _|exact rfl)
 ·have hF:bI e=(Body.no,false):=(by unfold bI;rw[VD,WA];rfl);simp only[hF];refine Ai ⟨λ_ _=>trivial,hm,VD.symm⟩ ?_;refine Ai ⟨λ_ _=>trivial,hm,WA.symm⟩ ?_;refine Ai ⟨λ_ _=>trivial,hm,Vi.symm⟩ ?_;repeat' (first|refine Ai ?_ ?_|intro _|exact rfl)
 ·have hF:bI e=(Body.no,false):=(by unfold bI;rw[VD,WA];rfl);simp only[hF];refine Ai ⟨λ_ _=>trivial,hm,VD.symm⟩ ?_;refine Ai ⟨λ_ _=>trivial,hm,WA.symm⟩ ?_;refine Ai ⟨λ_ _=>trivial,hm,Vi.symm⟩ ?_;repeat' (first|refine Ai ?_ ?_|intro _|exact rfl)
 ·have hF:bI e=(Body.no,false):=(by unfold bI;rw[VD,WA];rfl);simp only[hF];refine Ai ⟨λ_ _=>trivial,hm,VD.symm⟩ ?_;refine Ai ⟨λ_ _=>trivial,hm,WA.symm⟩ ?_;refine Ai ⟨λ_ _=>trivial,hm,Vi.symm⟩ ?_;repeat' (first|refine Ai ?_ ?_|intro _|exact rfl)
 ·have hF:bI e=(Body.no,false):=(by unfold bI;rw[VD,WA];rfl);simp only[hF];refine Ai ⟨λ_ _=>trivial,hm,VD.symm⟩ ?_;refine Ai ⟨λ_ _=>trivial,hm,WA.symm⟩ ?_;refine Ai ⟨λ_ _=>trivial,hm,Vi.symm⟩ ?_;repeat' (first|refine Ai ?_ ?_|intro _|exact rfl)
 ·have hF:bI e=(jU e,true):=(by unfold bI;rw[VD,WA];rfl);simp only[hF];refine Ai ⟨λ_ _=>trivial,hm,VD.symm⟩ ?_;refine Ai ⟨λ_ _=>trivial,hm,WA.symm⟩ ?_;refine Ai ⟨λ_ _=>trivial,hm,Vi.symm⟩ ?_;refine Ai (λhc=>?_) (λhc=>?_);have hc:(!(decide ((bx e.l 3).1.v3=1)||true))=true:=hc;simp at hc;have hV:jU e=⟨e.iD,(bx e.l 1).1.v0,(bx e.l 1).1.v1,0,0,(bx e.l 3).1.v0,(bx e.l 3).1.v1,decide ((bx e.l 3).1.v2=1),true⟩:=(by unfold jU ql;rw[Vi,Bool.not_false,Bool.or_true]);simp only[hV];repeat' (first|refine Ai ?_ ?_|intro _|exact rfl)
  all_goals exact(Bool.or_true _).symm
 ·have hF:bI e=(Body.no,false):=(by unfold bI;rw[VD,WA];rfl);simp only[hF];refine Ai ⟨λ_ _=>trivial,hm,VD.symm⟩ ?_;refine Ai ⟨λ_ _=>trivial,hm,WA.symm⟩ ?_;refine Ai ⟨λ_ _=>trivial,hm,Vi.symm⟩ ?_;repeat' (first|refine Ai ?_ ?_|intro _|exact rfl)
 have hF:bI e=(jU e,true):=by unfold bI;rw[VD,WA];rfl
 simp only[hF];refine Ai ⟨λ_ _=>trivial,hm,VD.symm⟩ ?_;refine Ai ⟨λ_ _=>trivial,hm,WA.symm⟩ ?_;refine Ai ⟨λ_ _=>trivial,hm,Vi.symm⟩ ?_;refine Ai (λhc=>?_) (λhc=>?_)
 ·have hc:(!(decide ((bx e.l 3).1.v3=1)||false))=true:=hc;have hd:decide ((bx e.l 3).1.v3=1)=false:=(by simpa using hc);have hV:jU e=⟨e.iD,(bx e.l 1).1.v0,(bx e.l 1).1.v1,(bx e.l 2).1.v0,(bx e.l 2).1.v1,(bx e.l 3).1.v0,(bx e.l 3).1.v1,decide ((bx e.l 3).1.v2=1),false⟩:=(by unfold jU ql;rw[Vi,Bool.not_true,hd];rfl);simp only[hV];repeat' (first|refine Ai ?_ ?_|intro _|exact rfl)
  all_goals (refine UK (b:=decide ((bx e.l 3).1.v3=1)||false) ?_ rfl;rw[hd];rfl)
 have hc:(!(decide ((bx e.l 3).1.v3=1)||false))=false:=hc;have hd:decide ((bx e.l 3).1.v3=1)=true:=by simpa using hc
 have hV:jU e=⟨e.iD,(bx e.l 1).1.v0,(bx e.l 1).1.v1,0,0,(bx e.l 3).1.v0,(bx e.l 3).1.v1,decide ((bx e.l 3).1.v2=1),true⟩:=by unfold jU ql;rw[Vi,Bool.not_true,hd];rfl
 simp only[hV];repeat' (first|refine Ai ?_ ?_|intro _|exact rfl)
 all_goals (refine UK (b:=decide ((bx e.l 3).1.v3=1)||false) ?_ rfl;rw[hd];rfl)
noncomputable def DM:UO cx:=G0 (Fs:=[]) (d:=0) (λa:U3=>[vk (bx a.l 1).2 (bx a.l 2).2 (bx a.l 3).2]) 128 Tryz.call128 (bh g8) (λa=>[(a.l.n:Int)<=bY]) (λa=>.tup [(bI a).1.sv,.v (.bool (bI a).2)]) (λ_=>⟨[1002],[],[],0⟩) [1002] (λ_=>rfl) follows Tryz.func128 (by kernel_rfl) GH
def bw(l:WU)(k:Nat):List Body:=fy (λi=>(bI (l.e i)).1) (λi=>(bI (l.e i)).2) k
def gi(L:List Body)(i:Nat):Body:=L.getD i Body.no
def OR:List SV:=[.v (.slice none 0 0),.v (.slice none 0 0),.il .i64 0,.il .i64 0]
def T6(l:WU)(r:Yt)(x y:Int):Cut:=⟨Nat,λk=>k<=l.n,λk=>⟨[sl 1 r.sv,sl 6 (.p 2 0),sl 7 (.p 3 0),sl 18 l.sv,sl 19 (i64 l.n),sl 20 (i64 k)],
 [(2,.lay OR 161),(3,.lay [.g 4 5 9 0 (bw l k).length,.v (.slice none 0 0),.v (.int .i64 x),.v (.int .i64 y)] 161),(4,.lst 5 9 (bw l k).length (λi=>(gi (bw l k) i).cells) 209)],6,0,[],[]⟩,λk=>l.n-k⟩
set_option maxHeartbeats 2000000 in
set_option maxRecDepth 8000 in
theorem Ao:∀a,aH ((λa=>[a.1.l.Sm,a.1.l.n<=1000,a.2.1.n=0]) a)->aM (C:=cx) [DM] [] 0 ⟨[],[],[3],1⟩ Tryz.f81 ((ib c8 mX eI).enc a) λv H _=>eZ ((λa=>.agg [.rs 9 (bw a.1.l a.1.l.n).length (λi=>(gi (bw a.1.l a.1.l.n) i).cells),.v (.slice none 0 0),.v (.int .i64 a.2.2.x),.v (.int .i64 a.2.2.y)]) a) H v:=by
 intro⟨w,r,g⟩ ⟨hm,hn,hr⟩;replace hr:r.n=0:=hr;replace hm:w.l.Sm:=hm;replace hn:w.l.n<=1000:=hn;refine Uh (T6 w.l r g.x g.y) ?_;refine Ai ?_ ?_
 ·refine⟨(0:Nat),[],[.cell2 3 0 9 209],trivial,Ui _,?_⟩;repeat' (first|refine Ai ?_ ?_|intro _|exact rfl)
  all_goals exact Up ‹_<0› (F' _)
 refine fun(k:Nat) (hk:k<=w.l.n)=>?_;refine Ai (λhb=>?_) (λhb=>?_)
 ·have hb:(k:Int)<w.l.n:=Od hb;have YO:((w.l.e k).l.n:Int)<=bY:=(hm.2 k (by omega)).1;refine Ai ⟨by omega,by omega⟩ ?_;refine Ai ⟨λ_ _=>trivial,YO⟩ ?_;refine Ai (λhc=>?_) (λhc=>?_)
  ·have hc:(bI (w.l.e k)).2=true:=hc;have hlen:=pC (f:=λi=>(bI (w.l.e i)).1) (g:=λi=>(bI (w.l.e i)).2) k;have ey:=iB (f:=λi=>(bI (w.l.e i)).1) (g:=λi=>(bI (w.l.e i)).2) hc;have em:∀i,i<(bw w.l k).length+1->gi (bw w.l (k+1)) i=bif Nat.ble (bw w.l k).length i then(bI (w.l.e k)).1 else gi (bw w.l k) i:=λi hi=>(Uo (λl=>gi l i) ey).trans (RS _ _ hi);have Vn:dW ((bw w.l k).length+1) 64:=⟨Nat.le_trans (by unfold bw;omega:(bw w.l k).length+1<=1001) (by decide),by unfold bw;omega⟩
   refine Ai ⟨Vn,λ_ _ _=>⟨rfl,rfl,rfl,rfl,rfl,rfl,rfl,trivial,trivial,trivial⟩⟩ ?_;refine Ai (by unfold UP;omega:UP ((k:Int)+1)) ?_;refine⟨k+1,[(5,9)],[],(by show w.l.n-(k+1)<w.l.n-k;omega),(by omega:k+1<=w.l.n),?_⟩;repeat' (first|refine Ai ?_ ?_|intro _|exact rfl)
   all_goals first|exact(Uo List.length ey).trans List.length_append|exact(Uo Body.iD (em _ ‹_›)).trans (cL Body.iD)|exact(Uo Body.posX (em _ ‹_›)).trans (cL Body.posX)|exact(Uo Body.posY (em _ ‹_›)).trans (cL Body.posY)|exact(Uo Body.velX (em _ ‹_›)).trans (cL Body.velX)|exact(Uo Body.velY (em _ ‹_›)).trans (cL Body.velY)|exact(Uo Body.w (em _ ‹_›)).trans (cL Body.w)|exact(Uo Body.h (em _ ‹_›)).trans (cL Body.h)|exact(Uo Body.round (em _ ‹_›)).trans (cL Body.round)|exact(Uo Body.fixed (em _ ‹_›)).trans (cL Body.fixed)
  have hc:(bI (w.l.e k)).2=false:=hc;have ey:=lQ (f:=λi=>(bI (w.l.e i)).1) (g:=λi=>(bI (w.l.e i)).2) hc;refine Ai (by unfold UP;omega:UP ((k:Int)+1)) ?_;refine⟨k+1,[],[],(by show w.l.n-(k+1)<w.l.n-k;omega),(by omega:k+1<=w.l.n),?_⟩;repeat' (first|refine Ai ?_ ?_|intro _|exact rfl)
  all_goals first|exact Uo List.length ey|exact Uo (λl=>(gi l _).iD) ey|exact Uo (λl=>(gi l _).posX) ey|exact Uo (λl=>(gi l _).posY) ey|exact Uo (λl=>(gi l _).velX) ey|exact Uo (λl=>(gi l _).velY) ey|exact Uo (λl=>(gi l _).w) ey|exact Uo (λl=>(gi l _).h) ey|exact Uo (λl=>(gi l _).round) ey|exact Uo (λl=>(gi l _).fixed) ey
 have hb:¬(k:Int)<w.l.n:=Ur hb;obtain rfl:k=w.l.n:=by omega
 refine Ai (λh=>Up (show (0:Int)<r.n from Od h) (by omega)) (λ_=>?_);refine Ai (λ_ _=>rfl) ?_;repeat' (first|refine Ai ?_ ?_|intro _|exact rfl)
 all_goals first|exact Uo (λi=>(gi (bw w.l w.l.n) i).iD) (B' _).symm|exact Uo (λi=>(gi (bw w.l w.l.n) i).posX) (B' _).symm|exact Uo (λi=>(gi (bw w.l w.l.n) i).posY) (B' _).symm|exact Uo (λi=>(gi (bw w.l w.l.n) i).velX) (B' _).symm|exact Uo (λi=>(gi (bw w.l w.l.n) i).velY) (B' _).symm|exact Uo (λi=>(gi (bw w.l w.l.n) i).w) (B' _).symm|exact Uo (λi=>(gi (bw w.l w.l.n) i).h) (B' _).symm|exact Uo (λi=>(gi (bw w.l w.l.n) i).round) (B' _).symm|exact Uo (λi=>(gi (bw w.l w.l.n) i).fixed) (B' _).symm
noncomputable def Fv:UO cx:=iL 81 Tryz.call81 (ib c8 mX eI) _ _ (λ_=>⟨[],[],[3],1⟩) [] (λ_=>rfl) follows Tryz.func81 (by kernel_rfl) Ao
end Go.Proofs.YtgigkennhdolpaaGreatDoor
namespace Go.Proofs.YtgigkennhdolpaaGreatDoor
open Go.Conc Go.RowKit
set_option maxHeartbeats 2000000
noncomputable def nH:V3 cx:=⟨125,Tryz.call125,Tryz.f125,Tryz.func125,[],[],[],0,by kernel_rfl⟩
theorem tl{ρ:Names} : ∀{vs us:List Value},aj ρ (vs.map SV.v) us->us=vs
 | [],us,h=>h
 | v::r,us,⟨a,b,e1,e2,e3⟩=>by rw[e1,tl e3];obtain rfl:a=v:=e2;rfl
theorem pI{ρ:Names} : ∀(vs:List Value),aj ρ (vs.map SV.v) vs
 | []=>rfl
 | v::r=>⟨v,r,rfl,rfl,pI r⟩
set_option maxRecDepth 100000 in
theorem FH(vs:List Value)(t off:Nat):ev (C:=cx) [] nH.fn.ntmps 1 (jN (C:=cx) [] [] 0) (cw (C:=cx) []) av (eG nH.fn) ⟨bL 0 [.p 0 off],[(0,.lay (vs.map SV.v) t)],1,0,[],[]⟩ (tc cx nH.fn.results.toList λv H' _=>v=.agg [.p 0 (off+0),.p 0 (off+1)]∧cn [(0,.lay (vs.map SV.v) t)] H'):=by repeat' (first|exact cn.cons (cn.cons (cn.refl _) rfl) rfl|(refine Ai ?_ ?_)|(intro _)|exact rfl)
theorem BH{W:World}{b off t:Nat}{vs:List Value}(hG:cx.WT W)(WO:cx.gm<=b)(hb:WV W b vs.toArray t)(h1:∀c∈vs,c.oneCell'=true):br Tryz.prog false 125 #[.pointer (some ⟨b,off,none⟩)] W λe W'=>e=.returned (.agg #[.pointer (some ⟨b,off,none⟩),.pointer (some ⟨b,off+1,none⟩)])∧Gr W W':=by
 let VU:Names:=⟨λn=>if n=0 then some b else none,λ_=>none,λ_ _=>none,λ_ _ _=>False,[],λ_=>False⟩
 have ow:∀n b',bT VU n b'↔n=0∧b'=b:=λn b'=>by constructor;rintro(h|⟨e,l,o,h,-⟩|⟨i,l,o,h,-⟩);by_cases e:n=0;simp only[VU,Uw e] at h;exact⟨e,(Oi h).symm⟩;simp only[VU,Uv e] at h;cases h;cases h;cases h;rintro⟨rfl,rfl⟩;exact .inl (by simp[VU])
 have Vg:VQ cx [(0,.lay (vs.map SV.v) t)] VU W:=by refine⟨⟨λn n' b' h h'=>by rw[((ow _ _).1 h).1,((ow _ _).1 h').1],λn b' h=>?_,λb i c h=>h.elim,hG⟩,λn sb hn=>?_⟩;obtain⟨-,rfl⟩:=(ow _ _).1 h;exact⟨WO,(E'.1 (show W.heap[b']? = _ from hb)).1⟩;by_cases e:0=n;subst e;obtain rfl:=Oi (show some _=some sb from hn);exact⟨b,vs,by simp[VU],pI vs,hb,h1,λi c h=>h⟩;rw[ab _ _ e] at hn;cases hn
 have Vf:∀n b',VU.n n=some b'->n<1:=λn b' h=>by by_cases e:n=0;omega;simp only[VU,Uv e] at h;cases h
 refine(gQ (w0:=W) (UM:=VU) (args:=[.p 0 off]) (vs:=[.pointer (some ⟨b,off,none⟩)]) av (c6 follows 0) follows nH.hf (code:=eG nH.fn) (by kernel_rfl) (by kernel_rfl) (by kernel_rfl) Vg Vf (λ_ _ h=>by cases h) (λ_ _ _ h=>by cases h) ⟨_,_,rfl,⟨b,by simp[VU],rfl⟩,rfl⟩ _ (FH vs t off)).mono ?_;rintro e W' ⟨v,val,H',Vv,UL,rfl,⟨rfl,hle⟩,hm,hc,hd⟩;have n0:UL.n 0=some b:=hm.le.n 0 b (by simp[VU,Names.VE]);obtain⟨us,⟨x,y,rfl,⟨b1,e1,rfl⟩,x2,y2,rfl,⟨b2,e2,rfl⟩,rfl⟩,rfl⟩:=hd;obtain rfl:b=b1:=Oi (n0.symm.trans e1);obtain rfl:b=b2:=Oi (n0.symm.trans e2);refine⟨rfl,hm.keep.os,hm.keep.tape,hm.keep.output,hm.keep.size,λx hx=>?_⟩;by_cases e:x=b;subst e;obtain⟨b',us,k1,k2,k3,-⟩:=hc 0 _ (hle 0 _ rfl);obtain rfl:x=b':=Oi (n0.symm.trans k1);obtain rfl:=tl k2;exact(show W'.heap[x]? = _ from k3).trans (show W.heap[x]? = _ from hb).symm;refine hm.keep.block x hx λhmn=>?_;rcases hmn with ⟨n,ho⟩|ho
 exact e ((ow n x).1 ho).2;exact ho
def OM(H:aY)(_:Nat):List SV->Option DR
 | [.p n off]=>match look H n with
  | some (.lay _ _)=>some ⟨none,.agg [.p n (off+0),.p n (off+1)],none,false⟩
  | _=>none
 | _=>none
set_option maxRecDepth 100000 in
noncomputable def fe:UO cx where
 f:=125
 en:=Tryz.call125
 ns:=cZ nH.hf nH.hB
 run:=λ_=>none
 fresh:=false
 own:=none
 eff:=some OM
 ok:=λze W args vs ob out hG hz hd hr ho=>by cases hr
 effOk:=λg hg ρ W H nm args vs r Vg WX hd hr ho=>by obtain rfl:=Oi hg;unfold OM at hr;split at hr;rename_i n off;split at hr;rename_i cs t hl;obtain rfl:=Oi hr;obtain⟨x,y,rfl,⟨b,hb,rfl⟩,rfl⟩:=hd;obtain⟨b',us,k1,k2,k3,k4,-⟩:=Vg.blk n _ hl;obtain rfl:b=b':=Oi (hb.symm.trans k1);refine(BH Vg.hb.grd (Vg.hb.low n b (.inl hb)).1 k3 k4).mono ?_;rintro e W' ⟨rfl,hg⟩;exact⟨_,rfl,ρ,⟨.refl ρ,λ_ _ h=>.inl h,λ_ _ h=>.inl h,λ_ _ _ h=>.inl h,λ_ _=>rfl,hg.os,hg.tape,hg.output,hg.size,λx hx _=>hg.block x hx,Vg.hb.gr hg⟩,λ_ _ h=>(by cases h),⟨_,⟨_,_,rfl,⟨b,hb,rfl⟩,_,_,rfl,⟨b,hb,rfl⟩,rfl⟩,rfl⟩⟩;cases hr;cases hr
noncomputable def Qb:V3 cx:=⟨187,Tryz.call187,Tryz.f187,Tryz.func187,[],[],[],0,by kernel_rfl⟩
noncomputable def IV:V3 cx:=⟨191,Tryz.call191,Tryz.f191,Tryz.func191,[],[],[],0,by kernel_rfl⟩
noncomputable def wG:V3 cx:=⟨230,Tryz.call230,Tryz.f230,Tryz.func230,[],[],[],2,by kernel_rfl⟩
noncomputable def ou:V3 cx:=⟨235,Tryz.call235,Tryz.f235,Tryz.func235,[1003],[],[],3,by kernel_rfl⟩
noncomputable def rnF:List (V3 cx):=[Qb,IV]
noncomputable def rB:Code:=eG Tryz.f126
noncomputable def r1:Code:=U6 rB
noncomputable def r2:Code:=U6 r1
noncomputable def r3:Code:=U6 r2
noncomputable def r4:Code:=U6 r3
noncomputable def r5:Code:=U6 r4
noncomputable def Po:Code:=.seq (Ve rB) (.seq (Ve r1) (.seq (Ve r2) (Ve (Ve r3))))
def rT(m:Xq)(a:Nat):Int:=match a with|0=>m.bPosX|_=>m.bPosY
def Ca(m:Xq)(a:Nat):Int:=1048576-m.sign*rT m a
def jy(m:Xq)(a:Nat)(U2:Int):Int:=min U2 (Ca m a)+1
def Fh(m:Xq)(a:Nat)(U2:Int):Cut:=⟨Unit,λ_=>True,λ_=>⟨[sl 2 (.p 0 0),sl 3 (.p 1 0),sl 7 (.p 2 0),sl 8 (.p 3 0),sl 30 (.f (.func 230) [] [.p 4 0])],[(0,.lay m.cells 216),(1,.lay [i64 U2] 3),(2,.lay [i64 (jy m a U2)] 3),(3,.lay [.il .i64 (-1)] 3),(4,.lay m.cells 216)],5,0,[],[]⟩,λ_=>0⟩
structure Xq.Ok (m:Xq) (a:Nat) (U2:Int):Prop where
 ax:m.axis=a
 sg:m.sign=1∨m.sign = -1
 p0 : -1048576<=rT m a
 p1:rT m a<=1048576
 m0:0<=U2
 m1:U2<=8192
 nr:m.sRopes.n=0
 nb:m.sBodies.n<=1
 me:∀i,i<m.sBodies.n->(m.sBodies.e i).iD=m.bID
set_option maxRecDepth 100000 in
theorem HT(m:Xq)(U2:Int)(h:m.Ok 0 U2):ev (C:=cx) [fe] 68 0 (jN (C:=cx) [fe] rnF 2) (cw rnF) ⟨[],[],[],1⟩ Po ⟨bL 0 [m.sv,i64 U2],[],0,0,[],[]⟩ (λx st=>x=.normal∧(Fh m 0 U2).at_ 0 st λ_=>True):=by obtain⟨b,r,gx,gy,i,px,py,vx,vy,w,hh,rd,fx,ax,s⟩:=m;obtain⟨h1,h2,h3,h4,h5,h6,-,-,-⟩:=h;obtain rfl:ax=0:=h1;replace h2:s=1∨s = -1:=h2;replace h3 : -1048576<=px:=h3;replace h4:px<=1048576:=h4;refine Ai (show Vd (s*px) by unfold Vd;rcases h2 with rfl|rfl<;>omega) ?_;refine Ai (show Vd (1048576-s*px) by unfold Vd;rcases h2 with rfl|rfl<;>omega) ?_;refine Ai ?_ ?_;show Vd (min U2 (1048576-s*px)+1);unfold Vd;rcases h2 with rfl|rfl<;>omega;refine⟨rfl,(),[],[],trivial,trivial,?_⟩;repeat' (first|refine Ai ?_ ?_|intro _|exact rfl)
set_option maxRecDepth 100000 in
theorem HS(m:Xq)(U2:Int)(h:m.Ok 1 U2):ev (C:=cx) [fe] 68 0 (jN (C:=cx) [fe] rnF 2) (cw rnF) ⟨[],[],[],1⟩ Po ⟨bL 0 [m.sv,i64 U2],[],0,0,[],[]⟩ (λx st=>x=.normal∧(Fh m 1 U2).at_ 0 st λ_=>True):=by obtain⟨b,r,gx,gy,i,px,py,vx,vy,w,hh,rd,fx,ax,s⟩:=m;obtain⟨h1,h2,h3,h4,h5,h6,-,-,-⟩:=h;obtain rfl:ax=1:=h1;replace h2:s=1∨s = -1:=h2;replace h3 : -1048576<=py:=h3;replace h4:py<=1048576:=h4;refine Ai (show Vd (s*py) by unfold Vd;rcases h2 with rfl|rfl<;>omega) ?_;refine Ai (show Vd (1048576-s*py) by unfold Vd;rcases h2 with rfl|rfl<;>omega) ?_;refine Ai ?_ ?_;show Vd (min U2 (1048576-s*py)+1);unfold Vd;rcases h2 with rfl|rfl<;>omega;refine⟨rfl,(),[],[],trivial,trivial,?_⟩;repeat' (first|refine Ai ?_ ?_|intro _|exact rfl)
noncomputable def Hw:Code:=U6 (Ve r3)
noncomputable def Hy:Code:=U6 (Ve r4)
def rfP:Code->Array Tmp|.block _ (.rangeFunc _ p _ _)=>p|_=>#[]
noncomputable def rfA:Code->Code|.block _ (.rangeFunc _ _ a _)=>a|_=>.skip
noncomputable def rfB:Code->Code|.block _ (.rangeFunc _ _ _ b)=>b|_=>.skip
theorem RL:rB=.seq (Ve rB) r1:=by kernel_rfl
theorem RQ:r1=.seq (Ve r1) r2:=by kernel_rfl
theorem RO:r2=.seq (Ve r2) r3:=by kernel_rfl
theorem RN:r3=.seq (.seq (Ve (Ve r3)) Hw) r4:=by kernel_rfl
theorem RM:r4=.seq (.seq (Ve (Ve r4)) Hy) r5:=by kernel_rfl
theorem Ln:Hw=.block 0 (.rangeFunc (.tmp 30) (rfP Hw) (rfA Hw) (rfB Hw)):=by kernel_rfl
theorem Lo:Hy=.block 2 (.rangeFunc (.tmp 39) (rfP Hy) (rfA Hy) (rfB Hy)):=by kernel_rfl
noncomputable def ieB:Code:=eG wG.fn
noncomputable def ibB:Code:=eG ou.fn
set_option maxRecDepth 100000 in
theorem MG(m:Xq)(a:Nat)(U2:Int)(hn:m.sRopes.n=0)(l:Nat):ev (C:=cx) [] wG.fn.ntmps 5 (jN (C:=cx) [] [] 0) (cw (C:=cx) []) ⟨[],[],[],2⟩ ieB ⟨bL 0 [.v (.func (.yield l) #[] #[]),.p 4 0],((Fh m a U2).J ()).H,5,0,[],[]⟩ (tc cx wG.fn.results.toList λ_ H' Vv=>cn ((Fh m a U2).J ()).H H'∧Nat.ble Vv 5=true):=by obtain⟨b,⟨n,r⟩,gx,gy,i,px,py,vx,vy,w,hh,rd,fx,ax,s⟩:=m;obtain rfl:n=0:=hn;refine Ai (λhb=>Up (show decide ((0:Int)<0)=true from hb) (by decide)) (λhb=>?_);exact⟨cn.refl _,rfl⟩
def Fg(m:Xq)(a:Nat)(U2:Int):Cut:=⟨Unit,λ_=>True,λ_=>⟨[sl 7 (.p 2 0),sl 8 (.p 3 0),sl 39 (.f (.func 235) [] [.p 5 0])],[(2,.lay [i64 (jy m a U2)] 3),(3,.lay [.il .i64 (-1)] 3),(5,.lay m.cells 216)],6,0,[],[]⟩,λ_=>0⟩
set_option maxRecDepth 100000 in
theorem PK(m:Xq)(a:Nat)(U2:Int):ev (C:=cx) [fe] 68 5 (jN (C:=cx) [fe] rnF 2) (cw rnF) ⟨[],[],[],1⟩ (Ve (Ve r4)) ((Fh m a U2).J ()) (λx st=>x=.normal∧(Fg m a U2).at_ 5 st λ_=>True):=by refine⟨rfl,(),[],[],trivial,trivial,?_⟩;repeat' (first|refine Ai ?_ ?_|intro _|exact rfl)
set_option maxRecDepth 100000 in
theorem FE(m:Xq)(a:Nat)(U2:Int)(hn:m.sBodies.n<=1)(hm:∀i,i<m.sBodies.n->(m.sBodies.e i).iD=m.bID)(l:Nat):ev (C:=cx) [] ou.fn.ntmps 6 (jN (C:=cx) [] [] 0) (cw (C:=cx) []) ⟨[1003],[],[],3⟩ ibB ⟨bL 0 [.v (.func (.yield l) #[] #[]),.p 5 0],((Fg m a U2).J ()).H,6,0,[],[]⟩ (tc cx ou.fn.results.toList λ_ H' Vv=>cn ((Fg m a U2).J ()).H H'∧Nat.ble Vv 7=true):=by
 obtain⟨⟨n,e⟩,r,gx,gy,i,px,py,vx,vy,w,hh,rd,fx,ax,s⟩:=m;replace hn:n<=1:=hn;rcases Nat.lt_or_ge 0 n with hp|hp
 ·obtain rfl:n=1:=(by omega);have hi:(e 0).iD=i:=hm 0 (Nat.zero_lt_one);refine Ai (λhb=>?_) (λhb=>Up (show decide ((0:Int)<1)=false from hb) (by decide));refine Ai ⟨(by decide:(0:Int)<=0),(by decide:(0:Int)<1)⟩ ?_;refine Ai (λhb=>Up hi (Od (show decide (¬(e 0).iD=i)=true from hb))) (λhb=>?_);repeat' (first|exact cn.cons (cn.cons (cn.refl _) rfl) rfl|(refine Ai ?_ ?_)|(intro hh;exact Up (show decide ((1:Int)<1)=true from hh) (by decide))|(intro _)|exact rfl)
 obtain rfl:n=0:=by omega
 refine Ai (λhb=>Up (show decide ((0:Int)<0)=true from hb) (by decide)) (λhb=>?_);exact⟨cn.refl _,rfl⟩
def Hs(m:Xq)(a:Nat)(U2:Int):Int:=min U2 (Ca m a)
def rM(m:Xq)(a:Nat)(U2:Int):SV:=.tup [.v (.int .i64 (Hs m a U2)),.v (.int .i64 (-1))]
set_option maxRecDepth 100000 in
theorem G9(m:Xq)(a:Nat)(U2:Int)(h : -1048576<=jy m a U2∧jy m a U2<=4194304):ev (C:=cx) [fe] 68 7 (jN (C:=cx) [fe] rnF 2) (cw rnF) ⟨[],[],[],1⟩ r5 ⟨((Fg m a U2).J ()).sl,((Fg m a U2).J ()).H,7,((Fg m a U2).J ()).rg,[],[]⟩ (λe st=>e=.ret∧qC cx Tryz.f126.results.toList st λv=>ae (rM m a U2) st.H v):=by
 refine Ai (show Vd (jy m a U2-1) by unfold Vd;omega) ?_;repeat' (first|refine Ai ?_ ?_|intro _|exact rfl)
 show Hs m a U2=jy m a U2-1;unfold Hs jy;omega
theorem Ja{m:Xq}{a:Nat}{U2:Int}(h:m.Ok a U2) : -1048576<=jy m a U2∧jy m a U2<=4194304:=by obtain⟨h1,h2,h3,h4,h5,h6,-,-,-⟩:=h;unfold jy Ca;rcases h2 with h2|h2<;>rw[h2]<;>omega
set_option maxRecDepth 100000 in
set_option maxHeartbeats 1000000 in
theorem Ez{m:Xq}{a:Nat}{U2:Int}(h:m.Ok a U2)(ha:a<2){ze:Nat->Nat->Value->Prop}{W:World}{vs:List Value}(hG:cx.WT W)(hz:∀b i c,ze b i c->W.cell? ⟨b,i,none⟩=some c∧c.oneCell'=true)(hd:aj (aD ze) [m.sv,i64 U2] vs) :
  br Tryz.prog false 126 vs.toArray W λe W'=>∃v val H' Vv UL,e=.returned val∧ae (rM m a U2) H' v∧Mem cx W (aD ze).VE Vv UL W'∧(∀n sb,look H' n=some sb->cS UL W' n sb)∧den UL v val:=by
 intro E hE cs Xv;have hpre:ev (C:=cx) [fe] 68 0 (jN (C:=cx) [fe] rnF 2) (cw rnF) ⟨[],[],[],1⟩ Po ⟨bL 0 [m.sv,i64 U2],[],0,0,[],[]⟩ (λx st=>x=.normal∧(Fh m a U2).at_ 0 st λ_=>True):=by rcases Nat.lt_or_ge a 1 with h1|h1;obtain rfl:a=0:=(by omega);exact HT m U2 h;obtain rfl:a=1:=(by omega);exact HS m U2 h
 refine l8 hE Tryz.func126 (c:=rB) (by kernel_rfl) Xv ?_;intro k h3;have hb:(eK 126).kind≠.early:=by decide
 have VX:(eK 126).roundOf=none:=rfl;have hI:=c6 (C:=cx) (Γ:=[fe]) (Fs:=rnF) follows 2;have hnt:Tryz.f126.ntmps=68:=by kernel_rfl
 rw[hnt];have A0:=vn (C:=cx) (n:=68) (show ([m.sv,i64 U2]:List SV).length<=68 from(by decide:2<=68)) hG hz hd;refine iw (h:=⟨[],[],[],1⟩) hE hI follows hb VX RL rfl (by kernel_rfl) A0 hpre (λ_ _ h=>h.1) λst1 Vq a1 W1 he1 A1=>?_;refine iw (h:=⟨[],[],[],1⟩) hE hI follows hb VX RQ rfl (by kernel_rfl) A1 he1 (λ_ _ h=>h.1) λZe Wy a2 W2 he2 A2=>?_;refine iw (h:=⟨[],[],[],1⟩) hE hI follows hb VX RO rfl (by kernel_rfl) A2 he2 (λ_ _ h=>h.1) λst3 ρ3 a3 W3 he3 A3=>?_;rw[RN];refine m4 hE ?_;refine kT (h:=⟨[],[],[],1⟩) hE hI follows hb VX rfl (by kernel_rfl) A3 he3 λu ρ4 a4 W4 _ A4=>?_;rw[Ln];refine jj hE ?_;refine tE (Γ:=[]) (Fs:=[]) (d:=0) (m:=5) hE follows hb VX A4 wG (cap:=[.p 4 0]) rfl (code:=ieB) (by kernel_rfl) (by kernel_rfl) (λl=>MG m a U2 h.nr l) λD1 ρ5 a5 W5 A5=>?_;refine fb hE ?_;rw[RM];refine m4 hE ?_;refine kT (h:=⟨[],[],[],1⟩) hE hI follows hb VX rfl (by kernel_rfl) A5 (PK m a U2) λu2 ρ6 a6 W6 _ A6=>?_;rw[Lo];refine jj hE ?_;refine tE (Γ:=[]) (Fs:=[]) (d:=0) (m:=7) hE follows hb VX A6 ou (cap:=[.p 5 0]) rfl (code:=ibB) (by kernel_rfl) (by kernel_rfl) (λl=>FE m a U2 h.nb h.me l) λD2 ρ7 a7 W7 A7=>?_;refine fb hE ?_;refine iH (h:=⟨[],[],[],1⟩) hE hI follows hb VX (by kernel_rfl) A7 (G9 m a U2 (Ja h)) λe st8 ρ8 a8 W8 hk A8=>?_;have Zy:qC cx Tryz.f126.results.toList st8 (λv=>ae (rM m a U2) st8.H v)->∀todo,E (G { (eK 126).at a8 todo with mode:=.returning} cs) W8:=λhk todo=>by refine zP (K:=λv H _=>ae (rM m a U2) H v) hE Tryz.func126 hk (λv W' fr ⟨v',H',Vv,UL,q1,q2,q3,q4⟩ Z5 hl=>?_) todo (UM:=(aD ze).VE) (λb h=>by cases h) A8;exact Xv (.returned v) W' fr ⟨v',v,H',Vv,UL,rfl,q1,q2,q3,q4⟩ Z5 hl
 obtain⟨rfl,hk⟩:=hk;exact⟨trivial,Zy hk⟩
set_option maxRecDepth 100000 in
noncomputable def QC:UO cx:=qf 126 Tryz.call126 (cZ (fl:=[]) (fn:=Tryz.f126) Tryz.func126 (by kernel_rfl)) (aL HH (VK .i64)) (λx=>[x.1.axis=0∨x.1.axis=1,x.1.Ok x.1.axis.toNat x.2]) (λx=>rM x.1 x.1.axis.toNat x.2) λx ze W vs hp hG hz hd=>by obtain⟨m,U2⟩:=x;obtain⟨hx,h⟩:=hp;replace hx:m.axis=0∨m.axis=1:=hx;replace h:m.Ok m.axis.toNat U2:=h;refine(Ez h (by rcases hx with e|e<;>rw[e]<;>decide) hG hz hd).mono λe W' ⟨v,val,H',Vv,UL,h1,h2,h3,h4,h5⟩=>?_;obtain⟨q1,q2,q3⟩:=ox h2 h3 h4 h5;exact⟨val,(zR UL W').z,h1,q1,q2,q3⟩
end Go.Proofs.YtgigkennhdolpaaGreatDoor
