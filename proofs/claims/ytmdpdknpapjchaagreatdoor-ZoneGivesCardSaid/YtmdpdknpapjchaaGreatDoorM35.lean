/- step.Step of at most one body. -/
import Derived.Test.YtmdpdknpapjchaaGreatDoorM34
set_option linter.all false
namespace Go.Proofs.YtmdpdknpapjchaaGreatDoor
noncomputable section
section
open Go.RowKit
variable {b:Body}{q v:Int}{ax j:Nat}{α:Type}{e:XO}{l:Zp}
theorem G3(h:b.ok=true) : -4096<=b.velX∧b.velX<=4096∧-4096<=b.velY∧b.velY<=4096∧-1048576<=b.posX∧b.posX<=1048576∧-1048576<=b.posY∧b.posY<=1048576:=by
 have h1:b.vf=false:=by cases hb:b.vf with|false=>rfl|true=>unfold Body.ok at h;rw[hb] at h;cases h
 unfold Body.vf rN okI at h1;simp only[Xp,Bool.not_eq_false',I',Bool.not_eq_true',Xh] at h1;obtain⟨⟨⟨-,h2⟩,h3⟩,-⟩:=h1;omega
def oi(n:Int):Int:=if n<0 then -1 else 1
def Nu:List SV:=[.v (.slice none 0 0),.v (.slice none 0 0),.il .i64 0,.il .i64 0]
def ctS(r:Rps)(x y:Int)(b0 b:Body)(vx vy:Int)(ax mv nm:Nat)(s5:SV)(Hx:aU)(sg:Int):Cut:=⟨Unit,λ_=>True,λ_=>⟨[sl 1 (.p 0 0),sl 2 (.p 1 0),sl 5 s5,sl 6 (.il .i64 0),sl 7 (.p 3 0),sl 8 (.p 4 0),sl 9 (.il .i64 ax),sl 10 (.p 4 ax),sl 11 (.p mv 0),sl 28 (.g 2 2 9 0 1),sl 29 (i64 1),sl 30 (.il .i64 0),sl 41 (.agg [.p 4 0,.p 4 1]),sl 42 (.il .i64 ax)],
 (mv,.lay ([.g 2 2 9 0 1,r.sv,i64 x,i64 y]++b.cells++[.il .i64 ax,i64 sg]) 206)::(Hx++[(0,.lay [.g 2 2 9 0 1,r.sv,i64 x,i64 y] 149),(1,.lay Nu 149),(2,.lst 2 9 1 (λ_=>b.cells) 199),(3,.lay b0.cells 199),(4,.lay [i64 vx,i64 vy] 23)]),nm,0,[],[]⟩,λ_=>0⟩
theorem Qv{i:Nat}(h:i<1)(p q:α):p=bif Nat.beq i 0 then p else q:=by rw[show i=0 by omega];rfl
def Va(r:Rps)(x y:Int)(b:Body)(ax:Nat)(sg:Int):Z':=⟨⟨1,λ_=>b⟩,r,x,y,b.iD,b.posX,b.posY,b.velX,b.velY,b.w,b.h,b.round,b.fixed,ax,sg⟩
structure rJ (b:Body):Prop where
 x1 : -1048576<=b.posX
 x2:b.posX<=1048576
 y1 : -1048576<=b.posY
 y2:b.posY<=1048576
theorem pW(v:Int):(v<0∧oi v = -1)∨(0<=v∧oi v=1):=by unfold oi;by_cases h:v<0;exact .inl ⟨h,Xl h⟩;exact .inr ⟨by omega,Xk h⟩
theorem CP{r:Rps}{x y:Int}(hr:r.n=0)(hb:rJ b)(h1 : -4096<=v)(h2:v<=4096):(Va r x y b ax (oi v)).Ok ax (max v (-v)):=by refine⟨rfl,?_,?_,?_,by omega,by omega,hr,F2 1,λi hi=>rfl⟩;show oi v=1∨oi v = -1;rcases pW v with h|h;exact .inr h.2;exact .inl h.2;unfold tF;split;exact hb.x1;exact hb.y1;unfold tF;split;exact hb.x2;exact hb.y2
theorem Lr(hb:rJ b)(h1 : -4096<=v)(h2:v<=4096):0<=uI b ax v∧uI b ax v<=4096∧-1048576<=tF (Aa b ax v) ax+oi v*uI b ax v∧tF (Aa b ax v) ax+oi v*uI b ax v<=1048576:=by
 have hp : -1048576<=tF (Aa b ax v) ax∧tF (Aa b ax v) ax<=1048576:=by unfold tF;split;exact⟨hb.x1,hb.x2⟩;exact⟨hb.y1,hb.y2⟩
 unfold uI Jw Ea QJ;have hs:(Aa b ax v).sign=oi v:=rfl;rw[hs];generalize tF (Aa b ax v) ax=q at hp ⊢;rcases pW v with h|h<;>rw[h.2]<;>omega
theorem zL(hb:rJ b)(h1 : -4096<=v)(h2:v<=4096):rJ (axB b 0 v):=by have h:=Lr (ax:=0) hb h1 h2;exact⟨h.2.2.1,h.2.2.2,hb.y1,hb.y2⟩
theorem KU(hb:rJ b)(h1 : -4096<=v)(h2:v<=4096):Yd (oi v*uI b ax v)∧Yd (b.posX+oi v*uI b ax v)∧Yd (b.posY+oi v*uI b ax v):=by have h:=Lr (ax:=ax) hb h1 h2;have:=hb.x1;have:=hb.x2;have:=hb.y1;have:=hb.y2;unfold Yd;rcases pW v with h'|h'<;>rw[h'.2] at h ⊢<;>omega
theorem Jh{g v:Vec}(h:iH b g=v) : -4096<=v.x∧v.x<=4096∧-4096<=v.y∧v.y<=4096:=by subst h;unfold iH;split;exact⟨by decide,by decide,by decide,by decide⟩;show -4096<=mV _∧mV _<=4096∧-4096<=mV _∧mV _<=4096;unfold mV;omega
set_option maxHeartbeats 4000000 in
set_option maxRecDepth 8000 in
theorem Ib:∀a,aD ((λa=>[gOk ⟨a.gravityX,a.gravityY⟩,a.ropes.n=0,a.bodies.n<=1,∀i,i<a.bodies.n->(a.bodies.e i).ok=true]) a)->aJ (C:=cx) [P5,TS,Dk,L2,fK,TE,VK] [] 0 ⟨[],[16],[],3⟩ Tryz.f78 ((bh q9).enc a) λv H _=>ae ((λa=>.tup [(zp a).sv,(og (oc a)).sv,.v (.int .i64 0)]) a) H v:=by
 intro⟨⟨n,e⟩,⟨m,r⟩,x,y⟩ ⟨hg,hm,hn,X'⟩;obtain rfl:m=0:=hm;replace hn:n<=1:=hn;rcases Nat.lt_or_ge 0 n with hp|hp
 ·obtain rfl:n=1:=(by omega);have hok0:(e 0).ok=true:=X' 0 Nat.zero_lt_one;have n1:(!(decide ((1:Nat)=0)||(e 0).ok))=false:=(by rw[hok0];rfl);refine Ai ⟨λ_ _=>trivial,λ_ _=>trivial,hg,rfl,F2 1⟩ ?_;refine Ai (λhb=>P' (n1.symm.trans hb) (by decide)) (λhb=>?_);refine Ai ⟨λ_ _=>trivial,(by decide:1<=1000)⟩ ?_;refine Ai ⟨λ_ _=>trivial,(by decide:0<=1000)⟩ ?_;refine Ai (λhb=>?_) (λhb=>P' (show decide ((0:Int)<1)=false from hb) (by decide));refine Ai ⟨(by decide:(0:Int)<=0),(by decide:(0:Int)<1)⟩ ?_;refine Ai (λhb=>?_) (λhb=>?_)
  ·have hf:(e 0).fixed=true:=hb;have Ya:lV (e 0) ⟨x,y⟩=e 0:=(by unfold lV;rw[hf]);have hF:∀i,i<1->lV (e i) ⟨x,y⟩=e (0+i):=λi hi=>(by rw[show i=0 by omega];exact Ya);have hsp:jq (e 0) ⟨x,y⟩=[]:=(by unfold jq;rw[hf]);refine Ai (λhb=>P' (show decide ((1:Int)<1)=true from hb) (by decide)) (λhb=>?_);repeat' first|apply Ai|exact rfl|intro
   all_goals first|exact O' Body.iD (hF _ (by assumption))|exact O' Body.posX (hF _ (by assumption))|exact O' Body.posY (hF _ (by assumption))|exact O' Body.velX (hF _ (by assumption))|exact O' Body.velY (hF _ (by assumption))|exact O' Body.w (hF _ (by assumption))|exact O' Body.h (hF _ (by assumption))|exact O' Body.round (hF _ (by assumption))|exact O' Body.fixed (hF _ (by assumption))|exact O' List.length hsp|exact P' ‹_<0› (F1 _)
  have hf:(e 0).fixed=false:=hb;obtain⟨vx1,vx2,vy1,vy2,px1,px2,py1,py2⟩:=G3 hok0;refine Ai ⟨hg,hok0,⟨by show -1000000<=(e 0).velX;omega,by show (e 0).velX<=1000000;omega⟩,by show -1000000<=(e 0).velY;omega,by show (e 0).velY<=1000000;omega⟩ ?_;refine Ai ⟨(by decide:(0:Int)<=0),(by decide:(0:Int)<1)⟩ ?_;have e1:∀i,i<1->e (0+i)=e 0:=λi hi=>(by rw[show 0+i=0 by omega]);generalize hv:iH (e 0) ⟨x,y⟩=v;refine F8 (ctS ⟨0,r⟩ x y (e 0) (e 0) v.x v.y 0 5 6 (.v (.slice none 0 0)) [] (oi v.x)) ?_;have hE:∀i,i<1->e 0=e i:=λi hi=>(by rw[show i=0 by omega]);refine Ai (Ai (λhb=>?_) (λhb=>?_)) ?_
  ·have hneg:v.x<0:=(by rw[<-hv];exact Od hb);refine⟨(),[],[],trivial,trivial,?_⟩;repeat' first|apply Ai|exact rfl|intro
   all_goals first|exact O' Body.iD (hE _ (by assumption))|exact O' Body.posX (hE _ (by assumption))|exact O' Body.posY (hE _ (by assumption))|exact O' Body.velX (hE _ (by assumption))|exact O' Body.velY (hE _ (by assumption))|exact O' Body.w (hE _ (by assumption))|exact O' Body.h (hE _ (by assumption))|exact O' Body.round (hE _ (by assumption))|exact O' Body.fixed (hE _ (by assumption))|exact Xl hneg|exact(O' Vec.x hv).symm|exact(O' Vec.y hv).symm
  ·have hneg:¬v.x<0:=(by rw[<-hv];exact Xg hb);refine⟨(),[],[],trivial,trivial,?_⟩;repeat' first|apply Ai|exact rfl|intro
   all_goals first|exact O' Body.iD (hE _ (by assumption))|exact O' Body.posX (hE _ (by assumption))|exact O' Body.posY (hE _ (by assumption))|exact O' Body.velX (hE _ (by assumption))|exact O' Body.velY (hE _ (by assumption))|exact O' Body.w (hE _ (by assumption))|exact O' Body.h (hE _ (by assumption))|exact O' Body.round (hE _ (by assumption))|exact O' Body.fixed (hE _ (by assumption))|exact Xk hneg|exact(O' Vec.x hv).symm|exact(O' Vec.y hv).symm
  obtain⟨sx1,sx2,sy1,sy2⟩:=Jh hv;have hP:rJ (e 0):=⟨px1,px2,py1,py2⟩
  refine fun(_:Unit) _=>?_;refine Ai (show Yd (-v.x) by unfold Yd;omega) ?_;refine Ai ⟨λ_ _=>trivial,λ_ _=>trivial,.inl rfl,CP (r:=⟨0,r⟩) (x:=x) (y:=y) (ax:=0) rfl hP sx1 sx2⟩ ?_;refine Ai ⟨λ_ _=>trivial,λ_ _=>trivial,.inl rfl,KU (ax:=0) hP sx1 sx2⟩ ?_;refine Ai ⟨(by decide:(0:Int)<=0),(by decide:(0:Int)<1)⟩ ?_;refine Ai (λ_ _=>⟨rfl,rfl,rfl,rfl,rfl,rfl,rfl,trivial,trivial,trivial⟩) ?_;refine Ai (λhb=>?_) (λhb=>?_)
  ·-- stopped along X
   refine Ai (⟨by decide,by decide⟩:gQ 1 24) ?_;refine Ai ⟨(by decide:(0:Int)<=0),(by decide:(0:Int)<1)⟩ ?_;refine F8 (ctS ⟨0,r⟩ x y (e 0) (axB (e 0) 0 v.x) 0 v.y 1 8 9 (.g 7 7 3 0 1) [(7,.lst 7 3 1 (λ_=>(Stop.mk (e 0).iD 1 (-1)).cells) 212)] (oi v.y)) ?_;refine Ai (Ai (λYi=>?_) (λYi=>?_)) ?_
   ·have hneg:v.y<0:=Od Yi;refine⟨(),[],[],trivial,trivial,?_⟩;repeat' first|apply Ai|exact rfl|intro
    all_goals first|exact Qv (by assumption) _ _|exact Xl hneg
   ·have hneg:¬v.y<0:=Xg Yi;refine⟨(),[],[],trivial,trivial,?_⟩;repeat' first|apply Ai|exact rfl|intro
    all_goals first|exact Qv (by assumption) _ _|exact Xk hneg
   refine fun(_:Unit) _=>?_;have hP2:rJ (axB (e 0) 0 v.x):=zL hP sx1 sx2;refine Ai (show Yd (-v.y) by unfold Yd;omega) ?_;refine Ai ⟨λ_ _=>trivial,λ_ _=>trivial,.inr rfl,CP (r:=⟨0,r⟩) (x:=x) (y:=y) (ax:=1) rfl hP2 sy1 sy2⟩ ?_;refine Ai ⟨λ_ _=>trivial,λ_ _=>trivial,.inr rfl,KU (ax:=1) hP2 sy1 sy2⟩ ?_;refine Ai ⟨(by decide:(0:Int)<=0),(by decide:(0:Int)<1)⟩ ?_;refine Ai (λ_ _=>⟨rfl,rfl,rfl,rfl,rfl,rfl,rfl,trivial,trivial,trivial⟩) ?_;refine Ai (λYi=>?_) (λYi=>?_)
   ·have hX:vO (e 0) ⟨x,y⟩=true:=(by unfold vO;rw[hv];exact hb);have hY:vN (e 0) ⟨x,y⟩=true:=(by unfold vN nM;rw[hv];exact Yi);have Zc:lV (e 0) ⟨x,y⟩ = {axB (axB (e 0) 0 v.x) 1 v.y with velX:=0,velY:=0}:=(by unfold lV zj nM;rw[hf,hX,hY,hv];rfl);have hSt:jq (e 0) ⟨x,y⟩=[⟨(e 0).iD,1,-1⟩,⟨(e 0).iD,2,-1⟩]:=(by unfold jq;rw[hf,hX,hY];rfl);repeat' (first|refine Ai ?_ ?_|(intro hh;exact P' (show decide ((1:Int)<1)=true from hh) (by decide))|(intro _)|exact rfl)
    all_goals first|exact trivial|exact(by decide:(0:Int)<=0)|exact(by decide:(0:Int)<1)|(show (2:Nat)<=maxLen;decide)|(show (1:Nat)<=maxLen;decide)|(show (2*24:Nat)<=140737488355328;decide)|(show (1*24:Nat)<=140737488355328;decide)|exact O' List.length hSt|exact P' ‹_<0› (F1 _)|(rename_i i hi;revert i;refine oz ?_;first|exact(O' Body.iD Zc).trans rfl|exact(O' Body.posX Zc).trans rfl|exact(O' Body.posY Zc).trans rfl|exact(O' Body.velX Zc).trans rfl|exact(O' Body.velY Zc).trans rfl|exact(O' Body.w Zc).trans rfl|exact(O' Body.h Zc).trans rfl|exact(O' Body.round Zc).trans rfl|exact(O' Body.fixed Zc).trans rfl|(show (_:Bool)=_;exact(O' Body.fixed Zc).trans rfl))|(rename_i i hi;revert i;refine xu ?_ ?_<;>first|exact(O' (λL=>(gA L _).iD) hSt).trans rfl|(show (_:Int)=_;exact(O' (λL=>(gA L _).iD) hSt).trans rfl)|exact(O' (λL=>(gA L _).along) hSt).trans rfl|(show (_:Int)=_;exact(O' (λL=>(gA L _).along) hSt).trans rfl)|exact(O' (λL=>(gA L _).byI) hSt).trans rfl|(show (_:Int)=_;exact(O' (λL=>(gA L _).byI) hSt).trans rfl))|skip
   have hX:vO (e 0) ⟨x,y⟩=true:=(by unfold vO;rw[hv];exact hb);have hY:vN (e 0) ⟨x,y⟩=false:=(by unfold vN nM;rw[hv];exact Yi);have Zc:lV (e 0) ⟨x,y⟩ = {axB (axB (e 0) 0 v.x) 1 v.y with velX:=0,velY:=v.y}:=(by unfold lV zj nM;rw[hf,hX,hY,hv];rfl);have hSt:jq (e 0) ⟨x,y⟩=[⟨(e 0).iD,1,-1⟩]:=(by unfold jq;rw[hf,hX,hY];rfl);repeat' (first|refine Ai ?_ ?_|(intro hh;exact P' (show decide ((1:Int)<1)=true from hh) (by decide))|(intro _)|exact rfl)
   all_goals first|exact trivial|exact(by decide:(0:Int)<=0)|exact(by decide:(0:Int)<1)|(show (2:Nat)<=maxLen;decide)|(show (1:Nat)<=maxLen;decide)|(show (2*24:Nat)<=140737488355328;decide)|(show (1*24:Nat)<=140737488355328;decide)|exact O' List.length hSt|exact P' ‹_<0› (F1 _)|(rename_i i hi;revert i;refine oz ?_;first|exact(O' Body.iD Zc).trans rfl|exact(O' Body.posX Zc).trans rfl|exact(O' Body.posY Zc).trans rfl|exact(O' Body.velX Zc).trans rfl|exact(O' Body.velY Zc).trans rfl|exact(O' Body.w Zc).trans rfl|exact(O' Body.h Zc).trans rfl|exact(O' Body.round Zc).trans rfl|exact(O' Body.fixed Zc).trans rfl|(show (_:Bool)=_;exact(O' Body.fixed Zc).trans rfl))|(rename_i i hi;revert i;refine oz ?_<;>first|exact(O' (λL=>(gA L _).iD) hSt).trans rfl|(show (_:Int)=_;exact(O' (λL=>(gA L _).iD) hSt).trans rfl)|exact(O' (λL=>(gA L _).along) hSt).trans rfl|(show (_:Int)=_;exact(O' (λL=>(gA L _).along) hSt).trans rfl)|exact(O' (λL=>(gA L _).byI) hSt).trans rfl|(show (_:Int)=_;exact(O' (λL=>(gA L _).byI) hSt).trans rfl))|skip
  ·-- not stopped along X
   refine Ai ⟨(by decide:(0:Int)<=0),(by decide:(0:Int)<1)⟩ ?_;refine F8 (ctS ⟨0,r⟩ x y (e 0) (axB (e 0) 0 v.x) v.x v.y 1 6 7 (.v (.slice none 0 0)) [] (oi v.y)) ?_;refine Ai (Ai (λYi=>?_) (λYi=>?_)) ?_
   ·have hneg:v.y<0:=Od Yi;refine⟨(),[],[],trivial,trivial,?_⟩;repeat' first|apply Ai|exact rfl|intro
    all_goals first|exact Qv (by assumption) _ _|exact Xl hneg
   ·have hneg:¬v.y<0:=Xg Yi;refine⟨(),[],[],trivial,trivial,?_⟩;repeat' first|apply Ai|exact rfl|intro
    all_goals first|exact Qv (by assumption) _ _|exact Xk hneg
   refine fun(_:Unit) _=>?_;have hP2:rJ (axB (e 0) 0 v.x):=zL hP sx1 sx2;refine Ai (show Yd (-v.y) by unfold Yd;omega) ?_;refine Ai ⟨λ_ _=>trivial,λ_ _=>trivial,.inr rfl,CP (r:=⟨0,r⟩) (x:=x) (y:=y) (ax:=1) rfl hP2 sy1 sy2⟩ ?_;refine Ai ⟨λ_ _=>trivial,λ_ _=>trivial,.inr rfl,KU (ax:=1) hP2 sy1 sy2⟩ ?_;refine Ai ⟨(by decide:(0:Int)<=0),(by decide:(0:Int)<1)⟩ ?_;refine Ai (λ_ _=>⟨rfl,rfl,rfl,rfl,rfl,rfl,rfl,trivial,trivial,trivial⟩) ?_;refine Ai (λYi=>?_) (λYi=>?_)
   ·have hX:vO (e 0) ⟨x,y⟩=false:=(by unfold vO;rw[hv];exact hb);have hY:vN (e 0) ⟨x,y⟩=true:=(by unfold vN nM;rw[hv];exact Yi);have Zc:lV (e 0) ⟨x,y⟩ = {axB (axB (e 0) 0 v.x) 1 v.y with velX:=v.x,velY:=0}:=(by unfold lV zj nM;rw[hf,hX,hY,hv];rfl);have hSt:jq (e 0) ⟨x,y⟩=[⟨(e 0).iD,2,-1⟩]:=(by unfold jq;rw[hf,hX,hY];rfl);repeat' (first|refine Ai ?_ ?_|(intro hh;exact P' (show decide ((1:Int)<1)=true from hh) (by decide))|(intro _)|exact rfl)
    all_goals first|exact trivial|exact(by decide:(0:Int)<=0)|exact(by decide:(0:Int)<1)|(show (2:Nat)<=maxLen;decide)|(show (1:Nat)<=maxLen;decide)|(show (2*24:Nat)<=140737488355328;decide)|(show (1*24:Nat)<=140737488355328;decide)|exact O' List.length hSt|exact P' ‹_<0› (F1 _)|(rename_i i hi;revert i;refine oz ?_;first|exact(O' Body.iD Zc).trans rfl|exact(O' Body.posX Zc).trans rfl|exact(O' Body.posY Zc).trans rfl|exact(O' Body.velX Zc).trans rfl|exact(O' Body.velY Zc).trans rfl|exact(O' Body.w Zc).trans rfl|exact(O' Body.h Zc).trans rfl|exact(O' Body.round Zc).trans rfl|exact(O' Body.fixed Zc).trans rfl|(show (_:Bool)=_;exact(O' Body.fixed Zc).trans rfl))|(rename_i i hi;revert i;refine oz ?_<;>first|exact(O' (λL=>(gA L _).iD) hSt).trans rfl|(show (_:Int)=_;exact(O' (λL=>(gA L _).iD) hSt).trans rfl)|exact(O' (λL=>(gA L _).along) hSt).trans rfl|(show (_:Int)=_;exact(O' (λL=>(gA L _).along) hSt).trans rfl)|exact(O' (λL=>(gA L _).byI) hSt).trans rfl|(show (_:Int)=_;exact(O' (λL=>(gA L _).byI) hSt).trans rfl))|skip
   have hX:vO (e 0) ⟨x,y⟩=false:=(by unfold vO;rw[hv];exact hb);have hY:vN (e 0) ⟨x,y⟩=false:=(by unfold vN nM;rw[hv];exact Yi);have Zc:lV (e 0) ⟨x,y⟩ = {axB (axB (e 0) 0 v.x) 1 v.y with velX:=v.x,velY:=v.y}:=(by unfold lV zj nM;rw[hf,hX,hY,hv];rfl);have hSt:jq (e 0) ⟨x,y⟩=[]:=(by unfold jq;rw[hf,hX,hY];rfl);repeat' (first|refine Ai ?_ ?_|(intro hh;exact P' (show decide ((1:Int)<1)=true from hh) (by decide))|(intro _)|exact rfl)
   all_goals first|exact trivial|exact(by decide:(0:Int)<=0)|exact(by decide:(0:Int)<1)|(show (2:Nat)<=maxLen;decide)|(show (1:Nat)<=maxLen;decide)|(show (2*24:Nat)<=140737488355328;decide)|(show (1*24:Nat)<=140737488355328;decide)|exact O' List.length hSt|exact P' ‹_<0› (F1 _)|(rename_i i hi;revert i;refine oz ?_;first|exact(O' Body.iD Zc).trans rfl|exact(O' Body.posX Zc).trans rfl|exact(O' Body.posY Zc).trans rfl|exact(O' Body.velX Zc).trans rfl|exact(O' Body.velY Zc).trans rfl|exact(O' Body.w Zc).trans rfl|exact(O' Body.h Zc).trans rfl|exact(O' Body.round Zc).trans rfl|exact(O' Body.fixed Zc).trans rfl|(show (_:Bool)=_;exact(O' Body.fixed Zc).trans rfl))
 obtain rfl:n=0:=by omega
 refine Ai ⟨λ_ _=>trivial,λ_ _=>trivial,hg,rfl,F9 1⟩ ?_;refine Ai (λhb=>P' (show (!(decide ((0:Nat)=0)||(e 0).ok))=true from hb) (by simp)) (λhb=>?_);refine Ai ⟨λ_ _=>trivial,(by decide:0<=1000)⟩ ?_;refine Ai ⟨λ_ _=>trivial,(by decide:0<=1000)⟩ ?_;refine Ai (λhb=>P' (show decide ((0:Int)<0)=true from hb) (by decide)) (λhb=>?_);repeat' first|apply Ai|exact rfl|intro
 all_goals exact P' ‹_<_› (F1 _)
def PU:XR cx:=af 78 Tryz.call78 (bh q9) _ _ (λ_=>⟨[],[16],[],3⟩) [] (λ_=>rfl) follows Tryz.func78 (by kernel_rfl) Ib
set_option maxHeartbeats 2000000 in
set_option maxRecDepth 8000 in
theorem B3:∀a,aD ((λa=>[a.n<=1000]) a)->aJ (C:=cx) [] [] 0 ak Tryz.f83 ((bh gU).enc a) λv H _=>sh ((λa=>a.sv) a) 52 H v:=by
 intro l hm;replace hm:l.n<=1000:=hm;intro b hb;refine Ai (λh=>?_) (λh=>?_);have h:(b != false)=true:=h;have hn:=hb (by simpa using h);exact⟨hn,hn⟩;have hf:gQ l.n 40:=⟨Nat.le_trans hm (by decide),by omega⟩
 refine Ai hf ?_;repeat' first|apply Ai|exact rfl|intro
 all_goals (show (_:Int)=_;first|(rw[B'];done)|(rw[B'];rfl))
def qJ:XR cx:=za 83 Tryz.call83 (bh gU) (λa=>[a.n<=1000]) (λa=>a.sv) 52 (λ_=>ak) [] (λ_=>rfl) follows Tryz.func83 (by kernel_rfl) B3
theorem aP{k:Nat}{x:α}{f:Nat->α}{p:Nat->α->Prop}(h1:p k x)(h2:∀i,i<k->p i (f i)):∀i,i<k+1->p i (CI k x f i):=λi hi=>by by_cases e:i=k;subst e;rw[su];exact h1;rw[ss e];exact h2 i (by omega)
def G5(l:ZJ)(k e:Nat):SB:=.nst e 2 k (λi=>[.v (.int .i64 (l.e i).iD),.e]) 1 5 (λi=>((l.e i).l.n,λj=>((l.e i).l.c j).cells)) 52 39 none
def vZ:List SV:=[.il .i64 0,.v (.slice none 0 0)]
def X1(l:Zp)(q:Int):Nat:=YK (λi=>decide ((l.c i).kind=q)) 0 l.n
def iu(l:Zp)(q:Int):Bool:=decide (X1 l q<l.n)
theorem jG : (bu l q).2=iu l q:=by unfold bu iu X1;cases decide (YK (λi=>decide ((l.c i).kind=q)) 0 l.n<l.n)<;>rfl
theorem yL(h:iu l q=true):(bu l q).1=l.c (X1 l q):=by unfold bu;unfold iu X1 at h;rw[h];rfl
theorem As(h:iu l q=true):(l.c (X1 l q)).kind=q:=by have:=E3 (g:=λi=>decide ((l.c i).kind=q)) (k:=0) (r:=l.n) (by have:=Od h;unfold X1 at this;omega);exact Od this
def VM(b1 b2 b3:Bool):Nat:=match b1,b2,b3 with
 | false,false,false=>0
 | false,false,true=>16
 | false,true,false=>32
 | false,true,true=>48
 | true,false,false=>64
 | true,false,true=>80
 | true,true,false=>96
 | true,true,true=>112
def Wu(nm:Nat)(q:Int):Bool:=match (nm-8)/16,q with
 | 1,.ofNat 3=>true
 | 2,.ofNat 2=>true
 | 3,.ofNat 2=>true
 | 3,.ofNat 3=>true
 | 4,.ofNat 1=>true
 | 5,.ofNat 1=>true
 | 5,.ofNat 3=>true
 | 6,.ofNat 1=>true
 | 6,.ofNat 2=>true
 | 7,.ofNat 1=>true
 | 7,.ofNat 2=>true
 | 7,.ofNat 3=>true
 | _,_=>false
def jH(n:Int):Int:=max (min n 1048576) (-1048576)
def nG(p v:Int):Int:=bif decide (jH (p+v)=p+v) then v else 0
def jE(e:XO):XO:=⟨e.iD,⟨e.l.n,λj=>
 bif Nat.beq j (X1 e.l 1) then⟨(e.l.c (X1 e.l 1)).kind,jH ((e.l.c (X1 e.l 1)).v0+(e.l.c (X1 e.l 2)).v0),jH ((e.l.c (X1 e.l 1)).v1+(e.l.c (X1 e.l 2)).v1),(e.l.c (X1 e.l 1)).v2,(e.l.c (X1 e.l 1)).v3⟩
 else bif Nat.beq j (X1 e.l 2) then⟨(e.l.c (X1 e.l 2)).kind,nG (e.l.c (X1 e.l 1)).v0 (e.l.c (X1 e.l 2)).v0,nG (e.l.c (X1 e.l 1)).v1 (e.l.c (X1 e.l 2)).v1,(e.l.c (X1 e.l 2)).v2,(e.l.c (X1 e.l 2)).v3⟩
 else e.l.c j⟩⟩
def lx(e:XO)(b:Body):XO:=⟨e.iD,⟨e.l.n,λj=>
 bif Nat.beq j (X1 e.l 1) then⟨(e.l.c (X1 e.l 1)).kind,b.posX,b.posY,(e.l.c (X1 e.l 1)).v2,(e.l.c (X1 e.l 1)).v3⟩
 else bif !(bL e).1.fixed&&Nat.beq j (X1 e.l 2) then⟨(e.l.c (X1 e.l 2)).kind,b.velX,b.velY,(e.l.c (X1 e.l 2)).v2,(e.l.c (X1 e.l 2)).v3⟩
 else e.l.c j⟩⟩
theorem Rt{p:Int}(hp : -1048576<=p∧p<=1048576)(hv : -4096<=v∧v<=4096):(decide (min p v < -1099511627776)||decide (1099511627776<max p v))=false:=by rw[Xi (by omega),Xi (by omega)];rfl
theorem iV{a b:Nat}(h:a≠b):Nat.beq a b=false:=by
 cases hb:Nat.beq a b with
 | false=>rfl
 | true=>exact P' (Nb hb) h
theorem Fj : (jE e).l.c (X1 e.l 1)=⟨(e.l.c (X1 e.l 1)).kind,jH ((e.l.c (X1 e.l 1)).v0+(e.l.c (X1 e.l 2)).v0),jH ((e.l.c (X1 e.l 1)).v1+(e.l.c (X1 e.l 2)).v1),(e.l.c (X1 e.l 1)).v2,(e.l.c (X1 e.l 1)).v3⟩:=by unfold jE;simp only[Xv,cond_true]
theorem Fi(h:X1 e.l 2≠X1 e.l 1):(jE e).l.c (X1 e.l 2)=⟨(e.l.c (X1 e.l 2)).kind,nG (e.l.c (X1 e.l 1)).v0 (e.l.c (X1 e.l 2)).v0,nG (e.l.c (X1 e.l 1)).v1 (e.l.c (X1 e.l 2)).v1,(e.l.c (X1 e.l 2)).v2,(e.l.c (X1 e.l 2)).v3⟩:=by unfold jE;simp only[iV h,Xv,cond_true,cond_false]
theorem Fh(h1:j≠X1 e.l 1)(h2:j≠X1 e.l 2):(jE e).l.c j=e.l.c j:=by unfold jE;simp only[iV h1,iV h2,cond_false]
theorem JL : (lx e b).l.c (X1 e.l 1)=⟨(e.l.c (X1 e.l 1)).kind,b.posX,b.posY,(e.l.c (X1 e.l 1)).v2,(e.l.c (X1 e.l 1)).v3⟩:=by unfold lx;simp only[Xv,cond_true]
theorem UO(h:X1 e.l 2≠X1 e.l 1)(hf:(bL e).1.fixed=false):(lx e b).l.c (X1 e.l 2)=⟨(e.l.c (X1 e.l 2)).kind,b.velX,b.velY,(e.l.c (X1 e.l 2)).v2,(e.l.c (X1 e.l 2)).v3⟩:=by unfold lx;simp only[iV h,Xv,hf,cond_true,cond_false,Bool.not_false,Bool.and_self]
theorem JK(h1:j≠X1 e.l 1)(h2:(bL e).1.fixed=true∨j≠X1 e.l 2):(lx e b).l.c j=e.l.c j:=by unfold lx;rcases h2 with h2|h2;simp only[iV h1,h2,cond_false,Bool.not_true,Bool.false_and];simp only[iV h1,iV h2,cond_false,Bool.and_false]
theorem Tm(h1:iu e.l 1=true)(h2:iu e.l 2=false)(h3:iu e.l 3=true):(bL e).1.fixed=true:=by
 have hf:rD e=true:=by unfold rD;rw[jG,h2];simp
 unfold bL;rw[jG,jG,h1,h3];show (kN e).fixed=true;unfold kN;rw[hf]
theorem nD{p:Int}(hp : -1048576<=p∧p<=1048576)(hv : -4096<=v∧v<=4096):Yd (p+v):=by unfold Yd;omega
theorem iA(h:e.pK)(hb:iu e.l q=true):(e.l.c (X1 e.l q)).kind=q∧(e.l.c (X1 e.l q)).Fits∧X1 e.l q<e.l.n:=by have hi:X1 e.l q<e.l.n:=Od hb;exact⟨As hb,h.fits _ hi,hi⟩
def Td:Y0 cx:=⟨114,Tryz.call114,Tryz.f114,Tryz.func114,[],[],[],3,by kernel_rfl⟩
def jr(e:XO):XO:=⟨e.iD,⟨e.l.n,λi=>e.l.c (0+i)⟩⟩
theorem fj : jr e=e:=by unfold jr;simp only[B']
end
section
open Go.Conc Go.RowKit
def bH:How:=⟨[1003],[],[],0⟩
end
section
open Go.RowKit
set_option maxRecDepth 8000
set_option maxHeartbeats 2000000
def rkq(x:SV):Int:=match x with|.rp (y::_) _=>y.iv|_=>0
def kxq(x:SV):Int:=match x with|.f _ _ (y::_)=>rkq y|_=>0
theorem IQ:∀a,aD ((λa=>[∃e:XO,a.2=.rp e.cells 0]) a)->aJ (C:=cx) [] [] 0 ak Tryz.f116 ((aH p8 YS).enc a) λv H _=>ae ((λa=>.v (.bool (decide (a.1.iD=rkq a.2)))) a) H v:=by intro⟨b,x⟩ hx;obtain⟨e,hx⟩:∃e:XO,x=.rp e.cells 0:=hx;subst hx;exact rfl
def Qk:XR cx:=af 116 Tryz.call116 (aH p8 YS) _ _ (λ_=>ak) [] (λ_=>rfl) follows Tryz.func116 (by kernel_rfl) IQ
def SZ(F:Bds)(e:XO):Cut:=⟨Nat,λk=>k<=F.n∧YK (λi=>decide ((F.e i).iD=e.iD)) 0 F.n=YK (λi=>decide ((F.e i).iD=e.iD)) k (F.n-k),
 λk=>⟨[sl 0 F.sv,sl 1 (.f (.func 116) [] [.rp e.cells 0]),sl 7 (i64 F.n),sl 8 (i64 k)],[],0,0,[],[]⟩,λk=>F.n-k⟩
theorem DU:∀a,aD ((λa=>[a.1.n<=1000,∃e:XO,a.2=.f (.func 116) [] [.rp e.cells 0]]) a)->aJ (C:=cx) [Qk] [] 0 ⟨[],[],[2],0⟩ Tryz.f115 ((aH Ey YS).enc a) λv H _=>ae ((λa=>.v (.int .i64 (YO (λi=>decide ((a.1.e i).iD=kxq a.2)) a.1.n))) a) H v:=by
 intro⟨⟨N,F⟩,x⟩ ⟨hm,hx⟩;obtain⟨e,hx⟩:∃e:XO,x=.f (.func 116) [] [.rp e.cells 0]:=hx;subst hx;replace hm:N<=1000:=hm;refine F8 (SZ ⟨N,F⟩ e) ?_;refine Ai ?_ ?_
 ·refine⟨(0:Nat),[],[],trivial,⟨F9 _,rfl⟩,?_⟩;repeat' first|apply Ai|exact rfl|intro
 refine fun(k:Nat) (hk:k<=N∧YK (λi=>decide ((F i).iD=e.iD)) 0 N=YK (λi=>decide ((F i).iD=e.iD)) k (N-k))=>?_;obtain⟨k1,k2⟩:=hk;refine Ai (λhb=>?_) (λhb=>?_)
 ·have hb:(k:Int)<N:=Od hb;have e0:=jz (g:=(λi=>decide ((F i).iD=e.iD))) (k:=k) (n:=N) (by omega);refine Ai ⟨by omega,by omega⟩ ?_;refine Ai ⟨e,rfl⟩ ?_;refine Ai (λhc=>?_) (λhc=>?_);have hc:(decide ((F k).iD=e.iD))=true:=hc;simp only[hc] at e0;exact iX (g:=(λi=>decide ((F i).iD=e.iD))) (n:=N) (k2.trans e0) (by omega);have hc:(decide ((F k).iD=e.iD))=false:=hc;simp only[hc] at e0;refine Ai (by unfold XT;omega:XT ((k:Int)+1)) ?_;refine⟨k+1,[],[],(by show N-(k+1)<N-k;omega),⟨(by show k+1<=N;omega),by rw[k2,e0]⟩,?_⟩;repeat' first|apply Ai|exact rfl|intro
 have hb:¬(k:Int)<N:=Xg hb;refine gI (g:=(λi=>decide ((F i).iD=e.iD))) (n:=N) ?_;rw[k2,show N-k=0 by omega];show k=N;omega
def Mg:XR cx:=af 115 Tryz.call115 (aH Ey YS) _ _ (λ_=>⟨[],[],[2],0⟩) [] (λ_=>rfl) follows Tryz.func115 (by kernel_rfl) DU
end
section
open Go.Conc Go.RowKit
end
section
open Go.RowKit
end
section
open Go.Conc Go.RowKit
end
section
open Go.RowKit
end
section
open Go.RowKit
end
section
open Go.RowKit
end
end
end Go.Proofs.YtmdpdknpapjchaaGreatDoor
