/- step.Step of at most one body, without ropes.. -/
import Derived.Test.YtgigkennhdolpaaGreatDoorM33
import Derived.Test.YtgigkennhdolpaaGreatDoorM19
import Derived.Test.YtgigkennhdolpaaGreatDoorM29
import Derived.Test.YtgigkennhdolpaaGreatDoorM32
namespace Go.Proofs.YtgigkennhdolpaaGreatDoor
open Go.RowKit
theorem EK{b:Body}(h:b.ok=true) : -4096<=b.velX∧b.velX<=4096∧-4096<=b.velY∧b.velY<=4096∧-1048576<=b.posX∧b.posX<=1048576∧-1048576<=b.posY∧b.posY<=1048576:=by
 have h1:b.nP=false:=by cases hb:b.nP with|false=>rfl|true=>unfold Body.ok at h;rw[hb] at h;cases h
 unfold Body.nP qz okI at h1;simp only[UA,Bool.not_eq_false',Uk,Bool.not_eq_true',Us] at h1;obtain⟨⟨⟨-,h2⟩,h3⟩,-⟩:=h1;omega
def nq(n:Int):Int:=if n<0 then -1 else 1
def KV:List SV:=[.v (.slice none 0 0),.v (.slice none 0 0),.il .i64 0,.il .i64 0]
def ctS(r:Yt)(x y:Int)(b0 b:Body)(vx vy:Int)(ax mv nm:Nat)(s5:SV)(Hx:aY)(sg:Int):Cut:=⟨Unit,λ_=>True,λ_=>⟨[sl 1 (.p 0 0),sl 2 (.p 1 0),sl 5 s5,sl 6 (.il .i64 0),sl 7 (.p 3 0),sl 8 (.p 4 0),sl 9 (.il .i64 ax),sl 10 (.p 4 ax),sl 11 (.p mv 0),sl 28 (.g 2 2 9 0 1),sl 29 (i64 1),sl 30 (.il .i64 0),sl 41 (.agg [.p 4 0,.p 4 1]),sl 42 (.il .i64 ax)],
 (mv,.lay ([.g 2 2 9 0 1,r.sv,i64 x,i64 y]++b.cells++[.il .i64 ax,i64 sg]) 216)::(Hx++[(0,.lay [.g 2 2 9 0 1,r.sv,i64 x,i64 y] 161),(1,.lay KV 161),(2,.lst 2 9 1 (λ_=>b.cells) 209),(3,.lay b0.cells 209),(4,.lay [i64 vx,i64 vy] 23)]),nm,0,[],[]⟩,λ_=>0⟩
theorem Ny{α:Type}{i:Nat}(h:i<1)(p q:α):p=bif Nat.beq i 0 then p else q:=by rw[show i=0 by omega];rfl
def Sj(r:Yt)(x y:Int)(b:Body)(ax:Nat)(sg:Int):Xq:=⟨⟨1,λ_=>b⟩,r,x,y,b.iD,b.posX,b.posY,b.velX,b.velY,b.w,b.h,b.round,b.fixed,ax,sg⟩
structure qv (b:Body):Prop where
 x1 : -1048576<=b.posX
 x2:b.posX<=1048576
 y1 : -1048576<=b.posY
 y2:b.posY<=1048576
theorem oT(v:Int):(v<0∧nq v = -1)∨(0<=v∧nq v=1):=by unfold nq;by_cases h:v<0;exact .inl ⟨h,Uw h⟩;exact .inr ⟨by omega,Uv h⟩
theorem Bc{r:Yt}{x y:Int}{b:Body}{ax:Nat}{v:Int}(hr:r.n=0)(hb:qv b)(h1 : -4096<=v)(h2:v<=4096):(Sj r x y b ax (nq v)).Ok ax (max v (-v)):=by refine⟨rfl,?_,?_,?_,by omega,by omega,hr,I' 1,λi hi=>rfl⟩;show nq v=1∨nq v = -1;rcases oT v with h|h;exact .inr h.2;exact .inl h.2;unfold rT;split;exact hb.x1;exact hb.y1;unfold rT;split;exact hb.x2;exact hb.y2
theorem Jd{b:Body}{ax:Nat}{v:Int}(hb:qv b)(h1 : -4096<=v)(h2:v<=4096):0<=sT b ax v∧sT b ax v<=4096∧-1048576<=rT (yo b ax v) ax+nq v*sT b ax v∧rT (yo b ax v) ax+nq v*sT b ax v<=1048576:=by
 have hp : -1048576<=rT (yo b ax v) ax∧rT (yo b ax v) ax<=1048576:=by unfold rT;split;exact⟨hb.x1,hb.x2⟩;exact⟨hb.y1,hb.y2⟩
 unfold sT Hs Ca NV;have hs:(yo b ax v).sign=nq v:=rfl;rw[hs];generalize rT (yo b ax v) ax=q at hp ⊢;rcases oT v with h|h<;>rw[h.2]<;>omega
theorem xY{b:Body}{v:Int}(hb:qv b)(h1 : -4096<=v)(h2:v<=4096):qv (ZC b 0 v):=by have h:=Jd (ax:=0) hb h1 h2;exact⟨h.2.2.1,h.2.2.2,hb.y1,hb.y2⟩
theorem IQ{b:Body}{ax:Nat}{v:Int}(hb:qv b)(h1 : -4096<=v)(h2:v<=4096):Vd (nq v*sT b ax v)∧Vd (b.posX+nq v*sT b ax v)∧Vd (b.posY+nq v*sT b ax v):=by have h:=Jd (ax:=ax) hb h1 h2;have:=hb.x1;have:=hb.x2;have:=hb.y1;have:=hb.y2;unfold Vd;rcases oT v with h'|h'<;>rw[h'.2] at h ⊢<;>omega
theorem Hd{b:Body}{g v:Vec}(h:gT b g=v) : -4096<=v.x∧v.x<=4096∧-4096<=v.y∧v.y<=4096:=by subst h;unfold gT;split;exact⟨by decide,by decide,by decide,by decide⟩;show -4096<=l7 _∧l7 _<=4096∧-4096<=l7 _∧l7 _<=4096;unfold l7;omega
set_option maxHeartbeats 4000000 in
set_option maxRecDepth 8000 in
theorem FT:∀a,aH ((λa=>[gOk ⟨a.gravityX,a.gravityY⟩,a.ropes.n=0,a.bodies.n<=1,∀i,i<a.bodies.n->(a.bodies.e i).ok=true]) a)->aM (C:=cx) [M6,QL,BA,JI,fe,QC,S3] [] 0 ⟨[],[16],[],3⟩ Tryz.f80 ((bh p9).enc a) λv H _=>ae ((λa=>.tup [(xH a).sv,(np (nj a)).sv,.v (.int .i64 0)]) a) H v:=by
 intro⟨⟨n,e⟩,⟨m,r⟩,x,y⟩ ⟨hg,hm,hn,Vg⟩;obtain rfl:m=0:=hm;replace hn:n<=1:=hn;rcases Nat.lt_or_ge 0 n with hp|hp
 ·obtain rfl:n=1:=(by omega);have hok0:(e 0).ok=true:=Vg 0 Nat.zero_lt_one;have n1:(!(decide ((1:Nat)=0)||(e 0).ok))=false:=(by rw[hok0];rfl);refine Ai ⟨λ_ _=>trivial,λ_ _=>trivial,hg,rfl,I' 1⟩ ?_;refine Ai (λhb=>Up (n1.symm.trans hb) (by decide)) (λhb=>?_);refine Ai ⟨λ_ _=>trivial,(by decide:1<=1000)⟩ ?_;refine Ai ⟨λ_ _=>trivial,(by decide:0<=1000)⟩ ?_;refine Ai (λhb=>?_) (λhb=>Up (show decide ((0:Int)<1)=false from hb) (by decide));refine Ai ⟨(by decide:(0:Int)<=0),(by decide:(0:Int)<1)⟩ ?_;refine Ai (λhb=>?_) (λhb=>?_)
  ·have hf:(e 0).fixed=true:=hb;have U4:kX (e 0) ⟨x,y⟩=e 0:=(by unfold kX;rw[hf]);have hF:∀i,i<1->kX (e i) ⟨x,y⟩=e (0+i):=λi hi=>(by rw[show i=0 by omega];exact U4);have hsp:iM (e 0) ⟨x,y⟩=[]:=(by unfold iM;rw[hf]);refine Ai (λhb=>Up (show decide ((1:Int)<1)=true from hb) (by decide)) (λhb=>?_);repeat' (first|refine Ai ?_ ?_|intro _|exact rfl)
   all_goals first|exact Uo Body.iD (hF _ (by assumption))|exact Uo Body.posX (hF _ (by assumption))|exact Uo Body.posY (hF _ (by assumption))|exact Uo Body.velX (hF _ (by assumption))|exact Uo Body.velY (hF _ (by assumption))|exact Uo Body.w (hF _ (by assumption))|exact Uo Body.h (hF _ (by assumption))|exact Uo Body.round (hF _ (by assumption))|exact Uo Body.fixed (hF _ (by assumption))|exact Uo List.length hsp|exact Up ‹_<0› (F' _)
  have hf:(e 0).fixed=false:=hb;obtain⟨vx1,vx2,vy1,vy2,px1,px2,py1,py2⟩:=EK hok0;refine Ai ⟨hg,hok0,⟨by show -1000000<=(e 0).velX;omega,by show (e 0).velX<=1000000;omega⟩,by show -1000000<=(e 0).velY;omega,by show (e 0).velY<=1000000;omega⟩ ?_;refine Ai ⟨(by decide:(0:Int)<=0),(by decide:(0:Int)<1)⟩ ?_;have e1:∀i,i<1->e (0+i)=e 0:=λi hi=>(by rw[show 0+i=0 by omega]);generalize hv:gT (e 0) ⟨x,y⟩=v;refine Uh (ctS ⟨0,r⟩ x y (e 0) (e 0) v.x v.y 0 5 6 (.v (.slice none 0 0)) [] (nq v.x)) ?_;have hE:∀i,i<1->e 0=e i:=λi hi=>(by rw[show i=0 by omega]);refine Ai (Ai (λhb=>?_) (λhb=>?_)) ?_
  ·have X0:v.x<0:=(by rw[<-hv];exact Od hb);refine⟨(),[],[],trivial,trivial,?_⟩;repeat' (first|refine Ai ?_ ?_|intro _|exact rfl)
   all_goals first|exact Uo Body.iD (hE _ (by assumption))|exact Uo Body.posX (hE _ (by assumption))|exact Uo Body.posY (hE _ (by assumption))|exact Uo Body.velX (hE _ (by assumption))|exact Uo Body.velY (hE _ (by assumption))|exact Uo Body.w (hE _ (by assumption))|exact Uo Body.h (hE _ (by assumption))|exact Uo Body.round (hE _ (by assumption))|exact Uo Body.fixed (hE _ (by assumption))|exact Uw X0|exact(Uo Vec.x hv).symm|exact(Uo Vec.y hv).symm
  ·have X0:¬v.x<0:=(by rw[<-hv];exact Ur hb);refine⟨(),[],[],trivial,trivial,?_⟩;repeat' (first|refine Ai ?_ ?_|intro _|exact rfl)
   all_goals first|exact Uo Body.iD (hE _ (by assumption))|exact Uo Body.posX (hE _ (by assumption))|exact Uo Body.posY (hE _ (by assumption))|exact Uo Body.velX (hE _ (by assumption))|exact Uo Body.velY (hE _ (by assumption))|exact Uo Body.w (hE _ (by assumption))|exact Uo Body.h (hE _ (by assumption))|exact Uo Body.round (hE _ (by assumption))|exact Uo Body.fixed (hE _ (by assumption))|exact Uv X0|exact(Uo Vec.x hv).symm|exact(Uo Vec.y hv).symm
  obtain⟨sx1,sx2,sy1,sy2⟩:=Hd hv;have hP:qv (e 0):=⟨px1,px2,py1,py2⟩
  refine fun(_:Unit) _=>?_;refine Ai (show Vd (-v.x) by unfold Vd;omega) ?_;refine Ai ⟨λ_ _=>trivial,λ_ _=>trivial,.inl rfl,Bc (r:=⟨0,r⟩) (x:=x) (y:=y) (ax:=0) rfl hP sx1 sx2⟩ ?_;refine Ai ⟨λ_ _=>trivial,λ_ _=>trivial,.inl rfl,IQ (ax:=0) hP sx1 sx2⟩ ?_;refine Ai ⟨(by decide:(0:Int)<=0),(by decide:(0:Int)<1)⟩ ?_;refine Ai (λ_ _=>⟨rfl,rfl,rfl,rfl,rfl,rfl,rfl,trivial,trivial,trivial⟩) ?_;refine Ai (λhb=>?_) (λhb=>?_)
  ·-- stopped along X
   refine Ai (⟨by decide,by decide⟩:dW 1 24) ?_;refine Ai ⟨(by decide:(0:Int)<=0),(by decide:(0:Int)<1)⟩ ?_;refine Uh (ctS ⟨0,r⟩ x y (e 0) (ZC (e 0) 0 v.x) 0 v.y 1 8 9 (.g 7 7 3 0 1) [(7,.lst 7 3 1 (λ_=>(Stop.mk (e 0).iD 1 (-1)).cells) 123)] (nq v.y)) ?_;refine Ai (Ai (λVi=>?_) (λVi=>?_)) ?_
   ·have X0:v.y<0:=Od Vi;refine⟨(),[],[],trivial,trivial,?_⟩;repeat' (first|refine Ai ?_ ?_|intro _|exact rfl)
    all_goals first|exact Ny (by assumption) _ _|exact Uw X0
   ·have X0:¬v.y<0:=Ur Vi;refine⟨(),[],[],trivial,trivial,?_⟩;repeat' (first|refine Ai ?_ ?_|intro _|exact rfl)
    all_goals first|exact Ny (by assumption) _ _|exact Uv X0
   refine fun(_:Unit) _=>?_;have hP2:qv (ZC (e 0) 0 v.x):=xY hP sx1 sx2;refine Ai (show Vd (-v.y) by unfold Vd;omega) ?_;refine Ai ⟨λ_ _=>trivial,λ_ _=>trivial,.inr rfl,Bc (r:=⟨0,r⟩) (x:=x) (y:=y) (ax:=1) rfl hP2 sy1 sy2⟩ ?_;refine Ai ⟨λ_ _=>trivial,λ_ _=>trivial,.inr rfl,IQ (ax:=1) hP2 sy1 sy2⟩ ?_;refine Ai ⟨(by decide:(0:Int)<=0),(by decide:(0:Int)<1)⟩ ?_;refine Ai (λ_ _=>⟨rfl,rfl,rfl,rfl,rfl,rfl,rfl,trivial,trivial,trivial⟩) ?_;refine Ai (λVi=>?_) (λVi=>?_)
   ·have hX:uc (e 0) ⟨x,y⟩=true:=(by unfold uc;rw[hv];exact hb);have hY:ub (e 0) ⟨x,y⟩=true:=(by unfold ub mU;rw[hv];exact Vi);have V9:kX (e 0) ⟨x,y⟩ = {ZC (ZC (e 0) 0 v.x) 1 v.y with velX:=0,velY:=0}:=(by unfold kX xC mU;rw[hf,hX,hY,hv];rfl);have XN:iM (e 0) ⟨x,y⟩=[⟨(e 0).iD,1,-1⟩,⟨(e 0).iD,2,-1⟩]:=(by unfold iM;rw[hf,hX,hY];rfl);repeat' (first|refine Ai ?_ ?_|(intro hh;exact Up (show decide ((1:Int)<1)=true from hh) (by decide))|(intro _)|exact rfl)
    all_goals first|exact trivial|exact(by decide:(0:Int)<=0)|exact(by decide:(0:Int)<1)|(show (2:Nat)<=maxLen;decide)|(show (1:Nat)<=maxLen;decide)|(show (2*24:Nat)<=140737488355328;decide)|(show (1*24:Nat)<=140737488355328;decide)|exact Uo List.length XN|exact Up ‹_<0› (F' _)|(rename_i i hi;revert i;refine nE ?_;first|exact(Uo Body.iD V9).trans rfl|exact(Uo Body.posX V9).trans rfl|exact(Uo Body.posY V9).trans rfl|exact(Uo Body.velX V9).trans rfl|exact(Uo Body.velY V9).trans rfl|exact(Uo Body.w V9).trans rfl|exact(Uo Body.h V9).trans rfl|exact(Uo Body.round V9).trans rfl|exact(Uo Body.fixed V9).trans rfl|(show (_:Bool)=_;exact(Uo Body.fixed V9).trans rfl))|(rename_i i hi;revert i;refine vC ?_ ?_<;>first|exact(Uo (λL=>(fU L _).iD) XN).trans rfl|(show (_:Int)=_;exact(Uo (λL=>(fU L _).iD) XN).trans rfl)|exact(Uo (λL=>(fU L _).along) XN).trans rfl|(show (_:Int)=_;exact(Uo (λL=>(fU L _).along) XN).trans rfl)|exact(Uo (λL=>(fU L _).byI) XN).trans rfl|(show (_:Int)=_;exact(Uo (λL=>(fU L _).byI) XN).trans rfl))|skip
   have hX:uc (e 0) ⟨x,y⟩=true:=(by unfold uc;rw[hv];exact hb);have hY:ub (e 0) ⟨x,y⟩=false:=(by unfold ub mU;rw[hv];exact Vi);have V9:kX (e 0) ⟨x,y⟩ = {ZC (ZC (e 0) 0 v.x) 1 v.y with velX:=0,velY:=v.y}:=(by unfold kX xC mU;rw[hf,hX,hY,hv];rfl);have XN:iM (e 0) ⟨x,y⟩=[⟨(e 0).iD,1,-1⟩]:=(by unfold iM;rw[hf,hX,hY];rfl);repeat' (first|refine Ai ?_ ?_|(intro hh;exact Up (show decide ((1:Int)<1)=true from hh) (by decide))|(intro _)|exact rfl)
   all_goals first|exact trivial|exact(by decide:(0:Int)<=0)|exact(by decide:(0:Int)<1)|(show (2:Nat)<=maxLen;decide)|(show (1:Nat)<=maxLen;decide)|(show (2*24:Nat)<=140737488355328;decide)|(show (1*24:Nat)<=140737488355328;decide)|exact Uo List.length XN|exact Up ‹_<0› (F' _)|(rename_i i hi;revert i;refine nE ?_;first|exact(Uo Body.iD V9).trans rfl|exact(Uo Body.posX V9).trans rfl|exact(Uo Body.posY V9).trans rfl|exact(Uo Body.velX V9).trans rfl|exact(Uo Body.velY V9).trans rfl|exact(Uo Body.w V9).trans rfl|exact(Uo Body.h V9).trans rfl|exact(Uo Body.round V9).trans rfl|exact(Uo Body.fixed V9).trans rfl|(show (_:Bool)=_;exact(Uo Body.fixed V9).trans rfl))|(rename_i i hi;revert i;refine nE ?_<;>first|exact(Uo (λL=>(fU L _).iD) XN).trans rfl|(show (_:Int)=_;exact(Uo (λL=>(fU L _).iD) XN).trans rfl)|exact(Uo (λL=>(fU L _).along) XN).trans rfl|(show (_:Int)=_;exact(Uo (λL=>(fU L _).along) XN).trans rfl)|exact(Uo (λL=>(fU L _).byI) XN).trans rfl|(show (_:Int)=_;exact(Uo (λL=>(fU L _).byI) XN).trans rfl))|skip
  ·-- not stopped along X
   refine Ai ⟨(by decide:(0:Int)<=0),(by decide:(0:Int)<1)⟩ ?_;refine Uh (ctS ⟨0,r⟩ x y (e 0) (ZC (e 0) 0 v.x) v.x v.y 1 6 7 (.v (.slice none 0 0)) [] (nq v.y)) ?_;refine Ai (Ai (λVi=>?_) (λVi=>?_)) ?_
   ·have X0:v.y<0:=Od Vi;refine⟨(),[],[],trivial,trivial,?_⟩;repeat' (first|refine Ai ?_ ?_|intro _|exact rfl)
    all_goals first|exact Ny (by assumption) _ _|exact Uw X0
   ·have X0:¬v.y<0:=Ur Vi;refine⟨(),[],[],trivial,trivial,?_⟩;repeat' (first|refine Ai ?_ ?_|intro _|exact rfl)
    all_goals first|exact Ny (by assumption) _ _|exact Uv X0
   refine fun(_:Unit) _=>?_;have hP2:qv (ZC (e 0) 0 v.x):=xY hP sx1 sx2;refine Ai (show Vd (-v.y) by unfold Vd;omega) ?_;refine Ai ⟨λ_ _=>trivial,λ_ _=>trivial,.inr rfl,Bc (r:=⟨0,r⟩) (x:=x) (y:=y) (ax:=1) rfl hP2 sy1 sy2⟩ ?_;refine Ai ⟨λ_ _=>trivial,λ_ _=>trivial,.inr rfl,IQ (ax:=1) hP2 sy1 sy2⟩ ?_;refine Ai ⟨(by decide:(0:Int)<=0),(by decide:(0:Int)<1)⟩ ?_;refine Ai (λ_ _=>⟨rfl,rfl,rfl,rfl,rfl,rfl,rfl,trivial,trivial,trivial⟩) ?_;refine Ai (λVi=>?_) (λVi=>?_)
   ·have hX:uc (e 0) ⟨x,y⟩=false:=(by unfold uc;rw[hv];exact hb);have hY:ub (e 0) ⟨x,y⟩=true:=(by unfold ub mU;rw[hv];exact Vi);have V9:kX (e 0) ⟨x,y⟩ = {ZC (ZC (e 0) 0 v.x) 1 v.y with velX:=v.x,velY:=0}:=(by unfold kX xC mU;rw[hf,hX,hY,hv];rfl);have XN:iM (e 0) ⟨x,y⟩=[⟨(e 0).iD,2,-1⟩]:=(by unfold iM;rw[hf,hX,hY];rfl);repeat' (first|refine Ai ?_ ?_|(intro hh;exact Up (show decide ((1:Int)<1)=true from hh) (by decide))|(intro _)|exact rfl)
    all_goals first|exact trivial|exact(by decide:(0:Int)<=0)|exact(by decide:(0:Int)<1)|(show (2:Nat)<=maxLen;decide)|(show (1:Nat)<=maxLen;decide)|(show (2*24:Nat)<=140737488355328;decide)|(show (1*24:Nat)<=140737488355328;decide)|exact Uo List.length XN|exact Up ‹_<0› (F' _)|(rename_i i hi;revert i;refine nE ?_;first|exact(Uo Body.iD V9).trans rfl|exact(Uo Body.posX V9).trans rfl|exact(Uo Body.posY V9).trans rfl|exact(Uo Body.velX V9).trans rfl|exact(Uo Body.velY V9).trans rfl|exact(Uo Body.w V9).trans rfl|exact(Uo Body.h V9).trans rfl|exact(Uo Body.round V9).trans rfl|exact(Uo Body.fixed V9).trans rfl|(show (_:Bool)=_;exact(Uo Body.fixed V9).trans rfl))|(rename_i i hi;revert i;refine nE ?_<;>first|exact(Uo (λL=>(fU L _).iD) XN).trans rfl|(show (_:Int)=_;exact(Uo (λL=>(fU L _).iD) XN).trans rfl)|exact(Uo (λL=>(fU L _).along) XN).trans rfl|(show (_:Int)=_;exact(Uo (λL=>(fU L _).along) XN).trans rfl)|exact(Uo (λL=>(fU L _).byI) XN).trans rfl|(show (_:Int)=_;exact(Uo (λL=>(fU L _).byI) XN).trans rfl))|skip
   have hX:uc (e 0) ⟨x,y⟩=false:=(by unfold uc;rw[hv];exact hb);have hY:ub (e 0) ⟨x,y⟩=false:=(by unfold ub mU;rw[hv];exact Vi);have V9:kX (e 0) ⟨x,y⟩ = {ZC (ZC (e 0) 0 v.x) 1 v.y with velX:=v.x,velY:=v.y}:=(by unfold kX xC mU;rw[hf,hX,hY,hv];rfl);have XN:iM (e 0) ⟨x,y⟩=[]:=(by unfold iM;rw[hf,hX,hY];rfl);repeat' (first|refine Ai ?_ ?_|(intro hh;exact Up (show decide ((1:Int)<1)=true from hh) (by decide))|(intro _)|exact rfl)
   all_goals first|exact trivial|exact(by decide:(0:Int)<=0)|exact(by decide:(0:Int)<1)|(show (2:Nat)<=maxLen;decide)|(show (1:Nat)<=maxLen;decide)|(show (2*24:Nat)<=140737488355328;decide)|(show (1*24:Nat)<=140737488355328;decide)|exact Uo List.length XN|exact Up ‹_<0› (F' _)|(rename_i i hi;revert i;refine nE ?_;first|exact(Uo Body.iD V9).trans rfl|exact(Uo Body.posX V9).trans rfl|exact(Uo Body.posY V9).trans rfl|exact(Uo Body.velX V9).trans rfl|exact(Uo Body.velY V9).trans rfl|exact(Uo Body.w V9).trans rfl|exact(Uo Body.h V9).trans rfl|exact(Uo Body.round V9).trans rfl|exact(Uo Body.fixed V9).trans rfl|(show (_:Bool)=_;exact(Uo Body.fixed V9).trans rfl))
 obtain rfl:n=0:=by omega
 refine Ai ⟨λ_ _=>trivial,λ_ _=>trivial,hg,rfl,Ui 1⟩ ?_;refine Ai (λhb=>Up (show (!(decide ((0:Nat)=0)||(e 0).ok))=true from hb) (by simp)) (λhb=>?_);refine Ai ⟨λ_ _=>trivial,(by decide:0<=1000)⟩ ?_;refine Ai ⟨λ_ _=>trivial,(by decide:0<=1000)⟩ ?_;refine Ai (λhb=>Up (show decide ((0:Int)<0)=true from hb) (by decide)) (λhb=>?_);repeat' (first|refine Ai ?_ ?_|intro _|exact rfl)
 all_goals exact Up ‹_<_› (F' _)
noncomputable def MU:UO cx:=ai 80 Tryz.call80 (bh p9) _ _ (λ_=>⟨[],[16],[],3⟩) [] (λ_=>rfl) follows Tryz.func80 (by kernel_rfl) FT
set_option maxHeartbeats 2000000 in
set_option maxRecDepth 8000 in
theorem An:∀a,aH ((λa=>[a.n<=1000]) a)->aM (C:=cx) [] [] 0 av Tryz.f92 ((bh jc).enc a) λv H _=>qL ((λa=>a.sv) a) 46 H v:=by
 intro l hm;replace hm:l.n<=1000:=hm;intro b hb;refine Ai (λh=>?_) (λh=>?_);have h:(b != false)=true:=h;have hn:=hb (by simpa using h);exact⟨hn,hn⟩;have hf:dW l.n 40:=⟨Nat.le_trans hm (by decide),by omega⟩
 refine Ai hf ?_;repeat' (first|refine Ai ?_ ?_|intro _|exact rfl)
 all_goals (show (_:Int)=_;first|(rw[B'];done)|(rw[B'];rfl))
noncomputable def pM:UO cx:=xw 92 Tryz.call92 (bh jc) (λa=>[a.n<=1000]) (λa=>a.sv) 46 (λ_=>av) [] (λ_=>rfl) follows Tryz.func92 (by kernel_rfl) An
theorem az{α:Type}{k:Nat}{x:α}{f:Nat->α}{p:Nat->α->Prop}(h1:p k x)(h2:∀i,i<k->p i (f i)):∀i,i<k+1->p i (AV k x f i):=λi hi=>by by_cases e:i=k;subst e;rw[qP];exact h1;rw[qO e];exact h2 i (by omega)
def yd(l:WU)(k e:Nat):SB:=.nst e 2 k (λi=>[.v (.int .i64 (l.e i).iD),.e]) 1 5 (λi=>((l.e i).l.n,λj=>((l.e i).l.c j).cells)) 46 42 none
def uq:List SV:=[.il .i64 0,.v (.slice none 0 0)]
def UW(l:WL)(q:Int):Nat:=VI (λi=>decide ((l.c i).kind=q)) 0 l.n
def jx(l:WL)(q:Int):Bool:=decide (UW l q<l.n)
theorem iV{l:WL}{q:Int} : (bx l q).2=jx l q:=by unfold bx jx UW;cases decide (VI (λi=>decide ((l.c i).kind=q)) 0 l.n<l.n)<;>rfl
theorem w8{l:WL}{q:Int}(h:jx l q=true):(bx l q).1=l.c (UW l q):=by unfold bx;unfold jx UW at h;rw[h];rfl
theorem IL{l:WL}{q:Int}(h:jx l q=true):(l.c (UW l q)).kind=q:=by have:=C4 (g:=λi=>decide ((l.c i).kind=q)) (k:=0) (r:=l.n) (by have:=Od h;unfold UW at this;omega);exact Od this
def S5(b1 b2 b3:Bool):Nat:=match b1,b2,b3 with
 | false,false,false=>0
 | false,false,true=>16
 | false,true,false=>32
 | false,true,true=>48
 | true,false,false=>64
 | true,false,true=>80
 | true,true,false=>96
 | true,true,true=>112
def TJ(nm:Nat)(q:Int):Bool:=match (nm-8)/16,q with
 | 1,.ofNat 3=>true
 | 2,.ofNat 2=>true
 | 3,.ofNat 2=>true
 | 3,.ofNat 3=>true
 | 4,.ofNat 1=>true
 | 5,.ofNat 1=>true
 | 5,.ofNat 3=>true
 | 6,.ofNat 1=>true
 | 6,.ofNat 2=>true
 | 7,.ofNat 1=>true
 | 7,.ofNat 2=>true
 | 7,.ofNat 3=>true
 | _,_=>false
def iW(n:Int):Int:=max (min n 1048576) (-1048576)
def mK(p v:Int):Int:=bif decide (iW (p+v)=p+v) then v else 0
def iT(e:U3):U3:=⟨e.iD,⟨e.l.n,λj=>
 bif Nat.beq j (UW e.l 1) then⟨(e.l.c (UW e.l 1)).kind,iW ((e.l.c (UW e.l 1)).v0+(e.l.c (UW e.l 2)).v0),iW ((e.l.c (UW e.l 1)).v1+(e.l.c (UW e.l 2)).v1),(e.l.c (UW e.l 1)).v2,(e.l.c (UW e.l 1)).v3⟩
 else bif Nat.beq j (UW e.l 2) then⟨(e.l.c (UW e.l 2)).kind,mK (e.l.c (UW e.l 1)).v0 (e.l.c (UW e.l 2)).v0,mK (e.l.c (UW e.l 1)).v1 (e.l.c (UW e.l 2)).v1,(e.l.c (UW e.l 2)).v2,(e.l.c (UW e.l 2)).v3⟩
 else e.l.c j⟩⟩
def kE(e:U3)(b:Body):U3:=⟨e.iD,⟨e.l.n,λj=>
 bif Nat.beq j (UW e.l 1) then⟨(e.l.c (UW e.l 1)).kind,b.posX,b.posY,(e.l.c (UW e.l 1)).v2,(e.l.c (UW e.l 1)).v3⟩
 else bif !(bI e).1.fixed&&Nat.beq j (UW e.l 2) then⟨(e.l.c (UW e.l 2)).kind,b.velX,b.velY,(e.l.c (UW e.l 2)).v2,(e.l.c (UW e.l 2)).v3⟩
 else e.l.c j⟩⟩
theorem OG{p v:Int}(hp : -1048576<=p∧p<=1048576)(hv : -4096<=v∧v<=4096):(decide (min p v < -1099511627776)||decide (1099511627776<max p v))=false:=by rw[Ut (by omega),Ut (by omega)];rfl
theorem ij{a b:Nat}(h:a≠b):Nat.beq a b=false:=by
 cases hb:Nat.beq a b with
 | false=>rfl
 | true=>exact Up (Nb hb) h
theorem Dh{e:U3} : (iT e).l.c (UW e.l 1)=⟨(e.l.c (UW e.l 1)).kind,iW ((e.l.c (UW e.l 1)).v0+(e.l.c (UW e.l 2)).v0),iW ((e.l.c (UW e.l 1)).v1+(e.l.c (UW e.l 2)).v1),(e.l.c (UW e.l 1)).v2,(e.l.c (UW e.l 1)).v3⟩:=by unfold iT;simp only[UG,cond_true]
theorem Dg{e:U3}(h:UW e.l 2≠UW e.l 1):(iT e).l.c (UW e.l 2)=⟨(e.l.c (UW e.l 2)).kind,mK (e.l.c (UW e.l 1)).v0 (e.l.c (UW e.l 2)).v0,mK (e.l.c (UW e.l 1)).v1 (e.l.c (UW e.l 2)).v1,(e.l.c (UW e.l 2)).v2,(e.l.c (UW e.l 2)).v3⟩:=by unfold iT;simp only[ij h,UG,cond_true,cond_false]
theorem De{e:U3}{j:Nat}(h1:j≠UW e.l 1)(h2:j≠UW e.l 2):(iT e).l.c j=e.l.c j:=by unfold iT;simp only[ij h1,ij h2,cond_false]
theorem HO{e:U3}{b:Body} : (kE e b).l.c (UW e.l 1)=⟨(e.l.c (UW e.l 1)).kind,b.posX,b.posY,(e.l.c (UW e.l 1)).v2,(e.l.c (UW e.l 1)).v3⟩:=by unfold kE;simp only[UG,cond_true]
theorem RR{e:U3}{b:Body}(h:UW e.l 2≠UW e.l 1)(hf:(bI e).1.fixed=false):(kE e b).l.c (UW e.l 2)=⟨(e.l.c (UW e.l 2)).kind,b.velX,b.velY,(e.l.c (UW e.l 2)).v2,(e.l.c (UW e.l 2)).v3⟩:=by unfold kE;simp only[ij h,UG,hf,cond_true,cond_false,Bool.not_false,Bool.and_self]
theorem HN{e:U3}{b:Body}{j:Nat}(h1:j≠UW e.l 1)(h2:(bI e).1.fixed=true∨j≠UW e.l 2):(kE e b).l.c j=e.l.c j:=by unfold kE;rcases h2 with h2|h2;simp only[ij h1,h2,cond_false,Bool.not_true,Bool.false_and];simp only[ij h1,ij h2,cond_false,Bool.and_false]
theorem Qi{e:U3}(h1:jx e.l 1=true)(h2:jx e.l 2=false)(h3:jx e.l 3=true):(bI e).1.fixed=true:=by
 have hf:ql e=true:=by unfold ql;rw[iV,h2];simp
 unfold bI;rw[iV,iV,h1,h3];show (jU e).fixed=true;unfold jU;rw[hf]
theorem mH{p v:Int}(hp : -1048576<=p∧p<=1048576)(hv : -4096<=v∧v<=4096):Vd (p+v):=by unfold Vd;omega
theorem gP{e:U3}(h:e.vp){q:Int}(hb:jx e.l q=true):(e.l.c (UW e.l q)).kind=q∧(e.l.c (UW e.l q)).Fits∧UW e.l q<e.l.n:=by have hi:UW e.l q<e.l.n:=Od hb;exact⟨IL hb,h.fits _ hi,hi⟩
noncomputable def Qa:V3 cx:=⟨133,Tryz.call133,Tryz.f133,Tryz.func133,[],[],[],3,by kernel_rfl⟩
def iN(e:U3):U3:=⟨e.iD,⟨e.l.n,λi=>e.l.c (0+i)⟩⟩
theorem eP{e:U3} : iN e=e:=by unfold iN;simp only[B']
end Go.Proofs.YtgigkennhdolpaaGreatDoor
namespace Go.Proofs.YtgigkennhdolpaaGreatDoor
open Go.Conc Go.RowKit
def bH:XA:=⟨[1003],[],[],0⟩
end Go.Proofs.YtgigkennhdolpaaGreatDoor
namespace Go.Proofs.YtgigkennhdolpaaGreatDoor
open Go.RowKit
set_option maxRecDepth 8000
set_option maxHeartbeats 2000000
def rkq(x:SV):Int:=match x with|.rp (y::_) _=>y.iv|_=>0
def kxq(x:SV):Int:=match x with|.f _ _ (y::_)=>rkq y|_=>0
theorem GI:∀a,aH ((λa=>[∃e:U3,a.2=.rp e.cells 0]) a)->aM (C:=cx) [] [] 0 av Tryz.f135 ((aL oX V4).enc a) λv H _=>ae ((λa=>.v (.bool (decide (a.1.iD=rkq a.2)))) a) H v:=by intro⟨b,x⟩ hx;obtain⟨e,hx⟩:∃e:U3,x=.rp e.cells 0:=hx;subst hx;exact rfl
noncomputable def Nl:UO cx:=ai 135 Tryz.call135 (aL oX V4) _ _ (λ_=>av) [] (λ_=>rfl) follows Tryz.func135 (by kernel_rfl) GI
def P2(F:Bds)(e:U3):Cut:=⟨Nat,λk=>k<=F.n∧VI (λi=>decide ((F.e i).iD=e.iD)) 0 F.n=VI (λi=>decide ((F.e i).iD=e.iD)) k (F.n-k),
 λk=>⟨[sl 0 F.sv,sl 1 (.f (.func 135) [] [.rp e.cells 0]),sl 7 (i64 F.n),sl 8 (i64 k)],[],0,0,[],[]⟩,λk=>F.n-k⟩
theorem BY:∀a,aH ((λa=>[a.1.n<=1000,∃e:U3,a.2=.f (.func 135) [] [.rp e.cells 0]]) a)->aM (C:=cx) [Nl] [] 0 ⟨[],[],[2],0⟩ Tryz.f134 ((aL CB V4).enc a) λv H _=>ae ((λa=>.v (.int .i64 (VM (λi=>decide ((a.1.e i).iD=kxq a.2)) a.1.n))) a) H v:=by
 intro⟨⟨N,F⟩,x⟩ ⟨hm,hx⟩;obtain⟨e,hx⟩:∃e:U3,x=.f (.func 135) [] [.rp e.cells 0]:=hx;subst hx;replace hm:N<=1000:=hm;refine Uh (P2 ⟨N,F⟩ e) ?_;refine Ai ?_ ?_
 ·refine⟨(0:Nat),[],[],trivial,⟨Ui _,rfl⟩,?_⟩;repeat' (first|refine Ai ?_ ?_|intro _|exact rfl)
 refine fun(k:Nat) (hk:k<=N∧VI (λi=>decide ((F i).iD=e.iD)) 0 N=VI (λi=>decide ((F i).iD=e.iD)) k (N-k))=>?_;obtain⟨k1,k2⟩:=hk;refine Ai (λhb=>?_) (λhb=>?_)
 ·have hb:(k:Int)<N:=Od hb;have e0:=iR (g:=(λi=>decide ((F i).iD=e.iD))) (k:=k) (n:=N) (by omega);refine Ai ⟨by omega,by omega⟩ ?_;refine Ai ⟨e,rfl⟩ ?_;refine Ai (λhc=>?_) (λhc=>?_);have hc:(decide ((F k).iD=e.iD))=true:=hc;simp only[hc] at e0;exact im (g:=(λi=>decide ((F i).iD=e.iD))) (n:=N) (k2.trans e0) (by omega);have hc:(decide ((F k).iD=e.iD))=false:=hc;simp only[hc] at e0;refine Ai (by unfold UP;omega:UP ((k:Int)+1)) ?_;refine⟨k+1,[],[],(by show N-(k+1)<N-k;omega),⟨(by show k+1<=N;omega),by rw[k2,e0]⟩,?_⟩;repeat' (first|refine Ai ?_ ?_|intro _|exact rfl)
 have hb:¬(k:Int)<N:=Ur hb;refine ga (g:=(λi=>decide ((F i).iD=e.iD))) (n:=N) ?_;rw[k2,show N-k=0 by omega];show k=N;omega
noncomputable def JS:UO cx:=ai 134 Tryz.call134 (aL CB V4) _ _ (λ_=>⟨[],[],[2],0⟩) [] (λ_=>rfl) follows Tryz.func134 (by kernel_rfl) BY
end Go.Proofs.YtgigkennhdolpaaGreatDoor
namespace Go.Proofs.YtgigkennhdolpaaGreatDoor
open Go.Conc Go.RowKit
end Go.Proofs.YtgigkennhdolpaaGreatDoor
namespace Go.Proofs.YtgigkennhdolpaaGreatDoor
open Go.RowKit
end Go.Proofs.YtgigkennhdolpaaGreatDoor
namespace Go.Proofs.YtgigkennhdolpaaGreatDoor
open Go.Conc Go.RowKit
end Go.Proofs.YtgigkennhdolpaaGreatDoor
namespace Go.Proofs.YtgigkennhdolpaaGreatDoor
open Go.RowKit
end Go.Proofs.YtgigkennhdolpaaGreatDoor
namespace Go.Proofs.YtgigkennhdolpaaGreatDoor
open Go.RowKit
end Go.Proofs.YtgigkennhdolpaaGreatDoor
namespace Go.Proofs.YtgigkennhdolpaaGreatDoor
open Go.RowKit
end Go.Proofs.YtgigkennhdolpaaGreatDoor
