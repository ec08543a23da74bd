/- step.Step of at most one body, without ropes.. -/
import Derived.Test.YtgigkennhdolpaaGreatDoorM28
import Derived.Test.YtgigkennhdolpaaGreatDoorM18
namespace Go.Proofs.YtgigkennhdolpaaGreatDoor
open Go.RowKit
theorem uR{b:Body}(h:b.ok=true) : -4096<=b.velX∧b.velX<=4096∧-4096<=b.velY∧b.velY<=4096∧-1048576<=b.posX∧b.posX<=1048576∧-1048576<=b.posY∧b.posY<=1048576:=by
 have h1:b.ml=false:=by cases hb:b.ml with|false=>rfl|true=>unfold Body.ok at h;rw[hb] at h;cases h
 unfold Body.ml pv okI at h1;simp only[UH,Bool.not_eq_false',Ur,Bool.not_eq_true',Uz] at h1;obtain⟨⟨⟨-,h2⟩,h3⟩,-⟩:=h1;omega
def ny(n:Int):Int:=if n<0 then -1 else 1
def CN:List SV:=[.v (.slice none 0 0),.v (.slice none 0 0),.il .i64 0,.il .i64 0]
def ctS(r:Xx)(x y:Int)(b0 b:Body)(vx vy:Int)(ax mv nm:Nat)(s5:SV)(Hx:bc)(sg:Int):Cut:=⟨Unit,λ_=>True,λ_=>⟨[sl 1 (.p 0 0),sl 2 (.p 1 0),sl 5 s5,sl 6 (.il .i64 0),sl 7 (.p 3 0),sl 8 (.p 4 0),sl 9 (.il .i64 ax),sl 10 (.p 4 ax),sl 11 (.p mv 0),sl 28 (.g 2 2 9 0 1),sl 29 (i64 1),sl 30 (.il .i64 0),sl 41 (.agg [.p 4 0,.p 4 1]),sl 42 (.il .i64 ax)],
 (mv,.lay ([.g 2 2 9 0 1,r.sv,i64 x,i64 y]++b.cells++[.il .i64 ax,i64 sg]) 216)::(Hx++[(0,.lay [.g 2 2 9 0 1,r.sv,i64 x,i64 y] 161),(1,.lay CN 161),(2,.lst 2 9 1 (λ_=>b.cells) 209),(3,.lay b0.cells 209),(4,.lay [i64 vx,i64 vy] 23)]),nm,0,[],[]⟩,λ_=>0⟩
theorem Oy{α:Type}{i:Nat}(h:i<1)(p q:α):p=bif Nat.beq i 0 then p else q:=by rw[show i=0 by omega];rfl
def Sy(r:Xx)(x y:Int)(b:Body)(ax:Nat)(sg:Int):UY:=⟨⟨1,λ_=>b⟩,r,x,y,b.iD,b.posX,b.posY,b.velX,b.velY,b.w,b.h,b.round,b.fixed,ax,sg⟩
structure de (b:Body):Prop where
 x1 : -1048576<=b.posX
 x2:b.posX<=1048576
 y1 : -1048576<=b.posY
 y2:b.posY<=1048576
theorem pj(v:Int):(v<0∧ny v = -1)∨(0<=v∧ny v=1):=by unfold ny;by_cases h:v<0;exact .inl ⟨h,UD h⟩;exact .inr ⟨by omega,UC h⟩
theorem Bu{r:Xx}{x y:Int}{b:Body}{ax:Nat}{v:Int}(hr:r.n=0)(hb:de b)(h1 : -4096<=v)(h2:v<=4096):(Sy r x y b ax (ny v)).Ok ax (max v (-v)):=by refine⟨rfl,?_,?_,?_,by omega,by omega,hr,I' 1,λi hi=>rfl⟩;show ny v=1∨ny v = -1;rcases pj v with h|h;exact .inr h.2;exact .inl h.2;unfold qK;split;exact hb.x1;exact hb.y1;unfold qK;split;exact hb.x2;exact hb.y2
theorem JM{b:Body}{ax:Nat}{v:Int}(hb:de b)(h1 : -4096<=v)(h2:v<=4096):0<=tg b ax v∧tg b ax v<=4096∧-1048576<=qK (yC b ax v) ax+ny v*tg b ax v∧qK (yC b ax v) ax+ny v*tg b ax v<=1048576:=by
 have hp : -1048576<=qK (yC b ax v) ax∧qK (yC b ax v) ax<=1048576:=by unfold qK;split;exact⟨hb.x1,hb.x2⟩;exact⟨hb.y1,hb.y2⟩
 unfold tg Ig jS oW;have hs:(yC b ax v).sign=ny v:=rfl;rw[hs];generalize qK (yC b ax v) ax=q at hp ⊢;rcases pj v with h|h<;>rw[h.2]<;>omega
theorem yj{b:Body}{v:Int}(hb:de b)(h1 : -4096<=v)(h2:v<=4096):de (ZL b 0 v):=by have h:=JM (ax:=0) hb h1 h2;exact⟨h.2.2.1,h.2.2.2,hb.y1,hb.y2⟩
theorem Jp{b:Body}{ax:Nat}{v:Int}(hb:de b)(h1 : -4096<=v)(h2:v<=4096):UU (ny v*tg b ax v)∧UU (b.posX+ny v*tg b ax v)∧UU (b.posY+ny v*tg b ax v):=by have h:=JM (ax:=ax) hb h1 h2;have:=hb.x1;have:=hb.x2;have:=hb.y1;have:=hb.y2;unfold UU;rcases pj v with h'|h'<;>rw[h'.2] at h ⊢<;>omega
theorem HX{b:Body}{g v:Vec}(h:fL b g=v) : -4096<=v.x∧v.x<=4096∧-4096<=v.y∧v.y<=4096:=by subst h;unfold fL;split;exact⟨by decide,by decide,by decide,by decide⟩;show -4096<=mh _∧mh _<=4096∧-4096<=mh _∧mh _<=4096;unfold mh;omega
set_option maxHeartbeats 4000000 in
set_option maxRecDepth 8000 in
theorem GJ:∀a,aA ((λa=>[gOk ⟨a.gravityX,a.gravityY⟩,a.ropes.n=0,a.bodies.n<=1,∀i,i<a.bodies.n->(a.bodies.e i).ok=true]) a)->aH (C:=cx) [N2,KM,BT,zQ,dY,QZ,Em] [] 0 ⟨[],[16],[],3⟩ Tryz.f80 ((bs lq).enc a) λv H _=>af ((λa=>.tup [(xS a).sv,(nw (nu a)).sv,.v (.int .i64 0)]) a) H v:=by
 intro⟨⟨n,e⟩,⟨m,r⟩,x,y⟩ ⟨hg,hm,hn,Vg⟩;obtain rfl:m=0:=hm;replace hn:n<=1:=hn;rcases Nat.lt_or_ge 0 n with hp|hp
 ·obtain rfl:n=1:=(by omega);have hok0:(e 0).ok=true:=Vg 0 Nat.zero_lt_one;have n1:(!(decide ((1:Nat)=0)||(e 0).ok))=false:=(by rw[hok0];rfl);refine Ai ⟨λ_ _=>trivial,λ_ _=>trivial,hg,rfl,I' 1⟩ ?_;refine Ai (λhb=>Uw (n1.symm.trans hb) (by decide)) (λhb=>?_);refine Ai ⟨λ_ _=>trivial,(by decide:1<=1000)⟩ ?_;refine Ai ⟨λ_ _=>trivial,(by decide:0<=1000)⟩ ?_;refine Ai (λhb=>?_) (λhb=>Uw (show decide ((0:Int)<1)=false from hb) (by decide));refine Ai ⟨(by decide:(0:Int)<=0),(by decide:(0:Int)<1)⟩ ?_;refine Ai (λhb=>?_) (λhb=>?_)
  ·have hf:(e 0).fixed=true:=hb;have U7:lp (e 0) ⟨x,y⟩=e 0:=(by unfold lp;rw[hf]);have hF:∀i,i<1->lp (e i) ⟨x,y⟩=e (0+i):=λi hi=>(by rw[show i=0 by omega];exact U7);have hsp:jb (e 0) ⟨x,y⟩=[]:=(by unfold jb;rw[hf]);refine Ai (λhb=>Uw (show decide ((1:Int)<1)=true from hb) (by decide)) (λhb=>?_);repeat' (first|refine Ai ?_ ?_|intro _|exact rfl)
   all_goals first|exact Uv Body.iD (hF _ (by assumption))|exact Uv Body.posX (hF _ (by assumption))|exact Uv Body.posY (hF _ (by assumption))|exact Uv Body.velX (hF _ (by assumption))|exact Uv Body.velY (hF _ (by assumption))|exact Uv Body.w (hF _ (by assumption))|exact Uv Body.h (hF _ (by assumption))|exact Uv Body.round (hF _ (by assumption))|exact Uv Body.fixed (hF _ (by assumption))|exact Uv List.length hsp|exact Uw ‹_<0› (F' _)
  have hf:(e 0).fixed=false:=hb;obtain⟨vx1,vx2,vy1,vy2,px1,px2,py1,py2⟩:=uR hok0;refine Ai ⟨hg,hok0,⟨by show -1000000<=(e 0).velX;omega,by show (e 0).velX<=1000000;omega⟩,by show -1000000<=(e 0).velY;omega,by show (e 0).velY<=1000000;omega⟩ ?_;refine Ai ⟨(by decide:(0:Int)<=0),(by decide:(0:Int)<1)⟩ ?_;have e1:∀i,i<1->e (0+i)=e 0:=λi hi=>(by rw[show 0+i=0 by omega]);generalize hv:fL (e 0) ⟨x,y⟩=v;refine T' (ctS ⟨0,r⟩ x y (e 0) (e 0) v.x v.y 0 5 6 (.v (.slice none 0 0)) [] (ny v.x)) ?_;have hE:∀i,i<1->e 0=e i:=λi hi=>(by rw[show i=0 by omega]);refine Ai (Ai (λhb=>?_) (λhb=>?_)) ?_
  ·have X8:v.x<0:=(by rw[<-hv];exact Od hb);refine⟨(),[],[],trivial,trivial,?_⟩;repeat' (first|refine Ai ?_ ?_|intro _|exact rfl)
   all_goals first|exact Uv Body.iD (hE _ (by assumption))|exact Uv Body.posX (hE _ (by assumption))|exact Uv Body.posY (hE _ (by assumption))|exact Uv Body.velX (hE _ (by assumption))|exact Uv Body.velY (hE _ (by assumption))|exact Uv Body.w (hE _ (by assumption))|exact Uv Body.h (hE _ (by assumption))|exact Uv Body.round (hE _ (by assumption))|exact Uv Body.fixed (hE _ (by assumption))|exact UD X8|exact(Uv Vec.x hv).symm|exact(Uv Vec.y hv).symm
  ·have X8:¬v.x<0:=(by rw[<-hv];exact Uy hb);refine⟨(),[],[],trivial,trivial,?_⟩;repeat' (first|refine Ai ?_ ?_|intro _|exact rfl)
   all_goals first|exact Uv Body.iD (hE _ (by assumption))|exact Uv Body.posX (hE _ (by assumption))|exact Uv Body.posY (hE _ (by assumption))|exact Uv Body.velX (hE _ (by assumption))|exact Uv Body.velY (hE _ (by assumption))|exact Uv Body.w (hE _ (by assumption))|exact Uv Body.h (hE _ (by assumption))|exact Uv Body.round (hE _ (by assumption))|exact Uv Body.fixed (hE _ (by assumption))|exact UC X8|exact(Uv Vec.x hv).symm|exact(Uv Vec.y hv).symm
  obtain⟨sx1,sx2,sy1,sy2⟩:=HX hv;have hP:de (e 0):=⟨px1,px2,py1,py2⟩
  refine fun(_:Unit) _=>?_;refine Ai (show UU (-v.x) by unfold UU;omega) ?_;refine Ai ⟨λ_ _=>trivial,λ_ _=>trivial,.inl rfl,Bu (r:=⟨0,r⟩) (x:=x) (y:=y) (ax:=0) rfl hP sx1 sx2⟩ ?_;refine Ai ⟨λ_ _=>trivial,λ_ _=>trivial,.inl rfl,Jp (ax:=0) hP sx1 sx2⟩ ?_;refine Ai ⟨(by decide:(0:Int)<=0),(by decide:(0:Int)<1)⟩ ?_;refine Ai (λ_ _=>⟨rfl,rfl,rfl,rfl,rfl,rfl,rfl,trivial,trivial,trivial⟩) ?_;refine Ai (λhb=>?_) (λhb=>?_)
  ·-- stopped along X
   refine Ai (⟨by decide,by decide⟩:gQ 1 24) ?_;refine Ai ⟨(by decide:(0:Int)<=0),(by decide:(0:Int)<1)⟩ ?_;refine T' (ctS ⟨0,r⟩ x y (e 0) (ZL (e 0) 0 v.x) 0 v.y 1 8 9 (.g 7 7 3 0 1) [(7,.lst 7 3 1 (λ_=>(Stop.mk (e 0).iD 1 (-1)).cells) 123)] (ny v.y)) ?_;refine Ai (Ai (λVz=>?_) (λVz=>?_)) ?_
   ·have X8:v.y<0:=Od Vz;refine⟨(),[],[],trivial,trivial,?_⟩;repeat' (first|refine Ai ?_ ?_|intro _|exact rfl)
    all_goals first|exact Oy (by assumption) _ _|exact UD X8
   ·have X8:¬v.y<0:=Uy Vz;refine⟨(),[],[],trivial,trivial,?_⟩;repeat' (first|refine Ai ?_ ?_|intro _|exact rfl)
    all_goals first|exact Oy (by assumption) _ _|exact UC X8
   refine fun(_:Unit) _=>?_;have hP2:de (ZL (e 0) 0 v.x):=yj hP sx1 sx2;refine Ai (show UU (-v.y) by unfold UU;omega) ?_;refine Ai ⟨λ_ _=>trivial,λ_ _=>trivial,.inr rfl,Bu (r:=⟨0,r⟩) (x:=x) (y:=y) (ax:=1) rfl hP2 sy1 sy2⟩ ?_;refine Ai ⟨λ_ _=>trivial,λ_ _=>trivial,.inr rfl,Jp (ax:=1) hP2 sy1 sy2⟩ ?_;refine Ai ⟨(by decide:(0:Int)<=0),(by decide:(0:Int)<1)⟩ ?_;refine Ai (λ_ _=>⟨rfl,rfl,rfl,rfl,rfl,rfl,rfl,trivial,trivial,trivial⟩) ?_;refine Ai (λVz=>?_) (λVz=>?_)
   ·have hX:um (e 0) ⟨x,y⟩=true:=(by unfold um;rw[hv];exact hb);have hY:uk (e 0) ⟨x,y⟩=true:=(by unfold uk m4;rw[hv];exact Vz);have Wj:lp (e 0) ⟨x,y⟩ = {ZL (ZL (e 0) 0 v.x) 1 v.y with velX:=0,velY:=0}:=(by unfold lp xN m4;rw[hf,hX,hY,hv];rfl);have XT:jb (e 0) ⟨x,y⟩=[⟨(e 0).iD,1,-1⟩,⟨(e 0).iD,2,-1⟩]:=(by unfold jb;rw[hf,hX,hY];rfl);repeat' (first|refine Ai ?_ ?_|(intro hh;exact Uw (show decide ((1:Int)<1)=true from hh) (by decide))|(intro _)|exact rfl)
    all_goals first|exact trivial|exact(by decide:(0:Int)<=0)|exact(by decide:(0:Int)<1)|(show (2:Nat)<=maxLen;decide)|(show (1:Nat)<=maxLen;decide)|(show (2*24:Nat)<=140737488355328;decide)|(show (1*24:Nat)<=140737488355328;decide)|exact Uv List.length XT|exact Uw ‹_<0› (F' _)|(rename_i i hi;revert i;refine nG ?_;first|exact(Uv Body.iD Wj).trans rfl|exact(Uv Body.posX Wj).trans rfl|exact(Uv Body.posY Wj).trans rfl|exact(Uv Body.velX Wj).trans rfl|exact(Uv Body.velY Wj).trans rfl|exact(Uv Body.w Wj).trans rfl|exact(Uv Body.h Wj).trans rfl|exact(Uv Body.round Wj).trans rfl|exact(Uv Body.fixed Wj).trans rfl|(show (_:Bool)=_;exact(Uv Body.fixed Wj).trans rfl))|(rename_i i hi;revert i;refine vK ?_ ?_<;>first|exact(Uv (λL=>(gK L _).iD) XT).trans rfl|(show (_:Int)=_;exact(Uv (λL=>(gK L _).iD) XT).trans rfl)|exact(Uv (λL=>(gK L _).along) XT).trans rfl|(show (_:Int)=_;exact(Uv (λL=>(gK L _).along) XT).trans rfl)|exact(Uv (λL=>(gK L _).byI) XT).trans rfl|(show (_:Int)=_;exact(Uv (λL=>(gK L _).byI) XT).trans rfl))|skip
   have hX:um (e 0) ⟨x,y⟩=true:=(by unfold um;rw[hv];exact hb);have hY:uk (e 0) ⟨x,y⟩=false:=(by unfold uk m4;rw[hv];exact Vz);have Wj:lp (e 0) ⟨x,y⟩ = {ZL (ZL (e 0) 0 v.x) 1 v.y with velX:=0,velY:=v.y}:=(by unfold lp xN m4;rw[hf,hX,hY,hv];rfl);have XT:jb (e 0) ⟨x,y⟩=[⟨(e 0).iD,1,-1⟩]:=(by unfold jb;rw[hf,hX,hY];rfl);repeat' (first|refine Ai ?_ ?_|(intro hh;exact Uw (show decide ((1:Int)<1)=true from hh) (by decide))|(intro _)|exact rfl)
   all_goals first|exact trivial|exact(by decide:(0:Int)<=0)|exact(by decide:(0:Int)<1)|(show (2:Nat)<=maxLen;decide)|(show (1:Nat)<=maxLen;decide)|(show (2*24:Nat)<=140737488355328;decide)|(show (1*24:Nat)<=140737488355328;decide)|exact Uv List.length XT|exact Uw ‹_<0› (F' _)|(rename_i i hi;revert i;refine nG ?_;first|exact(Uv Body.iD Wj).trans rfl|exact(Uv Body.posX Wj).trans rfl|exact(Uv Body.posY Wj).trans rfl|exact(Uv Body.velX Wj).trans rfl|exact(Uv Body.velY Wj).trans rfl|exact(Uv Body.w Wj).trans rfl|exact(Uv Body.h Wj).trans rfl|exact(Uv Body.round Wj).trans rfl|exact(Uv Body.fixed Wj).trans rfl|(show (_:Bool)=_;exact(Uv Body.fixed Wj).trans rfl))|(rename_i i hi;revert i;refine nG ?_<;>first|exact(Uv (λL=>(gK L _).iD) XT).trans rfl|(show (_:Int)=_;exact(Uv (λL=>(gK L _).iD) XT).trans rfl)|exact(Uv (λL=>(gK L _).along) XT).trans rfl|(show (_:Int)=_;exact(Uv (λL=>(gK L _).along) XT).trans rfl)|exact(Uv (λL=>(gK L _).byI) XT).trans rfl|(show (_:Int)=_;exact(Uv (λL=>(gK L _).byI) XT).trans rfl))|skip
  ·-- not stopped along X
   refine Ai ⟨(by decide:(0:Int)<=0),(by decide:(0:Int)<1)⟩ ?_;refine T' (ctS ⟨0,r⟩ x y (e 0) (ZL (e 0) 0 v.x) v.x v.y 1 6 7 (.v (.slice none 0 0)) [] (ny v.y)) ?_;refine Ai (Ai (λVz=>?_) (λVz=>?_)) ?_
   ·have X8:v.y<0:=Od Vz;refine⟨(),[],[],trivial,trivial,?_⟩;repeat' (first|refine Ai ?_ ?_|intro _|exact rfl)
    all_goals first|exact Oy (by assumption) _ _|exact UD X8
   ·have X8:¬v.y<0:=Uy Vz;refine⟨(),[],[],trivial,trivial,?_⟩;repeat' (first|refine Ai ?_ ?_|intro _|exact rfl)
    all_goals first|exact Oy (by assumption) _ _|exact UC X8
   refine fun(_:Unit) _=>?_;have hP2:de (ZL (e 0) 0 v.x):=yj hP sx1 sx2;refine Ai (show UU (-v.y) by unfold UU;omega) ?_;refine Ai ⟨λ_ _=>trivial,λ_ _=>trivial,.inr rfl,Bu (r:=⟨0,r⟩) (x:=x) (y:=y) (ax:=1) rfl hP2 sy1 sy2⟩ ?_;refine Ai ⟨λ_ _=>trivial,λ_ _=>trivial,.inr rfl,Jp (ax:=1) hP2 sy1 sy2⟩ ?_;refine Ai ⟨(by decide:(0:Int)<=0),(by decide:(0:Int)<1)⟩ ?_;refine Ai (λ_ _=>⟨rfl,rfl,rfl,rfl,rfl,rfl,rfl,trivial,trivial,trivial⟩) ?_;refine Ai (λVz=>?_) (λVz=>?_)
   ·have hX:um (e 0) ⟨x,y⟩=false:=(by unfold um;rw[hv];exact hb);have hY:uk (e 0) ⟨x,y⟩=true:=(by unfold uk m4;rw[hv];exact Vz);have Wj:lp (e 0) ⟨x,y⟩ = {ZL (ZL (e 0) 0 v.x) 1 v.y with velX:=v.x,velY:=0}:=(by unfold lp xN m4;rw[hf,hX,hY,hv];rfl);have XT:jb (e 0) ⟨x,y⟩=[⟨(e 0).iD,2,-1⟩]:=(by unfold jb;rw[hf,hX,hY];rfl);repeat' (first|refine Ai ?_ ?_|(intro hh;exact Uw (show decide ((1:Int)<1)=true from hh) (by decide))|(intro _)|exact rfl)
    all_goals first|exact trivial|exact(by decide:(0:Int)<=0)|exact(by decide:(0:Int)<1)|(show (2:Nat)<=maxLen;decide)|(show (1:Nat)<=maxLen;decide)|(show (2*24:Nat)<=140737488355328;decide)|(show (1*24:Nat)<=140737488355328;decide)|exact Uv List.length XT|exact Uw ‹_<0› (F' _)|(rename_i i hi;revert i;refine nG ?_;first|exact(Uv Body.iD Wj).trans rfl|exact(Uv Body.posX Wj).trans rfl|exact(Uv Body.posY Wj).trans rfl|exact(Uv Body.velX Wj).trans rfl|exact(Uv Body.velY Wj).trans rfl|exact(Uv Body.w Wj).trans rfl|exact(Uv Body.h Wj).trans rfl|exact(Uv Body.round Wj).trans rfl|exact(Uv Body.fixed Wj).trans rfl|(show (_:Bool)=_;exact(Uv Body.fixed Wj).trans rfl))|(rename_i i hi;revert i;refine nG ?_<;>first|exact(Uv (λL=>(gK L _).iD) XT).trans rfl|(show (_:Int)=_;exact(Uv (λL=>(gK L _).iD) XT).trans rfl)|exact(Uv (λL=>(gK L _).along) XT).trans rfl|(show (_:Int)=_;exact(Uv (λL=>(gK L _).along) XT).trans rfl)|exact(Uv (λL=>(gK L _).byI) XT).trans rfl|(show (_:Int)=_;exact(Uv (λL=>(gK L _).byI) XT).trans rfl))|skip
   have hX:um (e 0) ⟨x,y⟩=false:=(by unfold um;rw[hv];exact hb);have hY:uk (e 0) ⟨x,y⟩=false:=(by unfold uk m4;rw[hv];exact Vz);have Wj:lp (e 0) ⟨x,y⟩ = {ZL (ZL (e 0) 0 v.x) 1 v.y with velX:=v.x,velY:=v.y}:=(by unfold lp xN m4;rw[hf,hX,hY,hv];rfl);have XT:jb (e 0) ⟨x,y⟩=[]:=(by unfold jb;rw[hf,hX,hY];rfl);repeat' (first|refine Ai ?_ ?_|(intro hh;exact Uw (show decide ((1:Int)<1)=true from hh) (by decide))|(intro _)|exact rfl)
   all_goals first|exact trivial|exact(by decide:(0:Int)<=0)|exact(by decide:(0:Int)<1)|(show (2:Nat)<=maxLen;decide)|(show (1:Nat)<=maxLen;decide)|(show (2*24:Nat)<=140737488355328;decide)|(show (1*24:Nat)<=140737488355328;decide)|exact Uv List.length XT|exact Uw ‹_<0› (F' _)|(rename_i i hi;revert i;refine nG ?_;first|exact(Uv Body.iD Wj).trans rfl|exact(Uv Body.posX Wj).trans rfl|exact(Uv Body.posY Wj).trans rfl|exact(Uv Body.velX Wj).trans rfl|exact(Uv Body.velY Wj).trans rfl|exact(Uv Body.w Wj).trans rfl|exact(Uv Body.h Wj).trans rfl|exact(Uv Body.round Wj).trans rfl|exact(Uv Body.fixed Wj).trans rfl|(show (_:Bool)=_;exact(Uv Body.fixed Wj).trans rfl))
 obtain rfl:n=0:=by omega
 refine Ai ⟨λ_ _=>trivial,λ_ _=>trivial,hg,rfl,Up 1⟩ ?_;refine Ai (λhb=>Uw (show (!(decide ((0:Nat)=0)||(e 0).ok))=true from hb) (by simp)) (λhb=>?_);refine Ai ⟨λ_ _=>trivial,(by decide:0<=1000)⟩ ?_;refine Ai ⟨λ_ _=>trivial,(by decide:0<=1000)⟩ ?_;refine Ai (λhb=>Uw (show decide ((0:Int)<0)=true from hb) (by decide)) (λhb=>?_);repeat' (first|refine Ai ?_ ?_|intro _|exact rfl)
 all_goals exact Uw ‹_<_› (F' _)
noncomputable def NI:UW cx:=ae 80 Tryz.call80 (bs lq) _ _ (λ_=>⟨[],[16],[],3⟩) [] (λ_=>rfl) follows Tryz.func80 (by kernel_rfl) GJ
set_option maxHeartbeats 2000000 in
set_option maxRecDepth 8000 in
theorem AE:∀a,aA ((λa=>[a.n<=1000]) a)->aH (C:=cx) [] [] 0 ai Tryz.f92 ((bs jx).enc a) λv H _=>qY ((λa=>a.sv) a) 46 H v:=by
 intro l hm;replace hm:l.n<=1000:=hm;intro b hb;refine Ai (λh=>?_) (λh=>?_);have h:(b != false)=true:=h;have hn:=hb (by simpa using h);exact⟨hn,hn⟩;have hf:gQ l.n 40:=⟨Nat.le_trans hm (by decide),by omega⟩
 refine Ai hf ?_;repeat' (first|refine Ai ?_ ?_|intro _|exact rfl)
 all_goals (show (_:Int)=_;first|(rw[B'];done)|(rw[B'];rfl))
noncomputable def p9:UW cx:=xG 92 Tryz.call92 (bs jx) (λa=>[a.n<=1000]) (λa=>a.sv) 46 (λ_=>ai) [] (λ_=>rfl) follows Tryz.func92 (by kernel_rfl) AE
theorem aG{α:Type}{k:Nat}{x:α}{f:Nat->α}{p:Nat->α->Prop}(h1:p k x)(h2:∀i,i<k->p i (f i)):∀i,i<k+1->p i (Bm k x f i):=λi hi=>by by_cases e:i=k;subst e;rw[rh];exact h1;rw[q9 e];exact h2 i (by omega)
def yo(l:V3)(k e:Nat):SB:=.nst e 2 k (λi=>[.v (.int .i64 (l.e i).iD),.e]) 1 5 (λi=>((l.e i).l.n,λj=>((l.e i).l.c j).cells)) 46 42 none
def uB:List SV:=[.il .i64 0,.v (.slice none 0 0)]
def U0(l:WV)(q:Int):Nat:=VI (λi=>decide ((l.c i).kind=q)) 0 l.n
def eF(l:WV)(q:Int):Bool:=decide (U0 l q<l.n)
theorem eC{l:WV}{q:Int} : (bz l q).2=eF l q:=by unfold bz eF U0;cases decide (VI (λi=>decide ((l.c i).kind=q)) 0 l.n<l.n)<;>rfl
theorem mN{l:WV}{q:Int}(h:eF l q=true):(bz l q).1=l.c (U0 l q):=by unfold bz;unfold eF U0 at h;rw[h];rfl
theorem yQ{l:WV}{q:Int}(h:eF l q=true):(l.c (U0 l q)).kind=q:=by have:=ry (g:=λi=>decide ((l.c i).kind=q)) (k:=0) (r:=l.n) (by have:=Od h;unfold U0 at this;omega);exact Od this
def Td(b1 b2 b3:Bool):Nat:=match b1,b2,b3 with
 | false,false,false=>0
 | false,false,true=>16
 | false,true,false=>32
 | false,true,true=>48
 | true,false,false=>64
 | true,false,true=>80
 | true,true,false=>96
 | true,true,true=>112
def TU(nm:Nat)(q:Int):Bool:=match (nm-8)/16,q with
 | 1,.ofNat 3=>true
 | 2,.ofNat 2=>true
 | 3,.ofNat 2=>true
 | 3,.ofNat 3=>true
 | 4,.ofNat 1=>true
 | 5,.ofNat 1=>true
 | 5,.ofNat 3=>true
 | 6,.ofNat 1=>true
 | 6,.ofNat 2=>true
 | 7,.ofNat 1=>true
 | 7,.ofNat 2=>true
 | 7,.ofNat 3=>true
 | _,_=>false
def gT(n:Int):Int:=max (min n 1048576) (-1048576)
def lz(p v:Int):Int:=bif decide (gT (p+v)=p+v) then v else 0
def iC(e:UZ):UZ:=⟨e.iD,⟨e.l.n,λj=>
 bif Nat.beq j (U0 e.l 1) then⟨(e.l.c (U0 e.l 1)).kind,gT ((e.l.c (U0 e.l 1)).v0+(e.l.c (U0 e.l 2)).v0),gT ((e.l.c (U0 e.l 1)).v1+(e.l.c (U0 e.l 2)).v1),(e.l.c (U0 e.l 1)).v2,(e.l.c (U0 e.l 1)).v3⟩
 else bif Nat.beq j (U0 e.l 2) then⟨(e.l.c (U0 e.l 2)).kind,lz (e.l.c (U0 e.l 1)).v0 (e.l.c (U0 e.l 2)).v0,lz (e.l.c (U0 e.l 1)).v1 (e.l.c (U0 e.l 2)).v1,(e.l.c (U0 e.l 2)).v2,(e.l.c (U0 e.l 2)).v3⟩
 else e.l.c j⟩⟩
def jh(e:UZ)(b:Body):UZ:=⟨e.iD,⟨e.l.n,λj=>
 bif Nat.beq j (U0 e.l 1) then⟨(e.l.c (U0 e.l 1)).kind,b.posX,b.posY,(e.l.c (U0 e.l 1)).v2,(e.l.c (U0 e.l 1)).v3⟩
 else bif !(aK e).1.fixed&&Nat.beq j (U0 e.l 2) then⟨(e.l.c (U0 e.l 2)).kind,b.velX,b.velY,(e.l.c (U0 e.l 2)).v2,(e.l.c (U0 e.l 2)).v3⟩
 else e.l.c j⟩⟩
theorem Pg{p v:Int}(hp : -1048576<=p∧p<=1048576)(hv : -4096<=v∧v<=4096):(decide (min p v < -1099511627776)||decide (1099511627776<max p v))=false:=by rw[UA (by omega),UA (by omega)];rfl
theorem ga{a b:Nat}(h:a≠b):Nat.beq a b=false:=by
 cases hb:Nat.beq a b with
 | false=>rfl
 | true=>exact Uw (Nb hb) h
theorem y6{e:UZ} : (iC e).l.c (U0 e.l 1)=⟨(e.l.c (U0 e.l 1)).kind,gT ((e.l.c (U0 e.l 1)).v0+(e.l.c (U0 e.l 2)).v0),gT ((e.l.c (U0 e.l 1)).v1+(e.l.c (U0 e.l 2)).v1),(e.l.c (U0 e.l 1)).v2,(e.l.c (U0 e.l 1)).v3⟩:=by unfold iC;simp only[UN,cond_true]
theorem y5{e:UZ}(h:U0 e.l 2≠U0 e.l 1):(iC e).l.c (U0 e.l 2)=⟨(e.l.c (U0 e.l 2)).kind,lz (e.l.c (U0 e.l 1)).v0 (e.l.c (U0 e.l 2)).v0,lz (e.l.c (U0 e.l 1)).v1 (e.l.c (U0 e.l 2)).v1,(e.l.c (U0 e.l 2)).v2,(e.l.c (U0 e.l 2)).v3⟩:=by unfold iC;simp only[ga h,UN,cond_true,cond_false]
theorem yZ{e:UZ}{j:Nat}(h1:j≠U0 e.l 1)(h2:j≠U0 e.l 2):(iC e).l.c j=e.l.c j:=by unfold iC;simp only[ga h1,ga h2,cond_false]
theorem Dd{e:UZ}{b:Body} : (jh e b).l.c (U0 e.l 1)=⟨(e.l.c (U0 e.l 1)).kind,b.posX,b.posY,(e.l.c (U0 e.l 1)).v2,(e.l.c (U0 e.l 1)).v3⟩:=by unfold jh;simp only[UN,cond_true]
theorem O1{e:UZ}{b:Body}(h:U0 e.l 2≠U0 e.l 1)(hf:(aK e).1.fixed=false):(jh e b).l.c (U0 e.l 2)=⟨(e.l.c (U0 e.l 2)).kind,b.velX,b.velY,(e.l.c (U0 e.l 2)).v2,(e.l.c (U0 e.l 2)).v3⟩:=by unfold jh;simp only[ga h,UN,hf,cond_true,cond_false,Bool.not_false,Bool.and_self]
theorem yh{e:UZ}{b:Body}{j:Nat}(h1:j≠U0 e.l 1)(h2:(aK e).1.fixed=true∨j≠U0 e.l 2):(jh e b).l.c j=e.l.c j:=by unfold jh;rcases h2 with h2|h2;simp only[ga h1,h2,cond_false,Bool.not_true,Bool.false_and];simp only[ga h1,ga h2,cond_false,Bool.and_false]
theorem Qz{e:UZ}(h1:eF e.l 1=true)(h2:eF e.l 2=false)(h3:eF e.l 3=true):(aK e).1.fixed=true:=by
 have hf:jl e=true:=by unfold jl;rw[eC,h2];simp
 unfold aK;rw[eC,eC,h1,h3];show (dz e).fixed=true;unfold dz;rw[hf]
theorem mT{p v:Int}(hp : -1048576<=p∧p<=1048576)(hv : -4096<=v∧v<=4096):UU (p+v):=by unfold UU;omega
theorem fU{e:UZ}(h:e.vC){q:Int}(hb:eF e.l q=true):(e.l.c (U0 e.l q)).kind=q∧(e.l.c (U0 e.l q)).Fits∧U0 e.l q<e.l.n:=by have hi:U0 e.l q<e.l.n:=Od hb;exact⟨yQ hb,h.fits _ hi,hi⟩
noncomputable def Qr:Wl cx:=⟨133,Tryz.call133,Tryz.f133,Tryz.func133,[],[],[],3,by kernel_rfl⟩
def je(e:UZ):UZ:=⟨e.iD,⟨e.l.n,λi=>e.l.c (0+i)⟩⟩
theorem fg{e:UZ} : je e=e:=by unfold je;simp only[B']
set_option maxRecDepth 8000
set_option maxHeartbeats 2000000
def lQ(x y:Int):Int:=x*x+y*y
def Pj(a b:Body)(dx dy:Int):Int:=max (dx-a.w-b.w) (dy-a.h-b.h)
def D4(a b:Body)(dx dy:Int):Int:=lQ (max (dx-a.w) 0) (max (dy-a.h) 0)-b.w*b.w
def Ph(a b:Body)(dx dy:Int):Int:=lQ dx dy-(a.w+b.w)*(a.w+b.w)
def S3(a b:Body)(dx dy:Int):Int:=match a.round,b.round with
 | false,false=>Pj a b dx dy
 | false,true=>D4 a b dx dy
 | true,false=>D4 b a dx dy
 | true,true=>Ph a b dx dy
def Body.jY(a b:Body):Bool:=match a.ok,b.ok with
 | true,true=>decide (S3 a b (oW (a.posX-b.posX)) (oW (a.posY-b.posY))<0)
 | _,_=>false
def TY(r:Bool):Int:=match r with|true=>1|false=>0
theorem Ap:∀a,aA ((λ_=>[]) a)->aH (C:=cx) [] [] 0 ai Tryz.f258 ((bs bL).enc a) λv H _=>af ((λb=>.v (.int .i64 (TY b.round))) a) H v:=by intro⟨i,x,y,vx,vy,w,h,r,f⟩ _;cases r;exact Ai (λhb=>Uw (show false=true from hb) (by decide)) (λ_=>rfl);exact Ai (λ_=>rfl) (λhb=>Uw (show true=false from hb) (by decide))
noncomputable def FZ:UW cx:=ae 258 Tryz.call258 (bs bL) _ _ (λ_=>ai) [] (λ_=>rfl) follows Tryz.func258 (by kernel_rfl) Ap
theorem Cm:∀a,aA ((λx=>[UU (-x)]) a)->aH (C:=cx) [] [] 0 ai Tryz.f259 ((bs (Vm .i64)).enc a) λv H _=>af ((λx=>.v (.int .i64 (oW x))) a) H v:=by intro x hx;exact⟨hx,rfl⟩
noncomputable def Kp:UW cx:=ae 259 Tryz.call259 (bs (Vm .i64)) _ _ (λ_=>ai) [] (λ_=>rfl) follows Tryz.func259 (by kernel_rfl) Cm
def qX(a:Body×Body×Int×Int):Prop:=(0<=a.1.w∧a.1.w<=16384∧0<=a.1.h∧a.1.h<=16384)∧(0<=a.2.1.w∧a.2.1.w<=16384∧0<=a.2.1.h∧a.2.1.h<=16384)∧(0<=a.2.2.1∧a.2.2.1<=4194304)∧0<=a.2.2.2∧a.2.2.2<=4194304
theorem jz{x b:Int}(hb:b<=4194304)(h0:0<=x)(h:x<=b):0<=x*x∧x*x<=17592186044416:=by have h1:=Int.mul_le_mul (a:=x) (b:=x) (c:=4194304) (d:=4194304) (by omega) (by omega) h0 (by decide);have h2:=Int.mul_nonneg h0 h0;omega
theorem Ck:∀a,aA ((λa=>[0<=a.1∧a.1<=4194304,0<=a.2∧a.2<=4194304]) a)->aH (C:=cx) [] [] 0 ai Tryz.f306 ((aD (Vm .i64) (Vm .i64)).enc a) λv H _=>af ((λa=>.v (.int .i64 (lQ a.1 a.2))) a) H v:=by intro⟨x,y⟩ ⟨⟨h1,h2⟩,h3,h4⟩;simp only at h1 h2 h3 h4;have a1:=jz h2 h1 (Int.le_refl x);have a2:=jz h4 h3 (Int.le_refl y);repeat' (first|(refine(?_:UU _);unfold UU;dsimp only;omega)|(refine Ai ?_ ?_)|exact rfl)
noncomputable def zT:UW cx:=ae 306 Tryz.call306 (aD (Vm .i64) (Vm .i64)) _ _ (λ_=>ai) [] (λ_=>rfl) follows Tryz.func306 (by kernel_rfl) Ck
theorem xw:∀a,aA ((λa=>[qX a]) a)->aH (C:=cx) [] [] 0 ai Tryz.f302 ((ug bL bL (Vm .i64) (Vm .i64)).enc a) λv H _=>af ((λa=>.v (.int .i64 (Pj a.1 a.2.1 a.2.2.1 a.2.2.2))) a) H v:=by intro⟨⟨i,x,y,vx,vy,w,h,r,f⟩,⟨i',x',y',vx',vy',w',h',r',f'⟩,dx,dy⟩ hp;obtain⟨⟨h1,h2,h3,h4⟩,⟨g1,g2,g3,g4⟩,⟨k1,k2⟩,k3,k4⟩:=hp;simp only at h1 h2 h3 h4 g1 g2 g3 g4 k1 k2 k3 k4;repeat' (first|(refine(?_:UU _);unfold UU;dsimp only;omega)|(refine Ai ?_ ?_)|exact rfl)
noncomputable def BQ:UW cx:=ae 302 Tryz.call302 (ug bL bL (Vm .i64) (Vm .i64)) _ _ (λ_=>ai) [] (λ_=>rfl) follows Tryz.func302 (by kernel_rfl) xw
theorem GZ:∀a,aA ((λa=>[qX a]) a)->aH (C:=cx) [zT] [] 0 ai Tryz.f303 ((ug bL bL (Vm .i64) (Vm .i64)).enc a) λv H _=>af ((λa=>.v (.int .i64 (D4 a.1 a.2.1 a.2.2.1 a.2.2.2))) a) H v:=by
 intro⟨⟨i,x,y,vx,vy,w,h,r,f⟩,⟨i',x',y',vx',vy',w',h',r',f'⟩,dx,dy⟩ hp;obtain⟨⟨h1,h2,h3,h4⟩,⟨g1,g2,g3,g4⟩,⟨k1,k2⟩,k3,k4⟩:=hp;simp only at h1 h2 h3 h4 g1 g2 g3 g4 k1 k2 k3 k4;have a1:=jz (x:=w') (b:=4194304) (Int.le_refl _) g1 (by omega);have b1:=jz (x:=max (dx-w) 0) (b:=4194304) (Int.le_refl _) (by omega) (by omega);have b2:=jz (x:=max (dy-h) 0) (b:=4194304) (Int.le_refl _) (by omega) (by omega);have b3:0<=lQ (max (dx-w) 0) (max (dy-h) 0)∧lQ (max (dx-w) 0) (max (dy-h) 0)<=35184372088832:=by unfold lQ;omega
 refine Ai (show UU (dx-w) by unfold UU;omega) ?_;refine Ai (show UU (dy-h) by unfold UU;omega) ?_;refine Ai ⟨⟨(show 0<=max (dx-w) 0 by omega),(show max (dx-w) 0<=4194304 by omega)⟩,(show 0<=max (dy-h) 0 by omega),(show max (dy-h) 0<=4194304 by omega)⟩ ?_;refine Ai (show UU (w'*w') by unfold UU;omega) ?_;refine Ai (show UU (lQ (max (dx-w) 0) (max (dy-h) 0)-w'*w') by unfold UU;omega) ?_;exact rfl
noncomputable def Ei:UW cx:=ae 303 Tryz.call303 (ug bL bL (Vm .i64) (Vm .i64)) _ _ (λ_=>ai) [] (λ_=>rfl) follows Tryz.func303 (by kernel_rfl) GZ
theorem GY:∀a,aA ((λa=>[qX a]) a)->aH (C:=cx) [Ei] [] 0 ai Tryz.f304 ((ug bL bL (Vm .i64) (Vm .i64)).enc a) λv H _=>af ((λa=>.v (.int .i64 (D4 a.2.1 a.1 a.2.2.1 a.2.2.2))) a) H v:=by intro⟨⟨i,x,y,vx,vy,w,h,r,f⟩,⟨i',x',y',vx',vy',w',h',r',f'⟩,dx,dy⟩ hp;obtain⟨⟨h1,h2,h3,h4⟩,⟨g1,g2,g3,g4⟩,⟨k1,k2⟩,k3,k4⟩:=hp;simp only at h1 h2 h3 h4 g1 g2 g3 g4 k1 k2 k3 k4;refine Ai ⟨⟨g1,g2,g3,g4⟩,⟨h1,h2,h3,h4⟩,⟨k1,k2⟩,k3,k4⟩ ?_;exact rfl
noncomputable def NT:UW cx:=ae 304 Tryz.call304 (ug bL bL (Vm .i64) (Vm .i64)) _ _ (λ_=>ai) [] (λ_=>rfl) follows Tryz.func304 (by kernel_rfl) GY
theorem GX:∀a,aA ((λa=>[qX a]) a)->aH (C:=cx) [zT] [] 0 ai Tryz.f305 ((ug bL bL (Vm .i64) (Vm .i64)).enc a) λv H _=>af ((λa=>.v (.int .i64 (Ph a.1 a.2.1 a.2.2.1 a.2.2.2))) a) H v:=by
 intro⟨⟨i,x,y,vx,vy,w,h,r,f⟩,⟨i',x',y',vx',vy',w',h',r',f'⟩,dx,dy⟩ hp;obtain⟨⟨h1,h2,h3,h4⟩,⟨g1,g2,g3,g4⟩,⟨k1,k2⟩,k3,k4⟩:=hp;simp only at h1 h2 h3 h4 g1 g2 g3 g4 k1 k2 k3 k4;have a1:=jz (x:=w+w') (b:=4194304) (Int.le_refl _) (by omega) (by omega);have b1:=jz (x:=dx) (b:=4194304) (Int.le_refl _) (by omega) (by omega);have b2:=jz (x:=dy) (b:=4194304) (Int.le_refl _) (by omega) (by omega);have b3:0<=lQ dx dy∧lQ dx dy<=35184372088832:=by unfold lQ;omega
 refine Ai ⟨⟨(show 0<=dx by omega),(show dx<=4194304 by omega)⟩,(show 0<=dy by omega),(show dy<=4194304 by omega)⟩ ?_;refine Ai (show UU (w+w') by unfold UU;omega) ?_;refine Ai (show UU (w+w') by unfold UU;omega) ?_;refine Ai (show UU ((w+w')*(w+w')) by unfold UU;omega) ?_;refine Ai (show UU (lQ dx dy-(w+w')*(w+w')) by unfold UU;omega) ?_;exact rfl
noncomputable def NR:UW cx:=ae 305 Tryz.call305 (ug bL bL (Vm .i64) (Vm .i64)) _ _ (λ_=>ai) [] (λ_=>rfl) follows Tryz.func305 (by kernel_rfl) GX
theorem Mz{lo hi x:Int}(h:(!okI lo hi x)=false):lo<=x∧x<=hi:=by simp only[okI,Bool.not_eq_false',Bool.and_true,Bool.not_eq_true',UH,Uz] at h;omega
theorem IU{b:Body}(h:b.ok=true) : -1048576<=b.posX∧b.posX<=1048576∧-1048576<=b.posY∧b.posY<=1048576∧1<=b.w∧b.w<=16384∧1<=b.h∧b.h<=16384:=by
 have hb:b.ml=false:=by
  unfold Body.ok at h;cases hx:b.ml with
  | true=>rw[hx] at h;cases h
  | false=>rfl
 unfold Body.ml at hb;simp only[UH] at hb;obtain⟨⟨⟨-,h2⟩,-⟩,h4⟩:=hb;unfold pv at h2 h4;simp only[okI,Bool.not_eq_false',Bool.and_true,Ur,Bool.not_eq_true',UH,Uz] at h2 h4;omega
noncomputable def Qm:Wl cx:=⟨250,Tryz.call250,Tryz.f250,Tryz.func250,[],[],[],0,by kernel_rfl⟩
theorem GW:∀a,aA ((λ_=>[]) a)->aH (C:=cx) [oN,FZ,Kp,BQ,Ei,NT,NR] [Qm] 1 ⟨[],[],[],0⟩ Tryz.f236 ((aD bL bL).enc a) λv H _=>af ((λa=>.v (.bool (a.1.jY a.2))) a) H v:=by
 intro⟨a,b⟩ _;refine Ai (λhb=>?_) (λhb=>?_)
 ·have hb:(!a.ok||!b.ok)=true:=hb;have fin:a.jY b=false:=by
   unfold Body.jY;cases h1:a.ok with
   | false=>rfl
   | true=>
    cases h2:b.ok with
    | false=>rfl
    | true=>rw[h1,h2] at hb;cases hb
  (repeat' (first|refine Ai ?_ ?_|exact fin|(intro _)|exact rfl));all_goals skip
 have hb:(!a.ok||!b.ok)=false:=hb;have h1:a.ok=true:=by cases h1:a.ok with|false=>rw[h1] at hb;cases hb|true=>rfl
 have h2:b.ok=true:=by cases h2:b.ok with|false=>rw[h1,h2] at hb;cases hb|true=>rfl
 have e:a.jY b=decide (S3 a b (oW (a.posX-b.posX)) (oW (a.posY-b.posY))<0):=by unfold Body.jY;rw[h1,h2]
 obtain⟨p1,p2,p3,p4,p5,p6,p7,p8⟩:=IU h1;obtain⟨q1,q2,q3,q4,q5,q6,q7,q8⟩:=IU h2;obtain⟨i,x,y,vx,vy,w,h,r,f⟩:=a;obtain⟨i',x',y',vx',vy',w',h',r',f'⟩:=b;have c1:UU (x-x'):=by simp only at p1 p2 q1 q2;unfold UU;omega
 have c2:UU (-(x-x')):=by simp only at p1 p2 q1 q2;unfold UU;omega
 have c3:UU (y-y'):=by simp only at p3 p4 q3 q4;unfold UU;omega
 have c4:UU (-(y-y')):=by simp only at p3 p4 q3 q4;unfold UU;omega
 have c5:(0<=oW (x-x')∧oW (x-x')<=4194304)∧0<=oW (y-y')∧oW (y-y')<=4194304:=by simp only at p1 p2 p3 p4 q1 q2 q3 q4;unfold oW;omega
 have c6:0<=w∧w<=16384∧0<=h∧h<=16384:=by simp only at p5 p6 p7 p8;omega
 have c7:0<=w'∧w'<=16384∧0<=h'∧h'<=16384:=by simp only at q5 q6 q7 q8;omega
 cases r<;>cases r';all_goals
  refine Ai c1 (Ai c2 (Ai c3 (Ai c4 ?_)));refine Ai ⟨c6,c7,c5⟩ ?_;exact e
noncomputable def jH:UW cx:=ae 236 Tryz.call236 (aD bL bL) _ _ (λ_=>ai) [] (λ_=>rfl) follows Tryz.func236 (by kernel_rfl) GW
end Go.Proofs.YtgigkennhdolpaaGreatDoor
