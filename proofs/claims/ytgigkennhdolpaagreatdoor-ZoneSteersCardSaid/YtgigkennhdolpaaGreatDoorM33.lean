/- island.Valid, island.Speed; step.Step of at most one body, without ropes. step.Step of at most one body, without ropes. -/
import Derived.Test.YtgigkennhdolpaaGreatDoorM31
import Derived.Test.YtgigkennhdolpaaGreatDoorM32
namespace Go.Proofs.YtgigkennhdolpaaGreatDoor
open Go.RowKit
set_option maxRecDepth 8000
set_option maxHeartbeats 2000000
def kK(a:Int):Int:=max (min a 4096) (-4096)
def gOk(p:Vec):Prop:=(-4096≤p.x∧p.x≤4096)∧-4096≤p.y∧p.y≤4096
theorem Pull_walk:∀a,aK ((fun a=>[gOk a]) a)→aX (C:=cx) [] [] 0 ⟨[1001],[],[],0⟩ Tryz.f181 ((bM dW).enc a) fun v H _=>ai ((fun _=>.bl true) a) H v:=by
 intro⟨x,y⟩ h
 obtain⟨⟨h1,h2⟩,h3,h4⟩:gOk ⟨x,y⟩:=h
 replace h1 : -4096≤x:=h1
 replace h2:x≤4096:=h2
 replace h3 : -4096≤y:=h3
 replace h4:y≤4096:=h4
 refine Ai (show InR (-x) by unfold InR;omega) ?_
 refine Ai (show InR (-y) by unfold InR;omega) ?_
 refine Ai (fun hb=>?_) (fun hb=>?_)
 ·exact(decide_eq_true (show -4096≤min x y by omega)).symm
 ·have hb:decide (max (max (max x (-x)) y) (-y)≤4096)=false:=hb
  exact absurd (of_decide_eq_false hb) (by omega)
noncomputable def conPull:Con cx:=ah 181 Tryz.call181 (bM dW) _ _ (fun _=>⟨[1001],[],[],0⟩) [1001] (fun _=>rfl) follows Tryz.func181 (by kernel_rfl) Pull_walk
theorem Clamp_walk:∀a,aK ((fun _=>[]) a)→aX (C:=cx) [] [] 0 aw Tryz.f186 ((bM (rdI .i64)).enc a) fun v H _=>ai ((fun a=>.v (.int .i64 (kK a))) a) H v:=by
 intro a _
 exact rfl
noncomputable def conClamp:Con cx:=ah 186 Tryz.call186 (bM (rdI .i64)) _ _ (fun _=>aw) [] (fun _=>rfl) follows Tryz.func186 (by kernel_rfl) Clamp_walk
noncomputable def inCfR:FnI cx:=⟨46,Tryz.call46,Tryz.f46,Tryz.func46,[],[],[],0,by kernel_rfl⟩
noncomputable def inIxR:FnI cx:=⟨83,Tryz.call83,Tryz.f83,Tryz.func83,[],[],[],1,by kernel_rfl⟩
theorem IslV_walk:∀a,aK ((fun a=>[gOk ⟨a.gravityX,a.gravityY⟩,a.ropes.n=0,a.bodies.n≤1]) a)→aX (C:=cx) [conPull,conValid] [inCfR,inIxR] 2 ⟨[1001,1006],[],[],2⟩ Tryz.f122 ((bM oz).enc a) fun v H _=>ai ((fun a=>.v (.bool (decide (a.bodies.n=0)||(a.bodies.e 0).ok))) a) H v:=by
 intro⟨⟨n,e⟩,⟨m,r⟩,x,y⟩ ⟨hg,hm,hn⟩
 obtain rfl:m=0:=hm
 replace hn:n≤1:=hn
 rcases Nat.lt_or_ge 0 n with hp|hp
 ·obtain rfl:n=1:=by omega
  refine Ai (fun hb=>?_) (fun hb=>absurd (show decide ((64:Int)<1)=true from hb) (by decide))
  refine Ai (fun hb=>?_) (fun hb=>absurd (show decide ((32:Int)<0)=true from hb) (by decide))
  refine Ai hg ?_
  refine Ai (fun hb=>?_) (fun hb=>absurd (show decide ((0:Int)<1)=false from hb) (by decide))
  refine Ai ⟨(by decide:(0:Int)≤0),(by decide:(0:Int)<1)⟩ ?_
  refine Ai (fun h=>absurd (show decide ((0:Int)<0)=true from h) (by decide)) ?_
  refine Ai (fun hb=>?_) (fun hb=>?_)
  ·have hb:(!(e 0).ok||false)=true:=hb
   have hok:(e 0).ok=false:=by cases h:(e 0).ok with|false=>rfl|true=>rw[h] at hb;cases hb
   exact(show (decide ((1:Nat)=0)||(e 0).ok)=false by rw[hok];rfl)
  ·have hb:(!(e 0).ok||false)=false:=hb
   have hok:(e 0).ok=true:=by cases h:(e 0).ok with|true=>rfl|false=>rw[h] at hb;cases hb
   have fin:(decide ((1:Nat)=0)||(e 0).ok)=true:=by rw[hok];rfl
   repeat' (first|(refine Ai ?_ ?_)|exact fin|(intro hh;exact absurd (show decide ((1:Int)<1)=true from hh) (by decide))|(intro hh;exact absurd (show decide ((0:Int)<0)=true from hh) (by decide))|(intro _)|exact rfl)
 ·obtain rfl:n=0:=by omega
  refine Ai (fun hb=>?_) (fun hb=>absurd (show decide ((64:Int)<0)=true from hb) (by decide))
  refine Ai (fun hb=>?_) (fun hb=>absurd (show decide ((32:Int)<0)=true from hb) (by decide))
  refine Ai hg ?_
  repeat' (first|(refine Ai ?_ ?_)|(intro hh;exact absurd (show decide ((0:Int)<0)=true from hh) (by decide))|(intro _)|exact rfl)
noncomputable def conIslV:Con cx:=ah 122 Tryz.call122 (bM oz) _ _ (fun _=>⟨[1001,1006],[],[],2⟩) [1001,1006] (fun _=>rfl) follows Tryz.func122 (by kernel_rfl) IslV_walk
def gw(b:Body)(g:Vec):Vec:=match b.fixed with|true=>⟨0,0⟩|false=>⟨kK (b.velX+g.x),kK (b.velY+g.y)⟩
theorem Speed_walk:∀a,aK ((fun a=>[gOk a.2,a.1.ok=true,(-1000000≤a.1.velX∧a.1.velX≤1000000)∧-1000000≤a.1.velY∧a.1.velY≤1000000]) a)→aX (C:=cx) [conPull,conValid,conClamp] [] 0 ⟨[1001],[],[],0⟩ Tryz.f124 ((aV rdBody dW).enc a) fun v H _=>ai ((fun a=>(gw a.1 a.2).sv) a) H v:=by
 intro⟨⟨i,px,py,vx,vy,w,h,rd,fx⟩,⟨x,y⟩⟩ ⟨hg,hok,hv⟩
 have hg':gOk ⟨x,y⟩:=hg
 obtain⟨⟨h1,h2⟩,h3,h4⟩:=hg'
 replace h1 : -4096≤x:=h1
 replace h2:x≤4096:=h2
 replace h3 : -4096≤y:=h3
 replace h4:y≤4096:=h4
 obtain⟨⟨v1,v2⟩,v3,v4⟩:(-1000000≤vx∧vx≤1000000)∧-1000000≤vy∧vy≤1000000:=hv
 replace hok:(Body.mk i px py vx vy w h rd fx).ok=true:=hok
 have n1:(!(Body.mk i px py vx vy w h rd fx).ok)=false:=by rw[hok];rfl
 cases fx
 ·refine Ai (fun hb=>?_) (fun hb=>by cases hb)
  refine Ai (fun hb=>?_) (fun hb=>absurd (n1.symm.trans hb) (by decide))
  refine Ai hg ?_
  refine Ai (show InR (vx+x) by unfold InR;omega) ?_
  refine Ai (show InR (vy+y) by unfold InR;omega) ?_
  exact⟨rfl,rfl⟩
 ·refine Ai (fun hb=>by cases hb) (fun hb=>?_)
  exact⟨rfl,rfl⟩
noncomputable def conSpeed:Con cx:=ah 124 Tryz.call124 (aV rdBody dW) _ _ (fun _=>⟨[1001],[],[],0⟩) [1001] (fun _=>rfl) follows Tryz.func124 (by kernel_rfl) Speed_walk
def shB(m:Mov)(n:Int):Body:=match decide (m.axis=0) with
 | true=>⟨m.bID,m.bPosX+m.sign*n,m.bPosY,m.bVelX,m.bVelY,m.bW,m.bH,m.bRound,m.bFixed⟩
 | false=>⟨m.bID,m.bPosX,m.bPosY+m.sign*n,m.bVelX,m.bVelY,m.bW,m.bH,m.bRound,m.bFixed⟩
noncomputable def inShift:FnI cx:=⟨193,Tryz.call193,Tryz.f193,Tryz.func193,[],[],[],0,by kernel_rfl⟩
theorem At_walk:∀a,aK ((fun a=>[a.1.axis=0∨a.1.axis=1,InR (a.1.sign*a.2)∧InR (a.1.bPosX+a.1.sign*a.2)∧InR (a.1.bPosY+a.1.sign*a.2)]) a)→aX (C:=cx) [eE] [inShift] 1 aw Tryz.f127 ((aV rdMov (rdI .i64)).enc a) fun v H _=>ai ((fun a=>(shB a.1 a.2).sv) a) H v:=by
 intro⟨⟨b,r,gx,gy,i,px,py,vx,vy,w,h,rd,fx,ax,s⟩,n⟩ ⟨hx,h1,h2,h3⟩
 replace hx:ax=0∨ax=1:=hx
 rcases hx with rfl|rfl
 ·refine Ai h1 ?_
  refine Ai h2 ?_
  repeat' (first|(refine Ai ?_ ?_)|(intro _)|exact rfl)
 ·refine Ai h1 ?_
  refine Ai h3 ?_
  repeat' (first|(refine Ai ?_ ?_)|(intro _)|exact rfl)
noncomputable def conAt:Con cx:=ah 127 Tryz.call127 (aV rdMov (rdI .i64)) _ _ (fun _=>aw) [] (fun _=>rfl) follows Tryz.func127 (by kernel_rfl) At_walk
theorem ClB_walk:∀a,aK ((fun a=>[a.n≤1000]) a)→aX (C:=cx) [] [] 0 aw Tryz.f123 ((bM rdBds).enc a) fun v H _=>resOutO ((fun a=>a.sv) a) 209 H v:=by
 intro l hm
 replace hm:l.n≤1000:=hm
 intro b hb
 refine Ai (fun h=>?_) (fun h=>?_)
 ·have h:(b != false)=true:=h
  have hn:=hb (by simpa using h)
  exact⟨hn,hn⟩
 have hf:iz l.n 64:=⟨Nat.le_trans hm (by decide),by omega⟩
 refine Ai hf ?_
 repeat' (first|(refine Ai ?_ ?_)|(intro _)|exact rfl)
 all_goals (show _=_;first|(rw[Nat.zero_add];done)|(rw[Nat.zero_add];rfl))
noncomputable def conClB:Con cx:=walkConO 123 Tryz.call123 (bM rdBds) (fun a=>[a.n≤1000]) (fun a=>a.sv) 209 (fun _=>aw) [] (fun _=>rfl) follows Tryz.func123 (by kernel_rfl) ClB_walk
theorem ClR_walk:∀a,aK ((fun a=>[a.n≤1000]) a)→aX (C:=cx) [] [] 0 aw Tryz.f76 ((bM rdRps).enc a) fun v H _=>fE ((fun a=>a.sv) a) H v:=by
 intro l hm
 replace hm:l.n≤1000:=hm
 intro b hb
 refine Ai (fun h=>?_) (fun h=>?_)
 ·have h:(b != false)=true:=h
  have hn:=hb (by simpa using h)
  exact hn
 have hf:iz l.n 24:=⟨Nat.le_trans hm (by decide),by omega⟩
 refine Ai hf ?_
 repeat' (first|(refine Ai ?_ ?_)|(intro _)|exact rfl)
 all_goals (show _=_;first|(rw[Nat.zero_add];done)|(rw[Nat.zero_add];rfl))
noncomputable def conClR:Con cx:=jZ 76 Tryz.call76 (bM rdRps) _ _ (fun _=>aw) [] (fun _=>rfl) follows Tryz.func76 (by kernel_rfl) ClR_walk
def movB(b:Body)(ax:Nat)(n:Int):Mov:=⟨⟨0,fun _=>b⟩,⟨0,fun _=>⟨0,0,0⟩⟩,0,0,b.iD,b.posX,b.posY,b.velX,b.velY,b.w,b.h,b.round,b.fixed,ax,if n<0 then -1 else 1⟩
def absI(n:Int):Int:=max n (-n)
def farB(b:Body)(ax:Nat)(n:Int):Int:=runF (movB b ax n) ax (absI n)
def axB(b:Body)(ax:Nat)(n:Int):Body:=shB (movB b ax n) (farB b ax n)
def lH(b:Body)(g:Vec):Body:=axB b 0 (gw b g).x
def stepY(b:Body)(g:Vec):Body:=axB (lH b g) 1 (gw b g).y
def hitX(b:Body)(g:Vec):Bool:=decide (farB b 0 (gw b g).x<absI (gw b g).x)
def hitY(b:Body)(g:Vec):Bool:=decide (farB (lH b g) 1 (gw b g).y<absI (gw b g).y)
def jR(b:Body)(g:Vec):Body:=match b.fixed with
 | true=>b
 | false=>{stepY b g with velX:=bif hitX b g then 0 else(gw b g).x,velY:=bif hitY b g then 0 else(gw b g).y}
def hU(b:Body)(g:Vec):List Stop:=match b.fixed with
 | true=>[]
 | false=>(match hitX b g with|true=>[⟨b.iD,1,-1⟩]|false=>[])++(match hitY b g with|true=>[⟨b.iD,2,-1⟩]|false=>[])
def fy(L:List Stop)(i:Nat):Stop:=L.getD i ⟨0,0,0⟩
def l7(L:List Stop):jm:=⟨L.length,fy L⟩
def stepS(s:Scn):Scn:=⟨⟨s.bodies.n,fun i=>jR (s.bodies.e i) ⟨s.gravityX,s.gravityY⟩⟩,s.ropes,s.gravityX,s.gravityY⟩
def lZ(s:Scn):List Stop:=match s.bodies.n with|0=>[]|_=>hU (s.bodies.e 0) ⟨s.gravityX,s.gravityY⟩
theorem ok_bounds{b:Body}(h:b.ok=true) : -4096≤b.velX∧b.velX≤4096∧-4096≤b.velY∧b.velY≤4096∧-1048576≤b.posX∧b.posX≤1048576∧-1048576≤b.posY∧b.posY≤1048576:=by
 have h1:b.bad1=false:=by cases hb:b.bad1 with|false=>rfl|true=>unfold Body.ok at h;rw[hb] at h;cases h
 unfold Body.bad1 oW okI at h1
 simp only[Bool.or_eq_false_iff,Bool.not_eq_false',Bool.and_eq_true,Bool.not_eq_true',decide_eq_false_iff_not] at h1
 obtain⟨⟨⟨-,h2⟩,h3⟩,-⟩:=h1
 omega
def l8(n:Int):Int:=if n<0 then -1 else 1
def zeroScn:List SV:=[.v (.slice none 0 0),.v (.slice none 0 0),.il .i64 0,.il .i64 0]
def ctS(r:Rps)(x y:Int)(b0 b:Body)(vx vy:Int)(ax mv nm:Nat)(s5:SV)(Hx:bd)(sg:Int):Cut:=⟨Unit,fun _=>True,fun _=>⟨[sl 1 (.p 0 0),sl 2 (.p 1 0),sl 5 s5,sl 6 (.il .i64 0),sl 7 (.p 3 0),sl 8 (.p 4 0),sl 9 (.il .i64 ax),sl 10 (.p 4 ax),sl 11 (.p mv 0),sl 28 (.g 2 2 9 0 1),sl 29 (i64 1),sl 30 (.il .i64 0),sl 41 (.agg [.p 4 0,.p 4 1]),sl 42 (.il .i64 ax)],
 (mv,.lay ([.g 2 2 9 0 1,r.sv,i64 x,i64 y]++b.cells++[.il .i64 ax,i64 sg]) 216)::(Hx++[(0,.lay [.g 2 2 9 0 1,r.sv,i64 x,i64 y] 161),(1,.lay zeroScn 161),(2,.lst 2 9 1 (fun _=>b.cells) 209),(3,.lay b0.cells 209),(4,.lay [i64 vx,i64 vy] 23)]),nm,0,[],[]⟩,fun _=>0⟩
theorem bif0{α:Type}{i:Nat}(h:i<1)(p q:α):p=bif Nat.beq i 0 then p else q:=by
 rw[show i=0 by omega];rfl
def movOf(r:Rps)(x y:Int)(b:Body)(ax:Nat)(sg:Int):Mov:=⟨⟨1,fun _=>b⟩,r,x,y,b.iD,b.posX,b.posY,b.velX,b.velY,b.w,b.h,b.round,b.fixed,ax,sg⟩
structure oS (b:Body):Prop where
 x1 : -1048576≤b.posX
 x2:b.posX≤1048576
 y1 : -1048576≤b.posY
 y2:b.posY≤1048576
theorem nx(v:Int):(v<0∧l8 v = -1)∨(0≤v∧l8 v=1):=by
 unfold l8
 by_cases h:v<0
 ·exact .inl ⟨h,if_pos h⟩
 ·exact .inr ⟨by omega,if_neg h⟩
theorem mov_ok{r:Rps}{x y:Int}{b:Body}{ax:Nat}{v:Int}(hr:r.n=0)(hb:oS b)(h1 : -4096≤v)(h2:v≤4096):(movOf r x y b ax (l8 v)).Ok ax (max v (-v)):=by
 refine⟨rfl,?_,?_,?_,by omega,by omega,hr,Nat.le_refl 1,fun i hi=>rfl⟩
 ·show l8 v=1∨l8 v = -1
  rcases nx v with h|h
  ·exact .inr h.2
  ·exact .inl h.2
 ·unfold posA;split
  ·exact hb.x1
  ·exact hb.y1
 ·unfold posA;split
  ·exact hb.x2
  ·exact hb.y2
theorem far_bd{b:Body}{ax:Nat}{v:Int}(hb:oS b)(h1 : -4096≤v)(h2:v≤4096):0≤farB b ax v∧farB b ax v≤4096∧-1048576≤posA (movB b ax v) ax+l8 v*farB b ax v∧posA (movB b ax v) ax+l8 v*farB b ax v≤1048576:=by
 have hp : -1048576≤posA (movB b ax v) ax∧posA (movB b ax v) ax≤1048576:=by
  unfold posA;split
  ·exact⟨hb.x1,hb.x2⟩
  ·exact⟨hb.y1,hb.y2⟩
 unfold farB runF wallR absI
 have hs:(movB b ax v).sign=l8 v:=rfl
 rw[hs]
 generalize posA (movB b ax v) ax=q at hp ⊢
 rcases nx v with h|h<;>rw[h.2]<;>omega
theorem pos_axB0{b:Body}{v:Int}(hb:oS b)(h1 : -4096≤v)(h2:v≤4096):oS (axB b 0 v):=by
 have h:=far_bd (ax:=0) hb h1 h2
 exact⟨h.2.2.1,h.2.2.2,hb.y1,hb.y2⟩
theorem in_at{b:Body}{ax:Nat}{v:Int}(hb:oS b)(h1 : -4096≤v)(h2:v≤4096):InR (l8 v*farB b ax v)∧InR (b.posX+l8 v*farB b ax v)∧InR (b.posY+l8 v*farB b ax v):=by
 have h:=far_bd (ax:=ax) hb h1 h2
 have:=hb.x1;have:=hb.x2;have:=hb.y1;have:=hb.y2
 unfold InR
 rcases nx v with h'|h'<;>rw[h'.2] at h ⊢<;>omega
theorem speed_bd{b:Body}{g v:Vec}(h:gw b g=v) : -4096≤v.x∧v.x≤4096∧-4096≤v.y∧v.y≤4096:=by
 subst h
 unfold gw
 split
 ·exact⟨by decide,by decide,by decide,by decide⟩
 ·show -4096≤kK _∧kK _≤4096∧-4096≤kK _∧kK _≤4096
  unfold kK;omega
set_option maxHeartbeats 4000000 in
set_option maxRecDepth 8000 in
theorem Step_walk:∀a,aK ((fun a=>[gOk ⟨a.gravityX,a.gravityY⟩,a.ropes.n=0,a.bodies.n≤1,∀i,i<a.bodies.n→(a.bodies.e i).ok=true]) a)→aX (C:=cx) [conIslV,conClB,conClR,conSpeed,eE,conRun,conAt] [] 0 ⟨[],[16],[],3⟩ Tryz.f80 ((bM oz).enc a) fun v H _=>ai ((fun a=>.tup [(stepS a).sv,(l7 (lZ a)).sv,.v (.int .i64 0)]) a) H v:=by
 intro⟨⟨n,e⟩,⟨m,r⟩,x,y⟩ ⟨hg,hm,hn,hok⟩
 obtain rfl:m=0:=hm
 replace hn:n≤1:=hn
 rcases Nat.lt_or_ge 0 n with hp|hp
 ·obtain rfl:n=1:=by omega
  have hok0:(e 0).ok=true:=hok 0 Nat.zero_lt_one
  have n1:(!(decide ((1:Nat)=0)||(e 0).ok))=false:=by rw[hok0];rfl
  refine Ai ⟨fun _ _=>trivial,fun _ _=>trivial,hg,rfl,Nat.le_refl 1⟩ ?_
  refine Ai (fun hb=>absurd (n1.symm.trans hb) (by decide)) (fun hb=>?_)
  refine Ai ⟨fun _ _=>trivial,(by decide:1≤1000)⟩ ?_
  refine Ai ⟨fun _ _=>trivial,(by decide:0≤1000)⟩ ?_
  refine Ai (fun hb=>?_) (fun hb=>absurd (show decide ((0:Int)<1)=false from hb) (by decide))
  refine Ai ⟨(by decide:(0:Int)≤0),(by decide:(0:Int)<1)⟩ ?_
  refine Ai (fun hb=>?_) (fun hb=>?_)
  ·have hf:(e 0).fixed=true:=hb
   have hst:jR (e 0) ⟨x,y⟩=e 0:=by unfold jR;rw[hf]
   have hF:∀i,i<1→jR (e i) ⟨x,y⟩=e (0+i):=fun i hi=>by rw[show i=0 by omega];exact hst
   have hsp:hU (e 0) ⟨x,y⟩=[]:=by unfold hU;rw[hf]
   refine Ai (fun hb=>absurd (show decide ((1:Int)<1)=true from hb) (by decide)) (fun hb=>?_)
   repeat' (first|(refine Ai ?_ ?_)|(intro _)|exact rfl)
   all_goals first|exact congrArg Body.iD (hF _ (by assumption))|exact congrArg Body.posX (hF _ (by assumption))|exact congrArg Body.posY (hF _ (by assumption))|exact congrArg Body.velX (hF _ (by assumption))|exact congrArg Body.velY (hF _ (by assumption))|exact congrArg Body.w (hF _ (by assumption))|exact congrArg Body.h (hF _ (by assumption))|exact congrArg Body.round (hF _ (by assumption))|exact congrArg Body.fixed (hF _ (by assumption))|exact congrArg List.length hsp|exact absurd ‹_<0› (Nat.not_lt_zero _)
  ·have hf:(e 0).fixed=false:=hb
   obtain⟨vx1,vx2,vy1,vy2,px1,px2,py1,py2⟩:=ok_bounds hok0
   refine Ai ⟨hg,hok0,⟨by show -1000000≤(e 0).velX;omega,by show (e 0).velX≤1000000;omega⟩,by show -1000000≤(e 0).velY;omega,by show (e 0).velY≤1000000;omega⟩ ?_
   refine Ai ⟨(by decide:(0:Int)≤0),(by decide:(0:Int)<1)⟩ ?_
   have e1:∀i,i<1→e (0+i)=e 0:=fun i hi=>by rw[show 0+i=0 by omega]
   generalize hv:gw (e 0) ⟨x,y⟩=v
   refine Exists.intro (ctS ⟨0,r⟩ x y (e 0) (e 0) v.x v.y 0 5 6 (.v (.slice none 0 0)) [] (l8 v.x)) ?_
   have hE:∀i,i<1→e 0=e i:=fun i hi=>by rw[show i=0 by omega]
   refine Ai (Ai (fun hb=>?_) (fun hb=>?_)) ?_
   ·have hneg:v.x<0:=by rw[←hv];exact Od hb
    refine⟨(),[],[],trivial,trivial,?_⟩
    repeat' (first|(refine Ai ?_ ?_)|(intro _)|exact rfl)
    all_goals first|exact congrArg Body.iD (hE _ (by assumption))|exact congrArg Body.posX (hE _ (by assumption))|exact congrArg Body.posY (hE _ (by assumption))|exact congrArg Body.velX (hE _ (by assumption))|exact congrArg Body.velY (hE _ (by assumption))|exact congrArg Body.w (hE _ (by assumption))|exact congrArg Body.h (hE _ (by assumption))|exact congrArg Body.round (hE _ (by assumption))|exact congrArg Body.fixed (hE _ (by assumption))|exact if_pos hneg|exact(congrArg Vec.x hv).symm|exact(congrArg Vec.y hv).symm
   ·have hneg:¬v.x<0:=by rw[←hv];exact of_decide_eq_false hb
    refine⟨(),[],[],trivial,trivial,?_⟩
    repeat' (first|(refine Ai ?_ ?_)|(intro _)|exact rfl)
    all_goals first|exact congrArg Body.iD (hE _ (by assumption))|exact congrArg Body.posX (hE _ (by assumption))|exact congrArg Body.posY (hE _ (by assumption))|exact congrArg Body.velX (hE _ (by assumption))|exact congrArg Body.velY (hE _ (by assumption))|exact congrArg Body.w (hE _ (by assumption))|exact congrArg Body.h (hE _ (by assumption))|exact congrArg Body.round (hE _ (by assumption))|exact congrArg Body.fixed (hE _ (by assumption))|exact if_neg hneg|exact(congrArg Vec.x hv).symm|exact(congrArg Vec.y hv).symm
   obtain⟨sx1,sx2,sy1,sy2⟩:=speed_bd hv
   have hP:oS (e 0):=⟨px1,px2,py1,py2⟩
   refine fun(_:Unit) _=>?_
   refine Ai (show InR (-v.x) by unfold InR;omega) ?_
   refine Ai ⟨fun _ _=>trivial,fun _ _=>trivial,.inl rfl,mov_ok (r:=⟨0,r⟩) (x:=x) (y:=y) (ax:=0) rfl hP sx1 sx2⟩ ?_
   refine Ai ⟨fun _ _=>trivial,fun _ _=>trivial,.inl rfl,in_at (ax:=0) hP sx1 sx2⟩ ?_
   refine Ai ⟨(by decide:(0:Int)≤0),(by decide:(0:Int)<1)⟩ ?_
   refine Ai (fun _ _=>⟨rfl,rfl,rfl,rfl,rfl,rfl,rfl,trivial,trivial,trivial⟩) ?_
   refine Ai (fun hb=>?_) (fun hb=>?_)
   ·-- stopped along X
    refine Ai (⟨by decide,by decide⟩:iz 1 24) ?_
    refine Ai ⟨(by decide:(0:Int)≤0),(by decide:(0:Int)<1)⟩ ?_
    refine Exists.intro (ctS ⟨0,r⟩ x y (e 0) (axB (e 0) 0 v.x) 0 v.y 1 8 9 (.g 7 7 3 0 1) [(7,.lst 7 3 1 (fun _=>(Stop.mk (e 0).iD 1 (-1)).cells) 123)] (l8 v.y)) ?_
    refine Ai (Ai (fun hb2=>?_) (fun hb2=>?_)) ?_
    ·have hneg:v.y<0:=Od hb2
     refine⟨(),[],[],trivial,trivial,?_⟩
     repeat' (first|(refine Ai ?_ ?_)|(intro _)|exact rfl)
     all_goals first|exact bif0 (by assumption) _ _|exact if_pos hneg
    ·have hneg:¬v.y<0:=of_decide_eq_false hb2
     refine⟨(),[],[],trivial,trivial,?_⟩
     repeat' (first|(refine Ai ?_ ?_)|(intro _)|exact rfl)
     all_goals first|exact bif0 (by assumption) _ _|exact if_neg hneg
    refine fun(_:Unit) _=>?_
    have hP2:oS (axB (e 0) 0 v.x):=pos_axB0 hP sx1 sx2
    refine Ai (show InR (-v.y) by unfold InR;omega) ?_
    refine Ai ⟨fun _ _=>trivial,fun _ _=>trivial,.inr rfl,mov_ok (r:=⟨0,r⟩) (x:=x) (y:=y) (ax:=1) rfl hP2 sy1 sy2⟩ ?_
    refine Ai ⟨fun _ _=>trivial,fun _ _=>trivial,.inr rfl,in_at (ax:=1) hP2 sy1 sy2⟩ ?_
    refine Ai ⟨(by decide:(0:Int)≤0),(by decide:(0:Int)<1)⟩ ?_
    refine Ai (fun _ _=>⟨rfl,rfl,rfl,rfl,rfl,rfl,rfl,trivial,trivial,trivial⟩) ?_
    refine Ai (fun hb2=>?_) (fun hb2=>?_)
    ·have hX:hitX (e 0) ⟨x,y⟩=true:=by unfold hitX;rw[hv];exact hb
     have hY:hitY (e 0) ⟨x,y⟩=true:=by unfold hitY lH;rw[hv];exact hb2
     have hSB:jR (e 0) ⟨x,y⟩ = {axB (axB (e 0) 0 v.x) 1 v.y with velX:=0,velY:=0}:=by unfold jR stepY lH;rw[hf,hX,hY,hv];rfl
     have hSt:hU (e 0) ⟨x,y⟩=[⟨(e 0).iD,1,-1⟩,⟨(e 0).iD,2,-1⟩]:=by unfold hU;rw[hf,hX,hY];rfl
     repeat' (first|(refine Ai ?_ ?_)|(intro hh;exact absurd (show decide ((1:Int)<1)=true from hh) (by decide))|(intro _)|exact rfl)
     all_goals first|exact trivial|exact(by decide:(0:Int)≤0)|exact(by decide:(0:Int)<1)|(show (2:Nat)≤maxLen;decide)|(show (1:Nat)≤maxLen;decide)|(show (2*24:Nat)≤140737488355328;decide)|(show (1*24:Nat)≤140737488355328;decide)|exact congrArg List.length hSt|exact absurd ‹_<0› (Nat.not_lt_zero _)|(rename_i i hi;revert i;refine mc ?_;first|exact(congrArg Body.iD hSB).trans rfl|exact(congrArg Body.posX hSB).trans rfl|exact(congrArg Body.posY hSB).trans rfl|exact(congrArg Body.velX hSB).trans rfl|exact(congrArg Body.velY hSB).trans rfl|exact(congrArg Body.w hSB).trans rfl|exact(congrArg Body.h hSB).trans rfl|exact(congrArg Body.round hSB).trans rfl|exact(congrArg Body.fixed hSB).trans rfl|(show (_:Bool)=_;exact(congrArg Body.fixed hSB).trans rfl))|(rename_i i hi;revert i;refine two_al ?_ ?_<;>first|exact(congrArg (fun L=>(fy L _).iD) hSt).trans rfl|(show (_:Int)=_;exact(congrArg (fun L=>(fy L _).iD) hSt).trans rfl)|exact(congrArg (fun L=>(fy L _).along) hSt).trans rfl|(show (_:Int)=_;exact(congrArg (fun L=>(fy L _).along) hSt).trans rfl)|exact(congrArg (fun L=>(fy L _).byI) hSt).trans rfl|(show (_:Int)=_;exact(congrArg (fun L=>(fy L _).byI) hSt).trans rfl))|skip
    ·have hX:hitX (e 0) ⟨x,y⟩=true:=by unfold hitX;rw[hv];exact hb
     have hY:hitY (e 0) ⟨x,y⟩=false:=by unfold hitY lH;rw[hv];exact hb2
     have hSB:jR (e 0) ⟨x,y⟩ = {axB (axB (e 0) 0 v.x) 1 v.y with velX:=0,velY:=v.y}:=by unfold jR stepY lH;rw[hf,hX,hY,hv];rfl
     have hSt:hU (e 0) ⟨x,y⟩=[⟨(e 0).iD,1,-1⟩]:=by unfold hU;rw[hf,hX,hY];rfl
     repeat' (first|(refine Ai ?_ ?_)|(intro hh;exact absurd (show decide ((1:Int)<1)=true from hh) (by decide))|(intro _)|exact rfl)
     all_goals first|exact trivial|exact(by decide:(0:Int)≤0)|exact(by decide:(0:Int)<1)|(show (2:Nat)≤maxLen;decide)|(show (1:Nat)≤maxLen;decide)|(show (2*24:Nat)≤140737488355328;decide)|(show (1*24:Nat)≤140737488355328;decide)|exact congrArg List.length hSt|exact absurd ‹_<0› (Nat.not_lt_zero _)|(rename_i i hi;revert i;refine mc ?_;first|exact(congrArg Body.iD hSB).trans rfl|exact(congrArg Body.posX hSB).trans rfl|exact(congrArg Body.posY hSB).trans rfl|exact(congrArg Body.velX hSB).trans rfl|exact(congrArg Body.velY hSB).trans rfl|exact(congrArg Body.w hSB).trans rfl|exact(congrArg Body.h hSB).trans rfl|exact(congrArg Body.round hSB).trans rfl|exact(congrArg Body.fixed hSB).trans rfl|(show (_:Bool)=_;exact(congrArg Body.fixed hSB).trans rfl))|(rename_i i hi;revert i;refine mc ?_<;>first|exact(congrArg (fun L=>(fy L _).iD) hSt).trans rfl|(show (_:Int)=_;exact(congrArg (fun L=>(fy L _).iD) hSt).trans rfl)|exact(congrArg (fun L=>(fy L _).along) hSt).trans rfl|(show (_:Int)=_;exact(congrArg (fun L=>(fy L _).along) hSt).trans rfl)|exact(congrArg (fun L=>(fy L _).byI) hSt).trans rfl|(show (_:Int)=_;exact(congrArg (fun L=>(fy L _).byI) hSt).trans rfl))|skip
   ·-- not stopped along X
    refine Ai ⟨(by decide:(0:Int)≤0),(by decide:(0:Int)<1)⟩ ?_
    refine Exists.intro (ctS ⟨0,r⟩ x y (e 0) (axB (e 0) 0 v.x) v.x v.y 1 6 7 (.v (.slice none 0 0)) [] (l8 v.y)) ?_
    refine Ai (Ai (fun hb2=>?_) (fun hb2=>?_)) ?_
    ·have hneg:v.y<0:=Od hb2
     refine⟨(),[],[],trivial,trivial,?_⟩
     repeat' (first|(refine Ai ?_ ?_)|(intro _)|exact rfl)
     all_goals first|exact bif0 (by assumption) _ _|exact if_pos hneg
    ·have hneg:¬v.y<0:=of_decide_eq_false hb2
     refine⟨(),[],[],trivial,trivial,?_⟩
     repeat' (first|(refine Ai ?_ ?_)|(intro _)|exact rfl)
     all_goals first|exact bif0 (by assumption) _ _|exact if_neg hneg
    refine fun(_:Unit) _=>?_
    have hP2:oS (axB (e 0) 0 v.x):=pos_axB0 hP sx1 sx2
    refine Ai (show InR (-v.y) by unfold InR;omega) ?_
    refine Ai ⟨fun _ _=>trivial,fun _ _=>trivial,.inr rfl,mov_ok (r:=⟨0,r⟩) (x:=x) (y:=y) (ax:=1) rfl hP2 sy1 sy2⟩ ?_
    refine Ai ⟨fun _ _=>trivial,fun _ _=>trivial,.inr rfl,in_at (ax:=1) hP2 sy1 sy2⟩ ?_
    refine Ai ⟨(by decide:(0:Int)≤0),(by decide:(0:Int)<1)⟩ ?_
    refine Ai (fun _ _=>⟨rfl,rfl,rfl,rfl,rfl,rfl,rfl,trivial,trivial,trivial⟩) ?_
    refine Ai (fun hb2=>?_) (fun hb2=>?_)
    ·have hX:hitX (e 0) ⟨x,y⟩=false:=by unfold hitX;rw[hv];exact hb
     have hY:hitY (e 0) ⟨x,y⟩=true:=by unfold hitY lH;rw[hv];exact hb2
     have hSB:jR (e 0) ⟨x,y⟩ = {axB (axB (e 0) 0 v.x) 1 v.y with velX:=v.x,velY:=0}:=by unfold jR stepY lH;rw[hf,hX,hY,hv];rfl
     have hSt:hU (e 0) ⟨x,y⟩=[⟨(e 0).iD,2,-1⟩]:=by unfold hU;rw[hf,hX,hY];rfl
     repeat' (first|(refine Ai ?_ ?_)|(intro hh;exact absurd (show decide ((1:Int)<1)=true from hh) (by decide))|(intro _)|exact rfl)
     all_goals first|exact trivial|exact(by decide:(0:Int)≤0)|exact(by decide:(0:Int)<1)|(show (2:Nat)≤maxLen;decide)|(show (1:Nat)≤maxLen;decide)|(show (2*24:Nat)≤140737488355328;decide)|(show (1*24:Nat)≤140737488355328;decide)|exact congrArg List.length hSt|exact absurd ‹_<0› (Nat.not_lt_zero _)|(rename_i i hi;revert i;refine mc ?_;first|exact(congrArg Body.iD hSB).trans rfl|exact(congrArg Body.posX hSB).trans rfl|exact(congrArg Body.posY hSB).trans rfl|exact(congrArg Body.velX hSB).trans rfl|exact(congrArg Body.velY hSB).trans rfl|exact(congrArg Body.w hSB).trans rfl|exact(congrArg Body.h hSB).trans rfl|exact(congrArg Body.round hSB).trans rfl|exact(congrArg Body.fixed hSB).trans rfl|(show (_:Bool)=_;exact(congrArg Body.fixed hSB).trans rfl))|(rename_i i hi;revert i;refine mc ?_<;>first|exact(congrArg (fun L=>(fy L _).iD) hSt).trans rfl|(show (_:Int)=_;exact(congrArg (fun L=>(fy L _).iD) hSt).trans rfl)|exact(congrArg (fun L=>(fy L _).along) hSt).trans rfl|(show (_:Int)=_;exact(congrArg (fun L=>(fy L _).along) hSt).trans rfl)|exact(congrArg (fun L=>(fy L _).byI) hSt).trans rfl|(show (_:Int)=_;exact(congrArg (fun L=>(fy L _).byI) hSt).trans rfl))|skip
    ·have hX:hitX (e 0) ⟨x,y⟩=false:=by unfold hitX;rw[hv];exact hb
     have hY:hitY (e 0) ⟨x,y⟩=false:=by unfold hitY lH;rw[hv];exact hb2
     have hSB:jR (e 0) ⟨x,y⟩ = {axB (axB (e 0) 0 v.x) 1 v.y with velX:=v.x,velY:=v.y}:=by unfold jR stepY lH;rw[hf,hX,hY,hv];rfl
     have hSt:hU (e 0) ⟨x,y⟩=[]:=by unfold hU;rw[hf,hX,hY];rfl
     repeat' (first|(refine Ai ?_ ?_)|(intro hh;exact absurd (show decide ((1:Int)<1)=true from hh) (by decide))|(intro _)|exact rfl)
     all_goals first|exact trivial|exact(by decide:(0:Int)≤0)|exact(by decide:(0:Int)<1)|(show (2:Nat)≤maxLen;decide)|(show (1:Nat)≤maxLen;decide)|(show (2*24:Nat)≤140737488355328;decide)|(show (1*24:Nat)≤140737488355328;decide)|exact congrArg List.length hSt|exact absurd ‹_<0› (Nat.not_lt_zero _)|(rename_i i hi;revert i;refine mc ?_;first|exact(congrArg Body.iD hSB).trans rfl|exact(congrArg Body.posX hSB).trans rfl|exact(congrArg Body.posY hSB).trans rfl|exact(congrArg Body.velX hSB).trans rfl|exact(congrArg Body.velY hSB).trans rfl|exact(congrArg Body.w hSB).trans rfl|exact(congrArg Body.h hSB).trans rfl|exact(congrArg Body.round hSB).trans rfl|exact(congrArg Body.fixed hSB).trans rfl|(show (_:Bool)=_;exact(congrArg Body.fixed hSB).trans rfl))
 ·obtain rfl:n=0:=by omega
  refine Ai ⟨fun _ _=>trivial,fun _ _=>trivial,hg,rfl,Nat.zero_le 1⟩ ?_
  refine Ai (fun hb=>absurd (show (!(decide ((0:Nat)=0)||(e 0).ok))=true from hb) (by simp)) (fun hb=>?_)
  refine Ai ⟨fun _ _=>trivial,(by decide:0≤1000)⟩ ?_
  refine Ai ⟨fun _ _=>trivial,(by decide:0≤1000)⟩ ?_
  refine Ai (fun hb=>absurd (show decide ((0:Int)<0)=true from hb) (by decide)) (fun hb=>?_)
  repeat' (first|(refine Ai ?_ ?_)|(intro _)|exact rfl)
  all_goals exact absurd ‹_<_› (Nat.not_lt_zero _)
noncomputable def conStep:Con cx:=ah 80 Tryz.call80 (bM oz) _ _ (fun _=>⟨[],[16],[],3⟩) [] (fun _=>rfl) follows Tryz.func80 (by kernel_rfl) Step_walk
end Go.Proofs.YtgigkennhdolpaaGreatDoor
