/- step.World of at most one body.. -/
import Derived.Test.YtgigkennhdolpaaGreatDoorM32
import Derived.Test.YtgigkennhdolpaaGreatDoorM35
import Derived.Test.YtgigkennhdolpaaGreatDoorM31
import Derived.Test.YtgigkennhdolpaaGreatDoorM34
namespace Go.Proofs.YtgigkennhdolpaaGreatDoor
open Go.RowKit
def vJ(w:U8)(g:Vec):WY:=⟨⟨(bw w.l w.l.n).length,gi (bw w.l w.l.n)⟩,Yt.of (.v (.slice none 0 0)),g.x,g.y⟩
theorem sQ{α:Type}{f:Nat->α}{g:Nat->Bool}{x:α} : ∀{k:Nat},x∈fy f g k->∃i,i<k∧g i=true∧x=f i
 | 0,h=>by cases h
 | k+1,h=>by
  cases hg:g k with
  | true=>
   rw[iB hg] at h;rcases UC.1 h with h|h;obtain⟨i,h1,h2⟩:=sQ h;exact⟨i,by omega,h2⟩;exact⟨k,by omega,hg,List.mem_singleton.1 h⟩
  | false=>
   rw[lQ hg] at h;obtain⟨i,h1,h2⟩:=sQ h;exact⟨i,by omega,h2⟩
theorem Ia{lo hi x:Int}(h:lo<=x∧x<=hi):okI lo hi x=true:=by unfold okI;rw[Ut (by omega),Ut (by omega)];rfl
theorem vY{lo hi x y:Int}(h:lo<=x∧x<=hi)(h':lo<=y∧y<=hi):qz lo hi x y=true:=by unfold qz;rw[Ut (by omega),Ut (by omega),Ia h'];rfl
theorem Nt{e:U3}(h:e.vp)(hb:(bI e).2=true):(bI e).1.ok=true:=by
 have hc:((bx e.l 1).2&&(bx e.l 3).2)=true:=by
  unfold bI at hb;cases hc:((bx e.l 1).2&&(bx e.l 3).2) with
  | true=>rfl
  | false=>rw[hc] at hb;exact Up (show false=true from hb) (by decide)
 have e1:(bI e).1=jU e:=by unfold bI;rw[hc]
 obtain⟨c1,c3⟩:=Bool.and_eq_true_iff.1 hc;rw[iV] at c1 c3;obtain⟨k1,f1,-⟩:=gP h c1;obtain⟨k3,f3,-⟩:=gP h c3;rw[<-w8 c1] at k1 f1;rw[<-w8 c3] at k3 f3;obtain⟨p1,p2,p3,p4,-⟩:=f1.2.2.1 k1;obtain⟨s1,s2,s3,s4,s5,s6,s7,s8⟩:=f3.2.2.2.2.1 k3;have hr:=f3.2.2.2.2.2.2.2.2.2.2.2.2.1 k3;have hI:=h.lo;have hI':=h.hi;rw[e1];have hR:∀b:Body,b.iD=e.iD->b.posX=(bx e.l 1).1.v0->b.posY=(bx e.l 1).1.v1->b.w=(bx e.l 3).1.v0->b.h=(bx e.l 3).1.v1->b.round=decide ((bx e.l 3).1.v2=1)->(-4096<=b.velX∧b.velX<=4096)->(-4096<=b.velY∧b.velY<=4096)->(b.fixed=true->b.velX=0∧b.velY=0)->b.ok=true:=by
  intro b h1 h2 h3 h4 h5 h6 h7 h8 h9;have hbad:b.nP=false:=(by unfold Body.nP;rw[Ia (by omega),vY (by omega) (by omega),vY h7 h8,vY (by omega) (by omega)];rfl);unfold Body.ok;rw[hbad];have g1:(!b.round||decide (b.w=b.h))=true:=(by rw[h6];rcases hr with hr|hr;rw[Ut (by omega)];rfl;rw[Uu (by omega:b.w=b.h),Bool.or_true]);have g2:(!b.fixed||(decide (b.velX=0)&&decide (b.velY=0)))=true:=by
   cases hx:b.fixed with
   | false=>rfl
   | true=>obtain⟨q1,q2⟩:=h9 hx;rw[q1,q2];rfl
  show ((!b.round||decide (b.w=b.h))&&(!b.fixed||(decide (b.velX=0)&&decide (b.velY=0))))=true;rw[g1,g2];rfl
 unfold jU;cases hf:ql e with
 | true=>exact hR _ rfl rfl rfl rfl rfl rfl ⟨(show (-4096:Int)<=0 by decide),(show (0:Int)<=4096 by decide)⟩ ⟨(show (-4096:Int)<=0 by decide),(show (0:Int)<=4096 by decide)⟩ (λ_=>⟨rfl,rfl⟩)
 | false=>
  have h2:(bx e.l 2).2=true:=(by unfold ql at hf;have:=(UA.1 hf).2;simpa using this);rw[iV] at h2;obtain⟨k2,f2,-⟩:=gP h h2;rw[<-w8 h2] at k2 f2;obtain⟨v1,v2,v3,v4,-⟩:=f2.2.2.2.1 k2;exact hR _ rfl rfl rfl rfl rfl rfl ⟨v1,v2⟩ ⟨v3,v4⟩ (λh=>Up h Bool.false_ne_true)
theorem FD{w:U8}{g:Vec}(h:w.Valid):∀i,i<(vJ w g).bodies.n->((vJ w g).bodies.e i).ok=true:=by
 intro i hi;have hi:i<(bw w.l w.l.n).length:=hi;have hm:gi (bw w.l w.l.n) i∈bw w.l w.l.n:=by unfold gi;rw[List.getD_eq_getElem?_getD,UE hi];exact List.getElem_mem hi
 obtain⟨j,h1,h2,h3⟩:=sQ hm;show (gi (bw w.l w.l.n) i).ok=true;rw[h3];exact Nt (h.right j h1) h2
set_option maxHeartbeats 2000000 in
set_option maxRecDepth 8000 in
theorem xl:∀a,aH ((λa=>[a.1.valid=true,a.1.l.Sm,a.2.1.n=0,(bw a.1.l a.1.l.n).length<=1,gOk a.2.2]) a)->aM (C:=cx) [Fv,MU,J0] [] 0 av Tryz.f44 ((ib c8 mX eI).enc a) λv H _=>ae ((λa=>.tup [(gh (xH (vJ a.1 a.2.2)) a.1).sv,(np (nj (vJ a.1 a.2.2))).sv,.v (.int .i64 0)]) a) H v:=by
 intro⟨w,r,g⟩ ⟨hv,hs,hx,hb,hg⟩;replace hv:w.valid=true:=hv;replace hs:w.l.Sm:=hs;replace hx:r.n=0:=hx;replace hb:(bw w.l w.l.n).length<=1:=hb;replace hg:gOk g:=hg;have hV:=U8.ew.1 hv;have hlen:=hV.len;refine Ai ⟨by repeat' (first|exact trivial|exact rfl|refine Ai ?_ ?_|intro _),by repeat' (first|exact trivial|exact rfl|refine Ai ?_ ?_|intro _),hs,by show w.l.n<=1000;omega,hx⟩ ?_;refine Ai ⟨by repeat' (first|exact trivial|exact rfl|refine Ai ?_ ?_|intro _),hg,rfl,hb,FD (g:=g) hV⟩ ?_;refine Ai (λhc=>Up (show decide (¬(0:Int)=0)=true from hc) (by decide)) (λ_=>?_);refine Ai ⟨by repeat' (first|exact trivial|exact rfl|refine Ai ?_ ?_|intro _),by repeat' (first|exact trivial|exact rfl|refine Ai ?_ ?_|intro _),by repeat' (first|exact trivial|exact rfl|refine Ai ?_ ?_|intro _),hv,hs,Nat.le_trans hb (by decide)⟩ ?_;have hS:(bh p9).dec [SV.agg [SV.rs 9 (bw w.l w.l.n).length (λi=>(gi (bw w.l w.l.n) i).cells),.v (.slice none 0 0),.v (.int .i64 g.x),.v (.int .i64 g.y)]]=vJ w g:=rfl;have hD:(aL c8 p9).dec [w.sv,(xH (vJ w g)).sv]=(w,xH (vJ w g)):=rfl;repeat' (first|refine Ai ?_ ?_|(intro _))
 any_goals exact(rfl:(0:Int)=0)
 all_goals first
  | exact Uo (λp:U8×WY=>(gh p.2 p.1).tick) hD.symm
  | exact Uo (λp:U8×WY=>(gh p.2 p.1).l.n) hD.symm
  | exact Uo (λp:U8×WY=>((gh p.2 p.1).l.e _).iD) hD.symm
  | exact Uo (λp:U8×WY=>((gh p.2 p.1).l.e _).l.n) hD.symm
  | exact Uo (λp:U8×WY=>(((gh p.2 p.1).l.e _).l.c _).kind) hD.symm
  | exact Uo (λp:U8×WY=>(((gh p.2 p.1).l.e _).l.c _).v0) hD.symm
  | exact Uo (λp:U8×WY=>(((gh p.2 p.1).l.e _).l.c _).v1) hD.symm
  | exact Uo (λp:U8×WY=>(((gh p.2 p.1).l.e _).l.c _).v2) hD.symm
  | exact Uo (λp:U8×WY=>(((gh p.2 p.1).l.e _).l.c _).v3) hD.symm
  | exact Uo (λs:WY=>(np (nj s)).n) hS.symm
  | exact Uo (λs:WY=>((np (nj s)).e _).iD) hS.symm
  | exact Uo (λs:WY=>((np (nj s)).e _).along) hS.symm
  | exact Uo (λs:WY=>((np (nj s)).e _).byI) hS.symm
set_option maxRecDepth 8000
set_option maxHeartbeats 2000000
def Qv(w:U8)(b:Nat)(H0:aY):Cut:=⟨Nat,λk=>k<=w.l.n,λk=>⟨[sl 2 (.p (b+1) 0),sl 3 (.p (b+2) 0),sl 10 w.l.sv,sl 11 (i64 w.l.n),sl 12 (i64 k)],
 (b+1,.lay uq 28)::(b+2,.lay [.v (.int .i64 w.tick),.g (b+3) (b+4) 2 0 k] 28)::(b+3,yd w.l k (b+4))::H0,b+5,0,[],[]⟩,λk=>w.l.n-k⟩
def lf(c:Int):Bool:=decide (c<1)||decide (8<c)
theorem Ab:∀a,aH ((λ_=>[]) a)->aM (C:=cx) [] [] 0 av Tryz.f55 ((bh Ol).enc a) λv H _=>ae ((λa=>.v (.bool (lf a.client))) a) H v:=by intro a _;exact rfl
noncomputable def Fl:UO cx:=ai 55 Tryz.call55 (bh Ol) _ _ (λ_=>av) [] (λ_=>rfl) follows Tryz.func55 (by kernel_rfl) Ab
noncomputable def P7:V3 cx:=⟨91,Tryz.call91,Tryz.f91,Tryz.func91,[],[],[2],0,by kernel_rfl⟩
def Mo(l:bX):Cut:=⟨Nat,λk=>k<=l.n∧bN (λi=>lf (l.e i).client) 0 l.n=bN (λi=>lf (l.e i).client) k (l.n-k),
 λk=>⟨[sl 0 l.sv,sl 1 (.v (.func (.func 55) #[] #[])),sl 7 (i64 l.n),sl 8 (i64 k)],[],0,0,[],[]⟩,λk=>l.n-k⟩
theorem Gp:∀a,aH ((λa=>[(a.1.n:Int)<=bY,a.2=(.v (.func (.func 55) #[] #[]))]) a)->aM (C:=cx) [Fl] [P7] 1 av Tryz.f54 ((aL gU V4).enc a) λv H _=>ae ((λa=>.v (.bool (bN (λi=>lf (a.1.e i).client) 0 a.1.n))) a) H v:=by
 intro⟨l,x⟩ ⟨hn,hx⟩;replace hx:x=.v (.func (.func 55) #[] #[]):=hx;subst hx;replace hn:(l.n:Int)<=bY:=hn;have hm:(l.n:Int)<=9223372036854775807:=hn;refine Uh (Mo l) ?_;refine Ai ?_ ?_
 ·refine⟨(0:Nat),[],[],trivial,⟨Ui _,rfl⟩,?_⟩;repeat' (first|refine Ai ?_ ?_|intro _|exact rfl)
 refine fun(k:Nat) (hk:k<=l.n∧bN (λi=>lf (l.e i).client) 0 l.n=bN (λi=>lf (l.e i).client) k (l.n-k))=>?_;obtain⟨k1,k2⟩:=hk;refine Ai (λhb=>?_) (λhb=>?_)
 ·have hb:(k:Int)<l.n:=Od hb;have e:=dS (g:=(λi=>lf (l.e i).client)) (k:=k) (n:=l.n) (by omega);refine Ai ⟨by omega,by omega⟩ ?_;refine Ai (λhc=>?_) (λhc=>?_);have hc:lf (l.e k).client=true:=hc;simp only[hc] at e;refine UK (a:=bN (λi=>lf (l.e i).client) 0 l.n) (b:=decide (0<=(k:Int))) ?_ rfl;rw[k2,e,Uu (by omega)];have hc:lf (l.e k).client=false:=hc;simp only[hc] at e;refine Ai (by unfold UP;omega:UP ((k:Int)+1)) ?_;refine⟨k+1,[],[],(by show l.n-(k+1)<l.n-k;omega),⟨by omega,by rw[k2,e]⟩,?_⟩;repeat' (first|refine Ai ?_ ?_|intro _|exact rfl)
 have hb:¬(k:Int)<l.n:=Ur hb;have e:bN (λi=>lf (l.e i).client) 0 l.n=false:=by rw[k2,show l.n-k=0 by omega];rfl
 exact e
noncomputable def DL:UO cx:=ai 54 Tryz.call54 (aL gU V4) _ _ (λ_=>av) [] (λ_=>rfl) follows Tryz.func54 (by kernel_rfl) Gp
def dZ(l:bX):Nat->Int->Nat
 | 0,_=>0
 | k+1,q=>bif decide ((l.e k).client=q)&&(decide (dZ l k q=0)||decide ((l.e (dZ l k q-1)).seq<=(l.e k).seq)) then k+1 else dZ l k q
theorem wC{l:bX}{q:Int} : ∀{k:Nat},dZ l k q<=k
 | 0=>I' _
 | k+1=>by
  unfold dZ;have:=wC (l:=l) (q:=q) (k:=k);cases (decide ((l.e k).client=q)&&(decide (dZ l k q=0)||decide ((l.e (dZ l k q-1)).seq<=(l.e k).seq))) with
  | true=>exact I' _
  | false=>exact Nat.le_succ_of_le this
def EX(l:bX)(k:Nat)(q:Int):Bool:=Nat.blt 0 (dZ l k q)
def TT(l:bX)(k:Nat)(q:Int):List SV:=[.v (.int .i64 (dZ l k q))]
def fJ(l:bX)(k:Nat)(q:Int):Int:=bif EX l k q then(dZ l k q:Int) else 0
theorem qW{l:bX}{k:Nat}{q:Int} : fJ l k q=dZ l k q:=by
 unfold fJ EX;cases h:dZ l k q with
 | zero=>rfl
 | succ m=>rfl
theorem yC{l:bX}{k:Nat}(h:(decide (fJ l k (l.e k).client=0)||decide ((l.e (fJ l k (l.e k).client-1).toNat).seq<=(l.e k).seq))=true)(j:Int):dZ l (k+1) j=bif decide (j=(l.e k).client) then k+1 else dZ l k j:=by rw[qW,show ((dZ l k (l.e k).client:Int)-1).toNat=dZ l k (l.e k).client-1 by omega,show decide ((dZ l k (l.e k).client:Int)=0)=decide (dZ l k (l.e k).client=0) from decide_eq_decide.2 (by omega)] at h;rw[dZ];by_cases hj:j=(l.e k).client;subst hj;rw[h,Uu rfl];rfl;rw[Ut hj,Ut (Ne.symm hj)];rfl
theorem yD{l:bX}{k:Nat}(h:(decide (fJ l k (l.e k).client=0)||decide ((l.e (fJ l k (l.e k).client-1).toNat).seq<=(l.e k).seq))=false)(j:Int):dZ l (k+1) j=dZ l k j:=by rw[qW,show ((dZ l k (l.e k).client:Int)-1).toNat=dZ l k (l.e k).client-1 by omega,show decide ((dZ l k (l.e k).client:Int)=0)=decide (dZ l k (l.e k).client=0) from decide_eq_decide.2 (by omega)] at h;rw[dZ];by_cases hj:j=(l.e k).client;subst hj;rw[h,Bool.and_false];rfl;rw[Ut (Ne.symm hj)];rfl
theorem ID{l:bX}{k:Nat}(h:(decide (fJ l k (l.e k).client=0)||decide ((l.e (fJ l k (l.e k).client-1).toNat).seq<=(l.e k).seq))=true)(j:Int):EX l (k+1) j=(decide (j=(l.e k).client)||EX l k j):=by unfold EX;rw[yC h];cases decide (j=(l.e k).client)<;>rfl
def Lf(e:U3)(v:Df.Vec):U3:=⟨e.iD,⟨e.l.n,λj=>bif Nat.beq j (UW e.l 2) then⟨(e.l.c (UW e.l 2)).kind,v.x,v.y,(e.l.c (UW e.l 2)).v2,(e.l.c (UW e.l 2)).v3⟩ else e.l.c j⟩⟩
def mvI(l:bX)(q:Int):Df.Vec:=Df.lim ⟨(l.e (dZ l l.n q-1)).moveX,(l.e (dZ l l.n q-1)).moveY⟩ 64
def cP(l:bX)(e:U3):U3:=match jx e.l 4,jx e.l 2 with
 | true,true=>bif Nat.blt 0 (dZ l l.n (e.l.c (UW e.l 4)).v0) then Lf e (mvI l (e.l.c (UW e.l 4)).v0) else e
 | _,_=>e
def eE(w:U8)(l:bX):Bool:=!w.valid||bN (λi=>lf (l.e i).client) 0 l.n
def bJ(w:U8)(l:bX):U8×Int:=match eE w l with
 | true=>(⟨0,⟨0,λ_=>U3.no⟩⟩,2)
 | false=>(⟨w.tick,⟨w.l.n,λi=>cP l (w.l.e i)⟩⟩,0)
def Vj(w:U8)(l:bX)(k:Nat):WU:=⟨w.l.n,λi=>bif Nat.blt i k then cP l (w.l.e i) else w.l.e i⟩
theorem rC{w:U8}{l:bX}{k:Nat} : (Vj w l k).e k=w.l.e k:=by show (bif Nat.blt k k then _ else w.l.e k)=_;rw[show Nat.blt k k=false from by cases e:Nat.blt k k;rfl;exact Up (L' e) (by omega)];rfl
theorem iK{w:U8}{l:bX}{k i:Nat}(h:i<k):(Vj w l k).e i=cP l (w.l.e i):=by show (bif Nat.blt i k then _ else w.l.e i)=_;rw[show Nat.blt i k=true from Nat.ble_eq_true_of_le h];rfl
theorem nf{w:U8}{l:bX}{k i:Nat}(h:i≠k):(Vj w l (k+1)).e i=(Vj w l k).e i:=by
 show (bif Nat.blt i (k+1) then _ else _)=(bif Nat.blt i k then _ else _)
 rw[show Nat.blt i (k+1)=Nat.blt i k from by
  cases e:Nat.blt i k with
  | true=>exact Nat.ble_eq_true_of_le (by have:=L' e;omega)
  | false=>
   cases e':Nat.blt i (k+1) with
   | false=>rfl
   | true=>have h1:=L' e';rw[show Nat.blt i k=true from Nat.ble_eq_true_of_le (by omega)] at e;cases e]
theorem bb1{A A0:Bool}{x y x' z:Int}(h0:A0=true):(bif A then x else z)=bif A then(bif A0 then x else y) else(bif A then x' else z):=by subst h0;cases A<;>rfl
theorem bb2{A:Bool}{x x' z:Int} : (bif A then x else z)=bif A then x else(bif A then x' else z):=by cases A<;>rfl
theorem OZ{w:U8}{l:bX}{k i:Nat}(h:∀e,(cP l e).iD=e.iD):((Vj w l (k+1)).e i).iD=((Vj w l k).e i).iD:=by by_cases hi:i=k;subst hi;rw[iK (by omega),rC,h];rw[nf hi]
theorem Rw{w:U8}{l:bX}{k i:Nat}(h:∀e,(cP l e).l.n=e.l.n):((Vj w l (k+1)).e i).l.n=((Vj w l k).e i).l.n:=by by_cases hi:i=k;subst hi;rw[iK (by omega),rC,h];rw[nf hi]
theorem Ev{l:bX}(e:U3):(cP l e).iD=e.iD:=by unfold cP;split;cases Nat.blt 0 (dZ l l.n (e.l.c (UW e.l 4)).v0)<;>rfl;rfl
theorem Hc{l:bX}(e:U3):(cP l e).l.n=e.l.n:=by unfold cP;split;cases Nat.blt 0 (dZ l l.n (e.l.c (UW e.l 4)).v0)<;>rfl;rfl
theorem OY{w:U8}{l:bX}{k:Nat}{v:Df.Vec}(h:cP l (w.l.e k)=Lf (w.l.e k) v)(i j:Nat):((Vj w l (k+1)).e i).l.c j=bif NR (Nat.beq i k) (Nat.beq j (UW (w.l.e k).l 2)) then⟨((w.l.e k).l.c (UW (w.l.e k).l 2)).kind,v.x,v.y,((w.l.e k).l.c (UW (w.l.e k).l 2)).v2,((w.l.e k).l.c (UW (w.l.e k).l 2)).v3⟩ else((Vj w l k).e i).l.c j:=by by_cases hi:i=k;subst hi;rw[iK (by omega),rC,h,UG];rfl;rw[nf hi,ij hi];rfl
def S6(b4 b2:Bool):Nat:=match b4,b2 with
 | false,false=>0
 | false,true=>16
 | true,false=>32
 | true,true=>48
def TH(nm:Nat)(q:Int):Bool:=match (nm-10)/16,q with
 | 1,.ofNat 2=>true
 | 2,.ofNat 4=>true
 | 3,.ofNat 2=>true
 | 3,.ofNat 4=>true
 | _,_=>false
def Ld(w:U8)(l:bX)(k:Nat):aY:=[(0,.lay w.cells 28),(1,.lay uq 28),(2,.mp (.i .i64) false (EX l k) (TT l k))]
def TE(w:U8)(l:bX):Cut:=⟨Nat,λk=>k<=l.n,λk=>⟨[sl 1 l.sv,sl 2 (.p 0 0),sl 4 (.p 1 0),sl 6 (.m 2),sl 26 l.sv,sl 27 (i64 l.n),sl 28 (i64 k)],Ld w l k,3,0,[],[]⟩,λk=>l.n-k⟩
def TD(w:U8)(l:bX):Cut:=⟨Nat,λk=>k<=w.l.n,λk=>⟨[sl 1 l.sv,sl 4 (.p 1 0),sl 6 (.m 2),sl 10 (.p 8 0),sl 59 (.g 6 7 2 0 w.l.n),sl 60 (i64 w.l.n),sl 61 (i64 k)],
 (8,.lay [.v (.int .i64 w.tick),.g 6 7 2 0 w.l.n] 28)::(6,yd (Vj w l k) w.l.n 7)::Ld w l l.n,9,0,[],[]⟩,λk=>w.l.n-k⟩
def TC(w:U8)(l:bX)(k:Nat)(b4 b2:Bool):Cut:=⟨Unit,λ_=>k<w.l.n,λ_=>⟨[sl 1 l.sv,sl 4 (.p 1 0),sl 6 (.m 2),sl 10 (.p 8 0),sl 59 (.g 6 7 2 0 w.l.n),sl 60 (i64 w.l.n),sl 61 (i64 k)],
 (8,.lay [.v (.int .i64 w.tick),.g 6 7 2 0 w.l.n] 28)::(6,yd (Vj w l k) w.l.n 7)::Ld w l l.n,9+S6 b4 b2,0,[],[]⟩,λ_=>0⟩
noncomputable def yL:V3 cx:=⟨56,Tryz.call56,Tryz.f56,Tryz.func56,[],[],[3],0,by kernel_rfl⟩
set_option maxHeartbeats 4000000 in
theorem BM:∀a,aH ((λa=>[a.1.l.Sm,(a.2.n:Int)<=bY,∀i,i<a.2.n->Vd (a.2.e i).moveX∧Vd (a.2.e i).moveY]) a)->aM (C:=cx) [iE,DL,pM,Nd TH,Df.JQ] [yL] 1 ⟨[20],[14],[5,13],0⟩ Tryz.f21 ((aL c8 gU).enc a) λv H _=>ae ((λa=>.tup [(bJ a.1 a.2).1.sv,.v (.int .i64 (bJ a.1 a.2).2)]) a) H v:=by
 intro⟨w,l⟩ ⟨hs,hn,hm⟩;replace hs:w.l.Sm:=hs;replace hn:(l.n:Int)<=9223372036854775807:=hn;replace hm:∀i,i<l.n->Vd (l.e i).moveX∧Vd (l.e i).moveY:=hm;refine Ai ⟨by repeat' (first|exact trivial|exact rfl|refine Ai ?_ ?_|intro _),hs⟩ ?_;refine Ai (λ_=>⟨λ_ _=>trivial,hn,rfl⟩) ?_;refine Ai (λhc=>?_) (λhc=>?_)
 ·have hc:eE w l=true:=hc;have e:bJ w l=(⟨0,⟨0,λ_=>U3.no⟩⟩,2):=(by unfold bJ;rw[hc]);simp only[e];repeat' (first|refine Ai ?_ ?_|intro _|exact rfl)
  all_goals exact Up ‹_<0› (F' _)
 have hc:eE w l=false:=hc;have e:bJ w l=(⟨w.tick,⟨w.l.n,λi=>cP l (w.l.e i)⟩⟩,0):=by unfold bJ;rw[hc]
 simp only[e];have hv:w.valid=true:=by unfold eE at hc;simpa using (UA.1 hc).1
 have hV:=U8.ew.1 hv;have hlen:=hV.len;have Zs:w.l.n<=1000∧∀i,i<w.l.n->(w.l.e i).l.n<=1000:=⟨by omega,λi hi=>by have:=(hV.right i hi).len;omega⟩
 refine Uh (TE w l) ?_;refine Ai ?_ ?_
 ·refine⟨(0:Nat),[],[],trivial,Ui _,?_⟩;repeat' (first|refine Ai ?_ ?_|intro _|exact rfl)
  all_goals exact(Bool.false_ne_true ‹_›).elim
 refine fun(k:Nat) (hk:k<=l.n)=>?_;refine Ai (λhb=>?_) (λhb=>?_)
 ·have hb:(k:Int)<l.n:=Od hb;refine Ai ⟨by omega,by omega⟩ ?_;refine Ai (by repeat' (first|exact trivial|exact rfl|refine Ai ?_ ?_|intro _)) ?_;have hV':fJ l k (l.e k).client=dZ l k (l.e k).client:=qW;have hle:=wC (l:=l) (q:=(l.e k).client) (k:=k);have o1:UP ((k:Int)+1):=(by unfold UP;omega);refine Ai (λhi=>by have hi:decide (fJ l k (l.e k).client=0)=false:=hi;have:=Ur hi;show UP (fJ l k (l.e k).client-1);rw[hV'] at this ⊢;unfold UP;omega) ?_;refine Ai (λhi=>by
   have hi:decide (fJ l k (l.e k).client=0)=false:=hi;have:=Ur hi;show 0<=fJ l k (l.e k).client-1∧fJ l k (l.e k).client-1<(l.n:Int)
   rw[hV'] at this ⊢;omega) ?_
  refine Ai (λhc=>?_) (λhc=>?_)
  ·have hc:(decide (fJ l k (l.e k).client=0)||decide ((l.e (fJ l k (l.e k).client-1).toNat).seq<=(l.e k).seq))=true:=hc;refine Ai o1 ?_;refine Ai (by repeat' (first|exact trivial|exact rfl|refine Ai ?_ ?_|intro _)) ?_;refine Ai o1 ?_;refine⟨k+1,[],[],(by show l.n-(k+1)<l.n-k;omega),(by show k+1<=l.n;omega),?_⟩;repeat' (first|refine Ai ?_ ?_|intro _|exact rfl)
   exact ID hc _;refine(Uo Int.ofNat (yC hc _)).trans ?_;exact cL Int.ofNat
  have hc:(decide (fJ l k (l.e k).client=0)||decide ((l.e (fJ l k (l.e k).client-1).toNat).seq<=(l.e k).seq))=false:=hc;refine Ai o1 ?_;refine⟨k+1,[],[],(by show l.n-(k+1)<l.n-k;omega),(by show k+1<=l.n;omega),?_⟩;repeat' (first|refine Ai ?_ ?_|intro _|exact rfl)
  exact Uo (Nat.blt 0) (yD hc _);exact Uo Int.ofNat (yD hc _)
 have hb:¬(k:Int)<l.n:=Ur hb;obtain rfl:k=l.n:=by omega
 refine Uh (Qv w 3 (Ld w l l.n)) ?_;refine Ai ?_ ?_
 ·refine⟨(0:Nat),[],[.cellN 5 1 2 1 5 46 42],trivial,Ui _,?_⟩;repeat' (first|refine Ai ?_ ?_|intro _|exact rfl)
  all_goals exact Up ‹_<0› (F' _)
 refine fun(k:Nat) (hk:k<=w.l.n)=>?_;refine Ai (λhb=>?_) (λhb=>?_)
 ·have hb:(k:Int)<w.l.n:=Od hb;refine Ai ⟨by omega,by omega⟩ ?_;refine Ai ⟨λ_ _=>trivial,(by have:=Zs.2 k (by omega);(show (w.l.e k).l.n<=1000);omega)⟩ ?_;have Vn:dW (k+1) 32:=⟨Nat.le_trans (by have:=Zs.1;omega:k+1<=1001) (by decide),by have:=Zs.1;omega⟩
  refine Ai ⟨Vn,?_⟩ ?_
  ·repeat' (first|refine Ai ?_ ?_|intro _|exact rfl)
  refine Ai (by have:=Zs.1;unfold UP;omega:UP ((k:Int)+1)) ?_;refine⟨k+1,[(7,11)],[.bq 6],(by show w.l.n-(k+1)<w.l.n-k;omega),(by omega:k+1<=w.l.n),?_⟩;repeat' (first|refine Ai ?_ ?_|intro _|exact rfl)
  refine az (α:=List SV) (p:=λi y=>aI (Vl 8 [(7,11)] (List.set [SV.v (Value.int IntKind.i64 (w.l.e i).iD),SV.e] 1 SV.e) (y.set 1 SV.e))) ?_ ?_ _ ‹_›;exact rfl;exact λi _=>rfl;refine az (α:=Nat×(Nat->List SV)) (p:=λi y=>(w.l.e i).l.n=y.1) ?_ ?_ _ ‹_›;exact rfl;exact λi _=>rfl;refine az (α:=Nat×(Nat->List SV)) (p:=λi y=>∀j,j<y.1->aI (Vl 8 [(7,11)] ((w.l.e i).l.c j).cells (y.2 j))) ?_ ?_ _ ‹_› _ ‹_›
  ·exact λj _=>⟨rfl,rfl,rfl,rfl,rfl⟩
  ·exact λi _ j _=>⟨rfl,rfl,rfl,rfl,rfl⟩
 have hb:¬(k:Int)<w.l.n:=Ur hb;obtain rfl:k=w.l.n:=by omega
 refine Uh (TD w l) ?_;refine Ai ?_ ?_
 ·refine⟨(0:Nat),[],[],trivial,Ui _,?_⟩;repeat' (first|refine Ai ?_ ?_|intro _|exact rfl)
 refine fun(k:Nat) (hk:k<=w.l.n)=>?_;generalize hb4:jx (w.l.e k).l 4=b4;generalize Vi:jx (w.l.e k).l 2=b2;have hek:(Vj w l k).e k=w.l.e k:=rC;have he0:(Vj w l k).e (0+k)=w.l.e k:=by rw[B'];exact rC
 have YM:∀(b4 b2:Bool),jx (w.l.e k).l 4=b4->jx (w.l.e k).l 2=b2->b4=decide (Vh (λj=>(((Vj w l k).e (0+k)).l.c j).cells) ((Vj w l k).e (0+k)).l.n 4<((Vj w l k).e (0+k)).l.n)∧b2=decide (Vh (λj=>(((Vj w l k).e (0+k)).l.c j).cells) ((Vj w l k).e (0+k)).l.n 2<((Vj w l k).e (0+k)).l.n):=λb4 b2 h4 h2=>by rw[he0];exact Ai h4.symm h2.symm
 obtain⟨s4,s2⟩:=YM _ _ hb4 Vi;refine Uh (TC w l k b4 b2) ?_;cases b4<;>cases b2
 ·refine Ai ?_ ?_
  ·refine Ai (λhb=>?_) (λhb=>?_)
   ·have hb:(k:Int)<w.l.n:=Od hb;refine⟨(),[],[],trivial,(by show k<w.l.n;omega),?_⟩;repeat' (first|refine Ai ?_ ?_|intro _|exact rfl)
   have hb:¬(k:Int)<w.l.n:=Ur hb;obtain rfl:k=w.l.n:=(by omega);have hs:∀i,i<w.l.n->(Vj w l w.l.n).e (0+i)=cP l (w.l.e i):=λi hi=>(by rw[B'];exact iK hi);repeat' (first|refine Ai ?_ ?_|intro _|exact rfl)
   all_goals first|exact(Uo U3.iD (hs _ ‹_›)).symm|exact(Uo (λe:U3=>e.l.n) (hs _ ‹_›)).symm|exact(Uo (λe:U3=>(e.l.c _).kind) (hs _ ‹_<w.l.n›)).symm|exact(Uo (λe:U3=>(e.l.c _).v0) (hs _ ‹_<w.l.n›)).symm|exact(Uo (λe:U3=>(e.l.c _).v1) (hs _ ‹_<w.l.n›)).symm|exact(Uo (λe:U3=>(e.l.c _).v2) (hs _ ‹_<w.l.n›)).symm|exact(Uo (λe:U3=>(e.l.c _).v3) (hs _ ‹_<w.l.n›)).symm
  refine fun(_:Unit) (XM:k<w.l.n)=>?_;have hR:=hV.right k XM;have Vp:(((Vj w l k).e (0+k)).l.n:Int)<=bY:=(by rw[he0];exact Int.le_trans (by have:=Zs.2 k XM;omega:((w.l.e k).l.n:Int)<=1000) (by decide));have o1:UP ((k:Int)+1):=(by unfold UP;omega);have Ye:0+k<w.l.n:=(by omega);refine Ai ⟨by omega,by omega⟩ ?_;refine Ai ⟨Ye,λj _=>⟨_,rfl⟩,Vp,s4⟩ ?_;refine Ai ⟨Ye,λj _=>⟨_,rfl⟩,Vp,s2⟩ ?_;have Vt:cP l (w.l.e k)=w.l.e k:=(by unfold cP;rw[hb4,Vi]);refine Ai o1 ?_;refine⟨k+1,[],[],(by show w.l.n-(k+1)<w.l.n-k;omega),(by show k+1<=w.l.n;omega),?_⟩;have hs:∀i,(Vj w l (k+1)).e i=(Vj w l k).e i:=λi=>by by_cases hi:i=k;subst hi;rw[iK (by omega),Vt,hek];exact nf hi
  (repeat' (first|refine Ai ?_ ?_|intro _|exact rfl));all_goals first|exact Uo (λe:U3=>e.iD) (hs _)|exact Uo (λe:U3=>e.l.n) (hs _)|exact Uo (λe:U3=>(e.l.c _).kind) (hs _)|exact Uo (λe:U3=>(e.l.c _).v0) (hs _)|exact Uo (λe:U3=>(e.l.c _).v1) (hs _)|exact Uo (λe:U3=>(e.l.c _).v2) (hs _)|exact Uo (λe:U3=>(e.l.c _).v3) (hs _)
 ·refine Ai ?_ ?_
  ·refine Ai (λhb=>?_) (λhb=>?_)
   ·have hb:(k:Int)<w.l.n:=Od hb;refine⟨(),[],[],trivial,(by show k<w.l.n;omega),?_⟩;repeat' (first|refine Ai ?_ ?_|intro _|exact rfl)
   have hb:¬(k:Int)<w.l.n:=Ur hb;obtain rfl:k=w.l.n:=(by omega);have hs:∀i,i<w.l.n->(Vj w l w.l.n).e (0+i)=cP l (w.l.e i):=λi hi=>(by rw[B'];exact iK hi);repeat' (first|refine Ai ?_ ?_|intro _|exact rfl)
   all_goals first|exact(Uo U3.iD (hs _ ‹_›)).symm|exact(Uo (λe:U3=>e.l.n) (hs _ ‹_›)).symm|exact(Uo (λe:U3=>(e.l.c _).kind) (hs _ ‹_<w.l.n›)).symm|exact(Uo (λe:U3=>(e.l.c _).v0) (hs _ ‹_<w.l.n›)).symm|exact(Uo (λe:U3=>(e.l.c _).v1) (hs _ ‹_<w.l.n›)).symm|exact(Uo (λe:U3=>(e.l.c _).v2) (hs _ ‹_<w.l.n›)).symm|exact(Uo (λe:U3=>(e.l.c _).v3) (hs _ ‹_<w.l.n›)).symm
  refine fun(_:Unit) (XM:k<w.l.n)=>?_;have hR:=hV.right k XM;have Vp:(((Vj w l k).e (0+k)).l.n:Int)<=bY:=(by rw[he0];exact Int.le_trans (by have:=Zs.2 k XM;omega:((w.l.e k).l.n:Int)<=1000) (by decide));have o1:UP ((k:Int)+1):=(by unfold UP;omega);have Ye:0+k<w.l.n:=(by omega);refine Ai ⟨by omega,by omega⟩ ?_;refine Ai ⟨Ye,λj _=>⟨_,rfl⟩,Vp,s4⟩ ?_;refine Ai ⟨Ye,λj _=>⟨_,rfl⟩,Vp,s2⟩ ?_;have Vt:cP l (w.l.e k)=w.l.e k:=(by unfold cP;rw[hb4,Vi]);refine Ai o1 ?_;refine⟨k+1,[],[],(by show w.l.n-(k+1)<w.l.n-k;omega),(by show k+1<=w.l.n;omega),?_⟩;have hs:∀i,(Vj w l (k+1)).e i=(Vj w l k).e i:=λi=>by by_cases hi:i=k;subst hi;rw[iK (by omega),Vt,hek];exact nf hi
  (repeat' (first|refine Ai ?_ ?_|intro _|exact rfl));all_goals first|exact Uo (λe:U3=>e.iD) (hs _)|exact Uo (λe:U3=>e.l.n) (hs _)|exact Uo (λe:U3=>(e.l.c _).kind) (hs _)|exact Uo (λe:U3=>(e.l.c _).v0) (hs _)|exact Uo (λe:U3=>(e.l.c _).v1) (hs _)|exact Uo (λe:U3=>(e.l.c _).v2) (hs _)|exact Uo (λe:U3=>(e.l.c _).v3) (hs _)
 ·refine Ai ?_ ?_
  ·refine Ai (λhb=>?_) (λhb=>?_)
   ·have hb:(k:Int)<w.l.n:=Od hb;refine⟨(),[],[],trivial,(by show k<w.l.n;omega),?_⟩;repeat' (first|refine Ai ?_ ?_|intro _|exact rfl)
   have hb:¬(k:Int)<w.l.n:=Ur hb;obtain rfl:k=w.l.n:=(by omega);have hs:∀i,i<w.l.n->(Vj w l w.l.n).e (0+i)=cP l (w.l.e i):=λi hi=>(by rw[B'];exact iK hi);repeat' (first|refine Ai ?_ ?_|intro _|exact rfl)
   all_goals first|exact(Uo U3.iD (hs _ ‹_›)).symm|exact(Uo (λe:U3=>e.l.n) (hs _ ‹_›)).symm|exact(Uo (λe:U3=>(e.l.c _).kind) (hs _ ‹_<w.l.n›)).symm|exact(Uo (λe:U3=>(e.l.c _).v0) (hs _ ‹_<w.l.n›)).symm|exact(Uo (λe:U3=>(e.l.c _).v1) (hs _ ‹_<w.l.n›)).symm|exact(Uo (λe:U3=>(e.l.c _).v2) (hs _ ‹_<w.l.n›)).symm|exact(Uo (λe:U3=>(e.l.c _).v3) (hs _ ‹_<w.l.n›)).symm
  refine fun(_:Unit) (XM:k<w.l.n)=>?_;have hR:=hV.right k XM;have Vp:(((Vj w l k).e (0+k)).l.n:Int)<=bY:=(by rw[he0];exact Int.le_trans (by have:=Zs.2 k XM;omega:((w.l.e k).l.n:Int)<=1000) (by decide));have o1:UP ((k:Int)+1):=(by unfold UP;omega);have Ye:0+k<w.l.n:=(by omega);refine Ai ⟨by omega,by omega⟩ ?_;refine Ai ⟨Ye,λj _=>⟨_,rfl⟩,Vp,s4⟩ ?_;refine Ai ⟨Ye,λj _=>⟨_,rfl⟩,Vp,s2⟩ ?_;have Vt:cP l (w.l.e k)=w.l.e k:=(by unfold cP;rw[hb4,Vi]);refine Ai o1 ?_;refine⟨k+1,[],[],(by show w.l.n-(k+1)<w.l.n-k;omega),(by show k+1<=w.l.n;omega),?_⟩;have hs:∀i,(Vj w l (k+1)).e i=(Vj w l k).e i:=λi=>by by_cases hi:i=k;subst hi;rw[iK (by omega),Vt,hek];exact nf hi
  (repeat' (first|refine Ai ?_ ?_|intro _|exact rfl));all_goals first|exact Uo (λe:U3=>e.iD) (hs _)|exact Uo (λe:U3=>e.l.n) (hs _)|exact Uo (λe:U3=>(e.l.c _).kind) (hs _)|exact Uo (λe:U3=>(e.l.c _).v0) (hs _)|exact Uo (λe:U3=>(e.l.c _).v1) (hs _)|exact Uo (λe:U3=>(e.l.c _).v2) (hs _)|exact Uo (λe:U3=>(e.l.c _).v3) (hs _)
 refine Ai ?_ ?_
 ·refine Ai (λhb=>?_) (λhb=>?_)
  ·have hb:(k:Int)<w.l.n:=Od hb;refine⟨(),[],[],trivial,(by show k<w.l.n;omega),?_⟩;repeat' (first|refine Ai ?_ ?_|intro _|exact rfl)
  have hb:¬(k:Int)<w.l.n:=Ur hb;obtain rfl:k=w.l.n:=(by omega);have hs:∀i,i<w.l.n->(Vj w l w.l.n).e (0+i)=cP l (w.l.e i):=λi hi=>(by rw[B'];exact iK hi);repeat' (first|refine Ai ?_ ?_|intro _|exact rfl)
  all_goals first|exact(Uo U3.iD (hs _ ‹_›)).symm|exact(Uo (λe:U3=>e.l.n) (hs _ ‹_›)).symm|exact(Uo (λe:U3=>(e.l.c _).kind) (hs _ ‹_<w.l.n›)).symm|exact(Uo (λe:U3=>(e.l.c _).v0) (hs _ ‹_<w.l.n›)).symm|exact(Uo (λe:U3=>(e.l.c _).v1) (hs _ ‹_<w.l.n›)).symm|exact(Uo (λe:U3=>(e.l.c _).v2) (hs _ ‹_<w.l.n›)).symm|exact(Uo (λe:U3=>(e.l.c _).v3) (hs _ ‹_<w.l.n›)).symm
 refine fun(_:Unit) (XM:k<w.l.n)=>?_;have hR:=hV.right k XM;have Vp:(((Vj w l k).e (0+k)).l.n:Int)<=bY:=by rw[he0];exact Int.le_trans (by have:=Zs.2 k XM;omega:((w.l.e k).l.n:Int)<=1000) (by decide)
 have o1:UP ((k:Int)+1):=by unfold UP;omega
 have Ye:0+k<w.l.n:=by omega
 refine Ai ⟨by omega,by omega⟩ ?_;refine Ai ⟨Ye,λj _=>⟨_,rfl⟩,Vp,s4⟩ ?_;refine Ai ⟨Ye,λj _=>⟨_,rfl⟩,Vp,s2⟩ ?_;have hQ:(((Vj w l k).e (0+k)).l.c (Vh (λj=>(((Vj w l k).e (0+k)).l.c j).cells) ((Vj w l k).e (0+k)).l.n 4)).v0=((w.l.e k).l.c (UW (w.l.e k).l 4)).v0:=by rw[he0];rfl
 have Vt:cP l (w.l.e k)=bif Nat.blt 0 (dZ l l.n ((w.l.e k).l.c (UW (w.l.e k).l 4)).v0) then Lf (w.l.e k) (mvI l ((w.l.e k).l.c (UW (w.l.e k).l 4)).v0) else w.l.e k:=by unfold cP;rw[hb4,Vi]
 have hVQ:fJ l l.n (((Vj w l k).e (0+k)).l.c (Vh (λj=>(((Vj w l k).e (0+k)).l.c j).cells) ((Vj w l k).e (0+k)).l.n 4)).v0=dZ l l.n ((w.l.e k).l.c (UW (w.l.e k).l 4)).v0:=by rw[hQ];exact qW
 have hle:=wC (l:=l) (q:=((w.l.e k).l.c (UW (w.l.e k).l 4)).v0) (k:=l.n);refine Ai (by repeat' (first|exact trivial|exact rfl|refine Ai ?_ ?_|intro _)) ?_;refine Ai (λhc=>?_) (λhc=>?_)
 ·have hc:decide (0<fJ l l.n (((Vj w l k).e (0+k)).l.c (Vh (λj=>(((Vj w l k).e (0+k)).l.c j).cells) ((Vj w l k).e (0+k)).l.n 4)).v0)=true:=hc;have hc:=Od hc;rw[hVQ] at hc;have h1:UP (fJ l l.n (((Vj w l k).e (0+k)).l.c (Vh (λj=>(((Vj w l k).e (0+k)).l.c j).cells) ((Vj w l k).e (0+k)).l.n 4)).v0-1):=(by rw[hVQ];unfold UP;omega);have h2:0<=fJ l l.n (((Vj w l k).e (0+k)).l.c (Vh (λj=>(((Vj w l k).e (0+k)).l.c j).cells) ((Vj w l k).e (0+k)).l.n 4)).v0-1∧fJ l l.n (((Vj w l k).e (0+k)).l.c (Vh (λj=>(((Vj w l k).e (0+k)).l.c j).cells) ((Vj w l k).e (0+k)).l.n 4)).v0-1<(l.n:Int):=(by rw[hVQ];omega);have h3:=hm (fJ l l.n (((Vj w l k).e (0+k)).l.c (Vh (λj=>(((Vj w l k).e (0+k)).l.c j).cells) ((Vj w l k).e (0+k)).l.n 4)).v0-1).toNat (by omega);refine Ai h1 ?_;refine Ai h2 ?_;refine Ai ⟨⟨h3.1,h3.2⟩,(by decide:(1:Int)<=64∧(64:Int)<=65536)⟩ ?_;refine Ai (by repeat' (first|exact trivial|exact rfl|refine Ai ?_ ?_|intro _)) ?_;refine Ai (by repeat' (first|exact trivial|exact rfl|refine Ai ?_ ?_|intro _)) ?_;refine Ai o1 ?_;refine⟨k+1,[],[],(by show w.l.n-(k+1)<w.l.n-k;omega),(by show k+1<=w.l.n;omega),?_⟩;have hBt:cP l (w.l.e k)=Lf (w.l.e k) (mvI l ((w.l.e k).l.c (UW (w.l.e k).l 4)).v0):=(by rw[Vt,show Nat.blt 0 (dZ l l.n ((w.l.e k).l.c (UW (w.l.e k).l 4)).v0)=true from Nat.ble_eq_true_of_le (by omega)];rfl);have hL:mvI l ((w.l.e k).l.c (UW (w.l.e k).l 4)).v0=Df.lim ⟨(l.e (fJ l l.n (((Vj w l k).e (0+k)).l.c (Vh (λj=>(((Vj w l k).e (0+k)).l.c j).cells) ((Vj w l k).e (0+k)).l.n 4)).v0-1).toNat).moveX,(l.e (fJ l l.n (((Vj w l k).e (0+k)).l.c (Vh (λj=>(((Vj w l k).e (0+k)).l.c j).cells) ((Vj w l k).e (0+k)).l.n 4)).v0-1).toNat).moveY⟩ 64:=(by unfold mvI;rw[hVQ,show ((dZ l l.n ((w.l.e k).l.c (UW (w.l.e k).l 4)).v0:Int)-1).toNat=dZ l l.n ((w.l.e k).l.c (UW (w.l.e k).l 4)).v0-1 by omega]);have st:∀i j,((Vj w l (k+1)).e i).l.c j=bif NR (Nat.beq i (0+k)) (Nat.beq j (Vh (λj=>(((Vj w l k).e (0+k)).l.c j).cells) ((Vj w l k).e (0+k)).l.n 2)) then⟨(((Vj w l k).e (0+k)).l.c (Vh (λj=>(((Vj w l k).e (0+k)).l.c j).cells) ((Vj w l k).e (0+k)).l.n 2)).kind,(Df.lim ⟨(l.e (fJ l l.n (((Vj w l k).e (0+k)).l.c (Vh (λj=>(((Vj w l k).e (0+k)).l.c j).cells) ((Vj w l k).e (0+k)).l.n 4)).v0-1).toNat).moveX,(l.e (fJ l l.n (((Vj w l k).e (0+k)).l.c (Vh (λj=>(((Vj w l k).e (0+k)).l.c j).cells) ((Vj w l k).e (0+k)).l.n 4)).v0-1).toNat).moveY⟩ 64).x,(Df.lim ⟨(l.e (fJ l l.n (((Vj w l k).e (0+k)).l.c (Vh (λj=>(((Vj w l k).e (0+k)).l.c j).cells) ((Vj w l k).e (0+k)).l.n 4)).v0-1).toNat).moveX,(l.e (fJ l l.n (((Vj w l k).e (0+k)).l.c (Vh (λj=>(((Vj w l k).e (0+k)).l.c j).cells) ((Vj w l k).e (0+k)).l.n 4)).v0-1).toNat).moveY⟩ 64).y,(((Vj w l k).e (0+k)).l.c (Vh (λj=>(((Vj w l k).e (0+k)).l.c j).cells) ((Vj w l k).e (0+k)).l.n 2)).v2,(((Vj w l k).e (0+k)).l.c (Vh (λj=>(((Vj w l k).e (0+k)).l.c j).cells) ((Vj w l k).e (0+k)).l.n 2)).v3⟩ else((Vj w l k).e i).l.c j:=(by intro i j;have:=OY hBt i j;rw[hL,he0] at this;rw[he0,B' k];exact this);have hA:NR (Nat.beq (0+k) (0+k)) (Nat.beq (Vh (λj=>(((Vj w l k).e (0+k)).l.c j).cells) ((Vj w l k).e (0+k)).l.n 2) (Vh (λj=>(((Vj w l k).e (0+k)).l.c j).cells) ((Vj w l k).e (0+k)).l.n 2))=true:=(by rw[UG,UG];rfl);repeat' (first|refine Ai ?_ ?_|intro _|exact rfl)
  exact OZ Ev;exact Rw Hc;exact((Uo bd.kind (st _ _)).trans (cL bd.kind)).trans (bb1 hA);exact((Uo bd.v0 (st _ _)).trans (cL bd.v0)).trans (bb1 hA);exact((Uo bd.v1 (st _ _)).trans (cL bd.v1)).trans bb2;exact((Uo bd.v2 (st _ _)).trans (cL bd.v2)).trans (bb1 hA);exact((Uo bd.v3 (st _ _)).trans (cL bd.v3)).trans (bb1 hA)
 have hc:decide (0<fJ l l.n (((Vj w l k).e (0+k)).l.c (Vh (λj=>(((Vj w l k).e (0+k)).l.c j).cells) ((Vj w l k).e (0+k)).l.n 4)).v0)=false:=hc;have hc:=Ur hc;rw[hVQ] at hc;rw[show dZ l l.n ((w.l.e k).l.c (UW (w.l.e k).l 4)).v0=0 by omega] at Vt;have Vt:cP l (w.l.e k)=w.l.e k:=Vt;refine Ai o1 ?_;refine⟨k+1,[],[],(by show w.l.n-(k+1)<w.l.n-k;omega),(by show k+1<=w.l.n;omega),?_⟩;have hs:∀i,(Vj w l (k+1)).e i=(Vj w l k).e i:=λi=>by by_cases hi:i=k;subst hi;rw[iK (by omega),Vt,hek];exact nf hi
 repeat' (first|refine Ai ?_ ?_|intro _|exact rfl)
 all_goals first|exact Uo (λe:U3=>e.iD) (hs _)|exact Uo (λe:U3=>e.l.n) (hs _)|exact Uo (λe:U3=>(e.l.c _).kind) (hs _)|exact Uo (λe:U3=>(e.l.c _).v0) (hs _)|exact Uo (λe:U3=>(e.l.c _).v1) (hs _)|exact Uo (λe:U3=>(e.l.c _).v2) (hs _)|exact Uo (λe:U3=>(e.l.c _).v3) (hs _)
end Go.Proofs.YtgigkennhdolpaaGreatDoor
