/- step.World of at most one body.. -/
import Derived.Test.YtmdpdknpapjchaaGreatDoorM36
set_option linter.all false
namespace Go.Proofs.YtmdpdknpapjchaaGreatDoor
noncomputable section
open Go.RowKit
variable {hi lo x x' y z:Int}{i k:Nat}{w:XU}{l:cD}
def xD(w:XU)(g:Vec):ZU:=⟨⟨(bB w.l w.l.n).length,gR (bB w.l w.l.n)⟩,Rps.of (.v (.slice none 0 0)),g.x,g.y⟩
theorem uF{α:Type}{f:Nat->α}{g:Nat->Bool}{x:α} : ∀{k:Nat},x∈fP f g k->∃i,i<k∧g i=true∧x=f i
 | 0,h=>by cases h
 | k+1,h=>by
  cases hg:g k with
  | true=>
   rw[jg hg] at h;rcases Xr.1 h with h|h;obtain⟨i,h1,h2⟩:=uF h;exact⟨i,by omega,h2⟩;exact⟨k,by omega,hg,List.mem_singleton.1 h⟩
  | false=>
   rw[mH hg] at h;obtain⟨i,h1,h2⟩:=uF h;exact⟨i,by omega,h2⟩
theorem J5(h:lo<=x∧x<=hi):okI lo hi x=true:=by unfold okI;rw[Xi (by omega),Xi (by omega)];rfl
theorem xR(h:lo<=x∧x<=hi)(h':lo<=y∧y<=hi):rN lo hi x y=true:=by unfold rN;rw[Xi (by omega),Xi (by omega),J5 h'];rfl
theorem Qp{e:XO}(h:e.pK)(hb:(bL e).2=true):(bL e).1.ok=true:=by
 have hc:((bu e.l 1).2&&(bu e.l 3).2)=true:=by
  unfold bL at hb;cases hc:((bu e.l 1).2&&(bu e.l 3).2) with
  | true=>rfl
  | false=>rw[hc] at hb;exact P' (show false=true from hb) (by decide)
 have e1:(bL e).1=kN e:=by unfold bL;rw[hc]
 obtain⟨c1,c3⟩:=Bool.and_eq_true_iff.1 hc;rw[jG] at c1 c3;obtain⟨k1,f1,-⟩:=iA h c1;obtain⟨k3,f3,-⟩:=iA h c3;rw[<-yL c1] at k1 f1;rw[<-yL c3] at k3 f3;obtain⟨p1,p2,p3,p4,-⟩:=f1.2.2.1 k1;obtain⟨s1,s2,s3,s4,s5,s6,s7,s8⟩:=f3.2.2.2.2.1 k3;have hr:=f3.2.2.2.2.2.2.2.2.2.2.2.2.1 k3;have hI:=h.lo;have hI':=h.hi;rw[e1];have hR:∀b:Body,b.iD=e.iD->b.posX=(bu e.l 1).1.v0->b.posY=(bu e.l 1).1.v1->b.w=(bu e.l 3).1.v0->b.h=(bu e.l 3).1.v1->b.round=decide ((bu e.l 3).1.v2=1)->(-4096<=b.velX∧b.velX<=4096)->(-4096<=b.velY∧b.velY<=4096)->(b.fixed=true->b.velX=0∧b.velY=0)->b.ok=true:=by
  intro b h1 h2 h3 h4 h5 h6 h7 h8 h9;have hbad:b.vf=false:=(by unfold Body.vf;rw[J5 (by omega),xR (by omega) (by omega),xR h7 h8,xR (by omega) (by omega)];rfl);unfold Body.ok;rw[hbad];have g1:(!b.round||decide (b.w=b.h))=true:=(by rw[h6];rcases hr with hr|hr;rw[Xi (by omega)];rfl;rw[Xj (by omega:b.w=b.h),Bool.or_true]);have g2:(!b.fixed||(decide (b.velX=0)&&decide (b.velY=0)))=true:=by
   cases hx:b.fixed with
   | false=>rfl
   | true=>obtain⟨q1,q2⟩:=h9 hx;rw[q1,q2];rfl
  show ((!b.round||decide (b.w=b.h))&&(!b.fixed||(decide (b.velX=0)&&decide (b.velY=0))))=true;rw[g1,g2];rfl
 unfold kN;cases hf:rD e with
 | true=>exact hR _ rfl rfl rfl rfl rfl rfl ⟨(show (-4096:Int)<=0 by decide),(show (0:Int)<=4096 by decide)⟩ ⟨(show (-4096:Int)<=0 by decide),(show (0:Int)<=4096 by decide)⟩ (λ_=>⟨rfl,rfl⟩)
 | false=>
  have h2:(bu e.l 2).2=true:=(by unfold rD at hf;have:=(Xp.1 hf).2;simpa using this);rw[jG] at h2;obtain⟨k2,f2,-⟩:=iA h h2;rw[<-yL h2] at k2 f2;obtain⟨v1,v2,v3,v4,-⟩:=f2.2.2.2.1 k2;exact hR _ rfl rfl rfl rfl rfl rfl ⟨v1,v2⟩ ⟨v3,v4⟩ (λh=>P' h Bool.false_ne_true)
theorem HW{g:Vec}(h:w.Valid):∀i,i<(xD w g).bodies.n->((xD w g).bodies.e i).ok=true:=by
 intro i hi;have hi:i<(bB w.l w.l.n).length:=hi;have hm:gR (bB w.l w.l.n) i∈bB w.l w.l.n:=by unfold gR;rw[List.getD_eq_getElem?_getD,Xt hi];exact List.getElem_mem hi
 obtain⟨j,h1,h2,h3⟩:=uF hm;show (gR (bB w.l w.l.n) i).ok=true;rw[h3];exact Qp (h.right j h1) h2
set_option maxHeartbeats 2000000 in
set_option maxRecDepth 8000 in
theorem yU:∀a,aD ((λa=>[a.1.valid=true,a.1.l.Sm,a.2.1.n=0,(bB a.1.l a.1.l.n).length<=1,gOk a.2.2]) a)->aJ (C:=cx) [HO,PU,Mo] [] 0 ak Tryz.f45 ((eC cI nP fb).enc a) λv H _=>ae ((λa=>.tup [(gO (zp (xD a.1 a.2.2)) a.1).sv,(og (oc (xD a.1 a.2.2))).sv,.v (.int .i64 0)]) a) H v:=by
 intro⟨w,r,g⟩ ⟨hv,hs,hx,hb,hg⟩;replace hv:w.valid=true:=hv;replace hs:w.l.Sm:=hs;replace hx:r.n=0:=hx;replace hb:(bB w.l w.l.n).length<=1:=hb;replace hg:gOk g:=hg;have hV:=XU.cA.1 hv;have hlen:=hV.len;refine Ai ⟨by repeat' (first|exact trivial|exact rfl|apply Ai|intro),by repeat' (first|exact trivial|exact rfl|apply Ai|intro),hs,by show w.l.n<=1000;omega,hx⟩ ?_;refine Ai ⟨by repeat' (first|exact trivial|exact rfl|apply Ai|intro),hg,rfl,hb,HW (g:=g) hV⟩ ?_;refine Ai (λhc=>P' (show decide (¬(0:Int)=0)=true from hc) (by decide)) (λ_=>?_);refine Ai ⟨by repeat' (first|exact trivial|exact rfl|apply Ai|intro),by repeat' (first|exact trivial|exact rfl|apply Ai|intro),by repeat' (first|exact trivial|exact rfl|apply Ai|intro),hv,hs,Nat.le_trans hb (by decide)⟩ ?_;have hS:(bh q9).dec [SV.agg [SV.rs 9 (bB w.l w.l.n).length (λi=>(gR (bB w.l w.l.n) i).cells),.v (.slice none 0 0),.v (.int .i64 g.x),.v (.int .i64 g.y)]]=xD w g:=rfl;have hD:(aH cI q9).dec [w.sv,(zp (xD w g)).sv]=(w,zp (xD w g)):=rfl;repeat' (first|refine Ai ?_ ?_|(intro _))
 any_goals exact(rfl:(0:Int)=0)
 all_goals first
  | exact O' (λp:XU×ZU=>(gO p.2 p.1).tick) hD.symm
  | exact O' (λp:XU×ZU=>(gO p.2 p.1).l.n) hD.symm
  | exact O' (λp:XU×ZU=>((gO p.2 p.1).l.e _).iD) hD.symm
  | exact O' (λp:XU×ZU=>((gO p.2 p.1).l.e _).l.n) hD.symm
  | exact O' (λp:XU×ZU=>(((gO p.2 p.1).l.e _).l.c _).kind) hD.symm
  | exact O' (λp:XU×ZU=>(((gO p.2 p.1).l.e _).l.c _).v0) hD.symm
  | exact O' (λp:XU×ZU=>(((gO p.2 p.1).l.e _).l.c _).v1) hD.symm
  | exact O' (λp:XU×ZU=>(((gO p.2 p.1).l.e _).l.c _).v2) hD.symm
  | exact O' (λp:XU×ZU=>(((gO p.2 p.1).l.e _).l.c _).v3) hD.symm
  | exact O' (λs:ZU=>(og (oc s)).n) hS.symm
  | exact O' (λs:ZU=>((og (oc s)).e _).iD) hS.symm
  | exact O' (λs:ZU=>((og (oc s)).e _).along) hS.symm
  | exact O' (λs:ZU=>((og (oc s)).e _).byI) hS.symm
set_option maxRecDepth 8000
set_option maxHeartbeats 2000000
def WT(w:XU)(b:Nat)(H0:aU):Cut:=⟨Nat,λk=>k<=w.l.n,λk=>⟨[sl 2 (.p (b+1) 0),sl 3 (.p (b+2) 0),sl 10 w.l.sv,sl 11 (i64 w.l.n),sl 12 (i64 k)],
 (b+1,.lay vZ 28)::(b+2,.lay [.v (.int .i64 w.tick),.g (b+3) (b+4) 2 0 k] 28)::(b+3,G5 w.l k (b+4))::H0,b+5,0,[],[]⟩,λk=>w.l.n-k⟩
def rV(c:Int):Bool:=decide (c<1)||decide (8<c)
theorem BQ:∀a,aD ((λ_=>[]) a)->aJ (C:=cx) [] [] 0 ak Tryz.f75 ((bh Q4).enc a) λv H _=>ae ((λa=>.v (.bool (rV a.client))) a) H v:=by intro a _;exact rfl
def HG:XR cx:=af 75 Tryz.call75 (bh Q4) _ _ (λ_=>ak) [] (λ_=>rfl) follows Tryz.func75 (by kernel_rfl) BQ
def Ta:Y0 cx:=⟨91,Tryz.call91,Tryz.f91,Tryz.func91,[],[],[2],0,by kernel_rfl⟩
def Pf(l:cD):Cut:=⟨Nat,λk=>k<=l.n∧bQ (λi=>rV (l.e i).client) 0 l.n=bQ (λi=>rV (l.e i).client) k (l.n-k),
 λk=>⟨[sl 0 l.sv,sl 1 (.v (.func (.func 75) #[] #[])),sl 7 (i64 l.n),sl 8 (i64 k)],[],0,0,[],[]⟩,λk=>l.n-k⟩
theorem IB:∀a,aD ((λa=>[(a.1.n:Int)<=cp,a.2=(.v (.func (.func 75) #[] #[]))]) a)->aJ (C:=cx) [HG] [Ta] 1 ak Tryz.f74 ((aH mo YS).enc a) λv H _=>ae ((λa=>.v (.bool (bQ (λi=>rV (a.1.e i).client) 0 a.1.n))) a) H v:=by
 intro⟨l,x⟩ ⟨hn,hx⟩;replace hx:x=.v (.func (.func 75) #[] #[]):=hx;subst hx;replace hn:(l.n:Int)<=cp:=hn;have hm:(l.n:Int)<=9223372036854775807:=hn;refine F8 (Pf l) ?_;refine Ai ?_ ?_
 ·refine⟨(0:Nat),[],[],trivial,⟨F9 _,rfl⟩,?_⟩;repeat' first|apply Ai|exact rfl|intro
 refine fun(k:Nat) (hk:k<=l.n∧bQ (λi=>rV (l.e i).client) 0 l.n=bQ (λi=>rV (l.e i).client) k (l.n-k))=>?_;obtain⟨k1,k2⟩:=hk;refine Ai (λhb=>?_) (λhb=>?_)
 ·have hb:(k:Int)<l.n:=Od hb;have e:=eA (g:=(λi=>rV (l.e i).client)) (k:=k) (n:=l.n) (by omega);refine Ai ⟨by omega,by omega⟩ ?_;refine Ai (λhc=>?_) (λhc=>?_);have hc:rV (l.e k).client=true:=hc;simp only[hc] at e;refine XA (a:=bQ (λi=>rV (l.e i).client) 0 l.n) (b:=decide (0<=(k:Int))) ?_ rfl;rw[k2,e,Xj (by omega)];have hc:rV (l.e k).client=false:=hc;simp only[hc] at e;refine Ai (by unfold XT;omega:XT ((k:Int)+1)) ?_;refine⟨k+1,[],[],(by show l.n-(k+1)<l.n-k;omega),⟨by omega,by rw[k2,e]⟩,?_⟩;repeat' first|apply Ai|exact rfl|intro
 have hb:¬(k:Int)<l.n:=Xg hb;have e:bQ (λi=>rV (l.e i).client) 0 l.n=false:=by rw[k2,show l.n-k=0 by omega];rfl
 exact e
def P6:XR cx:=af 74 Tryz.call74 (aH mo YS) _ _ (λ_=>ak) [] (λ_=>rfl) follows Tryz.func74 (by kernel_rfl) IB
def eP(l:cD):Nat->Int->Nat
 | 0,_=>0
 | k+1,q=>bif decide ((l.e k).client=q)&&(decide (eP l k q=0)||decide ((l.e (eP l k q-1)).seq<=(l.e k).seq)) then k+1 else eP l k q
theorem yi{l:cD}{q:Int} : ∀{k:Nat},eP l k q<=k
 | 0=>F2 _
 | k+1=>by
  unfold eP;have:=yi (l:=l) (q:=q) (k:=k);cases (decide ((l.e k).client=q)&&(decide (eP l k q=0)||decide ((l.e (eP l k q-1)).seq<=(l.e k).seq))) with
  | true=>exact F2 _
  | false=>exact Nat.le_succ_of_le this
def Hg(l:cD)(k:Nat)(q:Int):Bool:=Nat.blt 0 (eP l k q)
def WG(l:cD)(k:Nat)(q:Int):List SV:=[.v (.int .i64 (eP l k q))]
def fX(l:cD)(k:Nat)(q:Int):Int:=bif Hg l k q then(eP l k q:Int) else 0
theorem sF{q:Int} : fX l k q=eP l k q:=by
 unfold fX Hg;cases h:eP l k q with
 | zero=>rfl
 | succ m=>rfl
theorem An(h:(decide (fX l k (l.e k).client=0)||decide ((l.e (fX l k (l.e k).client-1).toNat).seq<=(l.e k).seq))=true)(j:Int):eP l (k+1) j=bif decide (j=(l.e k).client) then k+1 else eP l k j:=by rw[sF,show ((eP l k (l.e k).client:Int)-1).toNat=eP l k (l.e k).client-1 by omega,show decide ((eP l k (l.e k).client:Int)=0)=decide (eP l k (l.e k).client=0) from decide_eq_decide.2 (by omega)] at h;rw[eP];by_cases hj:j=(l.e k).client;subst hj;rw[h,Xj rfl];rfl;rw[Xi hj,Xi (Ne.symm hj)];rfl
theorem Ao(h:(decide (fX l k (l.e k).client=0)||decide ((l.e (fX l k (l.e k).client-1).toNat).seq<=(l.e k).seq))=false)(j:Int):eP l (k+1) j=eP l k j:=by rw[sF,show ((eP l k (l.e k).client:Int)-1).toNat=eP l k (l.e k).client-1 by omega,show decide ((eP l k (l.e k).client:Int)=0)=decide (eP l k (l.e k).client=0) from decide_eq_decide.2 (by omega)] at h;rw[eP];by_cases hj:j=(l.e k).client;subst hj;rw[h,Bool.and_false];rfl;rw[Xi (Ne.symm hj)];rfl
theorem KD(h:(decide (fX l k (l.e k).client=0)||decide ((l.e (fX l k (l.e k).client-1).toNat).seq<=(l.e k).seq))=true)(j:Int):Hg l (k+1) j=(decide (j=(l.e k).client)||Hg l k j):=by unfold Hg;rw[An h];cases decide (j=(l.e k).client)<;>rfl
def NR(e:XO)(v:Df.Vec):XO:=⟨e.iD,⟨e.l.n,λj=>bif Nat.beq j (X1 e.l 2) then⟨(e.l.c (X1 e.l 2)).kind,v.x,v.y,(e.l.c (X1 e.l 2)).v2,(e.l.c (X1 e.l 2)).v3⟩ else e.l.c j⟩⟩
def mvI(l:cD)(q:Int):Df.Vec:=Df.lim ⟨(l.e (eP l l.n q-1)).moveX,(l.e (eP l l.n q-1)).moveY⟩ 64
def da(l:cD)(e:XO):XO:=match iu e.l 4,iu e.l 2 with
 | true,true=>bif Nat.blt 0 (eP l l.n (e.l.c (X1 e.l 4)).v0) then NR e (mvI l (e.l.c (X1 e.l 4)).v0) else e
 | _,_=>e
def xz(w:XU)(l:cD):Bool:=!w.valid||bQ (λi=>rV (l.e i).client) 0 l.n
def cj(w:XU)(l:cD):XU×Int:=match xz w l with
 | true=>(⟨0,⟨0,λ_=>XO.no⟩⟩,2)
 | false=>(⟨w.tick,⟨w.l.n,λi=>da l (w.l.e i)⟩⟩,0)
def Yk(w:XU)(l:cD)(k:Nat):ZJ:=⟨w.l.n,λi=>bif Nat.blt i k then da l (w.l.e i) else w.l.e i⟩
theorem sY : (Yk w l k).e k=w.l.e k:=by show (bif Nat.blt k k then _ else w.l.e k)=_;rw[show Nat.blt k k=false from by cases e:Nat.blt k k;rfl;exact P' (F4 e) (by omega)];rfl
theorem jm(h:i<k):(Yk w l k).e i=da l (w.l.e i):=by show (bif Nat.blt i k then _ else w.l.e i)=_;rw[show Nat.blt i k=true from Nat.ble_eq_true_of_le h];rfl
theorem n7(h:i≠k):(Yk w l (k+1)).e i=(Yk w l k).e i:=by
 show (bif Nat.blt i (k+1) then _ else _)=(bif Nat.blt i k then _ else _)
 rw[show Nat.blt i (k+1)=Nat.blt i k from by
  cases e:Nat.blt i k with
  | true=>exact Nat.ble_eq_true_of_le (by have:=F4 e;omega)
  | false=>
   cases e':Nat.blt i (k+1) with
   | false=>rfl
   | true=>have h1:=F4 e';rw[show Nat.blt i k=true from Nat.ble_eq_true_of_le (by omega)] at e;cases e]
theorem bb1{A A0:Bool}(h0:A0=true):(bif A then x else z)=bif A then(bif A0 then x else y) else(bif A then x' else z):=by subst h0;cases A<;>rfl
theorem bb2{A:Bool} : (bif A then x else z)=bif A then x else(bif A then x' else z):=by cases A<;>rfl
theorem RR(h:∀e,(da l e).iD=e.iD):((Yk w l (k+1)).e i).iD=((Yk w l k).e i).iD:=by by_cases hi:i=k;subst hi;rw[jm (by omega),sY,h];rw[n7 hi]
theorem Uw(h:∀e,(da l e).l.n=e.l.n):((Yk w l (k+1)).e i).l.n=((Yk w l k).e i).l.n:=by by_cases hi:i=k;subst hi;rw[jm (by omega),sY,h];rw[n7 hi]
theorem GJ(e:XO):(da l e).iD=e.iD:=by unfold da;split;cases Nat.blt 0 (eP l l.n (e.l.c (X1 e.l 4)).v0)<;>rfl;rfl
theorem Jg(e:XO):(da l e).l.n=e.l.n:=by unfold da;split;cases Nat.blt 0 (eP l l.n (e.l.c (X1 e.l 4)).v0)<;>rfl;rfl
theorem RQ{v:Df.Vec}(h:da l (w.l.e k)=NR (w.l.e k) v)(i j:Nat):((Yk w l (k+1)).e i).l.c j=bif QF (Nat.beq i k) (Nat.beq j (X1 (w.l.e k).l 2)) then⟨((w.l.e k).l.c (X1 (w.l.e k).l 2)).kind,v.x,v.y,((w.l.e k).l.c (X1 (w.l.e k).l 2)).v2,((w.l.e k).l.c (X1 (w.l.e k).l 2)).v3⟩ else((Yk w l k).e i).l.c j:=by by_cases hi:i=k;subst hi;rw[jm (by omega),sY,h,Xv];rfl;rw[n7 hi,iV hi];rfl
def VN(b4 b2:Bool):Nat:=match b4,b2 with
 | false,false=>0
 | false,true=>16
 | true,false=>32
 | true,true=>48
def Wt(nm:Nat)(q:Int):Bool:=match (nm-10)/16,q with
 | 1,.ofNat 2=>true
 | 2,.ofNat 4=>true
 | 3,.ofNat 2=>true
 | 3,.ofNat 4=>true
 | _,_=>false
def NO(w:XU)(l:cD)(k:Nat):aU:=[(0,.lay w.cells 28),(1,.lay vZ 28),(2,.mp (.i .i64) false (Hg l k) (WG l k))]
def Wp(w:XU)(l:cD):Cut:=⟨Nat,λk=>k<=l.n,λk=>⟨[sl 1 l.sv,sl 2 (.p 0 0),sl 4 (.p 1 0),sl 6 (.m 2),sl 26 l.sv,sl 27 (i64 l.n),sl 28 (i64 k)],NO w l k,3,0,[],[]⟩,λk=>l.n-k⟩
def Wo(w:XU)(l:cD):Cut:=⟨Nat,λk=>k<=w.l.n,λk=>⟨[sl 1 l.sv,sl 4 (.p 1 0),sl 6 (.m 2),sl 10 (.p 8 0),sl 59 (.g 6 7 2 0 w.l.n),sl 60 (i64 w.l.n),sl 61 (i64 k)],
 (8,.lay [.v (.int .i64 w.tick),.g 6 7 2 0 w.l.n] 28)::(6,G5 (Yk w l k) w.l.n 7)::NO w l l.n,9,0,[],[]⟩,λk=>w.l.n-k⟩
def Wn(w:XU)(l:cD)(k:Nat)(b4 b2:Bool):Cut:=⟨Unit,λ_=>k<w.l.n,λ_=>⟨[sl 1 l.sv,sl 4 (.p 1 0),sl 6 (.m 2),sl 10 (.p 8 0),sl 59 (.g 6 7 2 0 w.l.n),sl 60 (i64 w.l.n),sl 61 (i64 k)],
 (8,.lay [.v (.int .i64 w.tick),.g 6 7 2 0 w.l.n] 28)::(6,G5 (Yk w l k) w.l.n 7)::NO w l l.n,9+VN b4 b2,0,[],[]⟩,λ_=>0⟩
def KX:Y0 cx:=⟨57,Tryz.call57,Tryz.f57,Tryz.func57,[],[],[3],0,by kernel_rfl⟩
set_option maxHeartbeats 4000000 in
theorem Dy:∀a,aD ((λa=>[a.1.l.Sm,(a.2.n:Int)<=cp,∀i,i<a.2.n->Yd (a.2.e i).moveX∧Yd (a.2.e i).moveY]) a)->aJ (C:=cx) [gl,P6,qJ,Qb Wt,Df.Me] [KX] 1 ⟨[20],[14],[5,13],0⟩ Tryz.f41 ((aH cI mo).enc a) λv H _=>ae ((λa=>.tup [(cj a.1 a.2).1.sv,.v (.int .i64 (cj a.1 a.2).2)]) a) H v:=by
 intro⟨w,l⟩ ⟨hs,hn,hm⟩;replace hs:w.l.Sm:=hs;replace hn:(l.n:Int)<=9223372036854775807:=hn;replace hm:∀i,i<l.n->Yd (l.e i).moveX∧Yd (l.e i).moveY:=hm;refine Ai ⟨by repeat' (first|exact trivial|exact rfl|apply Ai|intro),hs⟩ ?_;refine Ai (λ_=>⟨λ_ _=>trivial,hn,rfl⟩) ?_;refine Ai (λhc=>?_) (λhc=>?_)
 ·have hc:xz w l=true:=hc;have e:cj w l=(⟨0,⟨0,λ_=>XO.no⟩⟩,2):=(by unfold cj;rw[hc]);simp only[e];repeat' first|apply Ai|exact rfl|intro
  all_goals exact P' ‹_<0› (F1 _)
 have hc:xz w l=false:=hc;have e:cj w l=(⟨w.tick,⟨w.l.n,λi=>da l (w.l.e i)⟩⟩,0):=by unfold cj;rw[hc]
 simp only[e];have hv:w.valid=true:=by unfold xz at hc;simpa using (Xp.1 hc).1
 have hV:=XU.cA.1 hv;have hlen:=hV.len;have hsm:w.l.n<=1000∧∀i,i<w.l.n->(w.l.e i).l.n<=1000:=⟨by omega,λi hi=>by have:=(hV.right i hi).len;omega⟩
 refine F8 (Wp w l) ?_;refine Ai ?_ ?_
 ·refine⟨(0:Nat),[],[],trivial,F9 _,?_⟩;repeat' first|apply Ai|exact rfl|intro
  all_goals exact(Bool.false_ne_true ‹_›).elim
 refine fun(k:Nat) (hk:k<=l.n)=>?_;refine Ai (λhb=>?_) (λhb=>?_)
 ·have hb:(k:Int)<l.n:=Od hb;refine Ai ⟨by omega,by omega⟩ ?_;refine Ai (by repeat' first|exact trivial|exact rfl|apply Ai|intro) ?_;have hV':fX l k (l.e k).client=eP l k (l.e k).client:=sF;have hle:=yi (l:=l) (q:=(l.e k).client) (k:=k);have o1:XT ((k:Int)+1):=(by unfold XT;omega);refine Ai (λhi=>by have hi:decide (fX l k (l.e k).client=0)=false:=hi;have:=Xg hi;show XT (fX l k (l.e k).client-1);rw[hV'] at this ⊢;unfold XT;omega) ?_;refine Ai (λhi=>by
   have hi:decide (fX l k (l.e k).client=0)=false:=hi;have:=Xg hi;show 0<=fX l k (l.e k).client-1∧fX l k (l.e k).client-1<(l.n:Int)
   rw[hV'] at this ⊢;omega) ?_
  refine Ai (λhc=>?_) (λhc=>?_)
  ·have hc:(decide (fX l k (l.e k).client=0)||decide ((l.e (fX l k (l.e k).client-1).toNat).seq<=(l.e k).seq))=true:=hc;refine Ai o1 ?_;refine Ai (by repeat' first|exact trivial|exact rfl|apply Ai|intro) ?_;refine Ai o1 ?_;refine⟨k+1,[],[],(by show l.n-(k+1)<l.n-k;omega),(by show k+1<=l.n;omega),?_⟩;repeat' first|apply Ai|exact rfl|intro
   exact KD hc _;refine(O' Int.ofNat (An hc _)).trans ?_;exact cW Int.ofNat
  have hc:(decide (fX l k (l.e k).client=0)||decide ((l.e (fX l k (l.e k).client-1).toNat).seq<=(l.e k).seq))=false:=hc;refine Ai o1 ?_;refine⟨k+1,[],[],(by show l.n-(k+1)<l.n-k;omega),(by show k+1<=l.n;omega),?_⟩;repeat' first|apply Ai|exact rfl|intro
  exact O' (Nat.blt 0) (Ao hc _);exact O' Int.ofNat (Ao hc _)
 have hb:¬(k:Int)<l.n:=Xg hb;obtain rfl:k=l.n:=by omega
 refine F8 (WT w 3 (NO w l l.n)) ?_;refine Ai ?_ ?_
 ·refine⟨(0:Nat),[],[.cellN 5 1 2 1 5 52 39],trivial,F9 _,?_⟩;repeat' first|apply Ai|exact rfl|intro
  all_goals exact P' ‹_<0› (F1 _)
 refine fun(k:Nat) (hk:k<=w.l.n)=>?_;refine Ai (λhb=>?_) (λhb=>?_)
 ·have hb:(k:Int)<w.l.n:=Od hb;refine Ai ⟨by omega,by omega⟩ ?_;refine Ai ⟨λ_ _=>trivial,(by have:=hsm.2 k (by omega);(show (w.l.e k).l.n<=1000);omega)⟩ ?_;have Yo:gQ (k+1) 32:=⟨Nat.le_trans (by have:=hsm.1;omega:k+1<=1001) (by decide),by have:=hsm.1;omega⟩
  refine Ai ⟨Yo,?_⟩ ?_
  ·repeat' first|apply Ai|exact rfl|intro
  refine Ai (by have:=hsm.1;unfold XT;omega:XT ((k:Int)+1)) ?_;refine⟨k+1,[(7,11)],[.bP 6],(by show w.l.n-(k+1)<w.l.n-k;omega),(by omega:k+1<=w.l.n),?_⟩;repeat' first|apply Ai|exact rfl|intro
  refine aP (α:=List SV) (p:=λi y=>aT (Yv 8 [(7,11)] (List.set [SV.v (Value.int IntKind.i64 (w.l.e i).iD),SV.e] 1 SV.e) (y.set 1 SV.e))) ?_ ?_ _ ‹_›;exact rfl;exact λi _=>rfl;refine aP (α:=Nat×(Nat->List SV)) (p:=λi y=>(w.l.e i).l.n=y.1) ?_ ?_ _ ‹_›;exact rfl;exact λi _=>rfl;refine aP (α:=Nat×(Nat->List SV)) (p:=λi y=>∀j,j<y.1->aT (Yv 8 [(7,11)] ((w.l.e i).l.c j).cells (y.2 j))) ?_ ?_ _ ‹_› _ ‹_›
  ·exact λj _=>⟨rfl,rfl,rfl,rfl,rfl⟩
  ·exact λi _ j _=>⟨rfl,rfl,rfl,rfl,rfl⟩
 have hb:¬(k:Int)<w.l.n:=Xg hb;obtain rfl:k=w.l.n:=by omega
 refine F8 (Wo w l) ?_;refine Ai ?_ ?_
 ·refine⟨(0:Nat),[],[],trivial,F9 _,?_⟩;repeat' first|apply Ai|exact rfl|intro
 refine fun(k:Nat) (hk:k<=w.l.n)=>?_;generalize hb4:iu (w.l.e k).l 4=b4;generalize Yi:iu (w.l.e k).l 2=b2;have hek:(Yk w l k).e k=w.l.e k:=sY;have he0:(Yk w l k).e (0+k)=w.l.e k:=by rw[B'];exact sY
 have hs1:∀(b4 b2:Bool),iu (w.l.e k).l 4=b4->iu (w.l.e k).l 2=b2->b4=decide (Yh (λj=>(((Yk w l k).e (0+k)).l.c j).cells) ((Yk w l k).e (0+k)).l.n 4<((Yk w l k).e (0+k)).l.n)∧b2=decide (Yh (λj=>(((Yk w l k).e (0+k)).l.c j).cells) ((Yk w l k).e (0+k)).l.n 2<((Yk w l k).e (0+k)).l.n):=λb4 b2 h4 h2=>by rw[he0];exact Ai h4.symm h2.symm
 obtain⟨s4,s2⟩:=hs1 _ _ hb4 Yi;refine F8 (Wn w l k b4 b2) ?_;cases b4<;>cases b2;all_goals refine Ai ?_ ?_
 all_goals first
  | (refine Ai (λhb=>?_) (λhb=>?_)
     focus
    have hb:(k:Int)<w.l.n:=Od hb;refine⟨(),[],[],trivial,(by show k<w.l.n;omega),?_⟩;repeat' first|apply Ai|exact rfl|intro
     have hb:¬(k:Int)<w.l.n:=Xg hb;obtain rfl:k=w.l.n:=(by omega);have hs:∀i,i<w.l.n->(Yk w l w.l.n).e (0+i)=da l (w.l.e i):=λi hi=>(by rw[B'];exact jm hi);repeat' first|apply Ai|exact rfl|intro
     (all_goals first|exact(O' XO.iD (hs _ ‹_›)).symm|exact(O' (λe:XO=>e.l.n) (hs _ ‹_›)).symm|exact(O' (λe:XO=>(e.l.c _).kind) (hs _ ‹_<w.l.n›)).symm|exact(O' (λe:XO=>(e.l.c _).v0) (hs _ ‹_<w.l.n›)).symm|exact(O' (λe:XO=>(e.l.c _).v1) (hs _ ‹_<w.l.n›)).symm|exact(O' (λe:XO=>(e.l.c _).v2) (hs _ ‹_<w.l.n›)).symm|exact(O' (λe:XO=>(e.l.c _).v3) (hs _ ‹_<w.l.n›)).symm);done)
  | skip
 all_goals refine fun(_:Unit) (hkn:k<w.l.n)=>?_
 all_goals have hR:=hV.right k hkn
 all_goals have Ys:(((Yk w l k).e (0+k)).l.n:Int)<=cp:=by rw[he0];exact Int.le_trans (by have:=hsm.2 k hkn;omega:((w.l.e k).l.n:Int)<=1000) (by decide)
 all_goals have o1:XT ((k:Int)+1):=by unfold XT;omega
 all_goals have hk0:0+k<w.l.n:=by omega
 all_goals refine Ai ⟨by omega,by omega⟩ ?_
 all_goals refine Ai ⟨hk0,λj _=>⟨_,rfl⟩,Ys,s4⟩ ?_
 all_goals refine Ai ⟨hk0,λj _=>⟨_,rfl⟩,Ys,s2⟩ ?_
 rotate_left 3
 ·skip
  have hQ:(((Yk w l k).e (0+k)).l.c (Yh (λj=>(((Yk w l k).e (0+k)).l.c j).cells) ((Yk w l k).e (0+k)).l.n 4)).v0=((w.l.e k).l.c (X1 (w.l.e k).l 4)).v0:=(by rw[he0];rfl);have Yy:da l (w.l.e k)=bif Nat.blt 0 (eP l l.n ((w.l.e k).l.c (X1 (w.l.e k).l 4)).v0) then NR (w.l.e k) (mvI l ((w.l.e k).l.c (X1 (w.l.e k).l 4)).v0) else w.l.e k:=(by unfold da;rw[hb4,Yi]);have hVQ:fX l l.n (((Yk w l k).e (0+k)).l.c (Yh (λj=>(((Yk w l k).e (0+k)).l.c j).cells) ((Yk w l k).e (0+k)).l.n 4)).v0=eP l l.n ((w.l.e k).l.c (X1 (w.l.e k).l 4)).v0:=(by rw[hQ];exact sF);have hle:=yi (l:=l) (q:=((w.l.e k).l.c (X1 (w.l.e k).l 4)).v0) (k:=l.n);refine Ai (by repeat' first|exact trivial|exact rfl|apply Ai|intro) ?_;refine Ai (λhc=>?_) (λhc=>?_)
  ·have hc:decide (0<fX l l.n (((Yk w l k).e (0+k)).l.c (Yh (λj=>(((Yk w l k).e (0+k)).l.c j).cells) ((Yk w l k).e (0+k)).l.n 4)).v0)=true:=hc;have hc:=Od hc;rw[hVQ] at hc;have h1:XT (fX l l.n (((Yk w l k).e (0+k)).l.c (Yh (λj=>(((Yk w l k).e (0+k)).l.c j).cells) ((Yk w l k).e (0+k)).l.n 4)).v0-1):=(by rw[hVQ];unfold XT;omega);have h2:0<=fX l l.n (((Yk w l k).e (0+k)).l.c (Yh (λj=>(((Yk w l k).e (0+k)).l.c j).cells) ((Yk w l k).e (0+k)).l.n 4)).v0-1∧fX l l.n (((Yk w l k).e (0+k)).l.c (Yh (λj=>(((Yk w l k).e (0+k)).l.c j).cells) ((Yk w l k).e (0+k)).l.n 4)).v0-1<(l.n:Int):=(by rw[hVQ];omega);have h3:=hm (fX l l.n (((Yk w l k).e (0+k)).l.c (Yh (λj=>(((Yk w l k).e (0+k)).l.c j).cells) ((Yk w l k).e (0+k)).l.n 4)).v0-1).toNat (by omega);refine Ai h1 ?_;refine Ai h2 ?_;refine Ai ⟨⟨h3.1,h3.2⟩,(by decide:(1:Int)<=64∧(64:Int)<=65536)⟩ ?_;refine Ai (by repeat' first|exact trivial|exact rfl|apply Ai|intro) ?_;refine Ai (by repeat' first|exact trivial|exact rfl|apply Ai|intro) ?_;refine Ai o1 ?_;refine⟨k+1,[],[],(by show w.l.n-(k+1)<w.l.n-k;omega),(by show k+1<=w.l.n;omega),?_⟩;have hBt:da l (w.l.e k)=NR (w.l.e k) (mvI l ((w.l.e k).l.c (X1 (w.l.e k).l 4)).v0):=(by rw[Yy,show Nat.blt 0 (eP l l.n ((w.l.e k).l.c (X1 (w.l.e k).l 4)).v0)=true from Nat.ble_eq_true_of_le (by omega)];rfl);have hL:mvI l ((w.l.e k).l.c (X1 (w.l.e k).l 4)).v0=Df.lim ⟨(l.e (fX l l.n (((Yk w l k).e (0+k)).l.c (Yh (λj=>(((Yk w l k).e (0+k)).l.c j).cells) ((Yk w l k).e (0+k)).l.n 4)).v0-1).toNat).moveX,(l.e (fX l l.n (((Yk w l k).e (0+k)).l.c (Yh (λj=>(((Yk w l k).e (0+k)).l.c j).cells) ((Yk w l k).e (0+k)).l.n 4)).v0-1).toNat).moveY⟩ 64:=(by unfold mvI;rw[hVQ,show ((eP l l.n ((w.l.e k).l.c (X1 (w.l.e k).l 4)).v0:Int)-1).toNat=eP l l.n ((w.l.e k).l.c (X1 (w.l.e k).l 4)).v0-1 by omega]);have st:∀i j,((Yk w l (k+1)).e i).l.c j=bif QF (Nat.beq i (0+k)) (Nat.beq j (Yh (λj=>(((Yk w l k).e (0+k)).l.c j).cells) ((Yk w l k).e (0+k)).l.n 2)) then⟨(((Yk w l k).e (0+k)).l.c (Yh (λj=>(((Yk w l k).e (0+k)).l.c j).cells) ((Yk w l k).e (0+k)).l.n 2)).kind,(Df.lim ⟨(l.e (fX l l.n (((Yk w l k).e (0+k)).l.c (Yh (λj=>(((Yk w l k).e (0+k)).l.c j).cells) ((Yk w l k).e (0+k)).l.n 4)).v0-1).toNat).moveX,(l.e (fX l l.n (((Yk w l k).e (0+k)).l.c (Yh (λj=>(((Yk w l k).e (0+k)).l.c j).cells) ((Yk w l k).e (0+k)).l.n 4)).v0-1).toNat).moveY⟩ 64).x,(Df.lim ⟨(l.e (fX l l.n (((Yk w l k).e (0+k)).l.c (Yh (λj=>(((Yk w l k).e (0+k)).l.c j).cells) ((Yk w l k).e (0+k)).l.n 4)).v0-1).toNat).moveX,(l.e (fX l l.n (((Yk w l k).e (0+k)).l.c (Yh (λj=>(((Yk w l k).e (0+k)).l.c j).cells) ((Yk w l k).e (0+k)).l.n 4)).v0-1).toNat).moveY⟩ 64).y,(((Yk w l k).e (0+k)).l.c (Yh (λj=>(((Yk w l k).e (0+k)).l.c j).cells) ((Yk w l k).e (0+k)).l.n 2)).v2,(((Yk w l k).e (0+k)).l.c (Yh (λj=>(((Yk w l k).e (0+k)).l.c j).cells) ((Yk w l k).e (0+k)).l.n 2)).v3⟩ else((Yk w l k).e i).l.c j:=(by intro i j;have:=RQ hBt i j;rw[hL,he0] at this;rw[he0,B' k];exact this);have hA:QF (Nat.beq (0+k) (0+k)) (Nat.beq (Yh (λj=>(((Yk w l k).e (0+k)).l.c j).cells) ((Yk w l k).e (0+k)).l.n 2) (Yh (λj=>(((Yk w l k).e (0+k)).l.c j).cells) ((Yk w l k).e (0+k)).l.n 2))=true:=(by rw[Xv,Xv];rfl);repeat' first|apply Ai|exact rfl|intro
   exact RR GJ;exact Uw Jg;exact((O' aZ.kind (st _ _)).trans (cW aZ.kind)).trans (bb1 hA);exact((O' aZ.v0 (st _ _)).trans (cW aZ.v0)).trans (bb1 hA);exact((O' aZ.v1 (st _ _)).trans (cW aZ.v1)).trans bb2;exact((O' aZ.v2 (st _ _)).trans (cW aZ.v2)).trans (bb1 hA);exact((O' aZ.v3 (st _ _)).trans (cW aZ.v3)).trans (bb1 hA)
  have hc:decide (0<fX l l.n (((Yk w l k).e (0+k)).l.c (Yh (λj=>(((Yk w l k).e (0+k)).l.c j).cells) ((Yk w l k).e (0+k)).l.n 4)).v0)=false:=hc;have hc:=Xg hc;rw[hVQ] at hc;rw[show eP l l.n ((w.l.e k).l.c (X1 (w.l.e k).l 4)).v0=0 by omega] at Yy;have Yy:da l (w.l.e k)=w.l.e k:=Yy;refine Ai o1 ?_;refine⟨k+1,[],[],(by show w.l.n-(k+1)<w.l.n-k;omega),(by show k+1<=w.l.n;omega),?_⟩;have hs:∀i,(Yk w l (k+1)).e i=(Yk w l k).e i:=λi=>by by_cases hi:i=k;subst hi;rw[jm (by omega),Yy,hek];exact n7 hi
  (repeat' (first|apply Ai|exact rfl|intro));all_goals first|exact O' (λe:XO=>e.iD) (hs _)|exact O' (λe:XO=>e.l.n) (hs _)|exact O' (λe:XO=>(e.l.c _).kind) (hs _)|exact O' (λe:XO=>(e.l.c _).v0) (hs _)|exact O' (λe:XO=>(e.l.c _).v1) (hs _)|exact O' (λe:XO=>(e.l.c _).v2) (hs _)|exact O' (λe:XO=>(e.l.c _).v3) (hs _)
 all_goals have Yy:da l (w.l.e k)=w.l.e k:=by unfold da;rw[hb4,Yi]
 all_goals refine Ai o1 ?_
 all_goals refine⟨k+1,[],[],(by show w.l.n-(k+1)<w.l.n-k;omega),(by show k+1<=w.l.n;omega),?_⟩
 all_goals have hs:∀i,(Yk w l (k+1)).e i=(Yk w l k).e i:=λi=>by by_cases hi:i=k;subst hi;rw[jm (by omega),Yy,hek];exact n7 hi
 all_goals repeat' first|apply Ai|exact rfl|intro
 all_goals first|exact O' (λe:XO=>e.iD) (hs _)|exact O' (λe:XO=>e.l.n) (hs _)|exact O' (λe:XO=>(e.l.c _).kind) (hs _)|exact O' (λe:XO=>(e.l.c _).v0) (hs _)|exact O' (λe:XO=>(e.l.c _).v1) (hs _)|exact O' (λe:XO=>(e.l.c _).v2) (hs _)|exact O' (λe:XO=>(e.l.c _).v3) (hs _)
end
end Go.Proofs.YtmdpdknpapjchaaGreatDoor
