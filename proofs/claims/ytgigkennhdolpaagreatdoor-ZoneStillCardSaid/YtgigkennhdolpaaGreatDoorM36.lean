/- step.World of at most one body.. -/
import Derived.Test.YtgigkennhdolpaaGreatDoorM19
import Derived.Test.YtgigkennhdolpaaGreatDoorM35
namespace Go.Proofs.YtgigkennhdolpaaGreatDoor
open Go.RowKit
def vR(w:U9)(g:Vec):VT:=⟨⟨(aP w.l w.l.n).length,eD (aP w.l w.l.n)⟩,Xx.of (.v (.slice none 0 0)),g.x,g.y⟩
theorem oD{α:Type}{f:Nat->α}{g:Nat->Bool}{x:α} : ∀{k:Nat},x∈cW f g k->∃i,i<k∧g i=true∧x=f i
 | 0,h=>by cases h
 | k+1,h=>by
  cases hg:g k with
  | true=>
   rw[fJ hg] at h;rcases UJ.1 h with h|h;obtain⟨i,h1,h2⟩:=oD h;exact⟨i,by omega,h2⟩;exact⟨k,by omega,hg,List.mem_singleton.1 h⟩
  | false=>
   rw[iq hg] at h;obtain⟨i,h1,h2⟩:=oD h;exact⟨i,by omega,h2⟩
theorem IV{lo hi x:Int}(h:lo<=x∧x<=hi):okI lo hi x=true:=by unfold okI;rw[UA (by omega),UA (by omega)];rfl
theorem wj{lo hi x y:Int}(h:lo<=x∧x<=hi)(h':lo<=y∧y<=hi):pv lo hi x y=true:=by unfold pv;rw[UA (by omega),UA (by omega),IV h'];rfl
theorem Eu{e:UZ}(h:e.vC)(hb:(aK e).2=true):(aK e).1.ok=true:=by
 have hc:((bz e.l 1).2&&(bz e.l 3).2)=true:=by
  unfold aK at hb;cases hc:((bz e.l 1).2&&(bz e.l 3).2) with
  | true=>rfl
  | false=>rw[hc] at hb;exact Uw (show false=true from hb) (by decide)
 have e1:(aK e).1=dz e:=by unfold aK;rw[hc]
 obtain⟨c1,c3⟩:=Bool.and_eq_true_iff.1 hc;rw[eC] at c1 c3;obtain⟨k1,f1,-⟩:=fU h c1;obtain⟨k3,f3,-⟩:=fU h c3;rw[<-mN c1] at k1 f1;rw[<-mN c3] at k3 f3;obtain⟨p1,p2,p3,p4,-⟩:=f1.2.2.1 k1;obtain⟨s1,s2,s3,s4,s5,s6,s7,s8⟩:=f3.2.2.2.2.1 k3;have hr:=f3.2.2.2.2.2.2.2.2.2.2.2.2.1 k3;have hI:=h.lo;have hI':=h.hi;rw[e1];have hR:∀b:Body,b.iD=e.iD->b.posX=(bz e.l 1).1.v0->b.posY=(bz e.l 1).1.v1->b.w=(bz e.l 3).1.v0->b.h=(bz e.l 3).1.v1->b.round=decide ((bz e.l 3).1.v2=1)->(-4096<=b.velX∧b.velX<=4096)->(-4096<=b.velY∧b.velY<=4096)->(b.fixed=true->b.velX=0∧b.velY=0)->b.ok=true:=by
  intro b h1 h2 h3 h4 h5 h6 h7 h8 h9;have hbad:b.ml=false:=(by unfold Body.ml;rw[IV (by omega),wj (by omega) (by omega),wj h7 h8,wj (by omega) (by omega)];rfl);unfold Body.ok;rw[hbad];have g1:(!b.round||decide (b.w=b.h))=true:=(by rw[h6];rcases hr with hr|hr;rw[UA (by omega)];rfl;rw[UB (by omega:b.w=b.h),Bool.or_true]);have g2:(!b.fixed||(decide (b.velX=0)&&decide (b.velY=0)))=true:=by
   cases hx:b.fixed with
   | false=>rfl
   | true=>obtain⟨q1,q2⟩:=h9 hx;rw[q1,q2];rfl
  show ((!b.round||decide (b.w=b.h))&&(!b.fixed||(decide (b.velX=0)&&decide (b.velY=0))))=true;rw[g1,g2];rfl
 unfold dz;cases hf:jl e with
 | true=>exact hR _ rfl rfl rfl rfl rfl rfl ⟨(show (-4096:Int)<=0 by decide),(show (0:Int)<=4096 by decide)⟩ ⟨(show (-4096:Int)<=0 by decide),(show (0:Int)<=4096 by decide)⟩ (λ_=>⟨rfl,rfl⟩)
 | false=>
  have h2:(bz e.l 2).2=true:=(by unfold jl at hf;have:=(UH.1 hf).2;simpa using this);rw[eC] at h2;obtain⟨k2,f2,-⟩:=fU h h2;rw[<-mN h2] at k2 f2;obtain⟨v1,v2,v3,v4,-⟩:=f2.2.2.2.1 k2;exact hR _ rfl rfl rfl rfl rfl rfl ⟨v1,v2⟩ ⟨v3,v4⟩ (λh=>Uw h Bool.false_ne_true)
theorem Gt{w:U9}{g:Vec}(h:w.Valid):∀i,i<(vR w g).bodies.n->((vR w g).bodies.e i).ok=true:=by
 intro i hi;have hi:i<(aP w.l w.l.n).length:=hi;have hm:eD (aP w.l w.l.n) i∈aP w.l w.l.n:=by unfold eD;rw[List.getD_eq_getElem?_getD,UL hi];exact List.getElem_mem hi
 obtain⟨j,h1,h2,h3⟩:=oD hm;show (eD (aP w.l w.l.n) i).ok=true;rw[h3];exact Eu (h.right j h1) h2
set_option maxHeartbeats 2000000 in
set_option maxRecDepth 8000 in
theorem xu:∀a,aA ((λa=>[a.1.valid=true,a.1.l.Sm,a.2.1.n=0,(aP a.1.l a.1.l.n).length<=1,gOk a.2.2]) a)->aH (C:=cx) [Gh,NI,zX] [] 0 ai Tryz.f44 ((eU cY gW dS).enc a) λv H _=>af ((λa=>.tup [(gh (xS (vR a.1 a.2.2)) a.1).sv,(nw (nu (vR a.1 a.2.2))).sv,.v (.int .i64 0)]) a) H v:=by
 intro⟨w,r,g⟩ ⟨hv,hs,hx,hb,hg⟩;replace hv:w.valid=true:=hv;replace hs:w.l.Sm:=hs;replace hx:r.n=0:=hx;replace hb:(aP w.l w.l.n).length<=1:=hb;replace hg:gOk g:=hg;have hV:=U9.gq.1 hv;have hlen:=hV.len;refine Ai ⟨by repeat' (first|exact trivial|exact rfl|refine Ai ?_ ?_|intro _),by repeat' (first|exact trivial|exact rfl|refine Ai ?_ ?_|intro _),hs,by show w.l.n<=1000;omega,hx⟩ ?_;refine Ai ⟨by repeat' (first|exact trivial|exact rfl|refine Ai ?_ ?_|intro _),hg,rfl,hb,Gt (g:=g) hV⟩ ?_;refine Ai (λhc=>Uw (show decide (¬(0:Int)=0)=true from hc) (by decide)) (λ_=>?_);refine Ai ⟨by repeat' (first|exact trivial|exact rfl|refine Ai ?_ ?_|intro _),by repeat' (first|exact trivial|exact rfl|refine Ai ?_ ?_|intro _),by repeat' (first|exact trivial|exact rfl|refine Ai ?_ ?_|intro _),hv,hs,Nat.le_trans hb (by decide)⟩ ?_;have hS:(bs lq).dec [SV.agg [SV.rs 9 (aP w.l w.l.n).length (λi=>(eD (aP w.l w.l.n) i).cells),.v (.slice none 0 0),.v (.int .i64 g.x),.v (.int .i64 g.y)]]=vR w g:=rfl;have hD:(aD cY lq).dec [w.sv,(xS (vR w g)).sv]=(w,xS (vR w g)):=rfl;repeat' (first|refine Ai ?_ ?_|(intro _))
 any_goals exact(rfl:(0:Int)=0)
 all_goals first
  | exact Uv (λp:U9×VT=>(gh p.2 p.1).tick) hD.symm
  | exact Uv (λp:U9×VT=>(gh p.2 p.1).l.n) hD.symm
  | exact Uv (λp:U9×VT=>((gh p.2 p.1).l.e _).iD) hD.symm
  | exact Uv (λp:U9×VT=>((gh p.2 p.1).l.e _).l.n) hD.symm
  | exact Uv (λp:U9×VT=>(((gh p.2 p.1).l.e _).l.c _).kind) hD.symm
  | exact Uv (λp:U9×VT=>(((gh p.2 p.1).l.e _).l.c _).v0) hD.symm
  | exact Uv (λp:U9×VT=>(((gh p.2 p.1).l.e _).l.c _).v1) hD.symm
  | exact Uv (λp:U9×VT=>(((gh p.2 p.1).l.e _).l.c _).v2) hD.symm
  | exact Uv (λp:U9×VT=>(((gh p.2 p.1).l.e _).l.c _).v3) hD.symm
  | exact Uv (λs:VT=>(nw (nu s)).n) hS.symm
  | exact Uv (λs:VT=>((nw (nu s)).e _).iD) hS.symm
  | exact Uv (λs:VT=>((nw (nu s)).e _).along) hS.symm
  | exact Uv (λs:VT=>((nw (nu s)).e _).byI) hS.symm
section
variable {α:Type}{f:Nat->α}{g:Nat->Bool}
theorem zj{R:α->α->Prop}{n:Nat}(h:∀i j,i<j->j<n->g i=true->g j=true->R (f i) (f j)):∀{k:Nat},k<=n->List.Pairwise R (cW f g k)
 | 0,_=>List.Pairwise.nil
 | k+1,hk=>by have ih:=zj h (k:=k) (by omega);simp only[cW];split;rename_i hg;refine List.pairwise_append.2 ⟨ih,by simp,λx hx y hy=>?_⟩;obtain⟨i,h1,rfl,h3⟩:=(mH k).1 hx;obtain rfl:y=f k:=(by simpa using hy);exact h i k h1 (by omega) h3 hg;exact ih
theorem FI{d:α}{key:α->Int}{n:Nat}(h:∀i j,i<j->j<n->g i=true->g j=true->key (f i)<key (f j)){a b:Nat}(Wn:a<b)(hb:b<(cW f g n).length):key ((cW f g n).getD a d)<key ((cW f g n).getD b d):=by have:=List.pairwise_iff_getElem.1 (zj (R:=λx y=>key x<key y) h (I' n)) a b (by omega) hb Wn;rw[List.getD_eq_getElem?_getD,UL (by omega),List.getD_eq_getElem?_getD,UL hb];exact this
theorem JL{d:α}{n i:Nat}(h:i<n)(hg:g i=true):∃j,j<(cW f g n).length∧(cW f g n).getD j d=f i:=
 let ⟨h1,h2⟩:=oE (f:=f) (g:=g) (d:=d) hg n h
 ⟨_,h2,h1⟩
theorem zk{d:α}{n j:Nat}(h:j<(cW f g n).length):∃i,i<n∧g i=true∧(cW f g n).getD j d=f i:=by
 have hm:(cW f g n).getD j d∈cW f g n:=by rw[List.getD_eq_getElem?_getD,UL h];exact List.getElem_mem h
 obtain⟨i,h1,h2,h3⟩:=oD hm;exact⟨i,h1,h2,h3⟩
end
theorem tL{e:UZ} : (dz e).iD=e.iD:=by unfold dz;cases jl e<;>rfl
theorem mj{e:UZ}(h:(aK e).2=true):(aK e).1=dz e∧eF e.l 1=true∧eF e.l 3=true:=by
 unfold aK at *;cases hc:(bz e.l 1).2&&(bz e.l 3).2 with
 | false=>rw[hc] at h;cases h
 | true=>
  rw[Ur] at hc;exact⟨rfl,eC▸hc.1,eC▸hc.2⟩
theorem Ev{e:UZ}(h1:eF e.l 1=true)(h3:eF e.l 3=true):(aK e).2=true∧(aK e).1=dz e:=by unfold aK;rw[eC,eC,h1,h3];exact⟨rfl,rfl⟩
theorem Qu{key:Nat->Int}{n i:Nat}{q:Int}(h:Yr key n)(hi:i<n)(hq:key i=q):dD key n q=true:=by
 have e:wI key n q=i:=Dr (by omega) (λj hj=>by rw[<-hq];exact h j i hj hi) (λj h1 h2=>by
  rcases UK h1 with rfl|h1;omega
  ·have:=h i j h1 h2;omega)
 exact sS.2 ⟨by omega,by rw[e];exact hq⟩
structure U9.Still (w:U9):Prop where
 v:∀i,i<w.l.n->eF (w.l.e i).l 2=true->((w.l.e i).l.c (U0 (w.l.e i).l 2)).v0=0∧((w.l.e i).l.c (U0 (w.l.e i).l 2)).v1=0
def oY(r:Xx):Prop:=r.n<=32∧∀i,i<r.n->(r.e i).a<(r.e i).b∧0<=(r.e i).len∧(r.e i).len<=2097152
theorem KY{w:U9}{j:Nat}(h:j<(b8 w.l).n):∃i,i<w.l.n∧(aK (w.l.e i)).2=true∧(b8 w.l).e j=dz (w.l.e i):=by obtain⟨i,h1,h2,h3⟩:=zk (f:=λi=>(aK (w.l.e i)).1) (g:=λi=>(aK (w.l.e i)).2) (d:=Body.no) h;exact⟨i,h1,h2,h3.trans (mj h2).1⟩
theorem Rh{w:U9}{i:Nat}(h:i<w.l.n)(hb:(aK (w.l.e i)).2=true):∃j,j<(b8 w.l).n∧(b8 w.l).e j=dz (w.l.e i):=by obtain⟨j,h1,h2⟩:=JL (f:=λi=>(aK (w.l.e i)).1) (g:=λi=>(aK (w.l.e i)).2) (d:=Body.no) h hb;exact⟨j,h1,h2.trans (mj hb).1⟩
theorem rF{w:U9}(h:w.Valid):Yr (b8 w.l).ids (b8 w.l).n:=λa b Wn hb=>
 FI (f:=λi=>(aK (w.l.e i)).1) (g:=λi=>(aK (w.l.e i)).2) (d:=Body.no) (key:=Body.iD) (λi j XS hj gi gj=>by have:=h.inc i j XS hj;have e1:=(mj gi).1;have e2:=(mj gj).1;show (aK (w.l.e i)).1.iD<(aK (w.l.e j)).1.iD;rw[e1,e2,tL,tL];exact this) Wn hb
theorem DN{l:X3}{q:Int}(h:Yr l.ids l.n)(hq:gz l q=true):dD l.ids l.n q=true:=by
 have h0:0<=VO (λi=>decide ((l.e i).iD=q)) l.n:=Od hq;unfold VO at h0;cases hd:decide (VI (λi=>decide ((l.e i).iD=q)) 0 l.n<l.n) with
 | false=>rw[hd] at h0;exact Uw (show (0:Int)<=-1 from h0) (by decide)
 | true=>
  have U8:=Od hd;have:=ry (g:=λi=>decide ((l.e i).iD=q)) (k:=0) (r:=l.n) (by omega);exact Qu h U8 (Od this)
theorem L4{w:U9}{r:Xx}{g:Vec}(h:w.Valid)(hr:oY r)(hg:gOk g):(rY w r g).Ok:=by have hlb:(aP w.l w.l.n).length<=w.l.n:=gC (f:=λi=>(aK (w.l.e i)).1) (g:=λi=>(aK (w.l.e i)).2) w.l.n;have hlr:(dP (b8 w.l) r r.n).length<=r.n:=gC (f:=r.e) (g:=λj=>gz (b8 w.l) (r.e j).a&&gz (b8 w.l) (r.e j).b) r.n;have hl:=h.len;refine⟨(show (aP w.l w.l.n).length<=64 by omega),(show (dP (b8 w.l) r r.n).length<=32 by have:=hr.1;omega),hg,λi hi=>?_,rF h,λi hi=>?_⟩;obtain⟨j,h1,h2,h3⟩:=KY hi;show ((b8 w.l).e i).ok=true;rw[h3,<-(mj h2).1];exact Eu (h.right j h1) h2;obtain⟨j,h1,h2,h3⟩:=zk (f:=r.e) (g:=λj=>gz (b8 w.l) (r.e j).a&&gz (b8 w.l) (r.e j).b) (d:=YN) (n:=r.n) hi;have h3:(rY w r g).ropes.e i=r.e j:=h3;rw[h3];obtain⟨q1,q2,q3⟩:=hr.2 j h1;obtain⟨q4,q5⟩:=Bool.and_eq_true_iff.1 h2;exact⟨q1,q2,q3,DN (rF h) q4,DN (rF h) q5⟩
theorem z6{w:U9}(hs:w.Still){i:Nat}(hi:i<w.l.n):(dz (w.l.e i)).velX=0∧(dz (w.l.e i)).velY=0:=by
 unfold dz;cases hf:jl (w.l.e i) with
 | true=>exact⟨rfl,rfl⟩
 | false=>
  have h2:eF (w.l.e i).l 2=true:=(by unfold jl at hf;rw[<-eC];have:=(UH.1 hf).2;simpa using this);have:=hs.v i hi h2;rw[<-mN h2] at this;exact this
theorem Bc{w:U9}{r:Xx}(h:w.Valid)(hs:w.Still)(hr:oY r):(rY w r ⟨0,0⟩).Still:=by refine⟨L4 h hr ⟨⟨by decide,by decide⟩,by decide,by decide⟩,rfl,rfl,λi hi=>?_⟩;obtain⟨j,h1,h2,h3⟩:=KY hi;show ((b8 w.l).e i).velX=0∧((b8 w.l).e i).velY=0;rw[h3];exact z6 hs h1
theorem Iw{e:UZ}(h1:eF e.l 1=true)(h3:eF e.l 3=true):jh e (dz e)=e:=by
 have hp:(dz e).posX=(e.l.c (U0 e.l 1)).v0∧(dz e).posY=(e.l.c (U0 e.l 1)).v1:=by rw[<-mN h1];unfold dz;cases jl e<;>exact⟨rfl,rfl⟩
 have hv:(aK e).1.fixed=false->(dz e).velX=(e.l.c (U0 e.l 2)).v0∧(dz e).velY=(e.l.c (U0 e.l 2)).v1:=λhf=>by
  rw[(Ev h1 h3).2] at hf;have hx:jl e=false:=by
   unfold dz at hf;cases hx:jl e with
   | true=>rw[hx] at hf;cases hf
   | false=>rfl
  have h2:eF e.l 2=true:=(by unfold jl at hx;rw[<-eC];have:=(UH.1 hx).2;simpa using this);rw[<-mN h2];unfold dz;rw[hx];exact⟨rfl,rfl⟩
 have key:∀j,(jh e (dz e)).l.c j=e.l.c j:=λj=>by by_cases j1:j=U0 e.l 1;subst j1;rw[Dd,hp.1,hp.2];by_cases hf:(aK e).1.fixed=true;exact yh j1 (.inl hf);have hf:(aK e).1.fixed=false:=(by simpa using hf);by_cases j2:j=U0 e.l 2;subst j2;rw[O1 (λh=>j1 h) hf,(hv hf).1,(hv hf).2];exact yh j1 (.inr j2)
 obtain⟨i,⟨n,c⟩⟩:=e;show UZ.mk i ⟨n,_⟩=_;exact Uv (λf=>UZ.mk i ⟨n,f⟩) (funext key)
theorem JF{w:U9}(h:w.Valid)(hs:w.Still){i:Nat}(hi:i<w.l.n)(h1:eF (w.l.e i).l 1=true)(h2:eF (w.l.e i).l 2=true):iC (w.l.e i)=w.l.e i:=by
 have hR:=h.right i hi;obtain⟨k1,f1,-⟩:=fU hR h1;obtain⟨k2,f2,-⟩:=fU hR h2;obtain⟨p1,p2,p3,p4,-⟩:=f1.2.2.1 k1;obtain⟨z1,z2⟩:=hs.v i hi h2;have d12:U0 (w.l.e i).l 2≠U0 (w.l.e i).l 1:=λh=>by rw[<-h,k2] at k1;exact Uw k1 (by decide)
 have hc:∀p:Int,-1048576<=p->p<=1048576->gT (p+0)=p:=λp q1 q2=>by unfold gT;omega
 have key:∀j,(iC (w.l.e i)).l.c j=(w.l.e i).l.c j:=λj=>by
  by_cases j1:j=U0 (w.l.e i).l 1;subst j1;rw[y6,z1,z2,hc _ p1 p2,hc _ p3 p4];by_cases j2:j=U0 (w.l.e i).l 2
  ·subst j2;rw[y5 d12];have e:∀p:Int,lz p 0=0:=λp=>(by unfold lz;cases decide (gT (p+0)=p+0)<;>rfl);rw[z1,z2,e,e];show (⟨_,0,0,_,_⟩:aR)=_;rw[<-z1]
   conv=>lhs;arg 3;rw[z1,<-z2]
  exact yZ j1 j2
 show UZ.mk (w.l.e i).iD ⟨(w.l.e i).l.n,_⟩=_;exact Uv (λf=>UZ.mk (w.l.e i).iD ⟨(w.l.e i).l.n,f⟩) (funext key)
theorem Gx{w:U9}{r:Xx}{g:Vec}(h:w.Valid)(hs:w.Still){i:Nat}(hi:i<w.l.n):ak (rY w r g) (w.l.e i)=w.l.e i:=by
 unfold ak;cases h1:eF (w.l.e i).l 1 with
 | false=>cases eF (w.l.e i).l 2<;>cases eF (w.l.e i).l 3<;>rfl
 | true=>
  cases h3:eF (w.l.e i).l 3 with
  | false=>
   cases h2:eF (w.l.e i).l 2 with
   | false=>rfl
   | true=>exact JF h hs hi h1 h2
  | true=>
   show (bif decide (dA (rY w r g) (w.l.e i).iD<0) then w.l.e i else jh (w.l.e i) ((rY w r g).bodies.e (dA (rY w r g) (w.l.e i).iD).toNat))=w.l.e i;obtain⟨b2,bv⟩:=Ev h1 h3;obtain⟨j,j1,j2⟩:=Rh hi b2;have hj:((b8 w.l).e j).iD=(w.l.e i).iD:=(by rw[j2,tL]);have hix:dA (rY w r g) (w.l.e i).iD=j:=(by have U8:VI (λk=>decide (((b8 w.l).e k).iD=(w.l.e i).iD)) 0 (b8 w.l).n<(b8 w.l).n:=yP (g:=λk=>decide (((b8 w.l).e k).iD=(w.l.e i).iD)) j1 (UB hj);have hh:=ry (g:=λk=>decide (((b8 w.l).e k).iD=(w.l.e i).iD)) (k:=0) (r:=(b8 w.l).n) (by omega);have hh:=Od hh;have e:VI (λk=>decide (((b8 w.l).e k).iD=(w.l.e i).iD)) 0 (b8 w.l).n=j:=(by have Xm:=rF h;rcases Nat.lt_trichotomy (VI (λk=>decide (((b8 w.l).e k).iD=(w.l.e i).iD)) 0 (b8 w.l).n) j with c|c|c;have:=Xm _ _ c j1;have:((b8 w.l).e _).iD<((b8 w.l).e j).iD:=this;omega;exact c;have:=Xm _ _ c U8;have:((b8 w.l).e j).iD<((b8 w.l).e _).iD:=this;omega);exact fZ e j1);rw[hix,UA (by omega)];show jh (w.l.e i) ((b8 w.l).e j)=w.l.e i;rw[j2];exact Iw h1 h3
theorem B0{w:U9}{r:Xx}{g:Vec}(h:w.Valid)(hs:w.Still):∀i,i<w.l.n->(gh (rY w r g) w).l.e i=w.l.e i:=λi hi=>Gx h hs hi
set_option maxHeartbeats 2000000 in
set_option maxRecDepth 8000 in
theorem GK:∀a,aA ((λa=>[a.1.valid=true,a.1.l.Sm,a.1.Still,oY a.2.1,a.2.2.x=0,a.2.2.y=0]) a)->aH (C:=cx) [BU,Kf,zX] [] 0 ai Tryz.f44 ((eU cY gW dS).enc a) λv H _=>af ((λa=>.tup [a.1.sv,.v (.slice none 0 0),.v (.int .i64 0)]) a) H v:=by
 intro⟨w,r,⟨gx,gy⟩⟩ ⟨hv,hs,ht,hr,hx,hy⟩;replace hv:w.valid=true:=hv;replace hs:w.l.Sm:=hs;replace ht:w.Still:=ht;replace hr:oY r:=hr;obtain rfl:gx=0:=hx;obtain rfl:gy=0:=hy;have hV:=U9.gq.1 hv;have hlen:=hV.len;have hS:=Bc hV ht hr;have hnb:=hS.ok.nb;refine Ai ⟨by repeat' (first|exact trivial|exact rfl|refine Ai ?_ ?_|intro _),by repeat' (first|exact trivial|exact rfl|refine Ai ?_ ?_|intro _),hs,(show w.l.n<=1000 by omega),(show r.n<=1000 by have:=hr.1;omega)⟩ ?_;refine Ai ⟨by repeat' (first|exact trivial|exact rfl|refine Ai ?_ ?_|intro _),by repeat' (first|exact trivial|exact rfl|refine Ai ?_ ?_|intro _),hS⟩ ?_;refine Ai (λhc=>Uw (show decide (¬(0:Int)=0)=true from hc) (by decide)) (λ_=>?_);refine Ai ⟨by repeat' (first|exact trivial|exact rfl|refine Ai ?_ ?_|intro _),by repeat' (first|exact trivial|exact rfl|refine Ai ?_ ?_|intro _),by repeat' (first|exact trivial|exact rfl|refine Ai ?_ ?_|intro _),hv,hs,(show (rY w r ⟨0,0⟩).bodies.n<=1000 by omega)⟩ ?_;have hB:=B0 (r:=r) (g:=⟨0,0⟩) hV ht;repeat' (first|refine Ai ?_ ?_|(intro _))
 any_goals exact(rfl:(0:Int)=0)
 all_goals first|exact(rfl:(Value.slice none 0 0:Value)=Value.slice none 0 0)|exact(rfl:w.tick=w.tick)|exact(rfl:w.l.n=w.l.n)|exact(Uv (λe:UZ=>e.iD) (hB _ (by assumption))).symm|exact(Uv (λe:UZ=>e.l.n) (hB _ (by assumption))).symm|exact(Uv (λe:UZ=>(e.l.c _).kind) (hB _ (by assumption))).symm|exact(Uv (λe:UZ=>(e.l.c _).v0) (hB _ (by assumption))).symm|exact(Uv (λe:UZ=>(e.l.c _).v1) (hB _ (by assumption))).symm|exact(Uv (λe:UZ=>(e.l.c _).v2) (hB _ (by assumption))).symm|exact(Uv (λe:UZ=>(e.l.c _).v3) (hB _ (by assumption))).symm|trace_state
noncomputable def NJ:UW cx:=ae 44 Tryz.call44 (eU cY gW dS) _ _ (λ_=>ai) [] (λ_=>rfl) follows Tryz.func44 (by kernel_rfl) GK
end Go.Proofs.YtgigkennhdolpaaGreatDoor
