/- zone.comp, step.first in lists of one's own. -/
import Derived.Test.YtmdpdknpapjchaaGreatDoorM33
set_option linter.all false
namespace Go.Proofs.YtmdpdknpapjchaaGreatDoor
set_option maxRecDepth 100000
noncomputable section
section
open Go.Conc Go.RowKit
set_option maxHeartbeats 2000000
variable {u:List Value}{ρ:Names}{i n nm:Nat}{f:Nat->List SV}
def gv(f:Nat->List SV)(i:Nat):Int:=(YQ (f i)).iv
def Yh(f:Nat->List SV)(n:Nat)(q:Int):Nat:=YK (λi=>decide (gv f i=q)) 0 n
def JZ(b:Bool)(i:Nat):SV:=match b with|true=>.gp 0 0 5 i 0|false=>.v (.pointer none)
theorem KL{g:Nat->Bool}{r k:Nat} : YK g k r<=k+r:=C0.2
def zJ(n:Nat)(f:Nat->List SV)(u:List Value):Nat->List SV:=λi=>bif Nat.blt i n then f i else((u.drop (i*5)).take 5).map SV.v
theorem sj(h:i<n):zJ n f u i=f i:=by unfold zJ;rw[show Nat.blt i n=true from Nat.ble_eq_true_of_le h];rfl
theorem Ez(h:n<=i):zJ n f u i=((u.drop (i*5)).take 5).map SV.v:=by unfold zJ;rw[show Nat.blt i n=false by cases e:Nat.blt i n;rfl;exact P' (F4 e) (by omega)];rfl
theorem wJ{g g':Nat->Bool} : ∀{r k:Nat},(∀i,k<=i->i<k+r->g i=g' i)->YK g k r=YK g' k r
 | 0,k,_=>rfl
 | r+1,k,h=>by simp only[YK];rw[h k (F2 _) (by omega),wJ (r:=r) (k:=k+1) λi h1 h2=>h i (by omega) (by omega)]
theorem O0{q:Int} : Yh (zJ n f u) n q=Yh f n q:=wJ λi _ h=>by show decide (gv (zJ n f u) i=q)=decide (gv f i=q);unfold gv;rw[sj (by omega)]
theorem Mq{XM:Names}{c:aZ}{us us':List Value}(h:au ρ c.cells us)(h':au XM c.cells us'):us=us':=by obtain⟨_,_,rfl,rfl,_,_,rfl,rfl,_,_,rfl,rfl,_,_,rfl,rfl,_,_,rfl,rfl,rfl⟩:=h;obtain⟨_,_,rfl,rfl,_,_,rfl,rfl,_,_,rfl,rfl,_,_,rfl,rfl,_,_,rfl,rfl,rfl⟩:=h';rfl
theorem N2{u':List Value}(h1:u.length=n*5)(h2:u'.length=n*5)(h:∀i,i<n->∀k,k<5->u'[i*5+k]? = u[i*5+k]?):u'=u:=by
 refine List.ext_getElem? λj=>?_;by_cases hj:j<n*5
 ·have:=h (j/5) (by omega) (j%5) (by omega)
  rwa [show j/5*5+j%5=j by omega] at this
 rw[List.getElem?_eq_none (by omega),List.getElem?_eq_none (by omega)]
def Ln(a:Option Addr)(n ix:Nat):Value:=if ix<n then match a with|some ⟨b,_,_⟩=>.pointer (some ⟨b,ix*5+0,none⟩)|none=>.pointer none else .pointer none
def fiA:Y0 cx:=⟨113,Tryz.call113,Tryz.f113,Tryz.func113,[],[],[],0,by kernel_rfl⟩
theorem AI(n cap:Nat)(id q:Int)(f:Nat->List SV)(hf:∀i,i<n->∃c:aZ,f i=c.cells)(hn:(n:Int)<=cp):ev (C:=cx) [yJ] fiA.fn.ntmps 1 (jB (C:=cx) [yJ] [] 0) (cd (C:=cx) []) ak (eK fiA.fn) ⟨bw 0 [.agg [.v (.int .i64 id),.g 0 0 5 0 n],.v (.int .u8 q)],[(0,.lst 0 5 cap f 52)],1,0,[],[]⟩ (rT cx fiA.fn.results.toList λv H' _=>v=JZ (decide (Yh f n q<n)) (Yh f n q)∧cC [(0,.lst 0 5 cap f 52)] H'):=by
 have hz:(λi=>decide (gv (λi=>f (0+i)) i=q))=λi=>decide (gv f i=q):=funext λi=>by show decide ((YQ (f (0+i))).iv=q)=_;rw[B'];rfl
 have hle:Yh f n q<=n:=by have:=KL (g:=λi=>decide (gv f i=q)) (k:=0) (r:=n);unfold Yh;omega
 refine Ai ⟨λi hi=>?_,hn,⟨q,rfl⟩⟩ ?_;obtain⟨c,hc⟩:=hf (0+i) (by omega);show aT (fL JW (f (0+i)));rw[hc];trivial;have ei:∀x:Int,x=YO (λi=>decide (gv (λi=>f (0+i)) i=q)) n->x=YO (λi=>decide (gv f i=q)) n:=λx h=>by rw[h,hz]
 by_cases h:Yh f n q<n;have e1:YO (λi=>decide (gv f i=q)) n=(Yh f n q:Nat):=iX rfl h;refine Ai (λhc=>?_) (λhc=>?_);have hc:decide (YO (λi=>decide (gv (λi=>f (0+i)) i=q)) n<0)=true:=hc;rw[hz,e1] at hc;have:=Od hc;omega;have e2:YO (λi=>decide (gv (λi=>f (0+i)) i=q)) n=(Yh f n q:Nat):=(by rw[hz];exact e1);refine Ai (show 0<=YO (λi=>decide (gv (λi=>f (0+i)) i=q)) n∧YO (λi=>decide (gv (λi=>f (0+i)) i=q)) n<(n:Nat) by rw[e2];omega) ?_;refine⟨?_,?_⟩;show SV.gp 0 0 5 (0+(YO (λi=>decide (gv (λi=>f (0+i)) i=q)) n).toNat) 0=JZ _ _;rw[e2,Xj h,B'];rfl;exact cC.cons (cC.cons (cC.refl _) rfl) rfl;have e1:YO (λi=>decide (gv f i=q)) n = -1:=gI (show Yh f n q=n by omega);refine Ai (λhc=>?_) (λhc=>?_);refine⟨?_,?_⟩;rw[Xi h];rfl;exact cC.cons (cC.cons (cC.refl _) rfl) rfl;have hc:decide (YO (λi=>decide (gv (λi=>f (0+i)) i=q)) n<0)=false:=hc;rw[hz,e1] at hc;exact P' hc (by decide)
def Ua(fi:Y0 cx)(c:XR cx):Prop:=∀(n cap:Nat) (id q:Int) (f:Nat->List SV),(∀i,i<n->∃c:aZ,f i=c.cells)->(n:Int)<=cp->ev (C:=cx) [c] fi.fn.ntmps 1 (jB (C:=cx) [c] [] 0) (cd (C:=cx) []) ak (eK fi.fn) ⟨bw 0 [.agg [.v (.int .i64 id),.g 0 0 5 0 n],.v (.int .u8 q)],[(0,.lst 0 5 cap f 52)],1,0,[],[]⟩ (rT cx fi.fn.results.toList λv H' _=>v=JZ (decide (Yh f n q<n)) (Yh f n q)∧cC [(0,.lst 0 5 cap f 52)] H')
theorem rF(fi:Y0 cx)(c:XR cx)(p1:fi.fn.body=some (eK fi.fn))(p2:Nat.ble 2 fi.fn.ntmps=true)(p3:dL [] (eK fi.fn)=true)(hw:Ua fi c){W:World}{q:LV}{a':Option Addr}(hG:cx.ZQ W)(ZM:∀b o,q.cap≠0->q.a=some ⟨b,o,none⟩->cx.gm<=b)(hl:fF ρ W q 5 f 52)(hn:n<=q.N)(hf:∀i,i<n->∃c:aZ,f i=c.cells)(Ys:(n:Int)<=cp)(ha:q.cap≠0->∃b,q.a=some ⟨b,0,none⟩∧a'=some ⟨b,0,none⟩)(id kd:Int) :
  bj Tryz.prog false fi.f #[.agg #[.int .i64 id,.slice a' n q.cap],.int .u8 kd] W λe W'=>e=.returned (Ln q.a n (Yh f n kd))∧Gr W W':=by
 obtain⟨u,hu⟩:∃u:List Value,q.cap≠0->∃b,q.a=some ⟨b,0,none⟩∧Zq W b u.toArray 52∧u.length=q.cap*5∧(∀c∈u,c.oneCell'=true)∧∀i,i<q.N->∃us,au ρ.zo (f i) us∧us.length=5∧∀k c,us[k]? = some c->u[i*5+k]? = some c:=by by_cases hc:q.cap=0;exact⟨[],λh=>P' hc h⟩;obtain⟨b,u,h1,h2,h3,h4,-,h6⟩:=hl.2 hc;exact⟨u,λ_=>⟨b,h1,h2,h3,h4,h6⟩⟩
 have hNc:=hl.1;let q0:LV:=⟨0,q.a,q.cap,q.cap⟩
 let YA:Names:=⟨λ_=>none,λe=>if e=0 then some q0 else none,λ_ _=>none,λ_ _ _=>False,[],λ_=>False⟩
 have v0:∀e l,YA.v e=some l->e=0∧l=q0:=λe l h=>by by_cases he:e=0;simp only[YA,Xl he] at h;exact⟨he,(Oi h).symm⟩;simp only[YA,Xk he] at h;cases h
 have ow:∀m b,bM YA m b->m=0∧q.cap≠0∧∃o,q.a=some ⟨b,o,none⟩:=λm b h=>by
  rcases h with h|⟨e,l,o,h1,h2,h3,h4⟩|⟨i,l,o,h,-⟩
  cases h;obtain⟨-,rfl⟩:=v0 e l h1;exact⟨h2.symm,h3,o,h4⟩;cases h
 have X':YH cx [(0,.lst 0 5 q.cap (zJ n f u) 52)] YA W:=by
  refine⟨⟨λm m' b h h'=>by rw[(ow m b h).1,(ow m' b h').1],λm b h=>?_,λb i c h=>h.elim,hG⟩,λm sb hm=>?_⟩;obtain⟨-,hc,o,ho⟩:=ow m b h;obtain⟨b',h1,h2,-⟩:=hu hc;rw[h1] at ho;injection ho with ho;injection ho with ho;subst ho;exact⟨ZM b' 0 hc h1,(E'.1 (show W.heap[b']? = _ from h2)).1⟩;by_cases e:0=m
  ·subst e;obtain rfl:=Oi (show some _=some sb from hm);refine⟨q0,by simp[YA],rfl,rfl,F2 _,λhc=>?_⟩;obtain⟨b,h1,h2,h3,h4,h5⟩:=hu hc;refine⟨b,u,h1,h2,h3,h4,λ_ _ h=>h,λi hi=>?_⟩;by_cases hin:i<n;rw[sj hin];obtain⟨c,hcc⟩:=hf i hin;obtain⟨us,k1,k2,k3⟩:=h5 i (by omega);rw[hcc] at k1 ⊢;refine⟨us,?_,k2,k3⟩;obtain⟨_,_,rfl,rfl,_,_,rfl,rfl,_,_,rfl,rfl,_,_,rfl,rfl,_,_,rfl,rfl,rfl⟩:=k1;exact⟨_,_,rfl,rfl,_,_,rfl,rfl,_,_,rfl,rfl,_,_,rfl,rfl,_,_,rfl,rfl,rfl⟩;rw[Ez (by omega)];have YT:i<q.cap:=hi;refine⟨_,qF _,by simp;omega,λk c hk=>?_⟩;rw[List.getElem?_take] at hk;split at hk
   ·rwa [List.getElem?_drop] at hk
   cases hk
  rw[ah _ _ e] at hm;cases hm
 have XY:au YA [.agg [.v (.int .i64 id),.g 0 0 5 0 n],.v (.int .u8 kd)] [.agg #[.int .i64 id,.slice a' n q.cap],.int .u8 kd]:=
  ⟨_,_,rfl,⟨_,⟨_,_,rfl,rfl,_,_,rfl,⟨q0,by simp[YA],rfl,by show 0+n<=q.cap;omega,F2 _,a',rfl,λhc=>by obtain⟨b,h1,h2⟩:=ha (by simpa[q0] using hc);exact⟨b,h1,by rw[h2]⟩⟩,rfl⟩,rfl⟩,_,_,rfl,rfl,rfl⟩
 refine(gM (C:=cx) (Γ:=[c]) (args:=[.agg [.v (.int .i64 id),.g 0 0 5 0 n],.v (.int .u8 kd)]) (w0:=W) (XN:=YA) ak (cX follows 0) follows fi.hf (code:=eK fi.fn) p1 p2 p3 X' (λ_ _ h=>by cases h) (λe l h=>by obtain⟨rfl,rfl⟩:=v0 e l h;exact⟨Nat.zero_lt_one,Nat.zero_lt_one⟩) (λ_ _ _ h=>by cases h) XY _
  (hw n q.cap id kd (zJ n f u) (λi hi=>by rw[sj hi];exact hf i hi) Ys)).mono ?_
 rintro e W' ⟨v,val,H',Yl,XM,rfl,⟨rfl,hle⟩,hm,hc,hd⟩;rw[O0] at hd;have hv0:XM.v 0=some q0:=hm.le.v 0 q0 (by simp[YA,Names.YE]);have hgr:Gr W W':=by
  refine⟨hm.keep.os,hm.keep.tape,hm.keep.output,hm.keep.size,λx hx=>?_⟩;by_cases Zy:q.cap≠0∧∃o,q.a=some ⟨x,o,none⟩;obtain⟨Ym,o,ho⟩:=Zy;obtain⟨b,h1,h2,h3,h4,h5⟩:=hu Ym;obtain⟨l,k1,-,-,-,k5⟩:=hc 0 _ (hle 0 _ rfl);obtain rfl:q0=l:=Oi (hv0.symm.trans k1);obtain⟨b',u',j1,j2,j3,-,-,j6⟩:=k5 Ym;have e1:b=b':=(by have:=h1.symm.trans j1;injection this with this;injection this);have e2:x=b:=(by have:=ho.symm.trans h1;injection this with this;injection this);subst e1 e2;have hue:u'=u:=N2 h3 j3 λi hi k hk=>(by obtain⟨us',p1,p2,p3⟩:=j6 i hi;have ZH:us'[k]? = some us'[k]:=Xt (by omega);have r1:=p3 k _ ZH;rw[r1];by_cases hin:i<n;rw[sj hin] at p1;obtain⟨c,hcc⟩:=hf i hin;obtain⟨us,s1,s2,s3⟩:=h5 i (by omega);rw[hcc] at p1 s1;obtain rfl:=Mq s1 p1;exact(s3 k _ ZH).symm;rw[Ez (by omega)] at p1;obtain rfl:=uV p1;rw[<-ZH,List.getElem?_take,Xl hk,List.getElem?_drop]);subst hue;exact(show W'.heap[x]? = _ from j2).trans (show W.heap[x]? = _ from h2).symm;refine hm.keep.block x hx λhmn=>Zy ?_;rcases hmn with ⟨m,ho⟩|ho
  exact(ow m x ho).2;exact ho.elim
 refine⟨?_,hgr⟩;unfold Ln;by_cases h:Yh f n kd<n;rw[Xj h] at hd;obtain⟨l,b,d1,d2,d3,d4,d5,rfl⟩:=hd;obtain rfl:q0=l:=Oi (hv0.symm.trans d1);have d5:q.a=some ⟨b,0,none⟩:=d5;rw[Xl h,d5];rw[Xi h] at hd;obtain rfl:val=_:=hd;rw[Xk h]
theorem IJ:∀a,aD ((λa=>[∃q,a.2=.rp [.v (.int .u8 q)] 0]) a)->aJ (C:=cx) [] [] 0 ak Tryz.f53 ((aH gE YS).enc a) λv H _=>ae ((λa=>.v (.bool (decide (a.1.kind=rkI a.2)))) a) H v:=by intro⟨c,x⟩ hx;obtain⟨q,hx⟩:∃q,x=.rp [.v (.int .u8 q)] 0:=hx;subst hx;exact rfl
def Qe:XR cx:=af 53 Tryz.call53 (aH gE YS) _ _ (λ_=>ak) [] (λ_=>rfl) follows Tryz.func53 (by kernel_rfl) IJ
def OZ(l:Zp)(q:Int):Cut:=⟨Nat,λk=>k<=l.n∧YK (λi=>decide ((l.c i).kind=q)) 0 l.n=YK (λi=>decide ((l.c i).kind=q)) k (l.n-k),
 λk=>⟨[sl 0 l.sv,sl 1 (.f (.func 53) [] [.rp [.v (.int .u8 q)] 0]),sl 7 (i64 l.n),sl 8 (i64 k)],[],0,0,[],[]⟩,λk=>l.n-k⟩
theorem Iw:∀a,aD ((λa=>[(a.1.n:Int)<=cp,∃q,a.2=(.f (.func 53) [] [.rp [.v (.int .u8 q)] 0])]) a)->aJ (C:=cx) [Qe] [] 0 ⟨[],[],[2],0⟩ Tryz.f52 ((aH gU YS).enc a) λv H _=>ae ((λa=>.v (.int .i64 (YO (λi=>decide ((a.1.c i).kind=kxI a.2)) a.1.n))) a) H v:=by
 intro⟨l,x⟩ ⟨hm,hx⟩;obtain⟨q,hx⟩:∃q,x=(.f (.func 53) [] [.rp [.v (.int .u8 q)] 0]):=hx;subst hx;replace hm:(l.n:Int)<=9223372036854775807:=hm;refine F8 (OZ l q) ?_;refine Ai ?_ ?_
 ·refine⟨(0:Nat),[],[],trivial,⟨F9 _,rfl⟩,?_⟩;repeat' first|apply Ai|exact rfl|intro
 refine fun(k:Nat) (hk:k<=l.n∧YK (λi=>decide ((l.c i).kind=q)) 0 l.n=YK (λi=>decide ((l.c i).kind=q)) k (l.n-k))=>?_;obtain⟨k1,k2⟩:=hk;refine Ai (λhb=>?_) (λhb=>?_)
 ·have hb:(k:Int)<l.n:=Od hb;have e:=jz (g:=(λi=>decide ((l.c i).kind=q))) (k:=k) (n:=l.n) (by omega);refine Ai ⟨by omega,by omega⟩ ?_;refine Ai ⟨q,rfl⟩ ?_;refine Ai (λhc=>?_) (λhc=>?_);have hc:(decide ((l.c k).kind=q))=true:=hc;simp only[hc] at e;exact iX (g:=(λi=>decide ((l.c i).kind=q))) (n:=l.n) (k2.trans e) (by omega);have hc:(decide ((l.c k).kind=q))=false:=hc;simp only[hc] at e;refine Ai (by unfold XT;omega:XT ((k:Int)+1)) ?_;refine⟨k+1,[],[],(by show l.n-(k+1)<l.n-k;omega),⟨by omega,by rw[k2,e]⟩,?_⟩;repeat' first|apply Ai|exact rfl|intro
 have hb:¬(k:Int)<l.n:=Xg hb;refine gI (g:=(λi=>decide ((l.c i).kind=q))) (n:=l.n) ?_;rw[k2,show l.n-k=0 by omega];show k=l.n;omega
def yI:XR cx:=af 52 Tryz.call52 (aH gU YS) _ _ (λ_=>⟨[],[],[2],0⟩) [] (λ_=>rfl) follows Tryz.func52 (by kernel_rfl) Iw
def fiB:Y0 cx:=⟨24,Tryz.call24,Tryz.f24,Tryz.func24,[],[],[],0,by kernel_rfl⟩
theorem AH(n cap:Nat)(id q:Int)(f:Nat->List SV)(hf:∀i,i<n->∃c:aZ,f i=c.cells)(hn:(n:Int)<=cp):ev (C:=cx) [yI] fiB.fn.ntmps 1 (jB (C:=cx) [yI] [] 0) (cd (C:=cx) []) ak (eK fiB.fn) ⟨bw 0 [.agg [.v (.int .i64 id),.g 0 0 5 0 n],.v (.int .u8 q)],[(0,.lst 0 5 cap f 52)],1,0,[],[]⟩ (rT cx fiB.fn.results.toList λv H' _=>v=JZ (decide (Yh f n q<n)) (Yh f n q)∧cC [(0,.lst 0 5 cap f 52)] H'):=by
 have hz:(λi=>decide (gv (λi=>f (0+i)) i=q))=λi=>decide (gv f i=q):=funext λi=>by show decide ((YQ (f (0+i))).iv=q)=_;rw[B'];rfl
 have hle:Yh f n q<=n:=by have:=KL (g:=λi=>decide (gv f i=q)) (k:=0) (r:=n);unfold Yh;omega
 refine Ai ⟨λi hi=>?_,hn,⟨q,rfl⟩⟩ ?_;obtain⟨c,hc⟩:=hf (0+i) (by omega);show aT (fL JW (f (0+i)));rw[hc];trivial;have ei:∀x:Int,x=YO (λi=>decide (gv (λi=>f (0+i)) i=q)) n->x=YO (λi=>decide (gv f i=q)) n:=λx h=>by rw[h,hz]
 by_cases h:Yh f n q<n;have e1:YO (λi=>decide (gv f i=q)) n=(Yh f n q:Nat):=iX rfl h;refine Ai (λhc=>?_) (λhc=>?_);have hc:decide (YO (λi=>decide (gv (λi=>f (0+i)) i=q)) n<0)=true:=hc;rw[hz,e1] at hc;have:=Od hc;omega;have e2:YO (λi=>decide (gv (λi=>f (0+i)) i=q)) n=(Yh f n q:Nat):=(by rw[hz];exact e1);refine Ai (show 0<=YO (λi=>decide (gv (λi=>f (0+i)) i=q)) n∧YO (λi=>decide (gv (λi=>f (0+i)) i=q)) n<(n:Nat) by rw[e2];omega) ?_;refine⟨?_,?_⟩;show SV.gp 0 0 5 (0+(YO (λi=>decide (gv (λi=>f (0+i)) i=q)) n).toNat) 0=JZ _ _;rw[e2,Xj h,B'];rfl;exact cC.cons (cC.cons (cC.refl _) rfl) rfl;have e1:YO (λi=>decide (gv f i=q)) n = -1:=gI (show Yh f n q=n by omega);refine Ai (λhc=>?_) (λhc=>?_);refine⟨?_,?_⟩;rw[Xi h];rfl;exact cC.cons (cC.cons (cC.refl _) rfl) rfl;have hc:decide (YO (λi=>decide (gv (λi=>f (0+i)) i=q)) n<0)=false:=hc;rw[hz,e1] at hc;exact P' hc (by decide)
def xn(F:FuncId):Prop:=∀{ρ:Names} {W:World} {q:LV} {n:Nat} {f:Nat->List SV} {a':Option Addr},cx.ZQ W->(∀b o,q.cap≠0->q.a=some ⟨b,o,none⟩->cx.gm<=b)->fF ρ W q 5 f 52->n<=q.N->(∀i,i<n->∃c:aZ,f i=c.cells)->(n:Int)<=cp->(q.cap≠0->∃b,q.a=some ⟨b,0,none⟩∧a'=some ⟨b,0,none⟩)->∀id kd:Int,
  bj Tryz.prog false F #[.agg #[.int .i64 id,.slice a' n q.cap],.int .u8 kd] W λe W'=>e=.returned (Ln q.a n (Yh f n kd))∧Gr W W'
def NU(b:Bool)(v:SV):SV:=match b with|true=>v|false=>.v (.pointer none)
def To(sel:Nat->Int->Bool)(H:aU)(nm:Nat):List SV->Option DR
 | [.agg [x,s],kd]=>match x.int?,kd.int? with
  | some (.i64,_),some (.u8,q)=>match s with
   | .g m e sz off n=>match look H m with
    | some (.lst e' Yb _ f t)=>match Nat.beq e e',Nat.beq sz 5,Nat.beq Yb 5,Nat.beq off 0,Nat.beq t 52 with
     | true,true,true,true,true=>some ⟨some ((∀i,i<n->∃c:aZ,f i=c.cells)∧(n:Int)<=cp∧sel nm q=decide (Yh f n q<n)),NU (sel nm q) (.gp m e 5 (Yh f n q) 0),none,false⟩
     | _,_,_,_,_=>none
    | _=>none
   | .kd m i sz off n=>match look H m with
    | some (.nst _ _ N _ _ Yf g tk _ _)=>match Nat.beq sz 5,Nat.beq Yf 5,Nat.beq off 0,Nat.beq tk 52 with
     | true,true,true,true=>some ⟨some (i<N∧(∀j,j<n->∃c:aZ,(g i).2 j=c.cells)∧(n:Int)<=cp∧sel nm q=decide (Yh (g i).2 n q<n)),NU (sel nm q) (.kq m i 5 (Yh (g i).2 n q) 0),none,false⟩
     | _,_,_,_=>none
    | _=>none
   | _=>none
  | _,_=>none
 | _=>none
theorem LC{W W':World}(hb:HB cx ρ W)(hg:Gr W W'):ZB cx ρ W nm none false ρ W':=
 ⟨.refl ρ,λ_ _ h=>.inl h,λ_ _ h=>.inl h,λ_ _ _ h=>.inl h,λ_ _=>rfl,hg.os,hg.tape,hg.output,hg.size,λx hx _=>hg.block x hx,hb.gr hg⟩
theorem Pw{F:FuncId}(hF:xn F){sel:Nat->Int->Bool}{W:World}{H:aU}{args:List SV}{vs:List Value}{r:DR}(X':YH cx H ρ W)(hd:au ρ args vs)(hr:To sel H nm args=some r)(ho:r.Ob) :
  bj Tryz.prog false F vs.toArray W λe W'=>∃val,e=.returned val∧eB cx ρ W nm r val W':=by
 unfold To at hr;split at hr
 ·rename_i x s kd;split at hr
  ·rename_i id q hid hq;obtain⟨v1,w1,rfl,⟨us,⟨y1,z1,rfl,dx,y2,z2,rfl,ds,rfl⟩,rfl⟩,v2,w2,rfl,dk,rfl⟩:=hd;obtain rfl:=SV.int?_den hid dx;obtain rfl:=SV.int?_den hq dk;split at hr
   ·rename_i m e sz off n;split at hr
    ·rename_i e' Yb N f t hl;split at hr
     ·rename_i h1 h2 h3 h4 h5;obtain rfl:=Nb h1;obtain rfl:=Nb h2;obtain rfl:=Nb h3;obtain rfl:=Nb h4;obtain rfl:=Nb h5;obtain rfl:=Oi hr;obtain⟨o1,o2,o3⟩:=(ho:_∧_∧_)
      obtain⟨l,d1,d2,d3,d4,a',rfl,d6⟩:=ds;obtain⟨l',c1,c2,c3,c4,c5⟩:=X'.blk m _ hl;obtain rfl:l=l':=Oi (d1.symm.trans c1);rw[Nat.sub_zero] at d6 ⊢;refine(hF (ρ:=ρ) (q:=l) (f:=f) X'.hb.grd (λb o k1 k2=>(X'.hb.low m b (.inr (.inl ⟨e,l,o,d1,d2,k1,k2⟩))).1) ⟨by omega,λhc=>by
       obtain⟨b,u,k1,k2,k3,k4,k5,k6⟩:=c5 hc;exact⟨b,u,k1,k2,k3,k4,k5,λi hi=>k6 i (by omega)⟩⟩ (by omega) o1 o2 (λhc=>by
       obtain⟨b,k1,k2⟩:=d6 hc;exact⟨b,k1,by rw[k2]⟩) _ _).mono ?_
      rintro e2 W' ⟨rfl,hg⟩;refine⟨_,rfl,ρ,LC X'.hb hg,λ_ _ h=>(by cases h),?_⟩;show den ρ (NU (sel nm q) (.gp m e 5 (Yh f n q) 0)) _;rw[o3];unfold Ln;by_cases X0:Yh f n q<n;rw[Xj X0,Xl X0];obtain⟨b,k1,k2⟩:=d6 (by omega);rw[k1];exact⟨l,b,d1,d2,by omega,d4,k1,rfl⟩;rw[Xi X0,Xk X0];exact rfl
     cases hr
    cases hr
   ·rename_i m i sz off n;split at hr
    ·rename_i e sz0 N f p Yf g tk t last hl;split at hr
     ·rename_i h1 h2 h3 h4;obtain rfl:=Nb h1;obtain rfl:=Nb h2;obtain rfl:=Nb h3;obtain rfl:=Nb h4;obtain rfl:=Oi hr;obtain⟨o0,o1,o2,o3⟩:=(ho:_∧_∧_∧_)
      obtain⟨l,d1,d3,d4,a',rfl,d6⟩:=ds;obtain⟨ll,K⟩:=X'.blk m _ hl;obtain⟨l',c1,c2,c3⟩:=K.kid i o0;obtain rfl:l=l':=Oi (d1.symm.trans c1);rw[Nat.sub_zero] at d6 ⊢;refine(hF (ρ:=ρ) (q:=l) (f:=(g i).2) X'.hb.grd (λb o k1 k2=>(X'.hb.low m b (.inr (.inr ⟨i,l,o,d1,k1,k2⟩))).1) c3 (by omega) o1 o2 (λhc=>by obtain⟨b,k1,k2⟩:=d6 hc;exact⟨b,k1,by rw[k2]⟩) _ _).mono ?_;rintro e2 W' ⟨rfl,hg⟩;refine⟨_,rfl,ρ,LC X'.hb hg,λ_ _ h=>(by cases h),?_⟩;show den ρ (NU (sel nm q) (.kq m i 5 (Yh (g i).2 n q) 0)) _;rw[o3];unfold Ln;by_cases X0:Yh (g i).2 n q<n;rw[Xj X0,Xl X0];obtain⟨b,k1,k2⟩:=d6 (by omega);rw[k1];exact⟨l,b,d1,by omega,d4,k1,rfl⟩;rw[Xi X0,Xk X0];exact rfl
     cases hr
    cases hr
   cases hr
  cases hr
 cases hr
def Lo(F:FuncId)(hF:xn F)(en:∀(args:Array Value) (w:World),(callFunc F args).run cx.P w=.ok (.enter F args) w)(ns:∀args:Array Value,NS cx.P (callFunc F args))(sel:Nat->Int->Bool):XR cx where
 f:=F
 en:=en
 ns:=ns
 run:=λ_=>none
 fresh:=false
 own:=none
 eff:=some (To sel)
 ok:=λze W args vs ob out hG hz hd hr ho=>by cases hr
 effOk:=λg hg ρ W H nm args vs r X' Zz hd hr ho=>by obtain rfl:=Oi hg;exact Pw hF X' hd hr ho
def Qc(sel:Nat->Int->Bool):XR cx:=Lo fiA.f (λh1 h2 h3 h4 h5 h6 h7 id kd=>rF fiA yJ (by kernel_rfl) (by kernel_rfl) (by kernel_rfl) AI h1 h2 h3 h4 h5 h6 h7 id kd) fiA.en (de fiA.hf fiA.hB) sel
def Qb(sel:Nat->Int->Bool):XR cx:=Lo fiB.f (λh1 h2 h3 h4 h5 h6 h7 id kd=>rF fiB yI (by kernel_rfl) (by kernel_rfl) (by kernel_rfl) AH h1 h2 h3 h4 h5 h6 h7 id kd) fiB.en (de fiB.hf fiB.hB) sel
end
section
open Go.RowKit
end
section
open Go.RowKit
end
section
open Go.RowKit
set_option maxHeartbeats 2000000
def vT(lo hi:Int)(g:Nat->Int):Nat->Nat->Bool
 | _,0=>true
 | k,r+1=>!(decide (g k<lo)||decide (hi<g k))&&vT lo hi g (k+1) r
def TY(lo hi:Int)(f:Fam):Cut:=⟨Nat,λk=>k<=f.n∧vT lo hi f.g 0 f.n=vT lo hi f.g k (f.n-k),
 λk=>⟨[sl 0 (.v (.int .i64 lo)),sl 1 (.v (.int .i64 hi)),sl 9 (.rs 1 f.n λi=>[.v (.int .i64 (f.g i))]),sl 10 (.v (.int .i64 f.n)),sl 11 (.v (.int .i64 k))],[],0,0,[],[]⟩,λk=>f.n-k⟩
theorem Np:∀a,aD ((λa=>[(a.2.2.n:Int)<=1000000]) a)->aJ (C:=cx) [] [] 0 ⟨[],[],[2],0⟩ Tryz.f190 (((eC (Yp .i64) (Yp .i64) (rdF .i64))).enc a) λv H _=>ae ((λa=>.v (.bool (vT a.1 a.2.1 a.2.2.g 0 a.2.2.n))) a) H v:=by
 intro⟨lo,hi,f⟩ hn;replace hn:(f.n:Int)<=1000000:=hn;refine F8 (TY lo hi f) ?_;refine Ai ?_ ?_
 ·refine⟨(0:Nat),[],[],trivial,⟨F9 _,rfl⟩,?_⟩;repeat' first|apply Ai|exact rfl|intro
 refine fun(k:Nat) (hk:k<=f.n∧vT lo hi f.g 0 f.n=vT lo hi f.g k (f.n-k))=>?_;obtain⟨h1,h2⟩:=hk;refine Ai (λhb=>?_) (λhb=>?_)
 ·have hb:(k:Int)<f.n:=Od hb;refine Ai ⟨by omega,by omega⟩ ?_;have e:vT lo hi f.g k (f.n-k)=(!(decide (f.g k<lo)||decide (hi<f.g k))&&vT lo hi f.g (k+1) (f.n-(k+1))):=(by rw[show f.n-k=(f.n-(k+1))+1 by omega];rfl);refine Ai (λhc=>?_) (λhc=>?_);have hc:(decide (f.g k<lo)||decide (hi<f.g k))=true:=hc;refine XA (a:=vT lo hi f.g 0 f.n) ?_ rfl;rw[h2,e,hc];rfl;have hc:(decide (f.g k<lo)||decide (hi<f.g k))=false:=hc;refine Ai (by constructor<;>omega) ?_;refine⟨k+1,[],[],(by show f.n-(k+1)<f.n-k;omega),⟨by omega,by rw[h2,e,hc];rfl⟩,?_⟩;repeat' first|apply Ai|exact rfl|intro
 have hb:¬(k:Int)<f.n:=Xg hb;refine XA (a:=vT lo hi f.g 0 f.n) ?_ rfl;rw[h2,show f.n-k=0 by omega];rfl
def TV:XR cx:=af 190 Tryz.call190 (eC (Yp .i64) (Yp .i64) (rdF .i64)) _ _ (λ_=>⟨[],[],[2],0⟩) [] (λ_=>rfl) follows Tryz.func190 (by kernel_rfl) Np
def okI(lo hi x:Int):Bool:=!(decide (x<lo)||decide (hi<x))&&true
def rN(lo hi x y:Int):Bool:=!(decide (x<lo)||decide (hi<x))&&okI lo hi y
def Body.vf(b:Body):Bool:=!okI 0 65536 b.iD||!rN (-1048576) 1048576 b.posX b.posY||!rN (-4096) 4096 b.velX b.velY||!rN 1 16384 b.w b.h
def Body.ok(b:Body):Bool:=match b.vf with
 | true=>false
 | false=>(!b.round||decide (b.w=b.h))&&(!b.fixed||(decide (b.velX=0)&&decide (b.velY=0)))
theorem oz{p:Nat->Prop}(h:p 0):∀i,i<1->p i:=λi hi=>by obtain rfl:i=0:=Nat.lt_one_iff.1 hi;exact h
theorem xu{p:Nat->Prop}(h:p 0)(k:p 1):∀i,i<2->p i:=λi hi=>by
 match i,hi with
 | 0,_=>exact h
 | 1,_=>exact k
theorem Dv:∀a,aD ((λ_=>[]) a)->aJ (C:=cx) [TV] [] 0 ⟨[1001],[],[],0⟩ Tryz.f152 (((bh p8)).enc a) λv H _=>ae ((λb=>.v (.bool b.ok)) a) H v:=by
 intro b _;have one:((1:Nat):Int)<=1000000:=by decide
 have two:((2:Nat):Int)<=1000000:=by decide
 refine Ai ⟨oz trivial,one⟩ ?_;refine Ai (λh1=>?_) (λh1=>?_)
 rotate_left
 have h1:(!okI 0 65536 b.iD)=true:=h1;refine XA (a:=b.ok) ?_ rfl;unfold Body.ok Body.vf;rw[h1];rfl;have h1:(!okI 0 65536 b.iD)=false:=h1;refine Ai ⟨xu trivial trivial,two⟩ ?_;refine Ai (λh2=>?_) (λh2=>?_)
 rotate_left
 have h2:(!rN (-1048576) 1048576 b.posX b.posY)=true:=h2;refine XA (a:=b.ok) ?_ rfl;unfold Body.ok Body.vf;rw[h1,h2];rfl;have h2:(!rN (-1048576) 1048576 b.posX b.posY)=false:=h2;refine Ai ⟨xu trivial trivial,two⟩ ?_;refine Ai (λh3=>?_) (λh3=>?_)
 rotate_left
 have h3:(!rN (-4096) 4096 b.velX b.velY)=true:=h3;refine XA (a:=b.ok) ?_ rfl;unfold Body.ok Body.vf;rw[h1,h2,h3];rfl;have h3:(!rN (-4096) 4096 b.velX b.velY)=false:=h3;refine Ai ⟨xu trivial trivial,two⟩ ?_;refine Ai (λh4=>?_) (λh4=>?_);have h4:(!rN 1 16384 b.w b.h)=true:=h4;refine XA (a:=b.ok) ?_ rfl;unfold Body.ok Body.vf;rw[h1,h2,h3,h4];rfl;have h4:(!rN 1 16384 b.w b.h)=false:=h4;refine XA (a:=b.ok) (b:=(!b.round||decide (b.w=b.h))&&(!b.fixed||(decide (b.velX=0)&&decide (b.velY=0)))) ?_ rfl;unfold Body.ok Body.vf;rw[h1,h2,h3,h4];rfl
def Bl:XR cx:=af 152 Tryz.call152 (bh p8) _ _ (λ_=>⟨[1001],[],[],0⟩) [1001] (λ_=>rfl) follows Tryz.func152 (by kernel_rfl) Dv
set_option maxHeartbeats 2000000
def mV(a:Int):Int:=max (min a 4096) (-4096)
def gOk(p:Vec):Prop:=(-4096<=p.x∧p.x<=4096)∧-4096<=p.y∧p.y<=4096
theorem Ij:∀a,aD ((λa=>[gOk a]) a)->aJ (C:=cx) [] [] 0 ⟨[1001],[],[],0⟩ Tryz.f151 ((bh fb).enc a) λv H _=>ae ((λ_=>.bl true) a) H v:=by intro⟨x,y⟩ h;obtain⟨⟨h1,h2⟩,h3,h4⟩:gOk ⟨x,y⟩:=h;replace h1 : -4096<=x:=h1;replace h2:x<=4096:=h2;replace h3 : -4096<=y:=h3;replace h4:y<=4096:=h4;refine Ai (show Yd (-x) by unfold Yd;omega) ?_;refine Ai (show Yd (-y) by unfold Yd;omega) ?_;refine Ai (λhb=>?_) (λhb=>?_);exact(Xj (show -4096<=min x y by omega)).symm;have hb:decide (max (max (max x (-x)) y) (-y)<=4096)=false:=hb;exact P' (Xg hb) (by omega)
def FJ:XR cx:=af 151 Tryz.call151 (bh fb) _ _ (λ_=>⟨[1001],[],[],0⟩) [1001] (λ_=>rfl) follows Tryz.func151 (by kernel_rfl) Ij
theorem D5:∀a,aD ((λ_=>[]) a)->aJ (C:=cx) [] [] 0 ak Tryz.f156 ((bh (Yp .i64)).enc a) λv H _=>ae ((λa=>.v (.int .i64 (mV a))) a) H v:=by intro a _;exact rfl
def Mn:XR cx:=af 156 Tryz.call156 (bh (Yp .i64)) _ _ (λ_=>ak) [] (λ_=>rfl) follows Tryz.func156 (by kernel_rfl) D5
def Vs:Y0 cx:=⟨15,Tryz.call15,Tryz.f15,Tryz.func15,[],[],[],0,by kernel_rfl⟩
def Vq:Y0 cx:=⟨34,Tryz.call34,Tryz.f34,Tryz.func34,[],[],[],1,by kernel_rfl⟩
theorem Iy:∀a,aD ((λa=>[gOk ⟨a.gravityX,a.gravityY⟩,a.ropes.n=0,a.bodies.n<=1]) a)->aJ (C:=cx) [FJ,Bl] [Vs,Vq] 2 ⟨[1001,1006],[],[],2⟩ Tryz.f103 ((bh q9).enc a) λv H _=>ae ((λa=>.v (.bool (decide (a.bodies.n=0)||(a.bodies.e 0).ok))) a) H v:=by
 intro⟨⟨n,e⟩,⟨m,r⟩,x,y⟩ ⟨hg,hm,hn⟩;obtain rfl:m=0:=hm;replace hn:n<=1:=hn;rcases Nat.lt_or_ge 0 n with hp|hp
 ·obtain rfl:n=1:=(by omega);refine Ai (λhb=>?_) (λhb=>P' (show decide ((64:Int)<1)=true from hb) (by decide));refine Ai (λhb=>?_) (λhb=>P' (show decide ((32:Int)<0)=true from hb) (by decide));refine Ai hg ?_;refine Ai (λhb=>?_) (λhb=>P' (show decide ((0:Int)<1)=false from hb) (by decide));refine Ai ⟨(by decide:(0:Int)<=0),(by decide:(0:Int)<1)⟩ ?_;refine Ai (λh=>P' (show decide ((0:Int)<0)=true from h) (by decide)) ?_;refine Ai (λhb=>?_) (λhb=>?_)
  ·have hb:(!(e 0).ok||false)=true:=hb;have X':(e 0).ok=false:=by cases h:(e 0).ok with|false=>rfl|true=>rw[h] at hb;cases hb
   exact(show (decide ((1:Nat)=0)||(e 0).ok)=false by rw[X'];rfl)
  have hb:(!(e 0).ok||false)=false:=hb;have X':(e 0).ok=true:=by cases h:(e 0).ok with|true=>rfl|false=>rw[h] at hb;cases hb
  have fin:(decide ((1:Nat)=0)||(e 0).ok)=true:=(by rw[X'];rfl);repeat' (first|refine Ai ?_ ?_|exact fin|(intro hh;exact P' (show decide ((1:Int)<1)=true from hh) (by decide))|(intro hh;exact P' (show decide ((0:Int)<0)=true from hh) (by decide))|(intro _)|exact rfl)
 obtain rfl:n=0:=by omega
 refine Ai (λhb=>?_) (λhb=>P' (show decide ((64:Int)<0)=true from hb) (by decide));refine Ai (λhb=>?_) (λhb=>P' (show decide ((32:Int)<0)=true from hb) (by decide));refine Ai hg ?_;repeat' (first|refine Ai ?_ ?_|(intro hh;exact P' (show decide ((0:Int)<0)=true from hh) (by decide))|(intro _)|exact rfl)
def P5:XR cx:=af 103 Tryz.call103 (bh q9) _ _ (λ_=>⟨[1001,1006],[],[],2⟩) [1001,1006] (λ_=>rfl) follows Tryz.func103 (by kernel_rfl) Iy
def iH(b:Body)(g:Vec):Vec:=match b.fixed with|true=>⟨0,0⟩|false=>⟨mV (b.velX+g.x),mV (b.velY+g.y)⟩
theorem Dz:∀a,aD ((λa=>[gOk a.2,a.1.ok=true,(-1000000<=a.1.velX∧a.1.velX<=1000000)∧-1000000<=a.1.velY∧a.1.velY<=1000000]) a)->aJ (C:=cx) [FJ,Bl,Mn] [] 0 ⟨[1001],[],[],0⟩ Tryz.f105 ((aH p8 fb).enc a) λv H _=>ae ((λa=>(iH a.1 a.2).sv) a) H v:=by
 intro⟨⟨i,px,py,vx,vy,w,h,rd,fx⟩,⟨x,y⟩⟩ ⟨hg,X',hv⟩;have hg':gOk ⟨x,y⟩:=hg;obtain⟨⟨h1,h2⟩,h3,h4⟩:=hg';replace h1 : -4096<=x:=h1;replace h2:x<=4096:=h2;replace h3 : -4096<=y:=h3;replace h4:y<=4096:=h4;obtain⟨⟨v1,v2⟩,v3,v4⟩:(-1000000<=vx∧vx<=1000000)∧-1000000<=vy∧vy<=1000000:=hv;replace X':(Body.mk i px py vx vy w h rd fx).ok=true:=X';have n1:(!(Body.mk i px py vx vy w h rd fx).ok)=false:=by rw[X'];rfl
 cases fx;refine Ai (λhb=>?_) (λhb=>by cases hb);refine Ai (λhb=>?_) (λhb=>P' (n1.symm.trans hb) (by decide));refine Ai hg ?_;refine Ai (show Yd (vx+x) by unfold Yd;omega) ?_;refine Ai (show Yd (vy+y) by unfold Yd;omega) ?_;exact⟨rfl,rfl⟩;refine Ai (λhb=>by cases hb) (λhb=>?_);exact⟨rfl,rfl⟩
def L2:XR cx:=af 105 Tryz.call105 (aH p8 fb) _ _ (λ_=>⟨[1001],[],[],0⟩) [1001] (λ_=>rfl) follows Tryz.func105 (by kernel_rfl) Dz
def shB(m:Z')(n:Int):Body:=match decide (m.axis=0) with
 | true=>⟨m.bID,m.bPosX+m.sign*n,m.bPosY,m.bVelX,m.bVelY,m.bW,m.bH,m.bRound,m.bFixed⟩
 | false=>⟨m.bID,m.bPosX,m.bPosY+m.sign*n,m.bVelX,m.bVelY,m.bW,m.bH,m.bRound,m.bFixed⟩
def Pe:Y0 cx:=⟨163,Tryz.call163,Tryz.f163,Tryz.func163,[],[],[],0,by kernel_rfl⟩
theorem QT:∀a,aD ((λa=>[a.1.axis=0∨a.1.axis=1,Yd (a.1.sign*a.2)∧Yd (a.1.bPosX+a.1.sign*a.2)∧Yd (a.1.bPosY+a.1.sign*a.2)]) a)->aJ (C:=cx) [fK] [Pe] 1 ak Tryz.f108 ((aH JG (Yp .i64)).enc a) λv H _=>ae ((λa=>(shB a.1 a.2).sv) a) H v:=by
 intro⟨⟨b,r,gx,gy,i,px,py,vx,vy,w,h,rd,fx,ax,s⟩,n⟩ ⟨hx,h1,h2,h3⟩;replace hx:ax=0∨ax=1:=hx;rcases hx with rfl|rfl
 ·refine Ai h1 ?_;refine Ai h2 ?_;repeat' first|apply Ai|exact rfl|intro
 refine Ai h1 ?_;refine Ai h3 ?_;repeat' first|apply Ai|exact rfl|intro
def VK:XR cx:=af 108 Tryz.call108 (aH JG (Yp .i64)) _ _ (λ_=>ak) [] (λ_=>rfl) follows Tryz.func108 (by kernel_rfl) QT
theorem Nl:∀a,aD ((λa=>[a.n<=1000]) a)->aJ (C:=cx) [] [] 0 ak Tryz.f104 ((bh Ey).enc a) λv H _=>sh ((λa=>a.sv) a) 199 H v:=by
 intro l hm;replace hm:l.n<=1000:=hm;intro b hb;refine Ai (λh=>?_) (λh=>?_);have h:(b != false)=true:=h;have hn:=hb (by simpa using h);exact⟨hn,hn⟩;have hf:gQ l.n 64:=⟨Nat.le_trans hm (by decide),by omega⟩
 refine Ai hf ?_;repeat' first|apply Ai|exact rfl|intro
 all_goals (show _=_;first|(rw[B'];done)|(rw[B'];rfl))
def TS:XR cx:=za 104 Tryz.call104 (bh Ey) (λa=>[a.n<=1000]) (λa=>a.sv) 199 (λ_=>ak) [] (λ_=>rfl) follows Tryz.func104 (by kernel_rfl) Nl
theorem Nk:∀a,aD ((λa=>[a.n<=1000]) a)->aJ (C:=cx) [] [] 0 ak Tryz.f58 ((bh nP).enc a) λv H _=>fH ((λa=>a.sv) a) H v:=by
 intro l hm;replace hm:l.n<=1000:=hm;intro b hb;refine Ai (λh=>?_) (λh=>?_);have h:(b != false)=true:=h;have hn:=hb (by simpa using h);exact hn;have hf:gQ l.n 24:=⟨Nat.le_trans hm (by decide),by omega⟩
 refine Ai hf ?_;repeat' first|apply Ai|exact rfl|intro
 all_goals (show _=_;first|(rw[B'];done)|(rw[B'];rfl))
def Dk:XR cx:=jo 58 Tryz.call58 (bh nP) _ _ (λ_=>ak) [] (λ_=>rfl) follows Tryz.func58 (by kernel_rfl) Nk
def Aa(b:Body)(ax:Nat)(n:Int):Z':=⟨⟨0,λ_=>b⟩,⟨0,λ_=>⟨0,0,0⟩⟩,0,0,b.iD,b.posX,b.posY,b.velX,b.velY,b.w,b.h,b.round,b.fixed,ax,if n<0 then -1 else 1⟩
def QJ(n:Int):Int:=max n (-n)
def uI(b:Body)(ax:Nat)(n:Int):Int:=Jw (Aa b ax n) ax (QJ n)
def axB(b:Body)(ax:Nat)(n:Int):Body:=shB (Aa b ax n) (uI b ax n)
def nM(b:Body)(g:Vec):Body:=axB b 0 (iH b g).x
def zj(b:Body)(g:Vec):Body:=axB (nM b g) 1 (iH b g).y
def vO(b:Body)(g:Vec):Bool:=decide (uI b 0 (iH b g).x<QJ (iH b g).x)
def vN(b:Body)(g:Vec):Bool:=decide (uI (nM b g) 1 (iH b g).y<QJ (iH b g).y)
def lV(b:Body)(g:Vec):Body:=match b.fixed with
 | true=>b
 | false=>{zj b g with velX:=bif vO b g then 0 else(iH b g).x,velY:=bif vN b g then 0 else(iH b g).y}
def jq(b:Body)(g:Vec):List Stop:=match b.fixed with
 | true=>[]
 | false=>(match vO b g with|true=>[⟨b.iD,1,-1⟩]|false=>[])++(match vN b g with|true=>[⟨b.iD,2,-1⟩]|false=>[])
def gA(L:List Stop)(i:Nat):Stop:=L.getD i ⟨0,0,0⟩
def og(L:List Stop):kT:=⟨L.length,gA L⟩
def zp(s:ZU):ZU:=⟨⟨s.bodies.n,λi=>lV (s.bodies.e i) ⟨s.gravityX,s.gravityY⟩⟩,s.ropes,s.gravityX,s.gravityY⟩
def oc(s:ZU):List Stop:=match s.bodies.n with|0=>[]|_=>jq (s.bodies.e 0) ⟨s.gravityX,s.gravityY⟩
end
end
end Go.Proofs.YtmdpdknpapjchaaGreatDoor
