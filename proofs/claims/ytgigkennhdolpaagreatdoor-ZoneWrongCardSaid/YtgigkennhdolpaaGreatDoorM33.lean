/- zone.comp, step.first in lists of one's own. -/
import Derived.Test.YtgigkennhdolpaaGreatDoorM32
import Derived.Test.YtgigkennhdolpaaGreatDoorM19
namespace Go.Proofs.YtgigkennhdolpaaGreatDoor
open Go.Conc Go.RowKit
set_option maxRecDepth 8000
set_option maxHeartbeats 2000000
def fS(f:Nat->List SV)(i:Nat):Int:=(VL (f i)).iv
def Vh(f:Nat->List SV)(n:Nat)(q:Int):Nat:=VI (λi=>decide (fS f i=q)) 0 n
def H3(b:Bool)(i:Nat):SV:=match b with|true=>.gp 0 0 5 i 0|false=>.v (.pointer none)
theorem IK{g:Nat->Bool}{r k:Nat} : VI g k r<=k+r:=Bl.2
def xW(n:Nat)(f:Nat->List SV)(u:List Value):Nat->List SV:=λi=>bif Nat.blt i n then f i else((u.drop (i*5)).take 5).map SV.v
theorem qM{n:Nat}{f:Nat->List SV}{u:List Value}{i:Nat}(h:i<n):xW n f u i=f i:=by unfold xW;rw[show Nat.blt i n=true from Nat.ble_eq_true_of_le h];rfl
theorem CC{n:Nat}{f:Nat->List SV}{u:List Value}{i:Nat}(h:n<=i):xW n f u i=((u.drop (i*5)).take 5).map SV.v:=by unfold xW;rw[show Nat.blt i n=false by cases e:Nat.blt i n;rfl;exact Up (L' e) (by omega)];rfl
theorem uQ{g g':Nat->Bool} : ∀{r k:Nat},(∀i,k<=i->i<k+r->g i=g' i)->VI g k r=VI g' k r
 | 0,k,_=>rfl
 | r+1,k,h=>by simp only[VI];rw[h k (I' _) (by omega),uQ (r:=r) (k:=k+1) λi h1 h2=>h i (by omega) (by omega)]
theorem Mc{n:Nat}{f:Nat->List SV}{u:List Value}{q:Int} : Vh (xW n f u) n q=Vh f n q:=uQ λi _ h=>by show decide (fS (xW n f u) i=q)=decide (fS f i=q);unfold fS;rw[qM (by omega)]
theorem J2{ρ UL:Names}{c:bd}{us ZV:List Value}(h:aj ρ c.cells us)(h':aj UL c.cells ZV):us=ZV:=by obtain⟨_,_,rfl,rfl,_,_,rfl,rfl,_,_,rfl,rfl,_,_,rfl,rfl,_,_,rfl,rfl,rfl⟩:=h;obtain⟨_,_,rfl,rfl,_,_,rfl,rfl,_,_,rfl,rfl,_,_,rfl,rfl,_,_,rfl,rfl,rfl⟩:=h';rfl
theorem Lm{u u':List Value}{n:Nat}(h1:u.length=n*5)(h2:u'.length=n*5)(h:∀i,i<n->∀k,k<5->u'[i*5+k]? = u[i*5+k]?):u'=u:=by
 refine List.ext_getElem? λj=>?_;by_cases hj:j<n*5
 ·have:=h (j/5) (by omega) (j%5) (by omega)
  rwa [show j/5*5+j%5=j by omega] at this
 rw[List.getElem?_eq_none (by omega),List.getElem?_eq_none (by omega)]
def Jb(a:Option Addr)(n ix:Nat):Value:=if ix<n then match a with|some ⟨b,_,_⟩=>.pointer (some ⟨b,ix*5+0,none⟩)|none=>.pointer none else .pointer none
noncomputable def fiA:V3 cx:=⟨132,Tryz.call132,Tryz.f132,Tryz.func132,[],[],[],0,by kernel_rfl⟩
set_option maxRecDepth 100000 in
theorem yY(n cap:Nat)(id q:Int)(f:Nat->List SV)(hf:∀i,i<n->∃c:bd,f i=c.cells)(hn:(n:Int)<=bY):ev (C:=cx) [w6] fiA.fn.ntmps 1 (jN (C:=cx) [w6] [] 0) (cw (C:=cx) []) av (eG fiA.fn) ⟨bL 0 [.agg [.v (.int .i64 id),.g 0 0 5 0 n],.v (.int .u8 q)],[(0,.lst 0 5 cap f 46)],1,0,[],[]⟩ (tc cx fiA.fn.results.toList λv H' _=>v=H3 (decide (Vh f n q<n)) (Vh f n q)∧cn [(0,.lst 0 5 cap f 46)] H'):=by
 have hz:(λi=>decide (fS (λi=>f (0+i)) i=q))=λi=>decide (fS f i=q):=funext λi=>by show decide ((VL (f (0+i))).iv=q)=_;rw[B'];rfl
 have hle:Vh f n q<=n:=by have:=IK (g:=λi=>decide (fS f i=q)) (k:=0) (r:=n);unfold Vh;omega
 refine Ai ⟨λi hi=>?_,hn,⟨q,rfl⟩⟩ ?_;obtain⟨c,hc⟩:=hf (0+i) (by omega);show aI (fg HY (f (0+i)));rw[hc];trivial;have ei:∀x:Int,x=VM (λi=>decide (fS (λi=>f (0+i)) i=q)) n->x=VM (λi=>decide (fS f i=q)) n:=λx h=>by rw[h,hz]
 by_cases h:Vh f n q<n;have e1:VM (λi=>decide (fS f i=q)) n=(Vh f n q:Nat):=im rfl h;refine Ai (λhc=>?_) (λhc=>?_);have hc:decide (VM (λi=>decide (fS (λi=>f (0+i)) i=q)) n<0)=true:=hc;rw[hz,e1] at hc;have:=Od hc;omega;have e2:VM (λi=>decide (fS (λi=>f (0+i)) i=q)) n=(Vh f n q:Nat):=(by rw[hz];exact e1);refine Ai (show 0<=VM (λi=>decide (fS (λi=>f (0+i)) i=q)) n∧VM (λi=>decide (fS (λi=>f (0+i)) i=q)) n<(n:Nat) by rw[e2];omega) ?_;refine⟨?_,?_⟩;show SV.gp 0 0 5 (0+(VM (λi=>decide (fS (λi=>f (0+i)) i=q)) n).toNat) 0=H3 _ _;rw[e2,Uu h,B'];rfl;exact cn.cons (cn.cons (cn.refl _) rfl) rfl;have e1:VM (λi=>decide (fS f i=q)) n = -1:=ga (show Vh f n q=n by omega);refine Ai (λhc=>?_) (λhc=>?_);refine⟨?_,?_⟩;rw[Ut h];rfl;exact cn.cons (cn.cons (cn.refl _) rfl) rfl;have hc:decide (VM (λi=>decide (fS (λi=>f (0+i)) i=q)) n<0)=false:=hc;rw[hz,e1] at hc;exact Up hc (by decide)
set_option maxRecDepth 100000 in
def Q2(fi:V3 cx)(c:UO cx):Prop:=∀(n cap:Nat) (id q:Int) (f:Nat->List SV),(∀i,i<n->∃c:bd,f i=c.cells)->(n:Int)<=bY->ev (C:=cx) [c] fi.fn.ntmps 1 (jN (C:=cx) [c] [] 0) (cw (C:=cx) []) av (eG fi.fn) ⟨bL 0 [.agg [.v (.int .i64 id),.g 0 0 5 0 n],.v (.int .u8 q)],[(0,.lst 0 5 cap f 46)],1,0,[],[]⟩ (tc cx fi.fn.results.toList λv H' _=>v=H3 (decide (Vh f n q<n)) (Vh f n q)∧cn [(0,.lst 0 5 cap f 46)] H')
theorem qn(fi:V3 cx)(c:UO cx)(p1:fi.fn.body=some (eG fi.fn))(p2:Nat.ble 2 fi.fn.ntmps=true)(p3:du [] (eG fi.fn)=true)(hw:Q2 fi c){ρ:Names}{W:World}{q:LV}{n:Nat}{f:Nat->List SV}{a':Option Addr}(hG:cx.WT W)(WO:∀b o,q.cap≠0->q.a=some ⟨b,o,none⟩->cx.gm<=b)(hl:eX ρ W q 5 f 46)(hn:n<=q.N)(hf:∀i,i<n->∃c:bd,f i=c.cells)(Vp:(n:Int)<=bY)(ha:q.cap≠0->∃b,q.a=some ⟨b,0,none⟩∧a'=some ⟨b,0,none⟩)(id kd:Int) :
  br Tryz.prog false fi.f #[.agg #[.int .i64 id,.slice a' n q.cap],.int .u8 kd] W λe W'=>e=.returned (Jb q.a n (Vh f n kd))∧Gr W W':=by
 obtain⟨u,hu⟩:∃u:List Value,q.cap≠0->∃b,q.a=some ⟨b,0,none⟩∧WV W b u.toArray 46∧u.length=q.cap*5∧(∀c∈u,c.oneCell'=true)∧∀i,i<q.N->∃us,aj ρ.zo (f i) us∧us.length=5∧∀k c,us[k]? = some c->u[i*5+k]? = some c:=by by_cases hc:q.cap=0;exact⟨[],λh=>Up hc h⟩;obtain⟨b,u,h1,h2,h3,h4,-,h6⟩:=hl.2 hc;exact⟨u,λ_=>⟨b,h1,h2,h3,h4,h6⟩⟩
 have hNc:=hl.1;let q0:LV:=⟨0,q.a,q.cap,q.cap⟩
 let VU:Names:=⟨λ_=>none,λe=>if e=0 then some q0 else none,λ_ _=>none,λ_ _ _=>False,[],λ_=>False⟩
 have v0:∀e l,VU.v e=some l->e=0∧l=q0:=λe l h=>by by_cases he:e=0;simp only[VU,Uw he] at h;exact⟨he,(Oi h).symm⟩;simp only[VU,Uv he] at h;cases h
 have ow:∀m b,bT VU m b->m=0∧q.cap≠0∧∃o,q.a=some ⟨b,o,none⟩:=λm b h=>by
  rcases h with h|⟨e,l,o,h1,h2,h3,h4⟩|⟨i,l,o,h,-⟩
  cases h;obtain⟨-,rfl⟩:=v0 e l h1;exact⟨h2.symm,h3,o,h4⟩;cases h
 have Vg:VQ cx [(0,.lst 0 5 q.cap (xW n f u) 46)] VU W:=by
  refine⟨⟨λm m' b h h'=>by rw[(ow m b h).1,(ow m' b h').1],λm b h=>?_,λb i c h=>h.elim,hG⟩,λm sb hm=>?_⟩;obtain⟨-,hc,o,ho⟩:=ow m b h;obtain⟨b',h1,h2,-⟩:=hu hc;rw[h1] at ho;injection ho with ho;injection ho with ho;subst ho;exact⟨WO b' 0 hc h1,(E'.1 (show W.heap[b']? = _ from h2)).1⟩;by_cases e:0=m
  ·subst e;obtain rfl:=Oi (show some _=some sb from hm);refine⟨q0,by simp[VU],rfl,rfl,I' _,λhc=>?_⟩;obtain⟨b,h1,h2,h3,h4,h5⟩:=hu hc;refine⟨b,u,h1,h2,h3,h4,λ_ _ h=>h,λi hi=>?_⟩;by_cases Xr:i<n;rw[qM Xr];obtain⟨c,Z6⟩:=hf i Xr;obtain⟨us,k1,k2,k3⟩:=h5 i (by omega);rw[Z6] at k1 ⊢;refine⟨us,?_,k2,k3⟩;obtain⟨_,_,rfl,rfl,_,_,rfl,rfl,_,_,rfl,rfl,_,_,rfl,rfl,_,_,rfl,rfl,rfl⟩:=k1;exact⟨_,_,rfl,rfl,_,_,rfl,rfl,_,_,rfl,rfl,_,_,rfl,rfl,_,_,rfl,rfl,rfl⟩;rw[CC (by omega)];have VT:i<q.cap:=hi;refine⟨_,pI _,by simp;omega,λk c hk=>?_⟩;rw[List.getElem?_take] at hk;split at hk
   ·rwa [List.getElem?_drop] at hk
   cases hk
  rw[ab _ _ e] at hm;cases hm
 have U7:aj VU [.agg [.v (.int .i64 id),.g 0 0 5 0 n],.v (.int .u8 kd)] [.agg #[.int .i64 id,.slice a' n q.cap],.int .u8 kd]:=
  ⟨_,_,rfl,⟨_,⟨_,_,rfl,rfl,_,_,rfl,⟨q0,by simp[VU],rfl,by show 0+n<=q.cap;omega,I' _,a',rfl,λhc=>by obtain⟨b,h1,h2⟩:=ha (by simpa[q0] using hc);exact⟨b,h1,by rw[h2]⟩⟩,rfl⟩,rfl⟩,_,_,rfl,rfl,rfl⟩
 refine(gQ (C:=cx) (Γ:=[c]) (args:=[.agg [.v (.int .i64 id),.g 0 0 5 0 n],.v (.int .u8 kd)]) (w0:=W) (UM:=VU) av (c6 follows 0) follows fi.hf (code:=eG fi.fn) p1 p2 p3 Vg (λ_ _ h=>by cases h) (λe l h=>by obtain⟨rfl,rfl⟩:=v0 e l h;exact⟨Nat.zero_lt_one,Nat.zero_lt_one⟩) (λ_ _ _ h=>by cases h) U7 _
  (hw n q.cap id kd (xW n f u) (λi hi=>by rw[qM hi];exact hf i hi) Vp)).mono ?_
 rintro e W' ⟨v,val,H',Vv,UL,rfl,⟨rfl,hle⟩,hm,hc,hd⟩;rw[Mc] at hd;have YL:UL.v 0=some q0:=hm.le.v 0 q0 (by simp[VU,Names.VE]);have hgr:Gr W W':=by
  refine⟨hm.keep.os,hm.keep.tape,hm.keep.output,hm.keep.size,λx hx=>?_⟩;by_cases Wz:q.cap≠0∧∃o,q.a=some ⟨x,o,none⟩;obtain⟨VG,o,ho⟩:=Wz;obtain⟨b,h1,h2,h3,h4,h5⟩:=hu VG;obtain⟨l,k1,-,-,-,k5⟩:=hc 0 _ (hle 0 _ rfl);obtain rfl:q0=l:=Oi (YL.symm.trans k1);obtain⟨b',u',j1,j2,j3,-,-,j6⟩:=k5 VG;have e1:b=b':=(by have:=h1.symm.trans j1;injection this with this;injection this);have e2:x=b:=(by have:=ho.symm.trans h1;injection this with this;injection this);subst e1 e2;have hue:u'=u:=Lm h3 j3 λi hi k hk=>(by obtain⟨ZV,p1,p2,p3⟩:=j6 i hi;have WJ:ZV[k]? = some ZV[k]:=UE (by omega);have r1:=p3 k _ WJ;rw[r1];by_cases Xr:i<n;rw[qM Xr] at p1;obtain⟨c,Z6⟩:=hf i Xr;obtain⟨us,s1,s2,s3⟩:=h5 i (by omega);rw[Z6] at p1 s1;obtain rfl:=J2 s1 p1;exact(s3 k _ WJ).symm;rw[CC (by omega)] at p1;obtain rfl:=tl p1;rw[<-WJ,List.getElem?_take,Uw hk,List.getElem?_drop]);subst hue;exact(show W'.heap[x]? = _ from j2).trans (show W.heap[x]? = _ from h2).symm;refine hm.keep.block x hx λhmn=>Wz ?_;rcases hmn with ⟨m,ho⟩|ho
  exact(ow m x ho).2;exact ho.elim
 refine⟨?_,hgr⟩;unfold Jb;by_cases h:Vh f n kd<n;rw[Uu h] at hd;obtain⟨l,b,d1,d2,d3,d4,d5,rfl⟩:=hd;obtain rfl:q0=l:=Oi (YL.symm.trans d1);have d5:q.a=some ⟨b,0,none⟩:=d5;rw[Uw h,d5];rw[Ut h] at hd;obtain rfl:val=_:=hd;rw[Uv h]
theorem Gz:∀a,aH ((λa=>[∃q,a.2=.rp [.v (.int .u8 q)] 0]) a)->aM (C:=cx) [] [] 0 av Tryz.f94 ((aL gV V4).enc a) λv H _=>ae ((λa=>.v (.bool (decide (a.1.kind=rkI a.2)))) a) H v:=by intro⟨c,x⟩ hx;obtain⟨q,hx⟩:∃q,x=.rp [.v (.int .u8 q)] 0:=hx;subst hx;exact rfl
noncomputable def Nh:UO cx:=ai 94 Tryz.call94 (aL gV V4) _ _ (λ_=>av) [] (λ_=>rfl) follows Tryz.func94 (by kernel_rfl) Gz
def Mb(l:WL)(q:Int):Cut:=⟨Nat,λk=>k<=l.n∧VI (λi=>decide ((l.c i).kind=q)) 0 l.n=VI (λi=>decide ((l.c i).kind=q)) k (l.n-k),
 λk=>⟨[sl 0 l.sv,sl 1 (.f (.func 94) [] [.rp [.v (.int .u8 q)] 0]),sl 7 (i64 l.n),sl 8 (i64 k)],[],0,0,[],[]⟩,λk=>l.n-k⟩
theorem Gi:∀a,aH ((λa=>[(a.1.n:Int)<=bY,∃q,a.2=(.f (.func 94) [] [.rp [.v (.int .u8 q)] 0])]) a)->aM (C:=cx) [Nh] [] 0 ⟨[],[],[2],0⟩ Tryz.f93 ((aL jc V4).enc a) λv H _=>ae ((λa=>.v (.int .i64 (VM (λi=>decide ((a.1.c i).kind=kxI a.2)) a.1.n))) a) H v:=by
 intro⟨l,x⟩ ⟨hm,hx⟩;obtain⟨q,hx⟩:∃q,x=(.f (.func 94) [] [.rp [.v (.int .u8 q)] 0]):=hx;subst hx;replace hm:(l.n:Int)<=9223372036854775807:=hm;refine Uh (Mb l q) ?_;refine Ai ?_ ?_
 ·refine⟨(0:Nat),[],[],trivial,⟨Ui _,rfl⟩,?_⟩;repeat' (first|refine Ai ?_ ?_|intro _|exact rfl)
 refine fun(k:Nat) (hk:k<=l.n∧VI (λi=>decide ((l.c i).kind=q)) 0 l.n=VI (λi=>decide ((l.c i).kind=q)) k (l.n-k))=>?_;obtain⟨k1,k2⟩:=hk;refine Ai (λhb=>?_) (λhb=>?_)
 ·have hb:(k:Int)<l.n:=Od hb;have e:=iR (g:=(λi=>decide ((l.c i).kind=q))) (k:=k) (n:=l.n) (by omega);refine Ai ⟨by omega,by omega⟩ ?_;refine Ai ⟨q,rfl⟩ ?_;refine Ai (λhc=>?_) (λhc=>?_);have hc:(decide ((l.c k).kind=q))=true:=hc;simp only[hc] at e;exact im (g:=(λi=>decide ((l.c i).kind=q))) (n:=l.n) (k2.trans e) (by omega);have hc:(decide ((l.c k).kind=q))=false:=hc;simp only[hc] at e;refine Ai (by unfold UP;omega:UP ((k:Int)+1)) ?_;refine⟨k+1,[],[],(by show l.n-(k+1)<l.n-k;omega),⟨by omega,by rw[k2,e]⟩,?_⟩;repeat' (first|refine Ai ?_ ?_|intro _|exact rfl)
 have hb:¬(k:Int)<l.n:=Ur hb;refine ga (g:=(λi=>decide ((l.c i).kind=q))) (n:=l.n) ?_;rw[k2,show l.n-k=0 by omega];show k=l.n;omega
noncomputable def w5:UO cx:=ai 93 Tryz.call93 (aL jc V4) _ _ (λ_=>⟨[],[],[2],0⟩) [] (λ_=>rfl) follows Tryz.func93 (by kernel_rfl) Gi
noncomputable def fiB:V3 cx:=⟨57,Tryz.call57,Tryz.f57,Tryz.func57,[],[],[],0,by kernel_rfl⟩
set_option maxRecDepth 100000 in
theorem yX(n cap:Nat)(id q:Int)(f:Nat->List SV)(hf:∀i,i<n->∃c:bd,f i=c.cells)(hn:(n:Int)<=bY):ev (C:=cx) [w5] fiB.fn.ntmps 1 (jN (C:=cx) [w5] [] 0) (cw (C:=cx) []) av (eG fiB.fn) ⟨bL 0 [.agg [.v (.int .i64 id),.g 0 0 5 0 n],.v (.int .u8 q)],[(0,.lst 0 5 cap f 46)],1,0,[],[]⟩ (tc cx fiB.fn.results.toList λv H' _=>v=H3 (decide (Vh f n q<n)) (Vh f n q)∧cn [(0,.lst 0 5 cap f 46)] H'):=by
 have hz:(λi=>decide (fS (λi=>f (0+i)) i=q))=λi=>decide (fS f i=q):=funext λi=>by show decide ((VL (f (0+i))).iv=q)=_;rw[B'];rfl
 have hle:Vh f n q<=n:=by have:=IK (g:=λi=>decide (fS f i=q)) (k:=0) (r:=n);unfold Vh;omega
 refine Ai ⟨λi hi=>?_,hn,⟨q,rfl⟩⟩ ?_;obtain⟨c,hc⟩:=hf (0+i) (by omega);show aI (fg HY (f (0+i)));rw[hc];trivial;have ei:∀x:Int,x=VM (λi=>decide (fS (λi=>f (0+i)) i=q)) n->x=VM (λi=>decide (fS f i=q)) n:=λx h=>by rw[h,hz]
 by_cases h:Vh f n q<n;have e1:VM (λi=>decide (fS f i=q)) n=(Vh f n q:Nat):=im rfl h;refine Ai (λhc=>?_) (λhc=>?_);have hc:decide (VM (λi=>decide (fS (λi=>f (0+i)) i=q)) n<0)=true:=hc;rw[hz,e1] at hc;have:=Od hc;omega;have e2:VM (λi=>decide (fS (λi=>f (0+i)) i=q)) n=(Vh f n q:Nat):=(by rw[hz];exact e1);refine Ai (show 0<=VM (λi=>decide (fS (λi=>f (0+i)) i=q)) n∧VM (λi=>decide (fS (λi=>f (0+i)) i=q)) n<(n:Nat) by rw[e2];omega) ?_;refine⟨?_,?_⟩;show SV.gp 0 0 5 (0+(VM (λi=>decide (fS (λi=>f (0+i)) i=q)) n).toNat) 0=H3 _ _;rw[e2,Uu h,B'];rfl;exact cn.cons (cn.cons (cn.refl _) rfl) rfl;have e1:VM (λi=>decide (fS f i=q)) n = -1:=ga (show Vh f n q=n by omega);refine Ai (λhc=>?_) (λhc=>?_);refine⟨?_,?_⟩;rw[Ut h];rfl;exact cn.cons (cn.cons (cn.refl _) rfl) rfl;have hc:decide (VM (λi=>decide (fS (λi=>f (0+i)) i=q)) n<0)=false:=hc;rw[hz,e1] at hc;exact Up hc (by decide)
set_option maxRecDepth 100000 in
def vr(F:FuncId):Prop:=∀{ρ:Names} {W:World} {q:LV} {n:Nat} {f:Nat->List SV} {a':Option Addr},cx.WT W->(∀b o,q.cap≠0->q.a=some ⟨b,o,none⟩->cx.gm<=b)->eX ρ W q 5 f 46->n<=q.N->(∀i,i<n->∃c:bd,f i=c.cells)->(n:Int)<=bY->(q.cap≠0->∃b,q.a=some ⟨b,0,none⟩∧a'=some ⟨b,0,none⟩)->∀id kd:Int,
  br Tryz.prog false F #[.agg #[.int .i64 id,.slice a' n q.cap],.int .u8 kd] W λe W'=>e=.returned (Jb q.a n (Vh f n kd))∧Gr W W'
def Lh(b:Bool)(v:SV):SV:=match b with|true=>v|false=>.v (.pointer none)
def Qk(ZE:Nat->Int->Bool)(H:aY)(nm:Nat):List SV->Option DR
 | [.agg [x,s],kd]=>match x.int?,kd.int? with
  | some (.i64,_),some (.u8,q)=>match s with
   | .g m e sz off n=>match look H m with
    | some (.lst e' U9 _ f t)=>match Nat.beq e e',Nat.beq sz 5,Nat.beq U9 5,Nat.beq off 0,Nat.beq t 46 with
     | true,true,true,true,true=>some ⟨some ((∀i,i<n->∃c:bd,f i=c.cells)∧(n:Int)<=bY∧ZE nm q=decide (Vh f n q<n)),Lh (ZE nm q) (.gp m e 5 (Vh f n q) 0),none,false⟩
     | _,_,_,_,_=>none
    | _=>none
   | .kd m i sz off n=>match look H m with
    | some (.nst _ _ N _ _ Vb g tk _ _)=>match Nat.beq sz 5,Nat.beq Vb 5,Nat.beq off 0,Nat.beq tk 46 with
     | true,true,true,true=>some ⟨some (i<N∧(∀j,j<n->∃c:bd,(g i).2 j=c.cells)∧(n:Int)<=bY∧ZE nm q=decide (Vh (g i).2 n q<n)),Lh (ZE nm q) (.kq m i 5 (Vh (g i).2 n q) 0),none,false⟩
     | _,_,_,_=>none
    | _=>none
   | _=>none
  | _,_=>none
 | _=>none
theorem Jn{ρ:Names}{W W':World}{nm:Nat}(hb:HB cx ρ W)(hg:Gr W W'):WZ cx ρ W nm none false ρ W':=
 ⟨.refl ρ,λ_ _ h=>.inl h,λ_ _ h=>.inl h,λ_ _ _ h=>.inl h,λ_ _=>rfl,hg.os,hg.tape,hg.output,hg.size,λx hx _=>hg.block x hx,hb.gr hg⟩
set_option maxRecDepth 100000 in
theorem Mx{F:FuncId}(hF:vr F){ZE:Nat->Int->Bool}{ρ:Names}{W:World}{H:aY}{nm:Nat}{args:List SV}{vs:List Value}{r:DR}(Vg:VQ cx H ρ W)(hd:aj ρ args vs)(hr:Qk ZE H nm args=some r)(ho:r.Ob) :
  br Tryz.prog false F vs.toArray W λe W'=>∃val,e=.returned val∧fj cx ρ W nm r val W':=by
 unfold Qk at hr;split at hr
 ·rename_i x s kd;split at hr
  ·rename_i id q hid hq;obtain⟨v1,w1,rfl,⟨us,⟨y1,z1,rfl,dx,y2,z2,rfl,ds,rfl⟩,rfl⟩,v2,w2,rfl,dk,rfl⟩:=hd;obtain rfl:=SV.int?_den hid dx;obtain rfl:=SV.int?_den hq dk;split at hr
   ·rename_i m e sz off n;split at hr
    ·rename_i e' U9 N f t hl;split at hr
     ·rename_i h1 h2 h3 h4 h5;obtain rfl:=Nb h1;obtain rfl:=Nb h2;obtain rfl:=Nb h3;obtain rfl:=Nb h4;obtain rfl:=Nb h5;obtain rfl:=Oi hr;obtain⟨o1,o2,o3⟩:=(ho:_∧_∧_)
      obtain⟨l,d1,d2,d3,d4,a',rfl,d6⟩:=ds;obtain⟨l',c1,c2,c3,c4,c5⟩:=Vg.blk m _ hl;obtain rfl:l=l':=Oi (d1.symm.trans c1);rw[Nat.sub_zero] at d6 ⊢;refine(hF (ρ:=ρ) (q:=l) (f:=f) Vg.hb.grd (λb o k1 k2=>(Vg.hb.low m b (.inr (.inl ⟨e,l,o,d1,d2,k1,k2⟩))).1) ⟨by omega,λhc=>by
       obtain⟨b,u,k1,k2,k3,k4,k5,k6⟩:=c5 hc;exact⟨b,u,k1,k2,k3,k4,k5,λi hi=>k6 i (by omega)⟩⟩ (by omega) o1 o2 (λhc=>by
       obtain⟨b,k1,k2⟩:=d6 hc;exact⟨b,k1,by rw[k2]⟩) _ _).mono ?_
      rintro e2 W' ⟨rfl,hg⟩;refine⟨_,rfl,ρ,Jn Vg.hb hg,λ_ _ h=>(by cases h),?_⟩;show den ρ (Lh (ZE nm q) (.gp m e 5 (Vh f n q) 0)) _;rw[o3];unfold Jb;by_cases UY:Vh f n q<n;rw[Uu UY,Uw UY];obtain⟨b,k1,k2⟩:=d6 (by omega);rw[k1];exact⟨l,b,d1,d2,by omega,d4,k1,rfl⟩;rw[Ut UY,Uv UY];exact rfl
     cases hr
    cases hr
   ·rename_i m i sz off n;split at hr
    ·rename_i e sz0 N f p Vb g tk t last hl;split at hr
     ·rename_i h1 h2 h3 h4;obtain rfl:=Nb h1;obtain rfl:=Nb h2;obtain rfl:=Nb h3;obtain rfl:=Nb h4;obtain rfl:=Oi hr;obtain⟨o0,o1,o2,o3⟩:=(ho:_∧_∧_∧_)
      obtain⟨l,d1,d3,d4,a',rfl,d6⟩:=ds;obtain⟨ll,K⟩:=Vg.blk m _ hl;obtain⟨l',c1,c2,c3⟩:=K.kid i o0;obtain rfl:l=l':=Oi (d1.symm.trans c1);rw[Nat.sub_zero] at d6 ⊢;refine(hF (ρ:=ρ) (q:=l) (f:=(g i).2) Vg.hb.grd (λb o k1 k2=>(Vg.hb.low m b (.inr (.inr ⟨i,l,o,d1,k1,k2⟩))).1) c3 (by omega) o1 o2 (λhc=>by obtain⟨b,k1,k2⟩:=d6 hc;exact⟨b,k1,by rw[k2]⟩) _ _).mono ?_;rintro e2 W' ⟨rfl,hg⟩;refine⟨_,rfl,ρ,Jn Vg.hb hg,λ_ _ h=>(by cases h),?_⟩;show den ρ (Lh (ZE nm q) (.kq m i 5 (Vh (g i).2 n q) 0)) _;rw[o3];unfold Jb;by_cases UY:Vh (g i).2 n q<n;rw[Uu UY,Uw UY];obtain⟨b,k1,k2⟩:=d6 (by omega);rw[k1];exact⟨l,b,d1,by omega,d4,k1,rfl⟩;rw[Ut UY,Uv UY];exact rfl
     cases hr
    cases hr
   cases hr
  cases hr
 cases hr
set_option maxRecDepth 100000 in
def Jc(F:FuncId)(hF:vr F)(en:∀(args:Array Value) (w:World),(callFunc F args).run cx.P w=.ok (.enter F args) w)(ns:∀args:Array Value,NS cx.P (callFunc F args))(ZE:Nat->Int->Bool):UO cx where
 f:=F
 en:=en
 ns:=ns
 run:=λ_=>none
 fresh:=false
 own:=none
 eff:=some (Qk ZE)
 ok:=λze W args vs ob out hG hz hd hr ho=>by cases hr
 effOk:=λg hg ρ W H nm args vs r Vg WX hd hr ho=>by obtain rfl:=Oi hg;exact Mx hF Vg hd hr ho
set_option maxRecDepth 100000 in
noncomputable def Nf(ZE:Nat->Int->Bool):UO cx:=Jc fiA.f (λh1 h2 h3 h4 h5 h6 h7 id kd=>qn fiA w6 (by kernel_rfl) (by kernel_rfl) (by kernel_rfl) yY h1 h2 h3 h4 h5 h6 h7 id kd) fiA.en (cZ fiA.hf fiA.hB) ZE
set_option maxRecDepth 100000 in
noncomputable def Nd(ZE:Nat->Int->Bool):UO cx:=Jc fiB.f (λh1 h2 h3 h4 h5 h6 h7 id kd=>qn fiB w5 (by kernel_rfl) (by kernel_rfl) (by kernel_rfl) yX h1 h2 h3 h4 h5 h6 h7 id kd) fiB.en (cZ fiB.hf fiB.hB) ZE
end Go.Proofs.YtgigkennhdolpaaGreatDoor
namespace Go.Proofs.YtgigkennhdolpaaGreatDoor
open Go.RowKit
end Go.Proofs.YtgigkennhdolpaaGreatDoor
namespace Go.Proofs.YtgigkennhdolpaaGreatDoor
open Go.RowKit
end Go.Proofs.YtgigkennhdolpaaGreatDoor
namespace Go.Proofs.YtgigkennhdolpaaGreatDoor
open Go.RowKit
set_option maxRecDepth 8000
set_option maxHeartbeats 2000000
def uh(lo hi:Int)(g:Nat->Int):Nat->Nat->Bool
 | _,0=>true
 | k,r+1=>!(decide (g k<lo)||decide (hi<g k))&&uh lo hi g (k+1) r
def QS(lo hi:Int)(f:XP):Cut:=⟨Nat,λk=>k<=f.n∧uh lo hi f.g 0 f.n=uh lo hi f.g k (f.n-k),
 λk=>⟨[sl 0 (.v (.int .i64 lo)),sl 1 (.v (.int .i64 hi)),sl 9 (.rs 1 f.n λi=>[.v (.int .i64 (f.g i))]),sl 10 (.v (.int .i64 f.n)),sl 11 (.v (.int .i64 k))],[],0,0,[],[]⟩,λk=>f.n-k⟩
theorem KS:∀a,aH ((λa=>[(a.2.2.n:Int)<=1000000]) a)->aM (C:=cx) [] [] 0 ⟨[],[],[2],0⟩ Tryz.f227 (((ib (VK .i64) (VK .i64) (rdF .i64))).enc a) λv H _=>ae ((λa=>.v (.bool (uh a.1 a.2.1 a.2.2.g 0 a.2.2.n))) a) H v:=by
 intro⟨lo,hi,f⟩ hn;replace hn:(f.n:Int)<=1000000:=hn;refine Uh (QS lo hi f) ?_;refine Ai ?_ ?_
 ·refine⟨(0:Nat),[],[],trivial,⟨Ui _,rfl⟩,?_⟩;repeat' (first|refine Ai ?_ ?_|intro _|exact rfl)
 refine fun(k:Nat) (hk:k<=f.n∧uh lo hi f.g 0 f.n=uh lo hi f.g k (f.n-k))=>?_;obtain⟨h1,h2⟩:=hk;refine Ai (λhb=>?_) (λhb=>?_)
 ·have hb:(k:Int)<f.n:=Od hb;refine Ai ⟨by omega,by omega⟩ ?_;have e:uh lo hi f.g k (f.n-k)=(!(decide (f.g k<lo)||decide (hi<f.g k))&&uh lo hi f.g (k+1) (f.n-(k+1))):=(by rw[show f.n-k=(f.n-(k+1))+1 by omega];rfl);refine Ai (λhc=>?_) (λhc=>?_);have hc:(decide (f.g k<lo)||decide (hi<f.g k))=true:=hc;refine UK (a:=uh lo hi f.g 0 f.n) ?_ rfl;rw[h2,e,hc];rfl;have hc:(decide (f.g k<lo)||decide (hi<f.g k))=false:=hc;refine Ai (by constructor<;>omega) ?_;refine⟨k+1,[],[],(by show f.n-(k+1)<f.n-k;omega),⟨by omega,by rw[h2,e,hc];rfl⟩,?_⟩;repeat' (first|refine Ai ?_ ?_|intro _|exact rfl)
 have hb:¬(k:Int)<f.n:=Ur hb;refine UK (a:=uh lo hi f.g 0 f.n) ?_ rfl;rw[h2,show f.n-k=0 by omega];rfl
noncomputable def QN:UO cx:=ai 227 Tryz.call227 (ib (VK .i64) (VK .i64) (rdF .i64)) _ _ (λ_=>⟨[],[],[2],0⟩) [] (λ_=>rfl) follows Tryz.func227 (by kernel_rfl) KS
def okI(lo hi x:Int):Bool:=!(decide (x<lo)||decide (hi<x))&&true
def qz(lo hi x y:Int):Bool:=!(decide (x<lo)||decide (hi<x))&&okI lo hi y
def Body.nP(b:Body):Bool:=!okI 0 65536 b.iD||!qz (-1048576) 1048576 b.posX b.posY||!qz (-4096) 4096 b.velX b.velY||!qz 1 16384 b.w b.h
def Body.ok(b:Body):Bool:=match b.nP with
 | true=>false
 | false=>(!b.round||decide (b.w=b.h))&&(!b.fixed||(decide (b.velX=0)&&decide (b.velY=0)))
theorem nE{p:Nat->Prop}(h:p 0):∀i,i<1->p i:=λi hi=>by obtain rfl:i=0:=Nat.lt_one_iff.1 hi;exact h
theorem vC{p:Nat->Prop}(h:p 0)(k:p 1):∀i,i<2->p i:=λi hi=>by
 match i,hi with
 | 0,_=>exact h
 | 1,_=>exact k
theorem BJ:∀a,aH ((λ_=>[]) a)->aM (C:=cx) [QN] [] 0 ⟨[1001],[],[],0⟩ Tryz.f182 (((bh oX)).enc a) λv H _=>ae ((λb=>.v (.bool b.ok)) a) H v:=by
 intro b _;have one:((1:Nat):Int)<=1000000:=by decide
 have two:((2:Nat):Int)<=1000000:=by decide
 refine Ai ⟨nE trivial,one⟩ ?_;refine Ai (λh1=>?_) (λh1=>?_)
 rotate_left
 have h1:(!okI 0 65536 b.iD)=true:=h1;refine UK (a:=b.ok) ?_ rfl;unfold Body.ok Body.nP;rw[h1];rfl;have h1:(!okI 0 65536 b.iD)=false:=h1;refine Ai ⟨vC trivial trivial,two⟩ ?_;refine Ai (λh2=>?_) (λh2=>?_)
 rotate_left
 have h2:(!qz (-1048576) 1048576 b.posX b.posY)=true:=h2;refine UK (a:=b.ok) ?_ rfl;unfold Body.ok Body.nP;rw[h1,h2];rfl;have h2:(!qz (-1048576) 1048576 b.posX b.posY)=false:=h2;refine Ai ⟨vC trivial trivial,two⟩ ?_;refine Ai (λh3=>?_) (λh3=>?_)
 rotate_left
 have h3:(!qz (-4096) 4096 b.velX b.velY)=true:=h3;refine UK (a:=b.ok) ?_ rfl;unfold Body.ok Body.nP;rw[h1,h2,h3];rfl;have h3:(!qz (-4096) 4096 b.velX b.velY)=false:=h3;refine Ai ⟨vC trivial trivial,two⟩ ?_;refine Ai (λh4=>?_) (λh4=>?_);have h4:(!qz 1 16384 b.w b.h)=true:=h4;refine UK (a:=b.ok) ?_ rfl;unfold Body.ok Body.nP;rw[h1,h2,h3,h4];rfl;have h4:(!qz 1 16384 b.w b.h)=false:=h4;refine UK (a:=b.ok) (b:=(!b.round||decide (b.w=b.h))&&(!b.fixed||(decide (b.velX=0)&&decide (b.velY=0)))) ?_ rfl;unfold Body.ok Body.nP;rw[h1,h2,h3,h4];rfl
noncomputable def zy:UO cx:=ai 182 Tryz.call182 (bh oX) _ _ (λ_=>⟨[1001],[],[],0⟩) [1001] (λ_=>rfl) follows Tryz.func182 (by kernel_rfl) BJ
set_option maxRecDepth 8000
set_option maxHeartbeats 2000000
def l7(a:Int):Int:=max (min a 4096) (-4096)
def gOk(p:Vec):Prop:=(-4096<=p.x∧p.x<=4096)∧-4096<=p.y∧p.y<=4096
theorem FZ:∀a,aH ((λa=>[gOk a]) a)->aM (C:=cx) [] [] 0 ⟨[1001],[],[],0⟩ Tryz.f181 ((bh eI).enc a) λv H _=>ae ((λ_=>.bl true) a) H v:=by intro⟨x,y⟩ h;obtain⟨⟨h1,h2⟩,h3,h4⟩:gOk ⟨x,y⟩:=h;replace h1 : -4096<=x:=h1;replace h2:x<=4096:=h2;replace h3 : -4096<=y:=h3;replace h4:y<=4096:=h4;refine Ai (show Vd (-x) by unfold Vd;omega) ?_;refine Ai (show Vd (-y) by unfold Vd;omega) ?_;refine Ai (λhb=>?_) (λhb=>?_);exact(Uu (show -4096<=min x y by omega)).symm;have hb:decide (max (max (max x (-x)) y) (-y)<=4096)=false:=hb;exact Up (Ur hb) (by omega)
noncomputable def DJ:UO cx:=ai 181 Tryz.call181 (bh eI) _ _ (λ_=>⟨[1001],[],[],0⟩) [1001] (λ_=>rfl) follows Tryz.func181 (by kernel_rfl) FZ
theorem B4:∀a,aH ((λ_=>[]) a)->aM (C:=cx) [] [] 0 av Tryz.f186 ((bh (VK .i64)).enc a) λv H _=>ae ((λa=>.v (.int .i64 (l7 a))) a) H v:=by intro a _;exact rfl
noncomputable def JZ:UO cx:=ai 186 Tryz.call186 (bh (VK .i64)) _ _ (λ_=>av) [] (λ_=>rfl) follows Tryz.func186 (by kernel_rfl) B4
noncomputable def SA:V3 cx:=⟨46,Tryz.call46,Tryz.f46,Tryz.func46,[],[],[],0,by kernel_rfl⟩
noncomputable def Sy:V3 cx:=⟨83,Tryz.call83,Tryz.f83,Tryz.func83,[],[],[],1,by kernel_rfl⟩
theorem Gk:∀a,aH ((λa=>[gOk ⟨a.gravityX,a.gravityY⟩,a.ropes.n=0,a.bodies.n<=1]) a)->aM (C:=cx) [DJ,zy] [SA,Sy] 2 ⟨[1001,1006],[],[],2⟩ Tryz.f122 ((bh p9).enc a) λv H _=>ae ((λa=>.v (.bool (decide (a.bodies.n=0)||(a.bodies.e 0).ok))) a) H v:=by
 intro⟨⟨n,e⟩,⟨m,r⟩,x,y⟩ ⟨hg,hm,hn⟩;obtain rfl:m=0:=hm;replace hn:n<=1:=hn;rcases Nat.lt_or_ge 0 n with hp|hp
 ·obtain rfl:n=1:=(by omega);refine Ai (λhb=>?_) (λhb=>Up (show decide ((64:Int)<1)=true from hb) (by decide));refine Ai (λhb=>?_) (λhb=>Up (show decide ((32:Int)<0)=true from hb) (by decide));refine Ai hg ?_;refine Ai (λhb=>?_) (λhb=>Up (show decide ((0:Int)<1)=false from hb) (by decide));refine Ai ⟨(by decide:(0:Int)<=0),(by decide:(0:Int)<1)⟩ ?_;refine Ai (λh=>Up (show decide ((0:Int)<0)=true from h) (by decide)) ?_;refine Ai (λhb=>?_) (λhb=>?_)
  ·have hb:(!(e 0).ok||false)=true:=hb;have Vg:(e 0).ok=false:=by cases h:(e 0).ok with|false=>rfl|true=>rw[h] at hb;cases hb
   exact(show (decide ((1:Nat)=0)||(e 0).ok)=false by rw[Vg];rfl)
  have hb:(!(e 0).ok||false)=false:=hb;have Vg:(e 0).ok=true:=by cases h:(e 0).ok with|true=>rfl|false=>rw[h] at hb;cases hb
  have fin:(decide ((1:Nat)=0)||(e 0).ok)=true:=(by rw[Vg];rfl);repeat' (first|refine Ai ?_ ?_|exact fin|(intro hh;exact Up (show decide ((1:Int)<1)=true from hh) (by decide))|(intro hh;exact Up (show decide ((0:Int)<0)=true from hh) (by decide))|(intro _)|exact rfl)
 obtain rfl:n=0:=by omega
 refine Ai (λhb=>?_) (λhb=>Up (show decide ((64:Int)<0)=true from hb) (by decide));refine Ai (λhb=>?_) (λhb=>Up (show decide ((32:Int)<0)=true from hb) (by decide));refine Ai hg ?_;repeat' (first|refine Ai ?_ ?_|(intro hh;exact Up (show decide ((0:Int)<0)=true from hh) (by decide))|(intro _)|exact rfl)
noncomputable def M6:UO cx:=ai 122 Tryz.call122 (bh p9) _ _ (λ_=>⟨[1001,1006],[],[],2⟩) [1001,1006] (λ_=>rfl) follows Tryz.func122 (by kernel_rfl) Gk
def gT(b:Body)(g:Vec):Vec:=match b.fixed with|true=>⟨0,0⟩|false=>⟨l7 (b.velX+g.x),l7 (b.velY+g.y)⟩
theorem BN:∀a,aH ((λa=>[gOk a.2,a.1.ok=true,(-1000000<=a.1.velX∧a.1.velX<=1000000)∧-1000000<=a.1.velY∧a.1.velY<=1000000]) a)->aM (C:=cx) [DJ,zy,JZ] [] 0 ⟨[1001],[],[],0⟩ Tryz.f124 ((aL oX eI).enc a) λv H _=>ae ((λa=>(gT a.1 a.2).sv) a) H v:=by
 intro⟨⟨i,px,py,vx,vy,w,h,rd,fx⟩,⟨x,y⟩⟩ ⟨hg,Vg,hv⟩;have Zl:gOk ⟨x,y⟩:=hg;obtain⟨⟨h1,h2⟩,h3,h4⟩:=Zl;replace h1 : -4096<=x:=h1;replace h2:x<=4096:=h2;replace h3 : -4096<=y:=h3;replace h4:y<=4096:=h4;obtain⟨⟨v1,v2⟩,v3,v4⟩:(-1000000<=vx∧vx<=1000000)∧-1000000<=vy∧vy<=1000000:=hv;replace Vg:(Body.mk i px py vx vy w h rd fx).ok=true:=Vg;have n1:(!(Body.mk i px py vx vy w h rd fx).ok)=false:=by rw[Vg];rfl
 cases fx;refine Ai (λhb=>?_) (λhb=>by cases hb);refine Ai (λhb=>?_) (λhb=>Up (n1.symm.trans hb) (by decide));refine Ai hg ?_;refine Ai (show Vd (vx+x) by unfold Vd;omega) ?_;refine Ai (show Vd (vy+y) by unfold Vd;omega) ?_;exact⟨rfl,rfl⟩;refine Ai (λhb=>by cases hb) (λhb=>?_);exact⟨rfl,rfl⟩
noncomputable def JI:UO cx:=ai 124 Tryz.call124 (aL oX eI) _ _ (λ_=>⟨[1001],[],[],0⟩) [1001] (λ_=>rfl) follows Tryz.func124 (by kernel_rfl) BN
def shB(m:Xq)(n:Int):Body:=match decide (m.axis=0) with
 | true=>⟨m.bID,m.bPosX+m.sign*n,m.bPosY,m.bVelX,m.bVelY,m.bW,m.bH,m.bRound,m.bFixed⟩
 | false=>⟨m.bID,m.bPosX,m.bPosY+m.sign*n,m.bVelX,m.bVelY,m.bW,m.bH,m.bRound,m.bFixed⟩
noncomputable def Ml:V3 cx:=⟨193,Tryz.call193,Tryz.f193,Tryz.func193,[],[],[],0,by kernel_rfl⟩
theorem N7:∀a,aH ((λa=>[a.1.axis=0∨a.1.axis=1,Vd (a.1.sign*a.2)∧Vd (a.1.bPosX+a.1.sign*a.2)∧Vd (a.1.bPosY+a.1.sign*a.2)]) a)->aM (C:=cx) [fe] [Ml] 1 av Tryz.f127 ((aL HH (VK .i64)).enc a) λv H _=>ae ((λa=>(shB a.1 a.2).sv) a) H v:=by
 intro⟨⟨b,r,gx,gy,i,px,py,vx,vy,w,h,rd,fx,ax,s⟩,n⟩ ⟨hx,h1,h2,h3⟩;replace hx:ax=0∨ax=1:=hx;rcases hx with rfl|rfl
 ·refine Ai h1 ?_;refine Ai h2 ?_;repeat' (first|refine Ai ?_ ?_|intro _|exact rfl)
 refine Ai h1 ?_;refine Ai h3 ?_;repeat' (first|refine Ai ?_ ?_|intro _|exact rfl)
noncomputable def S3:UO cx:=ai 127 Tryz.call127 (aL HH (VK .i64)) _ _ (λ_=>av) [] (λ_=>rfl) follows Tryz.func127 (by kernel_rfl) N7
theorem KR:∀a,aH ((λa=>[a.n<=1000]) a)->aM (C:=cx) [] [] 0 av Tryz.f123 ((bh CB).enc a) λv H _=>qL ((λa=>a.sv) a) 209 H v:=by
 intro l hm;replace hm:l.n<=1000:=hm;intro b hb;refine Ai (λh=>?_) (λh=>?_);have h:(b != false)=true:=h;have hn:=hb (by simpa using h);exact⟨hn,hn⟩;have hf:dW l.n 64:=⟨Nat.le_trans hm (by decide),by omega⟩
 refine Ai hf ?_;repeat' (first|refine Ai ?_ ?_|intro _|exact rfl)
 all_goals (show _=_;first|(rw[B'];done)|(rw[B'];rfl))
noncomputable def QL:UO cx:=xw 123 Tryz.call123 (bh CB) (λa=>[a.n<=1000]) (λa=>a.sv) 209 (λ_=>av) [] (λ_=>rfl) follows Tryz.func123 (by kernel_rfl) KR
theorem KQ:∀a,aH ((λa=>[a.n<=1000]) a)->aM (C:=cx) [] [] 0 av Tryz.f76 ((bh mX).enc a) λv H _=>eZ ((λa=>a.sv) a) H v:=by
 intro l hm;replace hm:l.n<=1000:=hm;intro b hb;refine Ai (λh=>?_) (λh=>?_);have h:(b != false)=true:=h;have hn:=hb (by simpa using h);exact hn;have hf:dW l.n 24:=⟨Nat.le_trans hm (by decide),by omega⟩
 refine Ai hf ?_;repeat' (first|refine Ai ?_ ?_|intro _|exact rfl)
 all_goals (show _=_;first|(rw[B'];done)|(rw[B'];rfl))
noncomputable def BA:UO cx:=iL 76 Tryz.call76 (bh mX) _ _ (λ_=>av) [] (λ_=>rfl) follows Tryz.func76 (by kernel_rfl) KQ
def yo(b:Body)(ax:Nat)(n:Int):Xq:=⟨⟨0,λ_=>b⟩,⟨0,λ_=>⟨0,0,0⟩⟩,0,0,b.iD,b.posX,b.posY,b.velX,b.velY,b.w,b.h,b.round,b.fixed,ax,if n<0 then -1 else 1⟩
def NV(n:Int):Int:=max n (-n)
def sT(b:Body)(ax:Nat)(n:Int):Int:=Hs (yo b ax n) ax (NV n)
def ZC(b:Body)(ax:Nat)(n:Int):Body:=shB (yo b ax n) (sT b ax n)
def mU(b:Body)(g:Vec):Body:=ZC b 0 (gT b g).x
def xC(b:Body)(g:Vec):Body:=ZC (mU b g) 1 (gT b g).y
def uc(b:Body)(g:Vec):Bool:=decide (sT b 0 (gT b g).x<NV (gT b g).x)
def ub(b:Body)(g:Vec):Bool:=decide (sT (mU b g) 1 (gT b g).y<NV (gT b g).y)
def kX(b:Body)(g:Vec):Body:=match b.fixed with
 | true=>b
 | false=>{xC b g with velX:=bif uc b g then 0 else(gT b g).x,velY:=bif ub b g then 0 else(gT b g).y}
def iM(b:Body)(g:Vec):List Stop:=match b.fixed with
 | true=>[]
 | false=>(match uc b g with|true=>[⟨b.iD,1,-1⟩]|false=>[])++(match ub b g with|true=>[⟨b.iD,2,-1⟩]|false=>[])
def fU(L:List Stop)(i:Nat):Stop:=L.getD i ⟨0,0,0⟩
def np(L:List Stop):j0:=⟨L.length,fU L⟩
def xH(s:WY):WY:=⟨⟨s.bodies.n,λi=>kX (s.bodies.e i) ⟨s.gravityX,s.gravityY⟩⟩,s.ropes,s.gravityX,s.gravityY⟩
def nj(s:WY):List Stop:=match s.bodies.n with|0=>[]|_=>iM (s.bodies.e 0) ⟨s.gravityX,s.gravityY⟩
end Go.Proofs.YtgigkennhdolpaaGreatDoor
