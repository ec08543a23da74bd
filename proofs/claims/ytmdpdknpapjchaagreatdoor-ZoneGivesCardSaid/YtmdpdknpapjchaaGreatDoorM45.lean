/- workers.All, zone.Tick (in company).. -/
import Derived.Test.YtmdpdknpapjchaaGreatDoorM44
set_option linter.all false
namespace Go.Proofs.YtmdpdknpapjchaaGreatDoor
noncomputable section
open Go.RowKit
set_option maxRecDepth 8000
set_option maxHeartbeats 2000000
variable {q:Int}{a i k n:Nat}{key:Nat->Int}{z:X2}{e:XO}{l:Zp}
def Ox(w:XU):SV:=.tup [w.sv,gG,.il .i64 0]
theorem D8:∀a,aD ((λa=>[a.1.valid=true,a.1.l.Sm,a.1.l.n<=1000,∀i,i<a.1.l.n->(a.1.l.e i).l.n<=1000,a.2.vV]) a)->aJ (C:=Zi) [yG] [] 0 ak Tryz.f43 ((aH cI nO).enc a) λv H _=>ae ((λa=>Ox a.1) a) H v:=by
 intro⟨w,x⟩ ⟨hv,hs,hn,hc,hx⟩;replace hv:w.valid=true:=hv;replace hs:w.l.Sm:=hs;replace hn:w.l.n<=1000:=hn;replace hc:∀i,i<w.l.n->(w.l.e i).l.n<=1000:=hc;replace hx:x.vV:=hx;refine Ai ⟨by repeat' (first|exact trivial|exact rfl|apply Ai|intro),λ_ _=>trivial,λi hi=>P' (hx.p▸hi) (F1 _),hv,hs,hn,hc,hx,rfl⟩ ?_;repeat' first|apply Ai|exact rfl|intro
 all_goals exact P' ‹_<0› (F1 _)
def Mp:XR Zi:=af (C:=Zi) 43 Tryz.call43 (aH cI nO) _ _ (λ_=>ak) [] (λ_=>rfl) follows Tryz.func43 (by kernel_rfl) D8
def HF(F:XU->cD->XU×Int)(hF:F=cj):XR cx:=af 41 Tryz.call41 (aH cI mo) (λa=>[a.1.l.Sm,(a.2.n:Int)<=cp,∀i,i<a.2.n->Yd (a.2.e i).moveX∧Yd (a.2.e i).moveY]) (λa=>.tup [(F a.1 a.2).1.sv,.v (.int .i64 (F a.1 a.2).2)]) (λ_=>⟨[20],[14],[5,13],0⟩) [20] (λ_=>rfl) follows Tryz.func41 (by kernel_rfl) (by subst hF;exact Dy)
def stW(w:XU)(g:Vec):XU:=gO (zp (xD w g)) w
def stS(w:XU)(g:Vec):kT:=og (oc (xD w g))
def Bn(B:XU->Vec->XU)(hB:B=stW)(S:XU->Vec->kT)(hS:S=stS):XR cx:=af 45 Tryz.call45 (eC cI nP fb) (λa=>[a.1.valid=true,a.1.l.Sm,a.2.1.n=0,(bB a.1.l a.1.l.n).length<=1,gOk a.2.2]) (λa=>.tup [(B a.1 a.2.2).sv,(S a.1 a.2.2).sv,.il .i64 0]) (λ_=>ak) [] (λ_=>rfl) follows Tryz.func45 (by kernel_rfl) (by subst hB hS;exact yU)
def Hn(a:Rct)(w:XU):Fam:=⟨(lH a w.l w.l.n).length,λi=>(lH a w.l w.l.n).getD i 0⟩
def Fam.svI(f:Fam):SV:=.rs 1 f.n λi=>[.v (.int .i64 (f.g i))]
def Mk(Gf:Rct->XU->Fam)(hG:Gf=Hn):XR cx:=af 46 Tryz.call46 (aH Ew cI) (λa=>[a.2.l.n<=1000,∀i,i<a.2.l.n->((a.2.l.e i).l.n:Int)<=cp]) (λa=>(Gf a.1 a.2).svI) (λ_=>⟨[1006],[],[3],0⟩) [1006] (λ_=>rfl) follows Tryz.func46 (by kernel_rfl) (by subst hG;exact IE)
def grv(z:X2):Vec:=⟨z.gravityX,z.gravityY⟩
def xw(F:XU->cD->XU×Int)(B:XU->Vec->XU)(z:X2)(l:cD):X2:=⟨z.areaLowX,z.areaLowY,z.areaHighX,z.areaHighY,(B (F z.w l).1 (grv z)).tick+1,(B (F z.w l).1 (grv z)).l,z.setupSystems,z.setupProgs,z.setupSeed,z.setupFuel,z.ropes,z.gravityX,z.gravityY⟩
def UH(F:XU->cD->XU×Int)(B:XU->Vec->XU)(S:XU->Vec->kT)(Gf:Rct->XU->Fam)(z:X2)(l:cD):SV:=.agg [gG,(S (F z.w l).1 (grv z)).sv,(Gf z.gS (xw F B z l).w).svI]
theorem qO(l:ZJ):∀i,i<l.n->aT (fL JV (l.e i).cells):=λ_ _ _ _=>trivial
theorem Vt{p:Vec}(h:inR Fb p=true):gOk p:=by unfold inR at h;simp only[I',U'] at h;obtain⟨⟨⟨h1,h2⟩,h3⟩,h4⟩:=h;exact⟨⟨h1,h2⟩,h3,h4⟩
structure rH (F:XU->cD->XU×Int) (B:XU->Vec->XU) (z:X2) (l:cD):Prop where
 sm:z.w.l.Sm
 zv:z.w.valid=true
 ok:z.Ok
 n:(l.n:Int)<=cp
 mv:∀i,i<l.n->Yd (l.e i).moveX∧Yd (l.e i).moveY
 st:(F z.w l).2=0
 v:(F z.w l).1.valid=true
 ssm:(F z.w l).1.l.Sm
 b:(bB (F z.w l).1.l (F z.w l).1.l.n).length<=1
 t:(F z.w l).1.tick<1073741824
 bt:Yd ((B (F z.w l).1 (grv z)).tick+1)
 gn:(B (F z.w l).1 (grv z)).l.n<=1000
 gc:∀i,i<(B (F z.w l).1 (grv z)).l.n->(((B (F z.w l).1 (grv z)).l.e i).l.n:Int)<=cp
 gp:∀i,i<(B (F z.w l).1 (grv z)).l.n->(bu ((B (F z.w l).1 (grv z)).l.e i).l 1).2=true
def Pd:Y0 Zi:=⟨42,Tryz.call42,Tryz.f42,Tryz.func42,[],[],[],0,by kernel_rfl⟩
def Pc:Y0 Zi:=⟨44,Tryz.call44,Tryz.f44,Tryz.func44,[],[],[],0,by kernel_rfl⟩
def Nt:List SV:=[.il .i64 0,.il .i64 0,.il .i64 0,.il .i64 0,.il .i64 0,.v (.slice none 0 0),.v (.slice none 0 0),.v (.slice none 0 0),.il .u64 0,.il .i64 0,.v (.slice none 0 0),.il .i64 0,.il .i64 0]
def tkC(z:X2)(W:XU)(T:kT):Cut:=⟨XU×kT,λa=>a.1=W∧a.2=T,λa=>⟨[sl 4 (.p 1 0),sl 5 (.p 2 0),sl 7 (.p 3 0),sl 8 (.p 4 0),sl 9 (.p 5 0)],
 [(1,.lay Nt 36),(2,.lay [.v (.slice none 0 0),.v (.slice none 0 0),.v (.slice none 0 0)] 70),(3,.lay z.cells 36),(4,.lay [gG,a.2.sv,.v (.slice none 0 0)] 70),(5,.lay a.1.cells 28)],7,0,[],[]⟩,λ_=>0⟩
theorem Nv(h:z.Ok)(hv:z.w.valid=true):yZ z=true:=by
 have hr:ij z.ropes=false:=by unfold ij YO YK;rw[h.ro];rfl
 have hb:sS z=false:=by unfold sS;rw[h.lo,h.hi,h.in_,h.gr,h.ro];rfl
 unfold yZ;rw[hr,hb,hv];rfl
section
variable (F:XU->cD->XU×Int)(hF:F=cj)(B:XU->Vec->XU)(hB:B=stW)(S:XU->Vec->kT)(hS:S=stS)(Gf:Rct->XU->Fam)(hG:Gf=Hn)
theorem Ia:∀a,aD ((λa:X2×cD=>[rH F B a.1 a.2]) a)->aJ (C:=Zi) [Ty.lift rfl,PZ.lift rfl,(HF F hF).lift rfl,Mp,(Bn B hB S hS).lift rfl,(Mk Gf hG).lift rfl] [Pd,Pc] 1 ⟨[6,15,18,19],[17],[],4⟩ Tryz.f19 ((aH eZ mo).enc a) λv H _=>ae ((λa=>.tup [(xw F B a.1 a.2).sv,UH F B S Gf a.1 a.2,.v (.int .i64 0)]) a) H v:=by
 intro⟨z,l⟩ hT;replace hT:rH F B z l:=hT;have Ya:=hT.ok.st;have hsy:z.setupSystems.n=0:=Ya.s;have hpr:z.setupProgs.n=0:=Ya.p;have YL:=hT.ok.ro;have hv:=hT.zv;have hV:=XU.cA.1 hv;have hlen:=hV.len;have hsm:z.w.l.n<=1000∧∀i,i<z.w.l.n->(z.w.l.e i).l.n<=1000:=⟨by omega,λi hi=>by have:=(hV.right i hi).len;omega⟩
 refine Ai ⟨qO _,λi hi=>P' (hsy▸hi) (F1 _),λi hi=>P' (hpr▸hi) (F1 _),λi hi=>P' (YL▸hi) (F1 _),hT.sm,(show (z.ropes.n:Int)<=cp by rw[YL];decide),Ya⟩ ?_;refine Ai (λhc=>P' (show (!yZ z)=true from hc) (by rw[Nv hT.ok hv];decide)) (λ_=>?_);refine Ai ⟨qO _,λi hi=>P' (hsy▸hi) (F1 _),λi hi=>P' (hpr▸hi) (F1 _),λi hi=>P' (YL▸hi) (F1 _),hsm.1,hsm.2,hsy,hpr,(show z.ropes.n<=1000 by omega)⟩ ?_;refine Ai ⟨qO _,λ_ _=>trivial,hT.sm,hT.n,hT.mv⟩ ?_;have hS':=XU.cA.1 hT.v;have Z4:=hS'.len;have hss:(F z.w l).1.l.n<=1000∧∀i,i<(F z.w l).1.l.n->((F z.w l).1.l.e i).l.n<=1000:=⟨by omega,λi hi=>by have:=(hS'.right i hi).len;omega⟩
 have hg:=Vt hT.ok.gr;have hE2:=hT.st;refine Ai (λhc=>P' (show decide (¬(F z.w l).2=0)=true from hc) (by rw[hE2];decide)) (λ_=>?_);refine Ai (λhc=>P' (show (1073741824:Int)<=(F z.w l).1.tick from Od hc) (by have:=hT.t;omega)) (λ_=>?_);refine F8 (tkC z (B (F z.w l).1 (grv z)) (S (F z.w l).1 (grv z))) ?_;refine Ai ?_ ?_
 ·refine Ai ⟨qO _,λ_ _=>trivial,λi hi=>P' (hpr▸hi) (F1 _),hT.v,hT.ssm,hss.1,hss.2,Ya⟩ ?_;refine Ai ⟨qO _,λi hi=>P' (YL▸hi) (F1 _),hT.v,hT.ssm,YL,hT.b,hg⟩ ?_;refine⟨(B (F z.w l).1 (grv z),S (F z.w l).1 (grv z)),[],[],trivial,⟨rfl,rfl⟩,?_⟩;repeat' first|apply Ai|exact rfl|intro
  all_goals first|(exact P' (show _<0 by assumption) (F1 _))|(exact P' (Nat.lt_of_lt_of_eq (by assumption) hsy) (F1 _))
 refine fun(a:XU×kT) (ha:a.1=B (F z.w l).1 (grv z)∧a.2=S (F z.w l).1 (grv z))=>?_;obtain⟨W,T⟩:=a;obtain⟨h1,h2⟩:W=B (F z.w l).1 (grv z)∧T=S (F z.w l).1 (grv z):=ha;refine Ai (show Yd (W.tick+1) by rw[h1];exact hT.bt) ?_;refine Ai ⟨qO _,(show W.l.n<=1000 by rw[h1];exact hT.gn),(show ∀i,i<W.l.n->((W.l.e i).l.n:Int)<=cp by rw[h1];exact hT.gc)⟩ ?_;subst h1 h2;repeat' first|apply Ai|exact rfl|intro
 all_goals first|(exact P' (show _<0 by assumption) (F1 _))|(exact P' (Nat.lt_of_lt_of_eq (by assumption) hsy) (F1 _))
end
set_option maxRecDepth 8000
set_option maxHeartbeats 2000000
def X2.no:X2:=X2.of (.agg QV)
def X2.put(z:X2)(w:XU):X2:={z with wEntities:=w.l}
def lI(z:X2)(id:Int):X2×XO×Int:=match cu z with
 | false=>(X2.no,XO.no,2)
 | true=>match (av z.w id).2 with
  | false=>(X2.no,XO.no,6)
  | true=>(z.put (zH z.w id),z.w.l.e (av z.w id).1,0)
def eH(z:X2)(e:XO):X2×Int:=match cu z&&e.right with
 | false=>(X2.no,2)
 | true=>match iJ z.gS e with
  | true=>(X2.no,2)
  | false=>match decide ((gw z.w e).2=0) with
   | false=>(X2.no,(gw z.w e).2)
   | true=>(z.put (gw z.w e).1,0)
theorem Nc:∀a,aD ((λa=>[a.1.Lim,cu a.1=true->a.1.Cop]) a)->aJ (C:=cx) [u9,xh,Ma,sO] [] 0 ⟨[11],[],[],0⟩ Tryz.f8 ((aH eZ (Yp .i64)).enc a) λv H _=>ae ((λa=>.tup [(lI a.1 a.2).1.sv,(lI a.1 a.2).2.1.sv,.v (.int .i64 (lI a.1 a.2).2.2)]) a) H v:=by
 intro⟨z,i⟩ ⟨hz,hC⟩;replace hz:z.Lim:=hz;replace hC:cu z=true->z.Cop:=hC;refine Ai ⟨λ_ _ _ _=>trivial,λ_ _=>trivial,λ_ _ _ _=>trivial,λ_ _=>trivial,hz⟩ ?_;refine Ai (λhv=>?_) (λhv=>?_)
 ·have hv:(!cu z)=true:=hv;have hv:cu z=false:=(by simpa using hv);have ev:lI z i=(X2.no,XO.no,2):=(by unfold lI;rw[hv]);simp only[ev];repeat' first|apply Ai|exact rfl|intro
 have hv:(!cu z)=false:=hv;have hv:cu z=true:=by simpa using hv
 have hC:=hC hv;refine Ai ⟨(by repeat' first|exact trivial|exact rfl|apply Ai|intro),hz.l⟩ ?_;have he2:(rS z.w i).2=(av z.w i).2:=by unfold rS;cases (av z.w i).2<;>rfl
 refine Ai (λhc=>?_) (λhc=>?_)
 ·have hc:(!(rS z.w i).2)=true:=hc;have hc:(av z.w i).2=false:=(by rw[he2] at hc;simpa using hc);have ev:lI z i=(X2.no,XO.no,6):=(by unfold lI;rw[hv];simp only[hc]);simp only[ev];repeat' first|apply Ai|exact rfl|intro
 have hc:(!(rS z.w i).2)=false:=hc;have hc:(av z.w i).2=true:=by rw[he2] at hc;simpa using hc
 have ev:lI z i=(z.put (zH z.w i),z.w.l.e (av z.w i).1,0):=by unfold lI;rw[hv];simp only[hc]
 have ee:(rS z.w i).1=z.w.l.e (av z.w i).1:=by unfold rS;rw[hc]
 refine Ai ⟨(by repeat' first|exact trivial|exact rfl|apply Ai|intro),hz.l,hc⟩ ?_;refine Ai ⟨λ_ _ _ _=>trivial,λ_ _=>trivial,λ_ _ _ _=>trivial,λ_ _=>trivial,hC⟩ ?_;simp only[ev];repeat' first|apply Ai|exact rfl|intro
 all_goals first|exact(O' XO.iD ee).symm|exact(O' (λe:XO=>e.l.n) ee).symm|exact(O' (λe:XO=>(e.l.c _).kind) ee).symm|exact(O' (λe:XO=>(e.l.c _).v0) ee).symm|exact(O' (λe:XO=>(e.l.c _).v1) ee).symm|exact(O' (λe:XO=>(e.l.c _).v2) ee).symm|exact(O' (λe:XO=>(e.l.c _).v3) ee).symm
theorem BJ{w:XU}(h:(gw w e).2=0):(gw w e).1.tick=w.tick:=by
 unfold gw at *;cases hv:w.valid&&e.right with
 | false=>rw[hv] at h;exact P' (show (2:Int)=0 from h) (by decide)
 | true=>
  rw[hv] at h;cases hf:(av w e.iD).2 with
  | true=>rw[hf] at h;exact P' (show (2:Int)=0 from h) (by decide)
  | false=>
   rw[hf] at h;cases hn:decide ((64:Int)<=w.l.n) with
   | true=>rw[hn] at h;exact P' (show (4:Int)=0 from h) (by decide)
   | false=>rfl
theorem QU(F:XU->XO->XU×Int)(hF:F=gw):∀a,aD ((λa=>[a.1.l.Sm,a.2.l.Sm]) a)->aJ (C:=cx) [gl,mU,pA,oM,sN,Mh] [] 0 ⟨[],[],[],0⟩ Tryz.f25 ((aH cI eE).enc a) λv H _=>ae ((λa=>.tup [(F a.1 a.2).1.sv,.v (.int .i64 (F a.1 a.2).2)]) a) H v:=by rw[hF];exact Nq
section
variable (F:XU->XO->XU×Int)(hF:F=gw)
def FO:XR cx:=af 25 Tryz.call25 (aH cI eE) (λa=>[a.1.l.Sm,a.2.l.Sm]) (λa=>.tup [(F a.1 a.2).1.sv,.v (.int .i64 (F a.1 a.2).2)]) (λ_=>⟨[],[],[],0⟩) [] (λ_=>rfl) follows Tryz.func25 (by kernel_rfl) (QU F hF)
theorem MU:∀a,aD ((λa=>[a.1.Lim,a.2.l.Sm,cu a.1=true->a.1.Cop]) a)->aJ (C:=cx) [u9,mU,yH,nw,FO F hF,sO] [uo] 1 ⟨[1004],[],[],0⟩ Tryz.f7 ((aH eZ eE).enc a) λv H _=>ae ((λa=>.tup [(eH a.1 a.2).1.sv,.v (.int .i64 (eH a.1 a.2).2)]) a) H v:=by
 intro⟨z,e⟩ ⟨hz,he,hC⟩;replace hz:z.Lim:=hz;replace he:e.l.Sm:=he;replace hC:cu z=true->z.Cop:=hC;refine Ai ⟨λ_ _ _ _=>trivial,λ_ _=>trivial,λ_ _ _ _=>trivial,λ_ _=>trivial,hz⟩ ?_;refine Ai (λ_=>⟨(by repeat' first|exact trivial|exact rfl|apply Ai|intro),he⟩) ?_;refine Ai (λhv=>?_) (λhv=>?_)
 ·have hv:(!cu z||!e.right)=true:=hv;have hv:(cu z&&e.right)=false:=(by cases h1:cu z<;>cases h2:e.right<;>simp[h1,h2] at hv ⊢);have ev:eH z e=(X2.no,2):=(by unfold eH;rw[hv]);simp only[ev];repeat' first|apply Ai|exact rfl|intro
 have hv:(!cu z||!e.right)=false:=hv;obtain⟨hv1,ZL⟩:=Xp.1 hv;have hv1:cu z=true:=by simpa using hv1
 have ZL:e.right=true:=by simpa using ZL
 have hC:=hC hv1;refine Ai ⟨(by repeat' first|exact trivial|exact rfl|apply Ai|intro),he.1,rfl⟩ ?_;refine Ai (λhc=>?_) (λhc=>?_)
 ·have hc:YO (λi=>decide ((e.l.c i).kind=1)) e.l.n<0:=Od hc;have ho:iJ z.gS e=false:=(by unfold iJ;rw[Ms hc]);refine Ai (λh=>P' (show false=true from h) (by decide)) ?_;refine Ai (λh=>P' (show false=true from h) (by decide)) ?_;refine Ai ⟨λ_ _ _ _=>trivial,λ_ _=>trivial,hz.l,he⟩ ?_;refine Ai (λhb=>?_) (λhb=>?_)
  ·have hb:¬(F z.w e).2=0:=Od hb;have ev:eH z e=(X2.no,(F z.w e).2):=(by unfold eH;rw[hv1,ZL,<-hF];simp only[Bool.and_self,ho,Xi hb]);simp only[ev];repeat' first|apply Ai|exact rfl|intro
   all_goals first|exact ht.symm
  have hb:(F z.w e).2=0:=Decidable.of_not_not (Xg hb);have ht:(F z.w e).1.tick=z.wTick:=(by rw[hF] at hb ⊢;exact BJ hb);have ev:eH z e=(z.put (F z.w e).1,0):=(by unfold eH;rw[hv1,ZL,<-hF];simp only[Bool.and_self,ho,Xj hb]);refine Ai ⟨λ_ _ _ _=>trivial,λ_ _=>trivial,λ_ _ _ _=>trivial,λ_ _=>trivial,hC⟩ ?_;simp only[ev];repeat' first|apply Ai|exact rfl|intro
  all_goals first|exact ht.symm
 have hc:¬YO (λi=>decide ((e.l.c i).kind=1)) e.l.n<0:=Xg hc;obtain⟨c1,c2⟩:=FX hc;refine Ai c1 ?_;have hq:iJ z.gS e = !inR z.gS ⟨(e.l.c (YO (λi=>decide ((e.l.c i).kind=1)) e.l.n).toNat).v0,(e.l.c (YO (λi=>decide ((e.l.c i).kind=1)) e.l.n).toNat).v1⟩:=by unfold iJ Oz;rw[c2]
 refine Ai (λhd=>?_) (λhd=>?_)
 ·have ho:iJ z.gS e=true:=hq.trans hd;have ev:eH z e=(X2.no,2):=(by unfold eH;rw[hv1,ZL];simp only[Bool.and_self,ho]);simp only[ev];repeat' first|apply Ai|exact rfl|intro
  all_goals first|exact ht.symm
 have ho:iJ z.gS e=false:=hq.trans hd;refine Ai ⟨λ_ _ _ _=>trivial,λ_ _=>trivial,hz.l,he⟩ ?_;refine Ai (λhb=>?_) (λhb=>?_)
 ·have hb:¬(F z.w e).2=0:=Od hb;have ev:eH z e=(X2.no,(F z.w e).2):=(by unfold eH;rw[hv1,ZL,<-hF];simp only[Bool.and_self,ho,Xi hb]);simp only[ev];repeat' first|apply Ai|exact rfl|intro
  all_goals first|exact ht.symm
 have hb:(F z.w e).2=0:=Decidable.of_not_not (Xg hb);have ht:(F z.w e).1.tick=z.wTick:=by rw[hF] at hb ⊢;exact BJ hb
 have ev:eH z e=(z.put (F z.w e).1,0):=by unfold eH;rw[hv1,ZL,<-hF];simp only[Bool.and_self,ho,Xj hb]
 refine Ai ⟨λ_ _ _ _=>trivial,λ_ _=>trivial,λ_ _ _ _=>trivial,λ_ _=>trivial,hC⟩ ?_;simp only[ev];repeat' first|apply Ai|exact rfl|intro
 all_goals first|exact ht.symm
end
theorem Kt(h:Inc key n)(hk:k<n):fI key n (key k)=k:=
 sD (Nat.le_of_lt hk) (λj hj=>h j k hj hk) (λj h1 h2=>by
  rcases Xs h1 with rfl|h1;exact Int.le_refl _
  ·exact Int.le_of_lt (h k j h1 h2))
theorem yu{w:XU}(hv:w.Valid)(hi:i<w.l.n):av w (w.l.e i).iD=(i,true):=by have hl:fI (λk=>(w.l.e k).iD) w.l.n (w.l.e i).iD=i:=Kt (key:=λk=>(w.l.e k).iD) hv.inc hi;have hb:gP (λk=>(w.l.e k).iD) w.l.n (w.l.e i).iD=true:=jC.2 (by rw[hl];exact⟨hi,rfl⟩);unfold av;rw[XU.cA.2 hv];show (fI (λk=>(w.l.e k).iD) w.l.n (w.l.e i).iD,gP (λk=>(w.l.e k).iD) w.l.n (w.l.e i).iD)=_;rw[hl,hb]
theorem get_at{w:XU}(hv:w.Valid)(hi:i<w.l.n)(q:Int):oF w (w.l.e i).iD q=qv (w.l.e i).l q:=by unfold oF;rw[yu hv hi]
theorem Po(hi:i<l.n)(hk:(l.c i).kind=q):iu l q=true:=by
 cases h:iu l q with
 | true=>rfl
 | false=>
  have h1:¬X1 l q<l.n:=Xg h;have h2:=KI (g:=λi=>decide ((l.c i).kind=q)) (k:=0) (r:=l.n) (i:=i) (F9 _) (by unfold X1 at h1;omega);exact P' hk (Xg h2)
theorem K8(hl:Inc (λi=>(l.c i).kind) l.n)(h:iu l q=true):qv l q=(l.c (X1 l q),true):=by
 have hi:X1 l q<l.n:=Od h;have hk:=As h;have hlo:=Kt (key:=λi=>(l.c i).kind) hl hi;have hlo:fI (λi=>(l.c i).kind) l.n q=X1 l q:=by rw[<-hk];exact(by rw[hk];rw[hk] at hlo;exact hlo)
 have hb:gP (λi=>(l.c i).kind) l.n q=true:=jC.2 (by rw[hlo];exact⟨hi,hk⟩);unfold qv;rw[hb,hlo]
theorem Pr(h:iu l q=false):qv l q=(aZ.no,false):=by
 have hb:gP (λi=>(l.c i).kind) l.n q=false:=by
  cases hb:gP (λi=>(l.c i).kind) l.n q with
  | false=>rfl
  | true=>
   obtain⟨h1,h2⟩:=jC.1 hb;rw[Po h1 h2] at h;cases h
 unfold qv;rw[hb]
theorem Kw{key:Nat->Int}{q:Int} : ∀{r k t:Nat},k<=t->t<lbN key q k r->key t<q
 | 0,k,t,h1,h2=>by have:t<k:=h2;omega
 | r+1,k,t,h1,h2=>by simp only[lbN] at h2;split at h2;rename_i h;rcases Xs h1 with rfl|h1;exact Od h;exact Kw h1 h2;omega
theorem Kz{key:Nat->Int}{q:Int} : ∀{r k:Nat},lbN key q k r<k+r->¬key (lbN key q k r)<q
 | 0,k,h=>by have:k<k+0:=h;omega
 | r+1,k,h=>by simp only[lbN] at h ⊢;split at h;exact Kz (by omega);rename_i hd;exact Xg hd
theorem OQ{t:Nat}(h:t<fI key n q):key t<q:=Kw (F9 _) h
theorem OR(h:fI key n q<n):¬key (fI key n q)<q:=Kz (by unfold fI at h;omega)
theorem Lp{w:XU}(hv:w.Valid)(h:(av w q).2=false):(av w q).1<=w.l.n∧(∀t,t<(av w q).1->(w.l.e t).iD<q)∧∀t,(av w q).1<=t->t<w.l.n->q<(w.l.e t).iD:=by
 have hv':=XU.cA.2 hv;have e:av w q=(fI (λi=>(w.l.e i).iD) w.l.n q,gP (λi=>(w.l.e i).iD) w.l.n q):=by unfold av;rw[hv']
 rw[e] at h ⊢;have h:gP (λi=>(w.l.e i).iD) w.l.n q=false:=h;refine⟨EU,λt ht=>OQ (key:=λi=>(w.l.e i).iD) ht,λt h1 h2=>?_⟩;have h1:fI (λi=>(w.l.e i).iD) w.l.n q<=t:=h1;have h3:=OR (key:=λi=>(w.l.e i).iD) (q:=q) (n:=w.l.n) (by omega);have h4:(w.l.e (fI (λi=>(w.l.e i).iD) w.l.n q)).iD≠q:=λh4=>by have:gP (λi=>(w.l.e i).iD) w.l.n q=true:=jC.2 ⟨by omega,h4⟩;rw[h] at this;cases this
 have h3:¬(w.l.e (fI (λi=>(w.l.e i).iD) w.l.n q)).iD<q:=h3;rcases Xs h1 with h5|h5;rw[<-h5];omega;have:=hv.inc _ t h5 h2;have:(w.l.e (fI (λi=>(w.l.e i).iD) w.l.n q)).iD<(w.l.e t).iD:=this;omega
theorem CQ{w:XU}(hv:w.Valid)(he:e.pK)(h:(av w e.iD).2=false)(hn:¬(64:Int)<=w.l.n):(w.more (av w e.iD).1 e).Valid:=by obtain⟨g1,g2,g3⟩:=Lp hv h;generalize (av w e.iD).1=j at *;refine⟨hv.lo,hv.hi,by show ((w.l.n+1:Nat):Int)<=64;omega,λa b Y9 hb=>?_,λa ha=>?_⟩;have hb:b<w.l.n+1:=hb;show (gV j w.l.e e a).iD<(gV j w.l.e e b).iD;rcases Nat.lt_trichotomy a j with h1|h1|h1;rw[kF h1];rcases Nat.lt_trichotomy b j with h2|h2|h2;rw[kF h2];exact hv.inc a b Y9 (by omega);subst h2;rw[jA];exact g2 a h1;rw[iq h2];exact hv.inc a (b-1) (by omega) (by omega);subst h1;rw[jA,iq Y9];exact g3 (b-1) (by omega) (by omega);rw[iq h1,iq (by omega:j<b)];exact hv.inc (a-1) (b-1) (by omega) (by omega);have ha:a<w.l.n+1:=ha;show (gV j w.l.e e a).pK;rcases Nat.lt_trichotomy a j with h1|h1|h1;rw[kF h1];exact hv.right a (by omega);subst h1;rw[jA];exact he;rw[iq h1];exact hv.right (a-1) (by omega)
theorem G8{w:XU}{j:Nat} : (w.more j e).less j=w:=by
 unfold XU.more XU.less;have:(λi=>gV j w.l.e e (shU j i))=w.l.e:=funext λi=>by rcases Nat.lt_or_ge i j with h|h;rw[mj h,kF h];rw[kY h,iq (by omega)];rfl
 show (⟨w.tick,⟨w.l.n+1-1,λi=>gV j w.l.e e (shU j i)⟩⟩:XU)=w;rw[this];rfl
theorem Hf{w:XU}(h:i<w.l.n):(w.less i).more i (w.l.e i)=w:=by
 have e:gV i (λx=>w.l.e (shU i x)) (w.l.e i)=w.l.e:=funext λx=>by rcases Nat.lt_trichotomy x i with h1|h1|h1;rw[kF h1,mj h1];subst h1;rw[jA];rw[iq h1,kY (by omega),show x-1+1=x by omega]
 show (⟨w.tick,⟨w.l.n-1+1,gV i (λx=>w.l.e (shU i x)) (w.l.e i)⟩⟩:XU)=w;rw[e,show w.l.n-1+1=w.l.n by omega]
theorem Jj{b:Nat}(h:a<b):shU k a<shU k b:=by rcases Nat.lt_or_ge a k with h1|h1;rcases Nat.lt_or_ge b k with h2|h2;rw[mj h1,mj h2];exact h;rw[mj h1,kY h2];omega;rw[kY h1,kY (by omega)];omega
theorem xB(h:a<n-1):shU k a<n:=by rcases Nat.lt_or_ge a k with h1|h1;rw[mj h1];omega;rw[kY h1];omega
theorem ue{w:XU}(hv:w.Valid) : (w.less i).Valid:=by have hl:=hv.len;refine⟨hv.lo,hv.hi,by show ((w.l.n-1:Nat):Int)<=64;omega,λa b Y9 hb=>?_,λa ha=>hv.right _ (xB ha)⟩;have hb:b<w.l.n-1:=hb;exact hv.inc _ _ (Jj Y9) (xB hb)
theorem Ak{w:XU}(hv:w.Valid)(hi:i<w.l.n):av (w.less i) (w.l.e i).iD=(i,false):=by
 have ZL:=ue hv (i:=i);have h0:(w.less i).valid=true:=XU.cA.2 ZL;have h1:fI (λx=>((w.less i).l.e x).iD) (w.less i).l.n (w.l.e i).iD=i:=sD (by show i<=w.l.n-1;omega) (λj hj=>by
   show (w.l.e (shU i j)).iD<_;rw[mj hj];exact hv.inc j i hj hi) (λj h1 h2=>by
   have h2:j<w.l.n-1:=h2;show _<=(w.l.e (shU i j)).iD;rw[kY h1];exact Int.le_of_lt (hv.inc i (j+1) (by omega) (by omega)))
 have h2:gP (λx=>((w.less i).l.e x).iD) (w.less i).l.n (w.l.e i).iD=false:=by
  cases h:gP (λx=>((w.less i).l.e x).iD) (w.less i).l.n (w.l.e i).iD with
  | false=>rfl
  | true=>
   obtain⟨h3,h4⟩:=jC.1 h;rw[h1] at h3 h4;have h3:i<w.l.n-1:=h3;have h4:(w.l.e (shU i i)).iD=(w.l.e i).iD:=h4;rw[kY (F2 i)] at h4;have:=hv.inc i (i+1) (by omega) (by omega);have:(w.l.e i).iD<(w.l.e (i+1)).iD:=this;omega
 unfold av;rw[h0];show (fI _ _ _,gP _ _ _)=_;rw[h1,h2]
theorem IV{w:XU}(hz:cu z=true)(hw:w.Valid)(ht:w.tick=z.wTick):cu (z.put w)=true:=by
 unfold cu at hz ⊢;have e:(z.put w).w=w:=by show (⟨z.wTick,w.l⟩:XU)=w;rw[<-ht]
 rw[e,XU.cA.2 hw];have h1:sS (z.put w)=sS z:=rfl;have h2:(z.put w).ropes=z.ropes:=rfl;have h3:(z.put w).stp=z.stp:=rfl;rw[h1,h2,h3];revert hz;cases sS z<;>cases ij z.ropes<;>cases z.w.valid<;>cases B8 z.stp<;>simp
theorem kU(hz:cu z=true):z.w.Valid:=by
 unfold cu at hz;have h:z.w.valid=true:=by revert hz;cases z.w.valid<;>simp
 exact XU.cA.1 h
structure jW (z:X2) (e:XO):Prop where
 v:cu z=true
 r:e.pK
 o:iJ z.gS e=false
 f:(av z.w e.iD).2=false
 n:¬(64:Int)<=z.w.l.n
 is:(eH z e).1=z.put (z.w.more (av z.w e.iD).1 e)
theorem R0(h:(eH z e).2=0):jW z e:=by
 unfold eH at h;cases hv:cu z&&e.right with
 | false=>rw[hv] at h;exact P' (show (2:Int)=0 from h) (by decide)
 | true=>
  obtain⟨h1,h2⟩:=Bool.and_eq_true_iff.1 hv;rw[hv] at h;cases ho:iJ z.gS e with
  | true=>simp only[ho] at h;exact P' h (by decide)
  | false=>
   simp only[ho] at h;have h3:(gw z.w e).2=0:=by
    cases hd:decide ((gw z.w e).2=0) with
    | true=>exact Od hd
    | false=>rw[hd] at h;exact h
   have hw:z.w.valid=true:=XU.cA.2 (kU h1);have ha:=h3;unfold gw at ha;rw[hw,h2] at ha;simp only[Bool.and_self] at ha;cases hf:(av z.w e.iD).2 with
   | true=>rw[hf] at ha;exact P' (show (2:Int)=0 from ha) (by decide)
   | false=>
    rw[hf] at ha;cases hn:decide ((64:Int)<=z.w.l.n) with
    | true=>simp only[hn] at ha;exact P' ha (by decide)
    | false=>
     refine⟨h1,XO.g7.1 h2,ho,hf,Xg hn,?_⟩;have hA:gw z.w e=(z.w.more (av z.w e.iD).1 e,0):=(by unfold gw;rw[hw,h2];simp only[Bool.and_self,hf,hn]);unfold eH;rw[hv];simp only[ho,hA];rfl
theorem jW.w(h:jW z e):((eH z e).1).w=z.w.more (av z.w e.iD).1 e:=by rw[h.is];rfl
theorem jW.wv(h:jW z e):(z.w.more (av z.w e.iD).1 e).Valid:=CQ (kU h.v) h.r h.f h.n
theorem jW.valid(h:jW z e):cu (eH z e).1=true:=by rw[h.is];exact IV h.v h.wv rfl
theorem jW.find(h:jW z e):av ((eH z e).1).w e.iD=((av z.w e.iD).1,true):=by rw[h.w];have hj:=yr (w:=z.w) (id:=e.iD);have:=yu h.wv (i:=(av z.w e.iD).1) (by show _<z.w.l.n+1;omega);have e1:(z.w.more (av z.w e.iD).1 e).l.e (av z.w e.iD).1=e:=jA;rw[e1] at this;exact this
theorem Og{w v:XU} : (z.put w).put v=z.put v:=rfl
theorem Gm : z.put z.w=z:=rfl
theorem jW.give(h:jW z e):lI (eH z e).1 e.iD=(z,e,0):=by
 unfold lI;rw[h.valid,h.find];show ((eH z e).1.put (zH (eH z e).1.w e.iD),(eH z e).1.w.l.e (av z.w e.iD).1,(0:Int))=_;have e1:zH (eH z e).1.w e.iD=z.w:=by unfold zH;rw[h.find,h.w];exact G8
 have e2:(eH z e).1.w.l.e (av z.w e.iD).1=e:=by rw[h.w];exact jA
 rw[e1,e2,h.is,Og,Gm]
theorem NK{t:X2}(hv:cu t=true)(hr:e.right=true)(ho:iJ t.gS e=false)(ha:gw t.w e=(XU.no,2)):(eH t e).2=2:=by unfold eH;rw[hv,hr];simp only[Bool.and_self,ho,ha];rfl
theorem jW.UB(h:jW z e):(eH (eH z e).1 e).2=2:=by
 have ha:gw (eH z e).1.w e=(XU.no,2):=by unfold gw;rw[XU.cA.2 (kU h.valid),XO.g7.2 h.r,h.find];rfl
 have ho:iJ (eH z e).1.gS e=false:=by rw[h.is];exact h.o
 exact NK h.valid (XO.g7.2 h.r) ho ha
theorem Pq(hz:cu z=true)(hi:i<z.wEntities.n):lI z (z.wEntities.e i).iD=(z.put (z.w.less i),z.wEntities.e i,0):=by have hf:=yu (kU hz) (i:=i) hi;have hf:av z.w (z.wEntities.e i).iD=(i,true):=hf;unfold lI;rw[hz,hf];show (z.put (zH z.w (z.wEntities.e i).iD),z.w.l.e i,(0:Int))=_;unfold zH;rw[hf];rfl
theorem oE(hz:cu z=true)(hi:i<z.wEntities.n):cu (z.put (z.w.less i))=true∧(lI (z.put (z.w.less i)) (z.wEntities.e i).iD).2.2=6:=by have hv:cu (z.put (z.w.less i))=true:=IV hz (ue (kU hz)) rfl;refine⟨hv,?_⟩;have hf:av (z.put (z.w.less i)).w (z.wEntities.e i).iD=(i,false):=Ak (kU hz) hi;unfold lI;rw[hv,hf]
theorem GF(hz:cu z=true)(hi:i<z.wEntities.n):eH (z.put (z.w.less i)) (z.wEntities.e i)=match iJ z.gS (z.wEntities.e i) with|true=>(X2.no,2)|false=>(z,0):=by
 have hw:=kU hz;have hr:(z.wEntities.e i).right=true:=XO.g7.2 (hw.right i hi);have hf:av (z.put (z.w.less i)).w (z.wEntities.e i).iD=(i,false):=Ak hw hi;have hl:=hw.len;have hl:(z.wEntities.n:Int)<=64:=hl;have hA:gw (z.put (z.w.less i)).w (z.wEntities.e i)=(z.w,0):=by unfold gw;rw[XU.cA.2 (kU (oE hz hi).1),hr,hf];have hn:decide ((64:Int)<=(z.put (z.w.less i)).w.l.n)=false:=Xi (by show ¬(64:Int)<=((z.wEntities.n-1:Nat):Int);omega);simp only[Bool.and_self,hn];show ((z.w.less i).more i (z.w.l.e i),(0:Int))=_;rw[Hf (show i<z.w.l.n from hi)]
 unfold eH;rw[(oE hz hi).1,hr];have ha:(z.put (z.w.less i)).gS=z.gS:=rfl;simp only[Bool.and_self,ha];cases iJ z.gS (z.wEntities.e i) with
 | true=>rfl
 | false=>
  simp only[hA];rfl
theorem Oy(hz:cu z=true)(hi:i<z.wEntities.n):iJ z.gS (z.wEntities.e i)=((oF z.w (z.wEntities.e i).iD 1).2&&!inR z.gS ⟨(oF z.w (z.wEntities.e i).iD 1).1.v0,(oF z.w (z.wEntities.e i).iD 1).1.v1⟩):=by
 have hw:=kU hz;have hg:oF z.w (z.wEntities.e i).iD 1=qv (z.wEntities.e i).l 1:=get_at hw hi 1;have hinc:Inc (λx=>((z.wEntities.e i).l.c x).kind) (z.wEntities.e i).l.n:=(hw.right i hi).inc;rw[hg];have hC:qv (z.wEntities.e i).l 1=match (bu (z.wEntities.e i).l 1).2 with|true=>((bu (z.wEntities.e i).l 1).1,true)|false=>(aZ.no,false):=by
  cases hc:iu (z.wEntities.e i).l 1 with
  | true=>
   rw[K8 hinc hc];have X0:YK (λx=>decide (((z.wEntities.e i).l.c x).kind=1)) 0 (z.wEntities.e i).l.n<(z.wEntities.e i).l.n:=Od hc;unfold bu;rw[Xj X0];rfl
  | false=>
   rw[Pr hc];have X0:¬YK (λx=>decide (((z.wEntities.e i).l.c x).kind=1)) 0 (z.wEntities.e i).l.n<(z.wEntities.e i).l.n:=Xg hc;unfold bu;rw[Xi X0]
 rw[hC];unfold iJ Oz;cases (bu (z.wEntities.e i).l 1).2<;>rfl
set_option maxRecDepth 8000
set_option maxHeartbeats 2000000
def scC(a:fG):Cut:=⟨Nat,λk=>k<=a.n,λk=>⟨[sl 0 a.sv,sl 1 a.sv,sl 5 (i64 k)],[],0,0,[],[]⟩,λk=>a.n-k⟩
theorem Kf{x:Int}(h:decide (¬x=x)=true):False:=Od h rfl
theorem Rw(x:Int):decide (x=x)=true:=Xj rfl
theorem DK:∀a,aD ((λa=>[a.1=a.2,(a.1.n:Int)<=cp]) a)->aJ (C:=cx) [] [] 0 ⟨[],[],[4],0⟩ Tryz.f62 ((aH jv jv).enc a) λv H _=>ae ((λ_=>.bl true) a) H v:=by
 intro⟨a,b⟩ ⟨h,hn⟩;replace h:a=b:=h;subst h;replace hn:(a.n:Int)<=9223372036854775807:=hn;refine Ai (λhx=>(Kf hx).elim) (λ_=>?_);refine F8 (scC a) ?_;refine Ai ?_ ?_
 ·refine⟨(0:Nat),[],[],trivial,F9 _,?_⟩;repeat' first|apply Ai|exact rfl|intro
 refine fun(k:Nat) (hk:k<=a.n)=>?_;refine Ai (λhb=>?_) (λhb=>?_)
 ·have hb:(k:Int)<a.n:=Od hb;refine Ai ⟨by omega,by omega⟩ ?_;refine Ai ⟨by omega,by omega⟩ ?_;have hq:(!(decide ((a.e k).op=(a.e k).op)&&decide ((a.e k).a=(a.e k).a)))=false:=(by rw[Rw,Rw];rfl);refine Ai (λhx=>P' (hq.symm.trans hx) Bool.false_ne_true) (λ_=>?_);refine Ai (by unfold XT;omega:XT ((k:Int)+1)) ?_;refine⟨k+1,[],[],(by show a.n-(k+1)<a.n-k;omega),(by show k+1<=a.n;omega),?_⟩;repeat' first|apply Ai|exact rfl|intro
 exact rfl
def L9:XR cx:=af 62 Tryz.call62 (aH jv jv) _ _ (λ_=>⟨[],[],[4],0⟩) [] (λ_=>rfl) follows Tryz.func62 (by kernel_rfl) DK
theorem DI:∀a,aD ((λa=>[a.1=a.2,(a.1.code.n:Int)<=cp]) a)->aJ (C:=cx) [L9] [] 0 ak Tryz.f30 ((aH nQ nQ).enc a) λv H _=>ae ((λ_=>.bl true) a) H v:=by intro⟨a,b⟩ ⟨h,hn⟩;replace h:a=b:=h;subst h;replace hn:(a.code.n:Int)<=cp:=hn;refine Ai ⟨(by repeat' first|exact trivial|exact rfl|apply Ai|intro),(by repeat' first|exact trivial|exact rfl|apply Ai|intro),rfl,hn⟩ ?_;show true=_;simp
def L8:XR cx:=af 30 Tryz.call30 (aH nQ nQ) _ _ (λ_=>ak) [] (λ_=>rfl) follows Tryz.func30 (by kernel_rfl) DI
structure X2.Sz (z:X2):Prop where
 wn:(z.w.l.n:Int)<=cp
 wc:∀i,i<z.w.l.n->((z.w.l.e i).l.n:Int)<=cp
 r:(z.ropes.n:Int)<=cp
 s:(z.setupSystems.n:Int)<=cp
 p:(z.setupProgs.n:Int)<=cp
 c:∀i,i<z.setupProgs.n->((z.setupProgs.e i).code.n:Int)<=cp
theorem Lz(c:aZ):eqC c c=true:=by unfold eqC;simp
theorem om(e:XO):fM e e=true:=by unfold fM;rw[pH (g:=λi=>!eqC (e.l.c i) (e.l.c i)) λi _ _=>by rw[Lz];rfl];simp
theorem Cy(w:XU):nN w w=true:=by unfold nN;rw[pH (g:=λi=>!fM (w.l.e i) (w.l.e i)) λi _ _=>by rw[om];rfl];simp
def srC(a:X2)(n:Nat)(s:Nat):Cut:=⟨Nat,λk=>k<=n,λk=>⟨[sl 2 (.p 0 0),sl 3 (.p 1 0),sl s (i64 n),sl (s+1) (i64 k)],[(0,.lay a.cells 36),(1,.lay a.cells 36)],2,0,[],[]⟩,λk=>n-k⟩
theorem DF:∀a,aD ((λa=>[a.1=a.2,a.1.Sz]) a)->aJ (C:=cx) [L5,L8] [] 0 ⟨[],[],[4,10,16],0⟩ Tryz.f9 ((aH eZ eZ).enc a) λv H _=>ae ((λ_=>.bl true) a) H v:=by
 intro⟨a,b⟩ ⟨h,hz⟩;replace h:a=b:=h;subst h;replace hz:a.Sz:=hz;have YY:(!(decide (a.areaLowX=a.areaLowX)&&decide (a.areaLowY=a.areaLowY)&&(decide (a.areaHighX=a.areaHighX)&&decide (a.areaHighY=a.areaHighY)))||!(decide (a.gravityX=a.gravityX)&&decide (a.gravityY=a.gravityY))||!nN a.w a.w||decide (¬(a.ropes.n:Int)=a.ropes.n)||decide (¬a.setupSeed=a.setupSeed)||decide (¬a.setupFuel=a.setupFuel)||decide (¬(a.setupSystems.n:Int)=a.setupSystems.n)||decide (¬(a.setupProgs.n:Int)=a.setupProgs.n))=false:=by rw[Cy];simp
 refine Ai (λ_=>⟨(by repeat' first|exact trivial|exact rfl|apply Ai|intro),(by repeat' first|exact trivial|exact rfl|apply Ai|intro),hz.wn,hz.wc⟩) ?_;refine Ai (λhx=>P' (YY.symm.trans hx) Bool.false_ne_true) (λ_=>?_);refine F8 (srC a a.ropes.n 79) ?_;refine Ai ?_ ?_
 ·refine⟨(0:Nat),[],[],trivial,F9 _,?_⟩;repeat' first|apply Ai|exact rfl|intro
 refine fun(k:Nat) (hk:k<=a.ropes.n)=>?_;refine Ai (λhb=>?_) (λ_=>?_)
 ·have hb:(k:Int)<a.ropes.n:=Od hb;have hN:(a.ropes.n:Int)<=9223372036854775807:=hz.r;refine Ai ⟨by omega,by omega⟩ ?_;refine Ai ⟨by omega,by omega⟩ ?_;have hq:(!(decide ((a.ropes.e k).a=(a.ropes.e k).a)&&(decide ((a.ropes.e k).b=(a.ropes.e k).b)&&decide ((a.ropes.e k).len=(a.ropes.e k).len))))=false:=(by simp);refine Ai (λhx=>P' (hq.symm.trans hx) Bool.false_ne_true) (λ_=>?_);refine Ai (by unfold XT;omega:XT ((k:Int)+1)) ?_;refine⟨k+1,[],[],(by show a.ropes.n-(k+1)<a.ropes.n-k;omega),(by show k+1<=a.ropes.n;omega),?_⟩;repeat' first|apply Ai|exact rfl|intro
 refine F8 (srC a a.setupSystems.n 98) ?_;refine Ai ?_ ?_
 ·refine⟨(0:Nat),[],[],trivial,F9 _,?_⟩;repeat' first|apply Ai|exact rfl|intro
 refine fun(k:Nat) (hk:k<=a.setupSystems.n)=>?_;refine Ai (λhb=>?_) (λ_=>?_)
 ·have hb:(k:Int)<a.setupSystems.n:=Od hb;have hN:(a.setupSystems.n:Int)<=9223372036854775807:=hz.s;refine Ai ⟨by omega,by omega⟩ ?_;refine Ai ⟨by omega,by omega⟩ ?_;have hq:(!((a.setupSystems.e k).name.toList==(a.setupSystems.e k).name.toList&&(decide ((a.setupSystems.e k).reads=(a.setupSystems.e k).reads)&&(decide ((a.setupSystems.e k).writes=(a.setupSystems.e k).writes)&&decide ((a.setupSystems.e k).prog=(a.setupSystems.e k).prog)))))=false:=(by simp);refine Ai (λhx=>P' (hq.symm.trans hx) Bool.false_ne_true) (λ_=>?_);refine Ai (by unfold XT;omega:XT ((k:Int)+1)) ?_;refine⟨k+1,[],[],(by show a.setupSystems.n-(k+1)<a.setupSystems.n-k;omega),(by show k+1<=a.setupSystems.n;omega),?_⟩;repeat' first|apply Ai|exact rfl|intro
 refine F8 (srC a a.setupProgs.n 119) ?_;refine Ai ?_ ?_
 ·refine⟨(0:Nat),[],[],trivial,F9 _,?_⟩;repeat' first|apply Ai|exact rfl|intro
 refine fun(k:Nat) (hk:k<=a.setupProgs.n)=>?_;refine Ai (λhb=>?_) (λ_=>?_)
 ·have hb:(k:Int)<a.setupProgs.n:=Od hb;have hN:(a.setupProgs.n:Int)<=9223372036854775807:=hz.p;refine Ai ⟨by omega,by omega⟩ ?_;refine Ai ⟨by omega,by omega⟩ ?_;refine Ai ⟨(by repeat' first|exact trivial|exact rfl|apply Ai|intro),(by repeat' first|exact trivial|exact rfl|apply Ai|intro),rfl,hz.c k (by omega)⟩ ?_;refine Ai (by unfold XT;omega:XT ((k:Int)+1)) ?_;refine⟨k+1,[],[],(by show a.setupProgs.n-(k+1)<a.setupProgs.n-k;omega),(by show k+1<=a.setupProgs.n;omega),?_⟩;repeat' first|apply Ai|exact rfl|intro
 exact rfl
def L6:XR cx:=af 9 Tryz.call9 (aH eZ eZ) _ _ (λ_=>⟨[],[],[4,10,16],0⟩) [] (λ_=>rfl) follows Tryz.func9 (by kernel_rfl) DF
def pG(w:XU)(f:Fam)(i:Nat):Bool:=decide ((((w.l.e i).l.n:Nat):Int)=0)||decide (¬((w.l.e i).l.c 0).v0=f.g (2*(i:Int)).toNat)||decide (¬((w.l.e i).l.c 0).v1=f.g (2*(i:Int)+1).toNat)
def atW(w:XU)(f:Fam):Bool:=!decide (¬2*(w.l.n:Int)=f.n)&&!bQ (pG w f) 0 w.l.n
def atC(w:XU)(f:Fam):Cut:=⟨Nat,λk=>k<=w.l.n∧bQ (pG w f) 0 w.l.n=bQ (pG w f) k (w.l.n-k),λk=>⟨[sl 1 (.rs 1 f.n λi=>[.v (.int .i64 (f.g i))]),sl 15 w.l.sv,sl 16 (i64 w.l.n),sl 17 (i64 k)],[],1,0,[],[]⟩,λk=>w.l.n-k⟩
set_option maxHeartbeats 2000000 in
set_option maxRecDepth 8000 in
theorem IT:∀a,aD ((λa=>[a.1.l.n<=100000]) a)->aJ (C:=cx) [] [] 0 ⟨[1006],[],[4],0⟩ Tryz.f21 ((aH cI (rdF .i64)).enc a) λv H _=>ae ((λa=>.v (.bool (atW a.1 a.2))) a) H v:=by
 intro⟨w,f⟩ hn;replace hn:w.l.n<=100000:=hn;refine Ai (show Yd (2*(w.l.n:Int)) by unfold Yd;omega) ?_;refine Ai (λhx=>?_) (λhx=>?_);have hx:decide (¬2*(w.l.n:Int)=f.n)=true:=hx;have e:atW w f=false:=(by unfold atW;rw[hx];rfl);simp only[e];exact rfl;have hx:decide (¬2*(w.l.n:Int)=f.n)=false:=hx;have hl:2*(w.l.n:Int)=f.n:=by simpa using hx
 refine F8 (atC w f) ?_;refine Ai ?_ ?_
 ·refine⟨(0:Nat),[],[],trivial,⟨F9 _,rfl⟩,?_⟩;repeat' first|apply Ai|exact rfl|intro
 refine fun(k:Nat) (hk:k<=w.l.n∧bQ (pG w f) 0 w.l.n=bQ (pG w f) k (w.l.n-k))=>?_;obtain⟨k1,k2⟩:=hk;refine Ai (λhb=>?_) (λhb=>?_)
 ·have hb:(k:Int)<w.l.n:=Od hb;have e:=eA (g:=pG w f) (k:=k) (n:=w.l.n) (by omega);refine Ai ⟨by omega,by omega⟩ ?_;have kn:∀{b:Bool},decide ((((w.l.e k).l.n:Nat):Int)=0)=false->0<((w.l.e k).l.n:Int):=λh=>(by have:=Xg h;omega);have g2:(decide ((((w.l.e k).l.n:Nat):Int)=0)||decide (¬((w.l.e k).l.c 0).v0=f.g (2*(k:Int)).toNat))=false->0<((w.l.e k).l.n:Int):=λh=>(by rw[Xp] at h;exact kn (b:=true) h.1);refine Ai (λhq=>⟨Int.le_refl 0,kn (b:=true) hq⟩) ?_;refine Ai (λ_=>(by unfold Yd;omega:Yd (2*(k:Int)))) ?_;refine Ai (λ_=>⟨(by omega:0<=2*(k:Int)),(by omega:2*(k:Int)<f.n)⟩) ?_;refine Ai (λhq=>⟨Int.le_refl 0,g2 hq⟩) ?_;refine Ai (λ_=>(by unfold Yd;omega:Yd (2*(k:Int)))) ?_;refine Ai (λ_=>(by unfold Yd;omega:Yd (2*(k:Int)+1))) ?_;refine Ai (λ_=>⟨(by omega:0<=2*(k:Int)+1),(by omega:2*(k:Int)+1<f.n)⟩) ?_;refine Ai (λhc=>?_) (λhc=>?_);have hc:pG w f k=true:=hc;simp only[hc] at e;have e1:atW w f=false:=(by unfold atW;rw[k2,e];simp);simp only[e1];exact rfl;have hc:pG w f k=false:=hc;simp only[hc] at e;refine Ai (by unfold XT;omega:XT ((k:Int)+1)) ?_;refine⟨k+1,[],[],(by show w.l.n-(k+1)<w.l.n-k;omega),⟨by omega,by rw[k2,e]⟩,?_⟩;repeat' first|apply Ai|exact rfl|intro
 have hb:¬(k:Int)<w.l.n:=Xg hb;have e0:bQ (pG w f) 0 w.l.n=false:=by rw[k2,show w.l.n-k=0 by omega];rfl
 have e1:atW w f=true:=by unfold atW;rw[e0,hx];rfl
 simp only[e1];exact rfl
def FN:XR cx:=af 21 Tryz.call21 (aH cI (rdF .i64)) _ _ (λ_=>⟨[1006],[],[4],0⟩) [1006] (λ_=>rfl) follows Tryz.func21 (by kernel_rfl) IT
end
end Go.Proofs.YtmdpdknpapjchaaGreatDoor
