/- workers.All, zone.Tick (in company).. -/
import Derived.Test.YtgigkennhdolpaaGreatDoorM37
import Derived.Test.YtgigkennhdolpaaGreatDoorM36
import Derived.Test.YtgigkennhdolpaaGreatDoorM44
namespace Go.Proofs.YtgigkennhdolpaaGreatDoor
open Go.RowKit
set_option maxRecDepth 8000
set_option maxHeartbeats 2000000
def LJ(w:U8):SV:=.tup [w.sv,fZ,.il .i64 0]
theorem B7:∀a,aH ((λa=>[a.1.valid=true,a.1.l.Sm,a.1.l.n<=1000,∀i,i<a.1.l.n->(a.1.l.e i).l.n<=1000,a.2.uk]) a)->aM (C:=Wa) [wZ] [] 0 av Tryz.f42 ((aL c8 mW).enc a) λv H _=>ae ((λa=>LJ a.1) a) H v:=by
 intro⟨w,x⟩ ⟨hv,hs,hn,hc,hx⟩;replace hv:w.valid=true:=hv;replace hs:w.l.Sm:=hs;replace hn:w.l.n<=1000:=hn;replace hc:∀i,i<w.l.n->(w.l.e i).l.n<=1000:=hc;replace hx:x.uk:=hx;refine Ai ⟨by repeat' (first|exact trivial|exact rfl|refine Ai ?_ ?_|intro _),λ_ _=>trivial,λi hi=>Up (hx.p▸hi) (F' _),hv,hs,hn,hc,hx,rfl⟩ ?_;repeat' (first|refine Ai ?_ ?_|intro _|exact rfl)
 all_goals exact Up ‹_<0› (F' _)
noncomputable def J1:UO Wa:=ai (C:=Wa) 42 Tryz.call42 (aL c8 mW) _ _ (λ_=>av) [] (λ_=>rfl) follows Tryz.func42 (by kernel_rfl) B7
noncomputable def vj(F:U8->bX->U8×Int)(hF:F=bJ):UO cx:=ai 21 Tryz.call21 (aL c8 gU) (λa=>[a.1.l.Sm,(a.2.n:Int)<=bY,∀i,i<a.2.n->Vd (a.2.e i).moveX∧Vd (a.2.e i).moveY]) (λa=>.tup [(F a.1 a.2).1.sv,.v (.int .i64 (F a.1 a.2).2)]) (λ_=>⟨[20],[14],[5,13],0⟩) [20] (λ_=>rfl) follows Tryz.func21 (by kernel_rfl) (by subst hF;exact BM)
def Yn(w:U8)(g:Vec):U8:=gh (xH (vJ w g)) w
def stS(w:U8)(g:Vec):j0:=np (nj (vJ w g))
noncomputable def zC(B:U8->Vec->U8)(hB:B=Yn)(S:U8->Vec->j0)(hS:S=stS):UO cx:=ai 44 Tryz.call44 (ib c8 mX eI) (λa=>[a.1.valid=true,a.1.l.Sm,a.2.1.n=0,(bw a.1.l a.1.l.n).length<=1,gOk a.2.2]) (λa=>.tup [(B a.1 a.2.2).sv,(S a.1 a.2.2).sv,.il .i64 0]) (λ_=>av) [] (λ_=>rfl) follows Tryz.func44 (by kernel_rfl) (by subst hB hS;exact xl)
def E3(a:X4)(w:U8):XP:=⟨(kM a w.l w.l.n).length,λi=>(kM a w.l w.l.n).getD i 0⟩
def XP.svI(f:XP):SV:=.rs 1 f.n λi=>[.v (.int .i64 (f.g i))]
noncomputable def JV(Gf:X4->U8->XP)(hG:Gf=E3):UO cx:=ai 45 Tryz.call45 (aL Cy c8) (λa=>[a.2.l.n<=1000,∀i,i<a.2.l.n->((a.2.l.e i).l.n:Int)<=bY]) (λa=>(Gf a.1 a.2).svI) (λ_=>⟨[1006],[],[3],0⟩) [1006] (λ_=>rfl) follows Tryz.func45 (by kernel_rfl) (by subst hG;exact Gv)
def XT(z:Va):Vec:=⟨z.gravityX,z.gravityY⟩
def vE(F:U8->bX->U8×Int)(B:U8->Vec->U8)(z:Va)(l:bX):Va:=⟨z.areaLowX,z.areaLowY,z.areaHighX,z.areaHighY,(B (F z.w l).1 (XT z)).tick+1,(B (F z.w l).1 (XT z)).l,z.setupSystems,z.setupProgs,z.setupSeed,z.setupFuel,z.ropes,z.gravityX,z.gravityY⟩
def RH(F:U8->bX->U8×Int)(B:U8->Vec->U8)(S:U8->Vec->j0)(Gf:X4->U8->XP)(z:Va)(l:bX):SV:=.agg [fZ,(S (F z.w l).1 (XT z)).sv,(Gf z.tG (vE F B z l).w).svI]
theorem pR(l:WU):∀i,i<l.n->aI (fg HX (l.e i).cells):=λ_ _ _ _=>trivial
theorem SC{p:Vec}(h:X6 yO p=true):gOk p:=by unfold X6 at h;simp only[Uk,Uq] at h;obtain⟨⟨⟨h1,h2⟩,h3⟩,h4⟩:=h;exact⟨⟨h1,h2⟩,h3,h4⟩
structure qp (F:U8->bX->U8×Int) (B:U8->Vec->U8) (z:Va) (l:bX):Prop where
 sm:z.w.l.Sm
 zv:z.w.valid=true
 ok:z.Ok
 n:(l.n:Int)<=bY
 mv:∀i,i<l.n->Vd (l.e i).moveX∧Vd (l.e i).moveY
 st:(F z.w l).2=0
 v:(F z.w l).1.valid=true
 ssm:(F z.w l).1.l.Sm
 b:(bw (F z.w l).1.l (F z.w l).1.l.n).length<=1
 t:(F z.w l).1.tick<1073741824
 bt:Vd ((B (F z.w l).1 (XT z)).tick+1)
 gn:(B (F z.w l).1 (XT z)).l.n<=1000
 gc:∀i,i<(B (F z.w l).1 (XT z)).l.n->(((B (F z.w l).1 (XT z)).l.e i).l.n:Int)<=bY
 gp:∀i,i<(B (F z.w l).1 (XT z)).l.n->(bx ((B (F z.w l).1 (XT z)).l.e i).l 1).2=true
noncomputable def Mk:V3 Wa:=⟨41,Tryz.call41,Tryz.f41,Tryz.func41,[],[],[],0,by kernel_rfl⟩
noncomputable def Mj:V3 Wa:=⟨43,Tryz.call43,Tryz.f43,Tryz.func43,[],[],[],0,by kernel_rfl⟩
def qH:List SV:=[.il .i64 0,.il .i64 0,.il .i64 0,.il .i64 0,.il .i64 0,.v (.slice none 0 0),.v (.slice none 0 0),.v (.slice none 0 0),.il .u64 0,.il .i64 0,.v (.slice none 0 0),.il .i64 0,.il .i64 0]
def tkC(z:Va)(W:U8)(T:j0):Cut:=⟨U8×j0,λa=>a.1=W∧a.2=T,λa=>⟨[sl 4 (.p 1 0),sl 5 (.p 2 0),sl 7 (.p 3 0),sl 8 (.p 4 0),sl 9 (.p 5 0)],
 [(1,.lay qH 36),(2,.lay [.v (.slice none 0 0),.v (.slice none 0 0),.v (.slice none 0 0)] 51),(3,.lay z.cells 36),(4,.lay [fZ,a.2.sv,.v (.slice none 0 0)] 51),(5,.lay a.1.cells 28)],7,0,[],[]⟩,λ_=>0⟩
theorem KY{z:Va}(h:z.Ok)(hv:z.w.valid=true):xq z=true:=by
 have hr:dh z.ropes=false:=by unfold dh VM VI;rw[h.ro];rfl
 have hb:jq z=false:=by unfold jq;rw[h.lo,h.hi,h.in_,h.gr,h.ro];rfl
 unfold xq;rw[hr,hb,hv];rfl
section
variable (F:U8->bX->U8×Int)(hF:F=bJ)(B:U8->Vec->U8)(hB:B=Yn)(S:U8->Vec->j0)(hS:S=stS)(Gf:X4->U8->XP)(hG:Gf=E3)
theorem FO:∀a,aH ((λa:Va×bX=>[qp F B a.1 a.2]) a)->aM (C:=Wa) [Qw.lift rfl,M0.lift rfl,(vj F hF).lift rfl,J1,(zC B hB S hS).lift rfl,(JV Gf hG).lift rfl] [Mk,Mj] 1 ⟨[6,15,18,19],[17],[],4⟩ Tryz.f13 ((aL dD gU).enc a) λv H _=>ae ((λa=>.tup [(vE F B a.1 a.2).sv,RH F B S Gf a.1 a.2,.v (.int .i64 0)]) a) H v:=by
 intro⟨z,l⟩ hT;replace hT:qp F B z l:=hT;have U4:=hT.ok.st;have hsy:z.setupSystems.n=0:=U4.s;have hpr:z.setupProgs.n=0:=U4.p;have VX:=hT.ok.ro;have hv:=hT.zv;have hV:=U8.ew.1 hv;have hlen:=hV.len;have Zs:z.w.l.n<=1000∧∀i,i<z.w.l.n->(z.w.l.e i).l.n<=1000:=⟨by omega,λi hi=>by have:=(hV.right i hi).len;omega⟩
 refine Ai ⟨pR _,λi hi=>Up (hsy▸hi) (F' _),λi hi=>Up (hpr▸hi) (F' _),λi hi=>Up (VX▸hi) (F' _),hT.sm,(show (z.ropes.n:Int)<=bY by rw[VX];decide),U4⟩ ?_;refine Ai (λhc=>Up (show (!xq z)=true from hc) (by rw[KY hT.ok hv];decide)) (λ_=>?_);refine Ai ⟨pR _,λi hi=>Up (hsy▸hi) (F' _),λi hi=>Up (hpr▸hi) (F' _),λi hi=>Up (VX▸hi) (F' _),Zs.1,Zs.2,hsy,hpr,(show z.ropes.n<=1000 by omega)⟩ ?_;refine Ai ⟨pR _,λ_ _=>trivial,hT.sm,hT.n,hT.mv⟩ ?_;have hS':=U8.ew.1 hT.v;have X7:=hS'.len;have hss:(F z.w l).1.l.n<=1000∧∀i,i<(F z.w l).1.l.n->((F z.w l).1.l.e i).l.n<=1000:=⟨by omega,λi hi=>by have:=(hS'.right i hi).len;omega⟩
 have hg:=SC hT.ok.gr;have hE2:=hT.st;refine Ai (λhc=>Up (show decide (¬(F z.w l).2=0)=true from hc) (by rw[hE2];decide)) (λ_=>?_);refine Ai (λhc=>Up (show (1073741824:Int)<=(F z.w l).1.tick from Od hc) (by have:=hT.t;omega)) (λ_=>?_);refine Uh (tkC z (B (F z.w l).1 (XT z)) (S (F z.w l).1 (XT z))) ?_;refine Ai ?_ ?_
 ·refine Ai ⟨pR _,λ_ _=>trivial,λi hi=>Up (hpr▸hi) (F' _),hT.v,hT.ssm,hss.1,hss.2,U4⟩ ?_;refine Ai ⟨pR _,λi hi=>Up (VX▸hi) (F' _),hT.v,hT.ssm,VX,hT.b,hg⟩ ?_;refine⟨(B (F z.w l).1 (XT z),S (F z.w l).1 (XT z)),[],[],trivial,⟨rfl,rfl⟩,?_⟩;repeat' (first|refine Ai ?_ ?_|intro _|exact rfl)
  all_goals first|(exact Up (show _<0 by assumption) (F' _))|(exact Up (Nat.lt_of_lt_of_eq (by assumption) hsy) (F' _))
 refine fun(a:U8×j0) (ha:a.1=B (F z.w l).1 (XT z)∧a.2=S (F z.w l).1 (XT z))=>?_;obtain⟨W,T⟩:=a;obtain⟨h1,h2⟩:W=B (F z.w l).1 (XT z)∧T=S (F z.w l).1 (XT z):=ha;refine Ai (show Vd (W.tick+1) by rw[h1];exact hT.bt) ?_;refine Ai ⟨pR _,(show W.l.n<=1000 by rw[h1];exact hT.gn),(show ∀i,i<W.l.n->((W.l.e i).l.n:Int)<=bY by rw[h1];exact hT.gc)⟩ ?_;subst h1 h2;repeat' (first|refine Ai ?_ ?_|intro _|exact rfl)
 all_goals first|(exact Up (show _<0 by assumption) (F' _))|(exact Up (Nat.lt_of_lt_of_eq (by assumption) hsy) (F' _))|trace_state
end
set_option maxRecDepth 8000
set_option maxHeartbeats 2000000
theorem Kp:∀a,aH ((λa=>[a.Lim,cm a=false]) a)->aM (C:=cx) [rj,iE,JF,tB] [] 0 av Tryz.f14 ((bh dD).enc a) λv H _=>ae ((λ_=>.bl false) a) H v:=by intro z ⟨hz,hv⟩;replace hz:z.Lim:=hz;replace hv:cm z=false:=hv;refine Ai (λhb=>?_) (λhb=>?_);exact rfl;have hb:jq z=false:=hb;refine Ai ⟨(by repeat' (first|exact trivial|exact rfl|refine Ai ?_ ?_|intro _)),hz.r,rfl⟩ ?_;refine Ai (λ_=>⟨(by repeat' (first|exact trivial|exact rfl|refine Ai ?_ ?_|intro _)),hz.l⟩) ?_;refine Ai (λ_=>⟨(by repeat' (first|exact trivial|exact rfl|refine Ai ?_ ?_|intro _)),(by repeat' (first|exact trivial|exact rfl|refine Ai ?_ ?_|intro _)),hz.s,hz.p,hz.c⟩) ?_;exact hv.symm.trans ((by unfold cm;rw[hb];rfl:cm z=(!dh z.ropes&&(z.w.valid&&qx z.stp))).trans (Bool.and_assoc _ _ _).symm)
noncomputable def Bw:UO cx:=ai 14 Tryz.call14 (bh dD) _ _ (λ_=>av) [] (λ_=>rfl) follows Tryz.func14 (by kernel_rfl) Kp
def N9:List SV:=[.il .i64 0,.v (.slice none 0 0)]
theorem Gu:∀a,aH ((λa=>[a.Lim,cm a=false]) a)->aM (C:=cx) [Bw] [] 0 av Tryz.f19 ((bh dD).enc a) λv H _=>ae ((λ_=>.tup [.v (.slice none 0 0),.il .i64 2]) a) H v:=by intro z ⟨hz,hv⟩;refine Ai ⟨(by repeat' (first|exact trivial|exact rfl|refine Ai ?_ ?_|intro _)),(by repeat' (first|exact trivial|exact rfl|refine Ai ?_ ?_|intro _)),(by repeat' (first|exact trivial|exact rfl|refine Ai ?_ ?_|intro _)),(by repeat' (first|exact trivial|exact rfl|refine Ai ?_ ?_|intro _)),hz,hv⟩ ?_;repeat' (first|refine Ai ?_ ?_|intro _|exact rfl)
noncomputable def M9:UO cx:=ai 19 Tryz.call19 (bh dD) _ _ (λ_=>av) [] (λ_=>rfl) follows Tryz.func19 (by kernel_rfl) Gu
theorem Gw:∀a,aH ((λa=>[a.1.Lim,cm a.1=false]) a)->aM (C:=cx) [Bw] [] 0 ⟨[11],[],[],0⟩ Tryz.f28 ((aL dD (VK .i64)).enc a) λv H _=>ae ((λ_=>.tup [.agg ru,.agg N9,.il .i64 2]) a) H v:=by intro⟨z,i⟩ ⟨hz,hv⟩;refine Ai ⟨(by repeat' (first|exact trivial|exact rfl|refine Ai ?_ ?_|intro _)),(by repeat' (first|exact trivial|exact rfl|refine Ai ?_ ?_|intro _)),(by repeat' (first|exact trivial|exact rfl|refine Ai ?_ ?_|intro _)),(by repeat' (first|exact trivial|exact rfl|refine Ai ?_ ?_|intro _)),hz,hv⟩ ?_;repeat' (first|refine Ai ?_ ?_|intro _|exact rfl)
noncomputable def Na:UO cx:=ai 28 Tryz.call28 (aL dD (VK .i64)) _ _ (λ_=>⟨[11],[],[],0⟩) [11] (λ_=>rfl) follows Tryz.func28 (by kernel_rfl) Gw
theorem FQ:∀a,aH ((λa=>[a.1.Lim,cm a.1=false,a.2.l.Sm]) a)->aM (C:=cx) [Bw,zD] [] 0 ⟨[4],[],[],0⟩ Tryz.f29 ((aL dD g8).enc a) λv H _=>ae ((λ_=>.tup [.agg ru,.il .i64 2]) a) H v:=by
 intro⟨z,e⟩ ⟨hz,hv,he⟩;replace he:e.l.Sm:=he;refine Ai ⟨(by repeat' (first|exact trivial|exact rfl|refine Ai ?_ ?_|intro _)),(by repeat' (first|exact trivial|exact rfl|refine Ai ?_ ?_|intro _)),(by repeat' (first|exact trivial|exact rfl|refine Ai ?_ ?_|intro _)),(by repeat' (first|exact trivial|exact rfl|refine Ai ?_ ?_|intro _)),hz,hv⟩ ?_;first|refine Ai (λ_=>⟨(by repeat' (first|exact trivial|exact rfl|refine Ai ?_ ?_|intro _)),he⟩) ?_|refine Ai ⟨(by repeat' (first|exact trivial|exact rfl|refine Ai ?_ ?_|intro _)),he⟩ ?_
 repeat' (first|refine Ai ?_ ?_|intro _|exact rfl)
noncomputable def MS:UO cx:=ai 29 Tryz.call29 (aL dD g8) _ _ (λ_=>⟨[4],[],[],0⟩) [4] (λ_=>rfl) follows Tryz.func29 (by kernel_rfl) FQ
def jb(z:Va)(l:bX):Int:=match cm z,eE z.w l with
 | true,false=>300
 | _,_=>2
structure Kw (z:Va) (l:bX):Prop where
 lim:z.Lim
 cop:z.Cop
 n:(l.n:Int)<=bY
 mv:∀i,i<l.n->Vd (l.e i).moveX∧Vd (l.e i).moveY
 bad:cm z=true->eE z.w l=false->1073741824<=z.wTick
def N8:List SV:=[.v (.slice none 0 0),.v (.slice none 0 0),.v (.slice none 0 0)]
section
variable (F:U8->bX->U8×Int)(hF:F=bJ)
theorem FP:∀a,aH ((λa=>[Kw a.1 a.2]) a)->aM (C:=cx) [JE,MZ,vj F hF] [] 0 ⟨[6,15,18,19],[],[],0⟩ Tryz.f13 ((aL dD gU).enc a) λv H _=>ae ((λa=>.tup [.agg ru,.agg N8,.v (.int .i64 (jb a.1 a.2))]) a) H v:=by
 intro⟨z,l⟩ hT;replace hT:Kw z l:=hT;refine Ai ⟨(by repeat' (first|exact trivial|exact rfl|refine Ai ?_ ?_|intro _)),(by repeat' (first|exact trivial|exact rfl|refine Ai ?_ ?_|intro _)),(by repeat' (first|exact trivial|exact rfl|refine Ai ?_ ?_|intro _)),(by repeat' (first|exact trivial|exact rfl|refine Ai ?_ ?_|intro _)),hT.lim⟩ ?_;refine Ai (λhb=>?_) (λhb=>?_)
 ·have hb:(!cm z)=true:=hb;have hv:cm z=false:=(by simpa using hb);have e:jb z l=2:=(by unfold jb;rw[hv]);repeat' (first|refine Ai ?_ ?_|intro _|exact rfl)
  all_goals exact e
 have hb:(!cm z)=false:=hb;have hv:cm z=true:=by simpa using hb
 refine Ai ⟨(by repeat' (first|exact trivial|exact rfl|refine Ai ?_ ?_|intro _)),(by repeat' (first|exact trivial|exact rfl|refine Ai ?_ ?_|intro _)),(by repeat' (first|exact trivial|exact rfl|refine Ai ?_ ?_|intro _)),(by repeat' (first|exact trivial|exact rfl|refine Ai ?_ ?_|intro _)),hT.cop⟩ ?_;refine Ai ⟨(by repeat' (first|exact trivial|exact rfl|refine Ai ?_ ?_|intro _)),(by repeat' (first|exact trivial|exact rfl|refine Ai ?_ ?_|intro _)),hT.lim.l,hT.n,hT.mv⟩ ?_;refine Ai (λhc=>?_) (λhc=>?_)
 ·have hc:¬(F z.w l).2=0:=Od hc;have hs:eE z.w l=true:=by
   cases h:eE z.w l with
   | true=>rfl
   | false=>exact Up (by rw[hF];unfold bJ;rw[h]) hc
  have e:(F z.w l).2=2:=(by rw[hF];unfold bJ;rw[hs]);have e2:jb z l=2:=(by unfold jb;rw[hs,hv]);repeat' (first|refine Ai ?_ ?_|intro _|exact rfl)
  all_goals exact e2.trans e.symm
 have hc:(F z.w l).2=0:=Decidable.of_not_not (Ur hc);have hs:eE z.w l=false:=by
  cases h:eE z.w l with
  | false=>rfl
  | true=>rw[hF] at hc;unfold bJ at hc;rw[h] at hc;exact Up (show (2:Int)=0 from hc) (by decide)
 have ht:=hT.bad hv hs;have et:(F z.w l).1.tick=z.wTick:=by rw[hF];unfold bJ;rw[hs];rfl
 have e:jb z l=300:=by unfold jb;rw[hs,hv]
 refine Ai (λhd=>?_) (λhd=>?_)
 ·(repeat' (first|refine Ai ?_ ?_|intro _|exact rfl));all_goals exact e
 have hd:¬1073741824<=(F z.w l).1.tick:=Ur hd;exact Up (by rw[et];exact ht) hd
end
noncomputable def MR:UO cx:=ai 13 Tryz.call13 (aL dD gU) (λa=>[Kw a.1 a.2]) (λa=>.tup [.agg ru,.agg N8,.v (.int .i64 (jb a.1 a.2))]) (λ_=>⟨[6,15,18,19],[],[],0⟩) [6,15,18,19] (λ_=>rfl) follows Tryz.func13 (by kernel_rfl) (FP bJ rfl)
def oG(w:U8)(f:XP)(i:Nat):Bool:=decide ((((w.l.e i).l.n:Nat):Int)=0)||decide (¬((w.l.e i).l.c 0).v0=f.g (2*(i:Int)).toNat)||decide (¬((w.l.e i).l.c 0).v1=f.g (2*(i:Int)+1).toNat)
def atW(w:U8)(f:XP):Bool:=!decide (¬2*(w.l.n:Int)=f.n)&&!bN (oG w f) 0 w.l.n
def atC(w:U8)(f:XP):Cut:=⟨Nat,λk=>k<=w.l.n∧bN (oG w f) 0 w.l.n=bN (oG w f) k (w.l.n-k),λk=>⟨[sl 1 (.rs 1 f.n λi=>[.v (.int .i64 (f.g i))]),sl 15 w.l.sv,sl 16 (i64 w.l.n),sl 17 (i64 k)],[],1,0,[],[]⟩,λk=>w.l.n-k⟩
set_option maxHeartbeats 2000000 in
set_option maxRecDepth 8000 in
theorem GK:∀a,aH ((λa=>[a.1.l.n<=100000]) a)->aM (C:=cx) [] [] 0 ⟨[1006],[],[4],0⟩ Tryz.f38 ((aL c8 (rdF .i64)).enc a) λv H _=>ae ((λa=>.v (.bool (atW a.1 a.2))) a) H v:=by
 intro⟨w,f⟩ hn;replace hn:w.l.n<=100000:=hn;refine Ai (show Vd (2*(w.l.n:Int)) by unfold Vd;omega) ?_;refine Ai (λhx=>?_) (λhx=>?_);have hx:decide (¬2*(w.l.n:Int)=f.n)=true:=hx;have e:atW w f=false:=(by unfold atW;rw[hx];rfl);simp only[e];exact rfl;have hx:decide (¬2*(w.l.n:Int)=f.n)=false:=hx;have hl:2*(w.l.n:Int)=f.n:=by simpa using hx
 refine Uh (atC w f) ?_;refine Ai ?_ ?_
 ·refine⟨(0:Nat),[],[],trivial,⟨Ui _,rfl⟩,?_⟩;repeat' (first|refine Ai ?_ ?_|intro _|exact rfl)
 refine fun(k:Nat) (hk:k<=w.l.n∧bN (oG w f) 0 w.l.n=bN (oG w f) k (w.l.n-k))=>?_;obtain⟨k1,k2⟩:=hk;refine Ai (λhb=>?_) (λhb=>?_)
 ·have hb:(k:Int)<w.l.n:=Od hb;have e:=dS (g:=oG w f) (k:=k) (n:=w.l.n) (by omega);refine Ai ⟨by omega,by omega⟩ ?_;have kn:∀{b:Bool},decide ((((w.l.e k).l.n:Nat):Int)=0)=false->0<((w.l.e k).l.n:Int):=λh=>(by have:=Ur h;omega);have g2:(decide ((((w.l.e k).l.n:Nat):Int)=0)||decide (¬((w.l.e k).l.c 0).v0=f.g (2*(k:Int)).toNat))=false->0<((w.l.e k).l.n:Int):=λh=>(by rw[UA] at h;exact kn (b:=true) h.1);refine Ai (λhq=>⟨Int.le_refl 0,kn (b:=true) hq⟩) ?_;refine Ai (λ_=>(by unfold Vd;omega:Vd (2*(k:Int)))) ?_;refine Ai (λ_=>⟨(by omega:0<=2*(k:Int)),(by omega:2*(k:Int)<f.n)⟩) ?_;refine Ai (λhq=>⟨Int.le_refl 0,g2 hq⟩) ?_;refine Ai (λ_=>(by unfold Vd;omega:Vd (2*(k:Int)))) ?_;refine Ai (λ_=>(by unfold Vd;omega:Vd (2*(k:Int)+1))) ?_;refine Ai (λ_=>⟨(by omega:0<=2*(k:Int)+1),(by omega:2*(k:Int)+1<f.n)⟩) ?_;refine Ai (λhc=>?_) (λhc=>?_);have hc:oG w f k=true:=hc;simp only[hc] at e;have e1:atW w f=false:=(by unfold atW;rw[k2,e];simp);simp only[e1];exact rfl;have hc:oG w f k=false:=hc;simp only[hc] at e;refine Ai (by unfold UP;omega:UP ((k:Int)+1)) ?_;refine⟨k+1,[],[],(by show w.l.n-(k+1)<w.l.n-k;omega),⟨by omega,by rw[k2,e]⟩,?_⟩;repeat' (first|refine Ai ?_ ?_|intro _|exact rfl)
 have hb:¬(k:Int)<w.l.n:=Ur hb;have e0:bN (oG w f) 0 w.l.n=false:=by rw[k2,show w.l.n-k=0 by omega];rfl
 have e1:atW w f=true:=by unfold atW;rw[e0,hx];rfl
 simp only[e1];exact rfl
noncomputable def DN:UO cx:=ai 38 Tryz.call38 (aL c8 (rdF .i64)) _ _ (λ_=>⟨[1006],[],[4],0⟩) [1006] (λ_=>rfl) follows Tryz.func38 (by kernel_rfl) GK
noncomputable def zB(T:Va->bX->Va)(hT:T=vE bJ Yn)(S:Va->bX->j0)(hS:S=λz l=>stS (bJ z.w l).1 (XT z))(Gn:Va->bX->XP)(hG:Gn=λz l=>E3 z.tG (vE bJ Yn z l).w):UO Wa:=ai (C:=Wa) 13 Tryz.call13 (aL dD gU) (λa=>[qp bJ Yn a.1 a.2]) (λa=>.tup [(T a.1 a.2).sv,.agg [fZ,(S a.1 a.2).sv,(Gn a.1 a.2).svI],.v (.int .i64 0)]) (λ_=>⟨[6,15,18,19],[17],[],4⟩) [6,15,18,19] (λ_=>rfl) follows Tryz.func13 (by kernel_rfl) (by subst hT hS hG;exact FO bJ rfl Yn rfl stS rfl E3 rfl)
def z0:Va:=Va.of (Ra exW)
def TU:SV:=match rl cx 57 2 [(0,.agg [.il .i64 2,.il .i64 5,.il .i64 0,.il .i64 70,.il .i64 (-35),.bl false,.il .i64 0,.il .i64 0,.il .i64 0,.il .i64 0]),(1,.agg [.il .i64 2,.il .i64 4,.il .i64 0,.il .i64 1,.il .i64 1,.bl false,.il .i64 0,.il .i64 0,.il .i64 0,.il .i64 0])] with|some r=>r.v|none=>.e
def l0:bX:=bX.of TU
def lN:bX:=bX.of (.v (.slice none 0 0))
def smC(l:WL):Bool:=decide ((l.n:Int)<=9223372036854775807)&&!bN (λj=>!(decide (0<=(l.c j).kind)&&decide ((l.c j).kind<=255))) 0 l.n
def smB(l:WU):Bool:=decide ((l.n:Int)<=9223372036854775807)&&!bN (λi=>!smC (l.e i).l) 0 l.n
theorem O9{l:WL}(h:smC l=true):l.Sm:=by simp only[smC,Uk,Uq,Bool.not_eq_true'] at h;refine⟨h.1,λi hi=>?_⟩;have:=gG h.2 i (Ui _) (by omega);simpa using this
theorem AM{l:WU}(h:smB l=true):l.Sm:=by simp only[smB,Uk,Uq,Bool.not_eq_true'] at h;refine⟨h.1,λi hi=>?_⟩;have:=gG h.2 i (Ui _) (by omega);exact O9 (by simpa using this)
def mvB(l:bX):Bool:=!bN (λi=>!(IT (l.e i).moveX&&IT (l.e i).moveY)) 0 l.n
theorem PF{l:bX}(h:mvB l=true):∀i,i<l.n->Vd (l.e i).moveX∧Vd (l.e i).moveY:=λi hi=>by simp only[mvB,Bool.not_eq_true'] at h;have:=gG h i (Ui _) (by omega);simp only[Bool.not_eq_false',Uk] at this;exact⟨q9 this.1,q9 this.2⟩
def gpB(l:WU):Bool:=!bN (λi=>!(bx (l.e i).l 1).2) 0 l.n
theorem Qd{l:WU}(h:gpB l=true):∀i,i<l.n->(bx (l.e i).l 1).2=true:=λi hi=>by simp only[gpB,Bool.not_eq_true'] at h;have:=gG h i (Ui _) (by omega);simpa using this
def tkB(z:Va)(l:bX):Bool:=smB z.w.l&&z.w.valid&&(X6 zL ⟨z.areaLowX,z.areaLowY⟩&&X6 zL ⟨z.areaHighX,z.areaHighY⟩&&X6 z.tG ⟨z.areaLowX,z.areaLowY⟩&&X6 yO ⟨z.gravityX,z.gravityY⟩&&Nat.beq z.ropes.n 0&&Nat.beq z.setupSystems.n 0&&Nat.beq z.setupProgs.n 0&&decide (0<=z.setupFuel)&&decide (z.setupFuel<=10000))&&Nat.ble l.n 100&&mvB l &&
 decide ((bJ z.w l).2=0)&&(bJ z.w l).1.valid&&smB (bJ z.w l).1.l&&Nat.ble (bw (bJ z.w l).1.l (bJ z.w l).1.l.n).length 1&&decide ((bJ z.w l).1.tick<1073741824)&&IT ((Yn (bJ z.w l).1 (XT z)).tick+1)&&Nat.ble (Yn (bJ z.w l).1 (XT z)).l.n 1000&&smB (Yn (bJ z.w l).1 (XT z)).l&&gpB (Yn (bJ z.w l).1 (XT z)).l
theorem G8{z:Va}{l:bX}(h:tkB z l=true):qp bJ Yn z l:=by simp only[tkB,Uk] at h;obtain⟨⟨⟨⟨⟨⟨⟨⟨⟨⟨⟨⟨⟨h1,h2⟩,⟨⟨⟨⟨⟨⟨⟨⟨a1,a2⟩,a3⟩,a4⟩,a5⟩,a6⟩,a7⟩,a8⟩,a9⟩⟩,h3⟩,h4⟩,h5⟩,h6⟩,h7⟩,h8⟩,h9⟩,h10⟩,h11⟩,h12⟩,h13⟩:=h;have hn:=L' h3;exact⟨AM h1,h2,⟨a1,a2,a3,a4,Nb a5,⟨Nb a6,Nb a7,Od a8,Od a9⟩⟩,(show (l.n:Int)<=9223372036854775807 by omega),PF h4,Od h5,h6,AM h7,L' h8,Od h9,q9 h10,L' h11,λi hi=>((AM h12).2 i hi).1,Qd h13⟩
theorem tk1:qp bJ Yn z0 l0:=G8 (by kernel_rfl)
theorem tk2:qp bJ Yn (vE bJ Yn z0 l0) lN:=G8 (by kernel_rfl)
noncomputable def zF:UO Wa:={w7.lift rfl with frz:=true}
def Dn(l:List SV):XP:=⟨l.length,λi=>(VL (chunk l 1 i)).iv⟩
def fA:XP:=Dn [.il .i64 74,.il .i64 (-22),.il .i64 98,.il .i64 50]
def fB:XP:=Dn [.il .i64 138,.il .i64 (-54),.il .i64 101,.il .i64 50]
def fC:XP:=Dn [.il .i64 1]
def fD:XP:=Dn [.il .i64 1,.il .i64 2]
structure Tk where
 z:Va
 s:j0
 g:XP
def Tk.rep(k:Tk):List SV:=[fZ,k.s.sv,k.g.svI]
def awC(a0:Tk):Cut:=⟨Tk,λa=>a=a0,λa=>⟨[sl 1 (.p 0 0),sl 2 (.p 1 0),sl 3 (i64 0)],[(0,.lay a.z.cells 36),(1,.lay a.rep 51)],2,0,[],[]⟩,λ_=>0⟩
def awD(a0 b0:Tk):Cut:=⟨Tk×Tk,λa=>a.1=a0∧a.2=b0,λa=>⟨[sl 1 (.p 0 0),sl 2 (.p 1 0),sl 3 (i64 0),sl 4 (.p 2 0),sl 5 (.p 3 0),sl 6 (i64 0)],[(0,.lay a.1.z.cells 36),(1,.lay a.1.rep 51),(2,.lay a.2.z.cells 36),(3,.lay a.2.rep 51)],4,0,[],[]⟩,λ_=>0⟩
section
variable (T:Va->bX->Va)(hT:T=vE bJ Yn)(S:Va->bX->j0)(hS:S=λz l=>stS (bJ z.w l).1 (XT z))(Gn:Va->bX->XP)(hG:Gn=λz l=>E3 z.tG (vE bJ Yn z l).w)
def tkA(z:Va)(l:bX):Tk:=⟨T z l,S z l,Gn z l⟩
set_option maxHeartbeats 4000000 in
set_option maxRecDepth 8000 in
theorem B6:aM (C:=Wa) [zF,zB T hT S hS Gn hG,DN.lift rfl,DK.lift rfl] [] 0 ⟨[],[2,3],[],0⟩ Tryz.f11 (AS.enc ()) λv H _=>ae (.bl true) H v:=by
 have n0:(T z0 l0).setupSystems.n=0:=by rw[hT];rfl
 have n1:∀z:Va,z.setupSystems.n=0->(T z lN).setupSystems.n=0:=λz h=>by rw[hT];exact h
 refine Uh (awC (tkA T S Gn z0 l0)) ?_;refine Ai ?_ ?_
 ·refine Ai ⟨(by repeat' (first|exact trivial|exact rfl|refine Ai ?_ ?_|intro _)),al2 (by repeat' (first|exact trivial|exact rfl|refine Ai ?_ ?_|intro _)) (by repeat' (first|exact trivial|exact rfl|refine Ai ?_ ?_|intro _)),tk1⟩ ?_;refine⟨tkA T S Gn z0 l0,[],[],trivial,rfl,?_⟩;repeat' (first|refine Ai ?_ ?_|intro _|exact rfl)
  all_goals first|(exact Up (show _<0 by assumption) (F' _))|(exact Up (Nat.lt_of_lt_of_eq (by assumption) n0) (F' _))
 refine fun(a:Tk) (ha:a=tkA T S Gn z0 l0)=>?_;have m0:a.z.setupSystems.n=0:=by rw[ha];exact n0
 refine Uh (awD (tkA T S Gn z0 l0) (tkA T S Gn (T z0 l0) lN)) ?_;refine Ai ?_ ?_
 ·refine Ai ⟨(by repeat' (first|exact trivial|exact rfl|refine Ai ?_ ?_|intro _)),λi hi=>Up (Nat.lt_of_lt_of_eq hi m0) (F' _),(by repeat' (first|exact trivial|exact rfl|refine Ai ?_ ?_|intro _)),(by repeat' (first|exact trivial|exact rfl|refine Ai ?_ ?_|intro _)),(show qp bJ Yn a.z lN from by rw[ha];show qp bJ Yn (T z0 l0) lN;rw[hT];exact tk2)⟩ ?_;refine⟨(a,tkA T S Gn a.z lN),[],[],trivial,⟨ha,by rw[ha];rfl⟩,?_⟩;repeat' (first|refine Ai ?_ ?_|intro _|exact rfl)
  all_goals first|(exact Up (show _<0 by assumption) (F' _))|(exact Up (Nat.lt_of_lt_of_eq (by assumption) m0) (F' _))|(exact Up (Nat.lt_of_lt_of_eq (by assumption) (n1 _ m0)) (F' _))
 refine fun(a:Tk×Tk) (ha:a.1=tkA T S Gn z0 l0∧a.2=tkA T S Gn (T z0 l0) lN)=>?_;have h1:=ha.1;have h2:=ha.2;have q1:a.1.z.w.l.n<=100000:=by rw[h1];show (T z0 l0).wEntities.n<=100000;rw[hT];exact L' (by kernel_rfl)
 have q2:a.2.z.w.l.n<=100000:=by rw[h2];show (T (T z0 l0) lN).wEntities.n<=100000;rw[hT];exact L' (by kernel_rfl)
 have g1:(a.1.g.n:Int)<=bY:=by rw[h1];show ((Gn z0 l0).n:Int)<=9223372036854775807;rw[hG];exact Od (by kernel_rfl)
 have g2:(a.2.g.n:Int)<=bY:=by rw[h2];show ((Gn (T z0 l0) lN).n:Int)<=9223372036854775807;rw[hT,hG];exact Od (by kernel_rfl)
 have fin:((((((decide ((0:Int)=0)&&decide ((0:Int)=0))&&atW a.1.z.w fA)&&atW a.2.z.w fB)&&ov a.1.g fC)&&ov a.2.g fD)&&decide (a.2.z.w.tick=2))=true:=by
  rw[h1,h2];subst hT hS hG
  kernel_rfl
 refine Ai (λ_=>⟨(by repeat' (first|exact trivial|exact rfl|refine Ai ?_ ?_|intro _)),al4 (by repeat' (first|exact trivial|exact rfl|refine Ai ?_ ?_|intro _)) (by repeat' (first|exact trivial|exact rfl|refine Ai ?_ ?_|intro _)) (by repeat' (first|exact trivial|exact rfl|refine Ai ?_ ?_|intro _)) (by repeat' (first|exact trivial|exact rfl|refine Ai ?_ ?_|intro _)),q1⟩) ?_;refine Ai (λ_=>⟨(by repeat' (first|exact trivial|exact rfl|refine Ai ?_ ?_|intro _)),al4 (by repeat' (first|exact trivial|exact rfl|refine Ai ?_ ?_|intro _)) (by repeat' (first|exact trivial|exact rfl|refine Ai ?_ ?_|intro _)) (by repeat' (first|exact trivial|exact rfl|refine Ai ?_ ?_|intro _)) (by repeat' (first|exact trivial|exact rfl|refine Ai ?_ ?_|intro _)),q2⟩) ?_;refine Ai (λ_=>⟨(by repeat' (first|exact trivial|exact rfl|refine Ai ?_ ?_|intro _)),al1 (by repeat' (first|exact trivial|exact rfl|refine Ai ?_ ?_|intro _)),g1⟩) ?_;refine Ai (λ_=>⟨(by repeat' (first|exact trivial|exact rfl|refine Ai ?_ ?_|intro _)),al2 (by repeat' (first|exact trivial|exact rfl|refine Ai ?_ ?_|intro _)) (by repeat' (first|exact trivial|exact rfl|refine Ai ?_ ?_|intro _)),g2⟩) ?_;refine UK (a:=true) fin.symm ?_;exact rfl
end
theorem xp:∀a,aH ((λ_=>[]) a)->aM (C:=Wa) [zF,zB (vE bJ Yn) rfl (λz l=>stS (bJ z.w l).1 (XT z)) rfl (λz l=>E3 z.tG (vE bJ Yn z l).w) rfl,DN.lift rfl,DK.lift rfl] [] 0 ⟨[],[2,3],[],0⟩ Tryz.f11 (AS.enc a) λv H _=>ae ((λ_=>.bl true) a) H v:=λ_ _=>B6 _ rfl _ rfl _ rfl
noncomputable def BB:UO Wa:=ai (C:=Wa) 11 Tryz.call11 AS (λ_=>[]) (λ_=>.bl true) (λ_=>⟨[],[2,3],[],0⟩) [] (λ_=>rfl) follows Tryz.func11 (by kernel_rfl) xp
set_option maxRecDepth 8000
set_option maxHeartbeats 2000000
def Aa.Nm(_:Aa):Prop:=True
structure Va.Sm (z:Va):Prop where
 l:z.wEntities.Sm
 s:(z.setupSystems.n:Int)<=bY
 p:(z.setupProgs.n:Int)<=bY
 c:∀i,i<z.setupProgs.n->((z.setupProgs.e i).code.n:Int)<=bY
 r:(z.ropes.n:Int)<=bY
 nm:∀i,i<z.setupSystems.n->(z.setupSystems.e i).Nm
def MA(w:U8)(s:Xi):Bool:=decide ((10:Int)<w.l.n)||decide ((6:Int)<s.systems.n)||decide ((6:Int)<s.progs.n)||(decide (600<s.fuel)&&decide (s.fuel<=10000))
def wQ(w:U8)(i:Nat):Bool:=decide ((12:Int)<((w.l.e i).l.n:Nat))
def wP(s:Xi)(i:Nat):Bool:=decide ((200:Int)<((s.progs.e i).code.n:Nat))
def lT(w:U8)(s:Xi):Bool:=!MA w s&&!bN (wQ w) 0 w.l.n&&!bN (wP s) 0 s.progs.n
def SO(w:U8)(s:Xi):Cut:=⟨Nat,λk=>k<=w.l.n∧bN (wQ w) 0 w.l.n=bN (wQ w) k (w.l.n-k),λk=>⟨[sl 3 (.p 1 0),sl 36 w.l.sv,sl 37 (i64 w.l.n),sl 38 (i64 k)],[(1,.lay s.cells 33)],2,0,[],[]⟩,λk=>w.l.n-k⟩
def SN(s:Xi):Cut:=⟨Nat,λk=>k<=s.progs.n∧bN (wP s) 0 s.progs.n=bN (wP s) k (s.progs.n-k),λk=>⟨[sl 48 s.progs.sv,sl 49 (i64 s.progs.n),sl 50 (i64 k)],[],2,0,[],[]⟩,λk=>s.progs.n-k⟩
theorem B1:∀a,aH ((λa=>[a.1.l.Sm,(a.2.progs.n:Int)<=bY,∀i,i<a.2.systems.n->(a.2.systems.e i).Nm]) a)->aM (C:=cx) [] [] 0 ⟨[],[],[4,10],0⟩ Tryz.f35 ((aL c8 mW).enc a) λv H _=>ae ((λa=>.v (.bool (lT a.1 a.2))) a) H v:=by
 intro⟨w,s⟩ ⟨hm,hp,hs⟩;replace hs:∀i,i<s.systems.n->(s.systems.e i).Nm:=hs;replace hm:w.l.Sm:=hm;have hn:(w.l.n:Int)<=9223372036854775807:=hm.1;replace hp:(s.progs.n:Int)<=9223372036854775807:=hp;refine Ai (λhx=>?_) (λhx=>?_);have hx:MA w s=true:=hx;have e:lT w s=false:=(by unfold lT;rw[hx];rfl);simp only[e];exact rfl;have hx:MA w s=false:=hx;refine Uh (SO w s) ?_;refine Ai ?_ ?_
 ·refine⟨(0:Nat),[],[],trivial,⟨Ui _,rfl⟩,?_⟩;repeat' (first|refine Ai ?_ ?_|intro _|exact rfl)
  all_goals exact Xb (hs _ (by assumption))
 refine fun(k:Nat) (hk:k<=w.l.n∧bN (wQ w) 0 w.l.n=bN (wQ w) k (w.l.n-k))=>?_;obtain⟨k1,k2⟩:=hk;refine Ai (λhb=>?_) (λhb=>?_)
 ·have hb:(k:Int)<w.l.n:=Od hb;have e:=dS (g:=wQ w) (k:=k) (n:=w.l.n) (by omega);refine Ai ⟨by omega,by omega⟩ ?_;refine Ai (λhc=>?_) (λhc=>?_);have hc:wQ w k=true:=hc;simp only[hc] at e;have e1:lT w s=false:=(by unfold lT;rw[k2,e];simp);simp only[e1];exact rfl;have hc:wQ w k=false:=hc;simp only[hc] at e;refine Ai (by unfold UP;omega:UP ((k:Int)+1)) ?_;refine⟨k+1,[],[],(by show w.l.n-(k+1)<w.l.n-k;omega),⟨by omega,by rw[k2,e]⟩,?_⟩;repeat' (first|refine Ai ?_ ?_|intro _|exact rfl)
  all_goals exact Xb (hs _ (by assumption))
 have hb:¬(k:Int)<w.l.n:=Ur hb;have a1:bN (wQ w) 0 w.l.n=false:=by rw[k2,show w.l.n-k=0 by omega];rfl
 refine Uh (SN s) ?_;refine Ai ?_ ?_
 ·refine⟨(0:Nat),[],[],trivial,⟨Ui _,rfl⟩,?_⟩;repeat' (first|refine Ai ?_ ?_|intro _|exact rfl)
  all_goals exact Xb (hs _ (by assumption))
 refine fun(k:Nat) (hk:k<=s.progs.n∧bN (wP s) 0 s.progs.n=bN (wP s) k (s.progs.n-k))=>?_;obtain⟨k1,k2⟩:=hk;refine Ai (λhb=>?_) (λhb=>?_)
 ·have hb:(k:Int)<s.progs.n:=Od hb;have e:=dS (g:=wP s) (k:=k) (n:=s.progs.n) (by omega);refine Ai ⟨by omega,by omega⟩ ?_;refine Ai (λhc=>?_) (λhc=>?_);have hc:wP s k=true:=hc;simp only[hc] at e;have e1:lT w s=false:=(by unfold lT;rw[k2,e];simp);simp only[e1];exact rfl;have hc:wP s k=false:=hc;simp only[hc] at e;refine Ai (by unfold UP;omega:UP ((k:Int)+1)) ?_;refine⟨k+1,[],[],(by show s.progs.n-(k+1)<s.progs.n-k;omega),⟨by omega,by rw[k2,e]⟩,?_⟩;repeat' (first|refine Ai ?_ ?_|intro _|exact rfl)
  all_goals exact Xb (hs _ (by assumption))
 have hb:¬(k:Int)<s.progs.n:=Ur hb;have a2:bN (wP s) 0 s.progs.n=false:=by rw[k2,show s.progs.n-k=0 by omega];rfl
 have e1:lT w s=true:=by unfold lT;rw[a1,a2,hx];rfl
 simp only[e1];exact rfl
noncomputable def JX:UO cx:=ai 35 Tryz.call35 (aL c8 mW) _ _ (λ_=>⟨[],[],[4,10],0⟩) [] (λ_=>rfl) follows Tryz.func35 (by kernel_rfl) B1
def xM(n:Int):Bool:=decide (-300<=n)&&decide (n<=300)
theorem FU:∀a,aH ((λ_=>[]) a)->aM (C:=cx) [] [] 0 av Tryz.f36 ((bh (VK .i64)).enc a) λv H _=>ae ((λn=>.v (.bool (xM n))) a) H v:=by intro n _;exact rfl
noncomputable def MV:UO cx:=ai 36 Tryz.call36 (bh (VK .i64)) _ _ (λ_=>av) [] (λ_=>rfl) follows Tryz.func36 (by kernel_rfl) FU
def oL(c:bd):Bool:=decide (c.kind=2)&&(!xM c.v0||!xM c.v1)
def SM(z:Va):Bool:=(xM z.gravityX&&xM z.gravityY)||decide (4096<z.gravityX)||decide (4096<z.gravityY)||decide (z.gravityX < -4096)||decide (z.gravityY < -4096)
def Mz(z:Va)(l:bX):Bool:=!lT z.w z.stp||decide ((20:Int)<l.n)||decide ((34:Int)<z.ropes.n)
def sS(z:Va)(i:Nat):Bool:=bN (λk=>oL ((z.wEntities.e i).l.c k)) 0 (z.wEntities.e i).l.n
def jR(z:Va)(l:bX):Bool:=!Mz z l&&!bN (sS z) 0 z.wEntities.n&&SM z
def Oe:SV:=.v (.func (.func 36) #[] #[])
def fvC(z:Va):Cut:=⟨Nat,λk=>k<=z.wEntities.n∧bN (sS z) 0 z.wEntities.n=bN (sS z) k (z.wEntities.n-k),λk=>⟨[sl 2 (.p 0 0),sl 5 Oe,sl 29 z.wEntities.sv,sl 30 (i64 z.wEntities.n),sl 31 (i64 k)],[(0,.lay z.cells 36)],1,0,[],[]⟩,λk=>z.wEntities.n-k⟩
def fwC(z:Va)(i:Nat):Cut:=⟨Nat,λk=>k<=(z.wEntities.e i).l.n∧sS z i=bN (λk=>oL ((z.wEntities.e i).l.c k)) k ((z.wEntities.e i).l.n-k),λk=>⟨[sl 2 (.p 0 0),sl 5 Oe,sl 29 z.wEntities.sv,sl 30 (i64 z.wEntities.n),sl 31 (i64 i),sl 36 (z.wEntities.e i).l.sv,sl 37 (i64 (z.wEntities.e i).l.n),sl 38 (i64 k)],[(0,.lay z.cells 36)],1,0,[],[]⟩,λk=>(z.wEntities.e i).l.n-k⟩
theorem B0:∀a,aH ((λa=>[a.1.wEntities.Sm,(a.1.setupProgs.n:Int)<=bY,∀i,i<a.1.setupSystems.n->(a.1.setupSystems.e i).Nm]) a)->aM (C:=cx) [JX,MV] [] 0 ⟨[],[],[5,8],0⟩ Tryz.f10 ((aL dD gU).enc a) λv H _=>ae ((λa=>.v (.bool (jR a.1 a.2))) a) H v:=by
 intro⟨z,l⟩ ⟨hm,hp,hs⟩;replace hs:∀i,i<z.setupSystems.n->(z.setupSystems.e i).Nm:=hs;replace hm:z.wEntities.Sm:=hm;replace hp:(z.setupProgs.n:Int)<=bY:=hp;have hn:(z.wEntities.n:Int)<=9223372036854775807:=hm.1;refine Ai ⟨λ_ _ _ _=>trivial,by repeat' (first|exact trivial|exact rfl|refine Ai ?_ ?_|intro _),by repeat' (first|exact trivial|exact rfl|refine Ai ?_ ?_|intro _),hm,hp,hs⟩ ?_;refine Ai (λhx=>?_) (λhx=>?_);have hx:Mz z l=true:=hx;have e:jR z l=false:=(by unfold jR;rw[hx];rfl);simp only[e];exact rfl;have hx:Mz z l=false:=hx;refine Uh (fvC z) ?_;refine Ai ?_ ?_
 ·refine⟨(0:Nat),[],[],trivial,⟨Ui _,rfl⟩,?_⟩;repeat' (first|refine Ai ?_ ?_|intro _|exact rfl)
  all_goals exact Xb (hs _ (by assumption))
 refine fun(i:Nat) (hi:i<=z.wEntities.n∧bN (sS z) 0 z.wEntities.n=bN (sS z) i (z.wEntities.n-i))=>?_;obtain⟨i1,i2⟩:=hi;refine Ai (λhb=>?_) (λhb=>?_)
 ·have hb:(i:Int)<z.wEntities.n:=Od hb;have ei:=dS (g:=sS z) (k:=i) (n:=z.wEntities.n) (by omega);have hc:((z.wEntities.e i).l.n:Int)<=9223372036854775807:=(hm.2 i (by omega)).1;refine Ai ⟨by omega,by omega⟩ ?_;refine Uh (fwC z i) ?_;refine Ai ?_ ?_
  ·refine⟨(0:Nat),[],[],trivial,⟨Ui _,rfl⟩,?_⟩;repeat' (first|refine Ai ?_ ?_|intro _|exact rfl)
   all_goals exact Xb (hs _ (by assumption))
  refine fun(k:Nat) (hk:k<=(z.wEntities.e i).l.n∧sS z i=bN (λk=>oL ((z.wEntities.e i).l.c k)) k ((z.wEntities.e i).l.n-k))=>?_;obtain⟨k1,k2⟩:=hk;refine Ai (λhb=>?_) (λhb=>?_)
  ·have hb:(k:Int)<(z.wEntities.e i).l.n:=Od hb;have e:=dS (g:=λk=>oL ((z.wEntities.e i).l.c k)) (k:=k) (n:=(z.wEntities.e i).l.n) (by omega);refine Ai ⟨by omega,by omega⟩ ?_;refine Ai (λhq=>?_) (λhq=>?_);have hq:(λk=>oL ((z.wEntities.e i).l.c k)) k=true:=hq;simp only[hq] at e;have e0:sS z i=true:=(by rw[k2,e]);simp only[e0] at ei;have e1:jR z l=false:=(by unfold jR;rw[i2,ei];simp);simp only[e1];exact rfl;have hq:(λk=>oL ((z.wEntities.e i).l.c k)) k=false:=hq;simp only[hq] at e;refine Ai (by unfold UP;omega:UP ((k:Int)+1)) ?_;refine⟨k+1,[],[],(by show (z.wEntities.e i).l.n-(k+1)<(z.wEntities.e i).l.n-k;omega),⟨by omega,by rw[k2,e]⟩,?_⟩;repeat' (first|refine Ai ?_ ?_|intro _|exact rfl)
   all_goals exact Xb (hs _ (by assumption))
  have hb:¬(k:Int)<(z.wEntities.e i).l.n:=Ur hb;have e0:sS z i=false:=(by rw[k2,show (z.wEntities.e i).l.n-k=0 by omega];rfl);simp only[e0] at ei;refine Ai (by unfold UP;omega:UP ((i:Int)+1)) ?_;refine⟨i+1,[],[],(by show z.wEntities.n-(i+1)<z.wEntities.n-i;omega),⟨by omega,by rw[i2,ei]⟩,?_⟩;repeat' (first|refine Ai ?_ ?_|intro _|exact rfl)
  all_goals exact Xb (hs _ (by assumption))
 have hb:¬(i:Int)<z.wEntities.n:=Ur hb;have a2:bN (sS z) 0 z.wEntities.n=false:=by rw[i2,show z.wEntities.n-i=0 by omega];rfl
 have e1:jR z l=SM z:=by unfold jR;rw[a2,hx];rfl
 simp only[e1];exact rfl
noncomputable def JW:UO cx:=ai 10 Tryz.call10 (aL dD gU) _ _ (λ_=>⟨[],[],[5,8],0⟩) [] (λ_=>rfl) follows Tryz.func10 (by kernel_rfl) B0
end Go.Proofs.YtgigkennhdolpaaGreatDoor
