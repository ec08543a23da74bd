/- workers.All, zone.Tick (in company).. -/
import Derived.Test.YtgigkennhdolpaaGreatDoorM38
import Derived.Test.YtgigkennhdolpaaGreatDoorM36
import Derived.Test.YtgigkennhdolpaaGreatDoorM45
import Derived.Test.YtgigkennhdolpaaGreatDoorM37
namespace Go.Proofs.YtgigkennhdolpaaGreatDoor
open Go.RowKit
set_option maxRecDepth 8000
set_option maxHeartbeats 2000000
def My(w:U9):SV:=.tup [w.sv,fP,.il .i64 0]
theorem CL:∀a,aA ((λa=>[a.1.valid=true,a.1.l.Sm,a.1.l.n<=1000,∀i,i<a.1.l.n->(a.1.l.e i).l.n<=1000,a.2.tX]) a)->aH (C:=V7) [xc] [] 0 ai Tryz.f42 ((aD cY sj).enc a) λv H _=>af ((λa=>My a.1) a) H v:=by
 intro⟨w,x⟩ ⟨hv,hs,hn,hc,hx⟩;replace hv:w.valid=true:=hv;replace hs:w.l.Sm:=hs;replace hn:w.l.n<=1000:=hn;replace hc:∀i,i<w.l.n->(w.l.e i).l.n<=1000:=hc;replace hx:x.tX:=hx;refine Ai ⟨by repeat' (first|exact trivial|exact rfl|refine Ai ?_ ?_|intro _),λ_ _=>trivial,λi hi=>Uw (hx.p▸hi) (F' _),hv,hs,hn,hc,hx,rfl⟩ ?_;repeat' (first|refine Ai ?_ ?_|intro _|exact rfl)
 all_goals exact Uw ‹_<0› (F' _)
noncomputable def zY:UW V7:=ae (C:=V7) 42 Tryz.call42 (aD cY sj) _ _ (λ_=>ai) [] (λ_=>rfl) follows Tryz.func42 (by kernel_rfl) CL
noncomputable def vr(F:U9->cm->U9×Int)(hF:F=bT):UW cx:=ae 21 Tryz.call21 (aD cY jO) (λa=>[a.1.l.Sm,(a.2.n:Int)<=cB,∀i,i<a.2.n->UU (a.2.e i).moveX∧UU (a.2.e i).moveY]) (λa=>.tup [(F a.1 a.2).1.sv,.v (.int .i64 (F a.1 a.2).2)]) (λ_=>⟨[20],[14],[5,13],0⟩) [20] (λ_=>rfl) follows Tryz.func21 (by kernel_rfl) (by subst hF;exact B8)
def Ys(w:U9)(g:Vec):U9:=gh (xS (vR w g)) w
def stS(w:U9)(g:Vec):jK:=nw (nu (vR w g))
noncomputable def zP(B:U9->Vec->U9)(hB:B=Ys)(S:U9->Vec->jK)(hS:S=stS):UW cx:=ae 44 Tryz.call44 (eU cY gW dS) (λa=>[a.1.valid=true,a.1.l.Sm,a.2.1.n=0,(aP a.1.l a.1.l.n).length<=1,gOk a.2.2]) (λa=>.tup [(B a.1 a.2.2).sv,(S a.1 a.2.2).sv,.il .i64 0]) (λ_=>ai) [] (λ_=>rfl) follows Tryz.func44 (by kernel_rfl) (by subst hB hS;exact xu)
def FC(a:Yd)(w:U9):X2:=⟨(jj a w.l w.l.n).length,λi=>(jj a w.l w.l.n).getD i 0⟩
def X2.svI(f:X2):SV:=.rs 1 f.n λi=>[.v (.int .i64 (f.g i))]
noncomputable def KD(Gf:Yd->U9->X2)(hG:Gf=FC):UW cx:=ae 45 Tryz.call45 (aD yf cY) (λa=>[a.2.l.n<=1000,∀i,i<a.2.l.n->((a.2.l.e i).l.n:Int)<=cB]) (λa=>(Gf a.1 a.2).svI) (λ_=>⟨[1006],[],[3],0⟩) [1006] (λ_=>rfl) follows Tryz.func45 (by kernel_rfl) (by subst hG;exact vD)
def XX(z:VD):Vec:=⟨z.gravityX,z.gravityY⟩
def vN(F:U9->cm->U9×Int)(B:U9->Vec->U9)(z:VD)(l:cm):VD:=⟨z.areaLowX,z.areaLowY,z.areaHighX,z.areaHighY,(B (F z.w l).1 (XX z)).tick+1,(B (F z.w l).1 (XX z)).l,z.setupSystems,z.setupProgs,z.setupSeed,z.setupFuel,z.ropes,z.gravityX,z.gravityY⟩
def R8(F:U9->cm->U9×Int)(B:U9->Vec->U9)(S:U9->Vec->jK)(Gf:Yd->U9->X2)(z:VD)(l:cm):SV:=.agg [fP,(S (F z.w l).1 (XX z)).sv,(Gf z.qd (vN F B z l).w).svI]
theorem iF(l:V3):∀i,i<l.n->aO (fK II (l.e i).cells):=λ_ _ _ _=>trivial
theorem SN{p:Vec}(h:Y0 DO p=true):gOk p:=by unfold Y0 at h;simp only[Ur,Ux] at h;obtain⟨⟨⟨h1,h2⟩,h3⟩,h4⟩:=h;exact⟨⟨h1,h2⟩,h3,h4⟩
structure qF (F:U9->cm->U9×Int) (B:U9->Vec->U9) (z:VD) (l:cm):Prop where
 sm:z.w.l.Sm
 zv:z.w.valid=true
 ok:z.Ok
 n:(l.n:Int)<=cB
 mv:∀i,i<l.n->UU (l.e i).moveX∧UU (l.e i).moveY
 st:(F z.w l).2=0
 v:(F z.w l).1.valid=true
 ssm:(F z.w l).1.l.Sm
 b:(aP (F z.w l).1.l (F z.w l).1.l.n).length<=1
 t:(F z.w l).1.tick<1073741824
 bt:UU ((B (F z.w l).1 (XX z)).tick+1)
 gn:(B (F z.w l).1 (XX z)).l.n<=1000
 gc:∀i,i<(B (F z.w l).1 (XX z)).l.n->(((B (F z.w l).1 (XX z)).l.e i).l.n:Int)<=cB
 gp:∀i,i<(B (F z.w l).1 (XX z)).l.n->(bz ((B (F z.w l).1 (XX z)).l.e i).l 1).2=true
noncomputable def DK:Wl V7:=⟨41,Tryz.call41,Tryz.f41,Tryz.func41,[],[],[],0,by kernel_rfl⟩
noncomputable def DJ:Wl V7:=⟨43,Tryz.call43,Tryz.f43,Tryz.func43,[],[],[],0,by kernel_rfl⟩
def qT:List SV:=[.il .i64 0,.il .i64 0,.il .i64 0,.il .i64 0,.il .i64 0,.v (.slice none 0 0),.v (.slice none 0 0),.v (.slice none 0 0),.il .u64 0,.il .i64 0,.v (.slice none 0 0),.il .i64 0,.il .i64 0]
def tkC(z:VD)(W:U9)(T:jK):Cut:=⟨U9×jK,λa=>a.1=W∧a.2=T,λa=>⟨[sl 4 (.p 1 0),sl 5 (.p 2 0),sl 7 (.p 3 0),sl 8 (.p 4 0),sl 9 (.p 5 0)],
 [(1,.lay qT 36),(2,.lay [.v (.slice none 0 0),.v (.slice none 0 0),.v (.slice none 0 0)] 51),(3,.lay z.cells 36),(4,.lay [fP,a.2.sv,.v (.slice none 0 0)] 51),(5,.lay a.1.cells 28)],7,0,[],[]⟩,λ_=>0⟩
theorem LB{z:VD}(h:z.Ok)(hv:z.w.valid=true):js z=true:=by
 have hr:jW z.ropes=false:=by unfold jW VO VI;rw[h.ro];rfl
 have hb:EH z=false:=by unfold EH;rw[h.lo,h.hi,h.in_,h.gr,h.ro];rfl
 unfold js;rw[hr,hb,hv];rfl
section
variable (F:U9->cm->U9×Int)(hF:F=bT)(B:U9->Vec->U9)(hB:B=Ys)(S:U9->Vec->jK)(hS:S=stS)(Gf:Yd->U9->X2)(hG:Gf=FC)
theorem GI:∀a,aA ((λa:VD×cm=>[qF F B a.1 a.2]) a)->aH (C:=V7) [BP.lift rfl,Eh.lift rfl,(vr F hF).lift rfl,zY,(zP B hB S hS).lift rfl,(KD Gf hG).lift rfl] [DK,DJ] 1 ⟨[6,15,18,19],[17],[],4⟩ Tryz.f13 ((aD iH jO).enc a) λv H _=>af ((λa=>.tup [(vN F B a.1 a.2).sv,R8 F B S Gf a.1 a.2,.v (.int .i64 0)]) a) H v:=by
 intro⟨z,l⟩ hT;replace hT:qF F B z l:=hT;have U7:=hT.ok.st;have hsy:z.setupSystems.n=0:=U7.s;have hpr:z.setupProgs.n=0:=U7.p;have We:=hT.ok.ro;have hv:=hT.zv;have hV:=U9.gq.1 hv;have hlen:=hV.len;have Yf:z.w.l.n<=1000∧∀i,i<z.w.l.n->(z.w.l.e i).l.n<=1000:=⟨by omega,λi hi=>by have:=(hV.right i hi).len;omega⟩
 refine Ai ⟨iF _,λi hi=>Uw (hsy▸hi) (F' _),λi hi=>Uw (hpr▸hi) (F' _),λi hi=>Uw (We▸hi) (F' _),hT.sm,(show (z.ropes.n:Int)<=cB by rw[We];decide),U7⟩ ?_;refine Ai (λhc=>Uw (show (!js z)=true from hc) (by rw[LB hT.ok hv];decide)) (λ_=>?_);refine Ai ⟨iF _,λi hi=>Uw (hsy▸hi) (F' _),λi hi=>Uw (hpr▸hi) (F' _),λi hi=>Uw (We▸hi) (F' _),Yf.1,Yf.2,hsy,hpr,(show z.ropes.n<=1000 by omega)⟩ ?_;refine Ai ⟨iF _,λ_ _=>trivial,hT.sm,hT.n,hT.mv⟩ ?_;have hS':=U9.gq.1 hT.v;have Xs:=hS'.len;have hss:(F z.w l).1.l.n<=1000∧∀i,i<(F z.w l).1.l.n->((F z.w l).1.l.e i).l.n<=1000:=⟨by omega,λi hi=>by have:=(hS'.right i hi).len;omega⟩
 have hg:=SN hT.ok.gr;have hE2:=hT.st;refine Ai (λhc=>Uw (show decide (¬(F z.w l).2=0)=true from hc) (by rw[hE2];decide)) (λ_=>?_);refine Ai (λhc=>Uw (show (1073741824:Int)<=(F z.w l).1.tick from Od hc) (by have:=hT.t;omega)) (λ_=>?_);refine T' (tkC z (B (F z.w l).1 (XX z)) (S (F z.w l).1 (XX z))) ?_;refine Ai ?_ ?_
 ·refine Ai ⟨iF _,λ_ _=>trivial,λi hi=>Uw (hpr▸hi) (F' _),hT.v,hT.ssm,hss.1,hss.2,U7⟩ ?_;refine Ai ⟨iF _,λi hi=>Uw (We▸hi) (F' _),hT.v,hT.ssm,We,hT.b,hg⟩ ?_;refine⟨(B (F z.w l).1 (XX z),S (F z.w l).1 (XX z)),[],[],trivial,⟨rfl,rfl⟩,?_⟩;repeat' (first|refine Ai ?_ ?_|intro _|exact rfl)
  all_goals first|(exact Uw (show _<0 by assumption) (F' _))|(exact Uw (Nat.lt_of_lt_of_eq (by assumption) hsy) (F' _))
 refine fun(a:U9×jK) (ha:a.1=B (F z.w l).1 (XX z)∧a.2=S (F z.w l).1 (XX z))=>?_;obtain⟨W,T⟩:=a;obtain⟨h1,h2⟩:W=B (F z.w l).1 (XX z)∧T=S (F z.w l).1 (XX z):=ha;refine Ai (show UU (W.tick+1) by rw[h1];exact hT.bt) ?_;refine Ai ⟨iF _,(show W.l.n<=1000 by rw[h1];exact hT.gn),(show ∀i,i<W.l.n->((W.l.e i).l.n:Int)<=cB by rw[h1];exact hT.gc)⟩ ?_;subst h1 h2;repeat' (first|refine Ai ?_ ?_|intro _|exact rfl)
 all_goals first|(exact Uw (show _<0 by assumption) (F' _))|(exact Uw (Nat.lt_of_lt_of_eq (by assumption) hsy) (F' _))|trace_state
end
theorem EX{w:U9}{l:cm}(hv:w.valid=true)(hl:l.n=0):bT w l=(w,0):=by
 obtain⟨n,e⟩:=l;obtain rfl:n=0:=hl;have h1:pf w ⟨0,e⟩=false:=by unfold pf;rw[hv];rfl
 have h2:∀x,cP ⟨0,e⟩ x=x:=λx=>by
  unfold cP;cases eF x.l 4 with
  | false=>rfl
  | true=>cases eF x.l 2<;>rfl
 unfold bT;rw[h1];simp only[h2]
def ON:VD:=⟨0,0,0,0,0,⟨0,λ_=>UZ.no⟩,⟨0,λ_=>⟨.e,0,0,0⟩⟩,⟨0,λ_=>⟨⟨0,λ_=>⟨0,0⟩⟩,0,0,0⟩⟩,0,0,⟨0,λ_=>YN⟩,0,0⟩
def sI(z:VD):VD:={z with wTick:=z.wTick+1}
def tkZ(z:VD):VD:=match js z with|true=>sI z|false=>ON
def Dm:Rep:=⟨⟨0,λ_=>⟨0,0,0⟩⟩,⟨0,λ_=>⟨0,0,0⟩⟩,⟨0,λ_=>0⟩⟩
def Z7(z:VD):Rep:=match js z with|true=>{Dm with gone:=⟨(jj z.qd z.wEntities z.wEntities.n).length,λi=>(jj z.qd z.wEntities z.wEntities.n).getD i 0⟩}|false=>Dm
def tkE(z:VD):Int:=match js z with|true=>0|false=>2
structure Ld (z:VD):Prop where
 sm:z.w.l.Sm
 ro:(z.ropes.n:Int)<=cB
 st:z.stp.tX
 still:z.w.Still
 gx:z.gravityX=0
 gy:z.gravityY=0
 t:z.wTick<1073741824
theorem xA{z:VD}(h:js z=true):z.w.valid=true∧oY z.ropes:=by
 unfold js EH at h;simp only[Ur,Bool.not_eq_true',UH,Uz] at h;obtain⟨⟨-,h1⟩,h2,h3⟩:=h;refine⟨h3,by omega,λi hi=>?_⟩;have hb:dW (z.ropes.e i)=false:=by
  unfold jW VO at h2;cases hd:decide (VI (λi=>dW (z.ropes.e i)) 0 z.ropes.n<z.ropes.n) with
  | true=>rw[hd] at h2;exact Uw (Uy h2) (by simp)
  | false=>
   have:=Uy hd;exact BD (g:=λi=>dW (z.ropes.e i)) (r:=z.ropes.n) (k:=0) (Up _) (by omega)
 unfold dW at hb;simp only[UH,Uz] at hb;omega
def TL(z:VD):Cut:=⟨Unit,λ_=>True,λ_=>⟨[sl 4 (.p 1 0),sl 5 (.p 2 0),sl 7 (.p 3 0),sl 8 (.p 4 0),sl 9 (.p 5 0)],
 [(1,.lay qT 36),(2,.lay [.v (.slice none 0 0),.v (.slice none 0 0),.v (.slice none 0 0)] 51),(3,.lay z.cells 36),(4,.lay [fP,.v (.slice none 0 0),.v (.slice none 0 0)] 51),(5,.lay z.w.cells 28)],7,0,[],[]⟩,λ_=>0⟩
section
variable (F:U9->cm->U9×Int)(hF:F=bT)
set_option maxHeartbeats 2000000 in
set_option maxRecDepth 8000 in
theorem B6:∀a,aA ((λa:VD×cm=>[Ld a.1,a.2.n=0]) a)->aH (C:=V7) [BP.lift rfl,Eh.lift rfl,(vr F hF).lift rfl,zY,NJ.lift rfl,Oa.lift rfl] [DK,DJ] 1 ⟨[6,15,18,19],[17],[],4⟩ Tryz.f13 ((aD iH jO).enc a) λv H _=>af ((λa=>.tup [(tkZ a.1).sv,(Z7 a.1).sv,.v (.int .i64 (tkE a.1))]) a) H v:=by
 intro⟨z,l⟩ ⟨hT,hl⟩;replace hT:Ld z:=hT;replace hl:l.n=0:=hl;have U7:=hT.st;have hsy:z.setupSystems.n=0:=U7.s;have hpr:z.setupProgs.n=0:=U7.p;refine Ai ⟨iF _,λi hi=>Uw (hsy▸hi) (F' _),λi hi=>Uw (hpr▸hi) (F' _),λ_ _=>trivial,hT.sm,hT.ro,U7⟩ ?_;refine Ai (λhc=>?_) (λhc=>?_)
 ·have hc:(!js z)=true:=hc;have hz:js z=false:=(by simpa using hc);have e1:tkZ z=ON:=(by unfold tkZ;rw[hz]);have e2:Z7 z=Dm:=(by unfold Z7;rw[hz]);have e3:tkE z=2:=(by unfold tkE;rw[hz]);simp only[e1,e2,e3];repeat' (first|refine Ai ?_ ?_|intro _|exact rfl)
  all_goals first|(exact Uw (show _<0 by assumption) (F' _))|trace_state
 have hc:(!js z)=false:=hc;have hz:js z=true:=by simpa using hc
 obtain⟨hv,We⟩:=xA hz;have hV:=U9.gq.1 hv;have hlen:=hV.len;have Yf:z.w.l.n<=1000∧∀i,i<z.w.l.n->(z.w.l.e i).l.n<=1000:=⟨by omega,λi hi=>by have:=(hV.right i hi).len;omega⟩
 have YW:F z.w l=(z.w,0):=by rw[hF];exact EX hv hl
 have e1:tkZ z=sI z:=by unfold tkZ;rw[hz]
 have e2:Z7 z = {Dm with gone:=⟨(jj z.qd z.wEntities z.wEntities.n).length,λi=>(jj z.qd z.wEntities z.wEntities.n).getD i 0⟩}:=by unfold Z7;rw[hz]
 have e3:tkE z=0:=by unfold tkE;rw[hz]
 simp only[e1,e2,e3];refine Ai ⟨iF _,λi hi=>Uw (hsy▸hi) (F' _),λi hi=>Uw (hpr▸hi) (F' _),λ_ _=>trivial,Yf.1,Yf.2,hsy,hpr,(show z.ropes.n<=1000 by have:=We.1;omega)⟩ ?_;refine Ai ⟨iF _,λ_ _=>trivial,hT.sm,(show (l.n:Int)<=cB by rw[hl];decide),λi hi=>Uw (hl▸hi) (F' _)⟩ ?_;refine Ai (λhc=>Uw (show decide (¬(F z.w l).2=0)=true from hc) (by rw[YW];exact λh=>Uw (show decide (¬(0:Int)=0)=true from h) (by decide))) (λ_=>?_);refine Ai (λhc=>Uw (show (1073741824:Int)<=(F z.w l).1.tick from Od hc) (by rw[YW];have:=hT.t;show ¬(1073741824:Int)<=z.wTick;omega)) (λ_=>?_);refine T' (TL z) ?_;refine Ai ?_ ?_
 ·refine Ai ⟨iF _,λ_ _=>trivial,λi hi=>Uw (hpr▸hi) (F' _),(show (F z.w l).1.valid=true by rw[YW];exact hv),(show (F z.w l).1.l.Sm by rw[YW];exact hT.sm),(show (F z.w l).1.l.n<=1000 by rw[YW];exact Yf.1),(show ∀i,i<(F z.w l).1.l.n->((F z.w l).1.l.e i).l.n<=1000 by rw[YW];exact Yf.2),U7⟩ ?_;refine Ai ⟨iF _,λ_ _=>trivial,(show (F z.w l).1.valid=true by rw[YW];exact hv),(show (F z.w l).1.l.Sm by rw[YW];exact hT.sm),(show (F z.w l).1.Still by rw[YW];exact hT.still),We,hT.gx,hT.gy⟩ ?_;refine Ai (λhc=>Uw (show decide (¬(0:Int)=0)=true from hc) (by decide)) (λ_=>?_);refine⟨(),[],[],trivial,trivial,?_⟩;repeat' (first|refine Ai ?_ ?_|intro _|exact rfl)
  all_goals first|(exact Uw (show _<0 by assumption) (F' _))|(exact Uw (Nat.lt_of_lt_of_eq (by assumption) hsy) (F' _))|(exact Uv (λp:U9×Int=>p.1.tick) YW.symm)|(exact Uv (λp:U9×Int=>p.1.l.n) YW.symm)|(exact Uv (λp:U9×Int=>(p.1.l.e _).iD) YW.symm)|(exact Uv (λp:U9×Int=>(p.1.l.e _).l.n) YW.symm)|(exact Uv (λp:U9×Int=>((p.1.l.e _).l.c _).kind) YW.symm)|(exact Uv (λp:U9×Int=>((p.1.l.e _).l.c _).v0) YW.symm)|(exact Uv (λp:U9×Int=>((p.1.l.e _).l.c _).v1) YW.symm)|(exact Uv (λp:U9×Int=>((p.1.l.e _).l.c _).v2) YW.symm)|(exact Uv (λp:U9×Int=>((p.1.l.e _).l.c _).v3) YW.symm)|trace_state
 refine fun(_:Unit) _=>?_;refine Ai (show UU (z.wTick+1) by have:=hT.t;have:=hV.lo;have:0<=z.wTick:=this;unfold UU;omega) ?_;refine Ai ⟨iF _,Yf.1,(show ∀i,i<z.w.l.n->((z.w.l.e i).l.n:Int)<=9223372036854775807 from λi hi=>by have:=Yf.2 i hi;omega)⟩ ?_;repeat' (first|refine Ai ?_ ?_|intro _|exact rfl)
 all_goals first|(exact Uw (show _<0 by assumption) (F' _))|(exact Uw (Nat.lt_of_lt_of_eq (by assumption) hsy) (F' _))|trace_state
noncomputable def Ke:UW V7:=ae (C:=V7) 13 Tryz.call13 (aD iH jO) (λa:VD×cm=>[Ld a.1,a.2.n=0]) (λa=>.tup [(tkZ a.1).sv,(Z7 a.1).sv,.v (.int .i64 (tkE a.1))]) (λ_=>⟨[6,15,18,19],[17],[],4⟩) [6,15,18,19] (λ_=>rfl) follows Tryz.func13 (by kernel_rfl) (B6 F hF)
end
structure ZEq (a b:VD):Prop where
 ar:a.qd=b.qd
 gx:a.gravityX=b.gravityX
 gy:a.gravityY=b.gravityY
 w:lK a.w b.w=true
 wn:(a.w.l.n:Int)<=cB
 wc:∀i,i<a.w.l.n->((a.w.l.e i).l.n:Int)<=cB
 rn:a.ropes.n=b.ropes.n
 rb:(a.ropes.n:Int)<=cB
 re:∀i,i<a.ropes.n->a.ropes.e i=b.ropes.e i
 s1:a.setupSystems.n=0
 s2:b.setupSystems.n=0
 p1:a.setupProgs.n=0
 p2:b.setupProgs.n=0
 se:a.setupSeed=b.setupSeed
 fu:a.setupFuel=b.setupFuel
def TS(a b:VD):Cut:=⟨Nat,λk=>k<=a.ropes.n,λk=>⟨[sl 2 (.p 0 0),sl 3 (.p 1 0),sl 79 (i64 a.ropes.n),sl 80 (i64 k)],[(0,.lay a.cells 36),(1,.lay b.cells 36)],2,0,[],[]⟩,λk=>a.ropes.n-k⟩
set_option maxHeartbeats 2000000 in
set_option maxRecDepth 8000 in
theorem Cd:∀a,aA ((λa=>[ZEq a.1 a.2]) a)->aH (C:=cx) [Kk] [] 0 ⟨[],[],[4],1⟩ Tryz.f15 ((aD iH iH).enc a) λv H _=>af ((λ_=>.bl true) a) H v:=by
 intro⟨a,b⟩ h;replace h:ZEq a b:=h;have a1:a.areaLowX=b.areaLowX:=Uv Yd.lowX h.ar;have a2:a.areaLowY=b.areaLowY:=Uv Yd.lowY h.ar;have a3:a.areaHighX=b.areaHighX:=Uv Yd.highX h.ar;have a4:a.areaHighY=b.areaHighY:=Uv Yd.highY h.ar;have V6:(!(decide (a.areaLowX=b.areaLowX)&&decide (a.areaLowY=b.areaLowY)&&(decide (a.areaHighX=b.areaHighX)&&decide (a.areaHighY=b.areaHighY)))||!(decide (a.gravityX=b.gravityX)&&decide (a.gravityY=b.gravityY))||!lK a.w b.w||decide (¬(a.ropes.n:Int)=b.ropes.n)||decide (¬a.setupSeed=b.setupSeed)||decide (¬a.setupFuel=b.setupFuel)||decide (¬(a.setupSystems.n:Int)=b.setupSystems.n)||decide (¬(a.setupProgs.n:Int)=b.setupProgs.n))=false:=by have r1:=h.rn;have r2:=h.s1;have r3:=h.s2;have r4:=h.p1;have r5:=h.p2;rw[UB a1,UB a2,UB a3,UB a4,UB h.gx,UB h.gy,h.w,UA (by omega:¬¬(a.ropes.n:Int)=b.ropes.n),UA (λx=>x h.se),UA (λx=>x h.fu),UA (by omega:¬¬(a.setupSystems.n:Int)=b.setupSystems.n),UA (by omega:¬¬(a.setupProgs.n:Int)=b.setupProgs.n)];rfl
 refine Ai (λ_=>⟨(by repeat' (first|exact trivial|exact rfl|refine Ai ?_ ?_|intro _)),(by repeat' (first|exact trivial|exact rfl|refine Ai ?_ ?_|intro _)),h.wn,h.wc⟩) ?_;refine Ai (λhx=>?_) (λ_=>?_);have hx:(!(decide (a.areaLowX=b.areaLowX)&&decide (a.areaLowY=b.areaLowY)&&(decide (a.areaHighX=b.areaHighX)&&decide (a.areaHighY=b.areaHighY)))||!(decide (a.gravityX=b.gravityX)&&decide (a.gravityY=b.gravityY))||!lK a.w b.w||decide (¬(a.ropes.n:Int)=b.ropes.n)||decide (¬a.setupSeed=b.setupSeed)||decide (¬a.setupFuel=b.setupFuel)||decide (¬(a.setupSystems.n:Int)=b.setupSystems.n)||decide (¬(a.setupProgs.n:Int)=b.setupProgs.n))=true:=hx;exact Uw (V6.symm.trans hx) Bool.false_ne_true;refine T' (TS a b) ?_;refine Ai ?_ ?_
 ·refine⟨(0:Nat),[],[],trivial,Up _,?_⟩;repeat' (first|refine Ai ?_ ?_|intro _|exact rfl)
  all_goals first|exact Uw (Nat.lt_of_lt_of_eq (by assumption) h.s1) (F' _)|exact Uw (Nat.lt_of_lt_of_eq (by assumption) h.s2) (F' _)|trace_state
 refine fun(k:Nat) (hk:k<=a.ropes.n)=>?_;refine Ai (λhb=>?_) (λhb=>?_)
 ·have hb:(k:Int)<a.ropes.n:=Od hb;have hrn:=h.rn;have hrb:(a.ropes.n:Int)<=9223372036854775807:=h.rb;have he:=h.re k (by omega);refine Ai ⟨by omega,by omega⟩ ?_;refine Ai ⟨by omega,(show (k:Int)<b.ropes.n by omega)⟩ ?_;have hq:(!(decide ((a.ropes.e k).a=(b.ropes.e k).a)&&(decide ((a.ropes.e k).b=(b.ropes.e k).b)&&decide ((a.ropes.e k).len=(b.ropes.e k).len))))=false:=(by rw[he,UB rfl,UB rfl,UB rfl];rfl);refine Ai (λhx=>Uw (hq.symm.trans (show (!(decide ((a.ropes.e k).a=(b.ropes.e k).a)&&(decide ((a.ropes.e k).b=(b.ropes.e k).b)&&decide ((a.ropes.e k).len=(b.ropes.e k).len))))=true from hx)) Bool.false_ne_true) (λ_=>?_);refine Ai (by unfold U1;omega:U1 ((k:Int)+1)) ?_;refine⟨k+1,[],[],(by show a.ropes.n-(k+1)<a.ropes.n-k;omega),(by show k+1<=a.ropes.n;omega),?_⟩;repeat' (first|refine Ai ?_ ?_|intro _|exact rfl)
  all_goals first|exact Uw (Nat.lt_of_lt_of_eq (by assumption) h.s1) (F' _)|exact Uw (Nat.lt_of_lt_of_eq (by assumption) h.s2) (F' _)|trace_state
 refine Ai (λhx=>Uw (show (0:Int)<a.setupSystems.n from Od hx) (by rw[h.s1];decide)) (λ_=>?_);refine Ai (λhx=>Uw (show (0:Int)<a.setupProgs.n from Od hx) (by rw[h.p1];decide)) (λ_=>?_);exact rfl
noncomputable def Kj:UW cx:=ae 15 Tryz.call15 (aD iH iH) _ _ (λ_=>⟨[],[],[4],1⟩) [] (λ_=>rfl) follows Tryz.func15 (by kernel_rfl) Cd
set_option maxRecDepth 8000
set_option maxHeartbeats 2000000
def uy.Nm(b:uy):Prop:=∃v,b.name=.v (.string v)
structure VD.Sm (z:VD):Prop where
 l:z.wEntities.Sm
 s:(z.setupSystems.n:Int)<=cB
 p:(z.setupProgs.n:Int)<=cB
 c:∀i,i<z.setupProgs.n->((z.setupProgs.e i).code.n:Int)<=cB
 r:(z.ropes.n:Int)<=cB
 nm:∀i,i<z.setupSystems.n->(z.setupSystems.e i).Nm
theorem lI{nm:Nat}{b:uy}(h:b.Nm):aO (Vu nm [] b.cells b.cells):=by obtain⟨v,e⟩:=h;obtain⟨n,r,w,p⟩:=b;obtain rfl:n=.v (.string v):=e;repeat' (first|exact rfl|exact trivial|(refine Ai ?_ ?_))
def No(w:U9)(s:Yc):Bool:=decide ((10:Int)<w.l.n)||decide ((6:Int)<s.systems.n)||decide ((6:Int)<s.progs.n)||(decide (600<s.fuel)&&decide (s.fuel<=10000))
def wY(w:U9)(i:Nat):Bool:=decide ((12:Int)<((w.l.e i).l.n:Nat))
def wW(s:Yc)(i:Nat):Bool:=decide ((200:Int)<((s.progs.e i).code.n:Nat))
def l7(w:U9)(s:Yc):Bool:=!No w s&&!bQ (wY w) 0 w.l.n&&!bQ (wW s) 0 s.progs.n
def SY(w:U9)(s:Yc):Cut:=⟨Nat,λk=>k<=w.l.n∧bQ (wY w) 0 w.l.n=bQ (wY w) k (w.l.n-k),λk=>⟨[sl 3 (.p 1 0),sl 36 w.l.sv,sl 37 (i64 w.l.n),sl 38 (i64 k)],[(1,.lay s.cells 33)],2,0,[],[]⟩,λk=>w.l.n-k⟩
def SX(s:Yc):Cut:=⟨Nat,λk=>k<=s.progs.n∧bQ (wW s) 0 s.progs.n=bQ (wW s) k (s.progs.n-k),λk=>⟨[sl 48 s.progs.sv,sl 49 (i64 s.progs.n),sl 50 (i64 k)],[],2,0,[],[]⟩,λk=>s.progs.n-k⟩
theorem CE:∀a,aA ((λa=>[a.1.l.Sm,(a.2.progs.n:Int)<=cB,∀i,i<a.2.systems.n->(a.2.systems.e i).Nm]) a)->aH (C:=cx) [] [] 0 ⟨[],[],[4,10],0⟩ Tryz.f35 ((aD cY sj).enc a) λv H _=>af ((λa=>.v (.bool (l7 a.1 a.2))) a) H v:=by
 intro⟨w,s⟩ ⟨hm,hp,hs⟩;replace hs:∀i,i<s.systems.n->(s.systems.e i).Nm:=hs;replace hm:w.l.Sm:=hm;have hn:(w.l.n:Int)<=9223372036854775807:=hm.1;replace hp:(s.progs.n:Int)<=9223372036854775807:=hp;refine Ai (λhx=>?_) (λhx=>?_);have hx:No w s=true:=hx;have e:l7 w s=false:=(by unfold l7;rw[hx];rfl);simp only[e];exact rfl;have hx:No w s=false:=hx;refine T' (SY w s) ?_;refine Ai ?_ ?_
 ·refine⟨(0:Nat),[],[],trivial,⟨Up _,rfl⟩,?_⟩;repeat' (first|refine Ai ?_ ?_|intro _|exact rfl)
  all_goals exact lI (hs _ (by assumption))
 refine fun(k:Nat) (hk:k<=w.l.n∧bQ (wY w) 0 w.l.n=bQ (wY w) k (w.l.n-k))=>?_;obtain⟨k1,k2⟩:=hk;refine Ai (λhb=>?_) (λhb=>?_)
 ·have hb:(k:Int)<w.l.n:=Od hb;have e:=eE (g:=wY w) (k:=k) (n:=w.l.n) (by omega);refine Ai ⟨by omega,by omega⟩ ?_;refine Ai (λhc=>?_) (λhc=>?_);have hc:wY w k=true:=hc;simp only[hc] at e;have e1:l7 w s=false:=(by unfold l7;rw[k2,e];simp);simp only[e1];exact rfl;have hc:wY w k=false:=hc;simp only[hc] at e;refine Ai (by unfold U1;omega:U1 ((k:Int)+1)) ?_;refine⟨k+1,[],[],(by show w.l.n-(k+1)<w.l.n-k;omega),⟨by omega,by rw[k2,e]⟩,?_⟩;repeat' (first|refine Ai ?_ ?_|intro _|exact rfl)
  all_goals exact lI (hs _ (by assumption))
 have hb:¬(k:Int)<w.l.n:=Uy hb;have a1:bQ (wY w) 0 w.l.n=false:=by rw[k2,show w.l.n-k=0 by omega];rfl
 refine T' (SX s) ?_;refine Ai ?_ ?_
 ·refine⟨(0:Nat),[],[],trivial,⟨Up _,rfl⟩,?_⟩;repeat' (first|refine Ai ?_ ?_|intro _|exact rfl)
  all_goals exact lI (hs _ (by assumption))
 refine fun(k:Nat) (hk:k<=s.progs.n∧bQ (wW s) 0 s.progs.n=bQ (wW s) k (s.progs.n-k))=>?_;obtain⟨k1,k2⟩:=hk;refine Ai (λhb=>?_) (λhb=>?_)
 ·have hb:(k:Int)<s.progs.n:=Od hb;have e:=eE (g:=wW s) (k:=k) (n:=s.progs.n) (by omega);refine Ai ⟨by omega,by omega⟩ ?_;refine Ai (λhc=>?_) (λhc=>?_);have hc:wW s k=true:=hc;simp only[hc] at e;have e1:l7 w s=false:=(by unfold l7;rw[k2,e];simp);simp only[e1];exact rfl;have hc:wW s k=false:=hc;simp only[hc] at e;refine Ai (by unfold U1;omega:U1 ((k:Int)+1)) ?_;refine⟨k+1,[],[],(by show s.progs.n-(k+1)<s.progs.n-k;omega),⟨by omega,by rw[k2,e]⟩,?_⟩;repeat' (first|refine Ai ?_ ?_|intro _|exact rfl)
  all_goals exact lI (hs _ (by assumption))
 have hb:¬(k:Int)<s.progs.n:=Uy hb;have a2:bQ (wW s) 0 s.progs.n=false:=by rw[k2,show s.progs.n-k=0 by omega];rfl
 have e1:l7 w s=true:=by unfold l7;rw[a1,a2,hx];rfl
 simp only[e1];exact rfl
noncomputable def KG:UW cx:=ae 35 Tryz.call35 (aD cY sj) _ _ (λ_=>⟨[],[],[4,10],0⟩) [] (λ_=>rfl) follows Tryz.func35 (by kernel_rfl) CE
def xU(n:Int):Bool:=decide (-300<=n)&&decide (n<=300)
theorem GM:∀a,aA ((λ_=>[]) a)->aH (C:=cx) [] [] 0 ai Tryz.f36 ((bs (Vm .i64)).enc a) λv H _=>af ((λn=>.v (.bool (xU n))) a) H v:=by intro n _;exact rfl
noncomputable def NK:UW cx:=ae 36 Tryz.call36 (bs (Vm .i64)) _ _ (λ_=>ai) [] (λ_=>rfl) follows Tryz.func36 (by kernel_rfl) GM
def o7(c:aR):Bool:=decide (c.kind=2)&&(!xU c.v0||!xU c.v1)
def SW(z:VD):Bool:=(xU z.gravityX&&xU z.gravityY)||decide (4096<z.gravityX)||decide (4096<z.gravityY)||decide (z.gravityX < -4096)||decide (z.gravityY < -4096)
def Nn(z:VD)(l:cm):Bool:=!l7 z.w z.stp||decide ((20:Int)<l.n)||decide ((34:Int)<z.ropes.n)
def te(z:VD)(i:Nat):Bool:=bQ (λk=>o7 ((z.wEntities.e i).l.c k)) 0 (z.wEntities.e i).l.n
def lZ(z:VD)(l:cm):Bool:=!Nn z l&&!bQ (te z) 0 z.wEntities.n&&SW z
def OP:SV:=.v (.func (.func 36) #[] #[])
def fvC(z:VD):Cut:=⟨Nat,λk=>k<=z.wEntities.n∧bQ (te z) 0 z.wEntities.n=bQ (te z) k (z.wEntities.n-k),λk=>⟨[sl 2 (.p 0 0),sl 5 OP,sl 29 z.wEntities.sv,sl 30 (i64 z.wEntities.n),sl 31 (i64 k)],[(0,.lay z.cells 36)],1,0,[],[]⟩,λk=>z.wEntities.n-k⟩
def fwC(z:VD)(i:Nat):Cut:=⟨Nat,λk=>k<=(z.wEntities.e i).l.n∧te z i=bQ (λk=>o7 ((z.wEntities.e i).l.c k)) k ((z.wEntities.e i).l.n-k),λk=>⟨[sl 2 (.p 0 0),sl 5 OP,sl 29 z.wEntities.sv,sl 30 (i64 z.wEntities.n),sl 31 (i64 i),sl 36 (z.wEntities.e i).l.sv,sl 37 (i64 (z.wEntities.e i).l.n),sl 38 (i64 k)],[(0,.lay z.cells 36)],1,0,[],[]⟩,λk=>(z.wEntities.e i).l.n-k⟩
theorem CC:∀a,aA ((λa=>[a.1.wEntities.Sm,(a.1.setupProgs.n:Int)<=cB,∀i,i<a.1.setupSystems.n->(a.1.setupSystems.e i).Nm]) a)->aH (C:=cx) [KG,NK] [] 0 ⟨[],[],[5,8],0⟩ Tryz.f10 ((aD iH jO).enc a) λv H _=>af ((λa=>.v (.bool (lZ a.1 a.2))) a) H v:=by
 intro⟨z,l⟩ ⟨hm,hp,hs⟩;replace hs:∀i,i<z.setupSystems.n->(z.setupSystems.e i).Nm:=hs;replace hm:z.wEntities.Sm:=hm;replace hp:(z.setupProgs.n:Int)<=cB:=hp;have hn:(z.wEntities.n:Int)<=9223372036854775807:=hm.1;refine Ai ⟨λ_ _ _ _=>trivial,by repeat' (first|exact trivial|exact rfl|refine Ai ?_ ?_|intro _),by repeat' (first|exact trivial|exact rfl|refine Ai ?_ ?_|intro _),hm,hp,hs⟩ ?_;refine Ai (λhx=>?_) (λhx=>?_);have hx:Nn z l=true:=hx;have e:lZ z l=false:=(by unfold lZ;rw[hx];rfl);simp only[e];exact rfl;have hx:Nn z l=false:=hx;refine T' (fvC z) ?_;refine Ai ?_ ?_
 ·refine⟨(0:Nat),[],[],trivial,⟨Up _,rfl⟩,?_⟩;repeat' (first|refine Ai ?_ ?_|intro _|exact rfl)
  all_goals exact lI (hs _ (by assumption))
 refine fun(i:Nat) (hi:i<=z.wEntities.n∧bQ (te z) 0 z.wEntities.n=bQ (te z) i (z.wEntities.n-i))=>?_;obtain⟨i1,i2⟩:=hi;refine Ai (λhb=>?_) (λhb=>?_)
 ·have hb:(i:Int)<z.wEntities.n:=Od hb;have ei:=eE (g:=te z) (k:=i) (n:=z.wEntities.n) (by omega);have hc:((z.wEntities.e i).l.n:Int)<=9223372036854775807:=(hm.2 i (by omega)).1;refine Ai ⟨by omega,by omega⟩ ?_;refine T' (fwC z i) ?_;refine Ai ?_ ?_
  ·refine⟨(0:Nat),[],[],trivial,⟨Up _,rfl⟩,?_⟩;repeat' (first|refine Ai ?_ ?_|intro _|exact rfl)
   all_goals exact lI (hs _ (by assumption))
  refine fun(k:Nat) (hk:k<=(z.wEntities.e i).l.n∧te z i=bQ (λk=>o7 ((z.wEntities.e i).l.c k)) k ((z.wEntities.e i).l.n-k))=>?_;obtain⟨k1,k2⟩:=hk;refine Ai (λhb=>?_) (λhb=>?_)
  ·have hb:(k:Int)<(z.wEntities.e i).l.n:=Od hb;have e:=eE (g:=λk=>o7 ((z.wEntities.e i).l.c k)) (k:=k) (n:=(z.wEntities.e i).l.n) (by omega);refine Ai ⟨by omega,by omega⟩ ?_;refine Ai (λhq=>?_) (λhq=>?_);have hq:(λk=>o7 ((z.wEntities.e i).l.c k)) k=true:=hq;simp only[hq] at e;have e0:te z i=true:=(by rw[k2,e]);simp only[e0] at ei;have e1:lZ z l=false:=(by unfold lZ;rw[i2,ei];simp);simp only[e1];exact rfl;have hq:(λk=>o7 ((z.wEntities.e i).l.c k)) k=false:=hq;simp only[hq] at e;refine Ai (by unfold U1;omega:U1 ((k:Int)+1)) ?_;refine⟨k+1,[],[],(by show (z.wEntities.e i).l.n-(k+1)<(z.wEntities.e i).l.n-k;omega),⟨by omega,by rw[k2,e]⟩,?_⟩;repeat' (first|refine Ai ?_ ?_|intro _|exact rfl)
   all_goals exact lI (hs _ (by assumption))
  have hb:¬(k:Int)<(z.wEntities.e i).l.n:=Uy hb;have e0:te z i=false:=(by rw[k2,show (z.wEntities.e i).l.n-k=0 by omega];rfl);simp only[e0] at ei;refine Ai (by unfold U1;omega:U1 ((i:Int)+1)) ?_;refine⟨i+1,[],[],(by show z.wEntities.n-(i+1)<z.wEntities.n-i;omega),⟨by omega,by rw[i2,ei]⟩,?_⟩;repeat' (first|refine Ai ?_ ?_|intro _|exact rfl)
  all_goals exact lI (hs _ (by assumption))
 have hb:¬(i:Int)<z.wEntities.n:=Uy hb;have a2:bQ (te z) 0 z.wEntities.n=false:=by rw[i2,show z.wEntities.n-i=0 by omega];rfl
 have e1:lZ z l=SW z:=by unfold lZ;rw[a2,hx];rfl
 simp only[e1];exact rfl
noncomputable def KF:UW cx:=ae 10 Tryz.call10 (aD iH jO) _ _ (λ_=>⟨[],[],[5,8],0⟩) [] (λ_=>rfl) follows Tryz.func10 (by kernel_rfl) CC
def oT(w:U9)(f:X2)(i:Nat):Bool:=decide ((((w.l.e i).l.n:Nat):Int)=0)||decide (¬((w.l.e i).l.c 0).v0=f.g (2*(i:Int)).toNat)||decide (¬((w.l.e i).l.c 0).v1=f.g (2*(i:Int)+1).toNat)
def atW(w:U9)(f:X2):Bool:=!decide (¬2*(w.l.n:Int)=f.n)&&!bQ (oT w f) 0 w.l.n
def atC(w:U9)(f:X2):Cut:=⟨Nat,λk=>k<=w.l.n∧bQ (oT w f) 0 w.l.n=bQ (oT w f) k (w.l.n-k),λk=>⟨[sl 1 (.rs 1 f.n λi=>[.v (.int .i64 (f.g i))]),sl 15 w.l.sv,sl 16 (i64 w.l.n),sl 17 (i64 k)],[],1,0,[],[]⟩,λk=>w.l.n-k⟩
set_option maxHeartbeats 2000000 in
set_option maxRecDepth 8000 in
theorem Ho:∀a,aA ((λa=>[a.1.l.n<=100000]) a)->aH (C:=cx) [] [] 0 ⟨[1006],[],[4],0⟩ Tryz.f38 ((aD cY (rdF .i64)).enc a) λv H _=>af ((λa=>.v (.bool (atW a.1 a.2))) a) H v:=by
 intro⟨w,f⟩ hn;replace hn:w.l.n<=100000:=hn;refine Ai (show UU (2*(w.l.n:Int)) by unfold UU;omega) ?_;refine Ai (λhx=>?_) (λhx=>?_);have hx:decide (¬2*(w.l.n:Int)=f.n)=true:=hx;have e:atW w f=false:=(by unfold atW;rw[hx];rfl);simp only[e];exact rfl;have hx:decide (¬2*(w.l.n:Int)=f.n)=false:=hx;have hl:2*(w.l.n:Int)=f.n:=by simpa using hx
 refine T' (atC w f) ?_;refine Ai ?_ ?_
 ·refine⟨(0:Nat),[],[],trivial,⟨Up _,rfl⟩,?_⟩;repeat' (first|refine Ai ?_ ?_|intro _|exact rfl)
 refine fun(k:Nat) (hk:k<=w.l.n∧bQ (oT w f) 0 w.l.n=bQ (oT w f) k (w.l.n-k))=>?_;obtain⟨k1,k2⟩:=hk;refine Ai (λhb=>?_) (λhb=>?_)
 ·have hb:(k:Int)<w.l.n:=Od hb;have e:=eE (g:=oT w f) (k:=k) (n:=w.l.n) (by omega);refine Ai ⟨by omega,by omega⟩ ?_;have kn:∀{b:Bool},decide ((((w.l.e k).l.n:Nat):Int)=0)=false->0<((w.l.e k).l.n:Int):=λh=>(by have:=Uy h;omega);have g2:(decide ((((w.l.e k).l.n:Nat):Int)=0)||decide (¬((w.l.e k).l.c 0).v0=f.g (2*(k:Int)).toNat))=false->0<((w.l.e k).l.n:Int):=λh=>(by rw[UH] at h;exact kn (b:=true) h.1);refine Ai (λhq=>⟨Int.le_refl 0,kn (b:=true) hq⟩) ?_;refine Ai (λ_=>(by unfold UU;omega:UU (2*(k:Int)))) ?_;refine Ai (λ_=>⟨(by omega:0<=2*(k:Int)),(by omega:2*(k:Int)<f.n)⟩) ?_;refine Ai (λhq=>⟨Int.le_refl 0,g2 hq⟩) ?_;refine Ai (λ_=>(by unfold UU;omega:UU (2*(k:Int)))) ?_;refine Ai (λ_=>(by unfold UU;omega:UU (2*(k:Int)+1))) ?_;refine Ai (λ_=>⟨(by omega:0<=2*(k:Int)+1),(by omega:2*(k:Int)+1<f.n)⟩) ?_;refine Ai (λhc=>?_) (λhc=>?_);have hc:oT w f k=true:=hc;simp only[hc] at e;have e1:atW w f=false:=(by unfold atW;rw[k2,e];simp);simp only[e1];exact rfl;have hc:oT w f k=false:=hc;simp only[hc] at e;refine Ai (by unfold U1;omega:U1 ((k:Int)+1)) ?_;refine⟨k+1,[],[],(by show w.l.n-(k+1)<w.l.n-k;omega),⟨by omega,by rw[k2,e]⟩,?_⟩;repeat' (first|refine Ai ?_ ?_|intro _|exact rfl)
 have hb:¬(k:Int)<w.l.n:=Uy hb;have e0:bQ (oT w f) 0 w.l.n=false:=by rw[k2,show w.l.n-k=0 by omega];rfl
 have e1:atW w f=true:=by unfold atW;rw[e0,hx];rfl
 simp only[e1];exact rfl
noncomputable def El:UW cx:=ae 38 Tryz.call38 (aD cY (rdF .i64)) _ _ (λ_=>⟨[1006],[],[4],0⟩) [1006] (λ_=>rfl) follows Tryz.func38 (by kernel_rfl) Ho
end Go.Proofs.YtgigkennhdolpaaGreatDoor
