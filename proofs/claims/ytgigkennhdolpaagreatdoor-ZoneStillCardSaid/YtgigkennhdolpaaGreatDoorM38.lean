/- zone.In, Ints, law 30's at. -/
import Derived.Test.YtgigkennhdolpaaGreatDoorM37
import Derived.Test.YtgigkennhdolpaaGreatDoorM26
import Derived.Test.YtgigkennhdolpaaGreatDoorM36
import Derived.Test.YtgigkennhdolpaaGreatDoorProg
import Derived.Test.YtgigkennhdolpaaGreatDoorM20
import Derived.KernelRfl
namespace Go.Proofs.YtgigkennhdolpaaGreatDoor
open Go.RowKit
set_option maxRecDepth 8000
set_option maxHeartbeats 2000000
structure Yd where
 lowX:Int
 lowY:Int
 highX:Int
 highY:Int
def Yd.sv(b:Yd):SV:=.agg [.v (.int .i64 b.lowX),.v (.int .i64 b.lowY),.v (.int .i64 b.highX),.v (.int .i64 b.highY)]
def Yd.of(x:SV):Yd:=⟨(aS 0 x).iv,(aS 1 x).iv,(aS 2 x).iv,(aS 3 x).iv⟩
def yf:Rd Yd:=⟨.agg [.v (.int .i64 0),.v (.int .i64 0),.v (.int .i64 0),.v (.int .i64 0)],Yd.of,Yd.sv,λ_=>rfl⟩
def Y0(a:Yd)(p:Vec):Bool:=decide (a.lowX<=p.x)&&decide (p.x<=a.highX)&&decide (a.lowY<=p.y)&&decide (p.y<=a.highY)
theorem Hb:∀a,aA ((λ_=>[]) a)->aH (C:=cx) [] [] 0 ai Tryz.f34 ((aD yf dS).enc a) λv H _=>af ((λa=>.v (.bool (Y0 a.1 a.2))) a) H v:=by
 intro⟨a,p⟩ _;repeat' (first|refine Ai ?_ ?_|intro _|exact rfl)
 all_goals trace_state
noncomputable def Ek:UW cx:=ae 34 Tryz.call34 (aD yf dS) _ _ (λ_=>ai) [] (λ_=>rfl) follows Tryz.func34 (by kernel_rfl) Hb
theorem Lt:∀a,aA ((λa=>[a.n=0]) a)->aH (C:=cx) [] [] 0 ai Tryz.f77 ((bs Bi).enc a) λv H _=>fY ((λa=>a.sv) a) H v:=by
 intro l hm;replace hm:l.n=0:=hm;intro b hb;refine Ai (λh=>?_) (λh=>?_);have h:(b != false)=true:=h;have hn:=hb (by simpa using h);exact hn;have hf:gQ l.n 32:=⟨Nat.le_trans (by omega:l.n<=1000) (by decide),by omega⟩
 refine Ai hf ?_;repeat' (first|refine Ai ?_ ?_|intro _|exact rfl)
 all_goals exact Uw ‹_<l.n› (by omega)
noncomputable def Q4:UW cx:=jT 77 Tryz.call77 (bs Bi) _ _ (λ_=>ai) [] (λ_=>rfl) follows Tryz.func77 (by kernel_rfl) Lt
def Tx(w:U9)(b:Nat):Cut:=⟨Nat,λk=>k<=w.l.n,λk=>⟨[sl 2 (.p (b+1) 0),sl 3 (.p (b+2) 0),sl 10 w.l.sv,sl 11 (i64 w.l.n),sl 12 (i64 k)],
 [(b+1,.lay uB 28),(b+2,.lay [.v (.int .i64 w.tick),.g (b+3) (b+4) 2 0 k] 28),(b+3,yo w.l k (b+4))],b+5,0,[],[]⟩,λk=>w.l.n-k⟩
theorem GF:∀a,aA ((λa=>[a.l.n<=1000,∀i,i<a.l.n->(a.l.e i).l.n<=1000]) a)->aH (C:=cx) [p9] [] 0 ⟨[],[],[3],0⟩ Tryz.f56 ((bs cY).enc a) λv H _=>fY ((λa=>a.sv) a) H v:=by
 intro w ⟨hn,hl⟩;replace hn:w.l.n<=1000:=hn;replace hl:∀i,i<w.l.n->(w.l.e i).l.n<=1000:=hl;refine T' (Tx w 0) ?_;refine Ai ?_ ?_
 ·refine⟨(0:Nat),[],[.cellN 2 1 2 1 5 46 42],trivial,Up _,?_⟩;repeat' (first|refine Ai ?_ ?_|intro _|exact rfl)
  all_goals exact Uw ‹_<0› (F' _)
 refine fun(k:Nat) (hk:k<=w.l.n)=>?_;refine Ai (λhb=>?_) (λhb=>?_)
 ·have hb:(k:Int)<w.l.n:=Od hb;refine Ai ⟨by omega,by omega⟩ ?_;refine Ai ⟨λ_ _=>trivial,hl k (by omega)⟩ ?_;have Vv:gQ (k+1) 32:=⟨Nat.le_trans (by omega:k+1<=1001) (by decide),by omega⟩
  refine Ai ⟨Vv,?_⟩ ?_
  ·repeat' (first|refine Ai ?_ ?_|intro _|exact rfl)
  refine Ai (by unfold U1;omega:U1 ((k:Int)+1)) ?_;refine⟨k+1,[(4,8)],[.bE 3],(by show w.l.n-(k+1)<w.l.n-k;omega),(by omega:k+1<=w.l.n),?_⟩;repeat' (first|refine Ai ?_ ?_|intro _|exact rfl)
  refine aG (α:=List SV) (p:=λi y=>aO (Vu 5 [(4,8)] (List.set [SV.v (Value.int IntKind.i64 (w.l.e i).iD),SV.e] 1 SV.e) (y.set 1 SV.e))) ?_ ?_ _ ‹_›;exact rfl;exact λi _=>rfl;refine aG (α:=Nat×(Nat->List SV)) (p:=λi y=>(w.l.e i).l.n=y.1) ?_ ?_ _ ‹_›;exact rfl;exact λi _=>rfl;refine aG (α:=Nat×(Nat->List SV)) (p:=λi y=>∀j,j<y.1->aO (Vu 5 [(4,8)] ((w.l.e i).l.c j).cells (y.2 j))) ?_ ?_ _ ‹_› _ ‹_›
  ·exact λj _=>⟨rfl,rfl,rfl,rfl,rfl⟩
  ·exact λi _ j _=>⟨rfl,rfl,rfl,rfl,rfl⟩
 have hb:¬(k:Int)<w.l.n:=Uy hb;obtain rfl:k=w.l.n:=by omega
 repeat' (first|refine Ai ?_ ?_|intro _|exact rfl)
 all_goals first|(show (_:Int)=_;rw[B'];done)|(show (_:Nat)=_;rw[B'];done)|(show (_:Nat)=_;rw[B'];rfl)
noncomputable def NF:UW cx:=jT 56 Tryz.call56 (bs cY) _ _ (λ_=>⟨[],[],[3],0⟩) [] (λ_=>rfl) follows Tryz.func56 (by kernel_rfl) GF
theorem Sb(l:List Int)(x:Int){i:Nat}(hi:i<l.length+1):(l++[x]).getD i 0=bif Nat.ble l.length i then x else l.getD i 0:=by
 by_cases h:i<l.length;rw[show Nat.ble l.length i=false from by cases e:Nat.ble l.length i;rfl;exact Uw (L' e) (by omega)];simp[List.getD_eq_getElem?_getD,M' h];rw[show Nat.ble l.length i=true from Nat.ble_eq_true_of_le (by omega)];have:i=l.length:=by omega
 subst this;simp[List.getD_eq_getElem?_getD]
def Sp(a:Yd)(e:UZ):Bool:=!Y0 a ⟨(bz e.l 1).1.v0,(bz e.l 1).1.v1⟩
def VD.qd(z:VD):Yd:=⟨z.areaLowX,z.areaLowY,z.areaHighX,z.areaHighY⟩
def VD.w(z:VD):U9:=⟨z.wTick,z.wEntities⟩
def VD.stp(z:VD):Yc:=⟨z.setupSystems,z.setupProgs,z.setupSeed,z.setupFuel⟩
def Gw:Yd:=⟨-1048576,-1048576,1048576,1048576⟩
def DO:Yd:=⟨-4096,-4096,4096,4096⟩
structure VD.Ok (z:VD):Prop where
 lo:Y0 Gw ⟨z.areaLowX,z.areaLowY⟩=true
 hi:Y0 Gw ⟨z.areaHighX,z.areaHighY⟩=true
 in_:Y0 z.qd ⟨z.areaLowX,z.areaLowY⟩=true
 gr:Y0 DO ⟨z.gravityX,z.gravityY⟩=true
 ro:z.ropes.n=0
 st:z.stp.tX
def oB(a b:X2):Bool:=decide (a.n=b.n)&&!bQ (λi=>decide (¬a.g i=b.g i)) 0 a.n
def SF(a b:X2):Cut:=⟨Nat,λk=>k<=a.n∧bQ (λi=>decide (¬a.g i=b.g i)) 0 a.n=bQ (λi=>decide (¬a.g i=b.g i)) k (a.n-k),
 λk=>⟨[sl 0 (.rs 1 a.n λi=>[.v (.int .i64 (a.g i))]),sl 1 (.rs 1 b.n λi=>[.v (.int .i64 (b.g i))]),sl 12 (i64 a.n),sl 13 (i64 k)],[],0,0,[],[]⟩,λk=>a.n-k⟩
set_option maxHeartbeats 2000000 in
set_option maxRecDepth 8000 in
theorem G9:∀a,aA ((λa=>[(a.1.n:Int)<=cB]) a)->aH (C:=cx) [] [] 0 ⟨[],[],[4],0⟩ Tryz.f20 ((aD (rdF .i64) (rdF .i64)).enc a) λv H _=>af ((λa=>.v (.bool (oB a.1 a.2))) a) H v:=by
 intro⟨a,b⟩ hp;replace hp:(a.n:Int)<=9223372036854775807:=hp;refine Ai (λhx=>?_) (λhx=>?_);have hx:decide (¬(a.n:Int)=b.n)=true:=hx;have:=Od hx;have e:oB a b=false:=(by unfold oB;rw[UA (by omega)];rfl);simp only[e];exact rfl;have hx:decide (¬(a.n:Int)=b.n)=false:=hx;have hx:=Uy hx;have hn:a.n=b.n:=by omega
 refine T' (SF a b) ?_;refine Ai ?_ ?_
 ·refine⟨(0:Nat),[],[],trivial,⟨Up _,rfl⟩,?_⟩;repeat' (first|refine Ai ?_ ?_|intro _|exact rfl)
 refine fun(k:Nat) (hk:k<=a.n∧bQ (λi=>decide (¬a.g i=b.g i)) 0 a.n=bQ (λi=>decide (¬a.g i=b.g i)) k (a.n-k))=>?_;obtain⟨k1,k2⟩:=hk;refine Ai (λhb=>?_) (λhb=>?_)
 ·have hb:(k:Int)<a.n:=Od hb;have e:=eE (g:=λi=>decide (¬a.g i=b.g i)) (k:=k) (n:=a.n) (by omega);refine Ai ⟨by omega,by omega⟩ ?_;refine Ai ⟨by omega,by omega⟩ ?_;refine Ai (λhc=>?_) (λhc=>?_);have hc:decide (¬a.g k=b.g k)=true:=hc;simp only[hc] at e;have e2:oB a b=false:=(by unfold oB;rw[k2,e,Bool.not_true,Bool.and_false]);simp only[e2];exact rfl;have hc:decide (¬a.g k=b.g k)=false:=hc;simp only[hc] at e;refine Ai (by unfold U1;omega:U1 ((k:Int)+1)) ?_;refine⟨k+1,[],[],(by show a.n-(k+1)<a.n-k;omega),⟨by omega,by rw[k2,e]⟩,?_⟩;repeat' (first|refine Ai ?_ ?_|intro _|exact rfl)
 have hb:¬(k:Int)<a.n:=Uy hb;have e2:oB a b=true:=by unfold oB;rw[k2,show a.n-k=0 by omega,UB hn];rfl
 simp only[e2];exact rfl
noncomputable def Ej:UW cx:=ae 20 Tryz.call20 (aD (rdF .i64) (rdF .i64)) _ _ (λ_=>⟨[],[],[4],0⟩) [] (λ_=>rfl) follows Tryz.func20 (by kernel_rfl) G9
set_option maxRecDepth 8000
set_option maxHeartbeats 2000000
def dW(r:gV):Bool:=decide (r.b<=r.a)||decide (r.len<0)||decide (2097152<r.len)
theorem B2:∀a,aA ((λ_=>[]) a)->aH (C:=cx) [] [] 0 ai Tryz.f47 ((bs vX).enc a) λv H _=>af ((λr=>.v (.bool (dW r))) a) H v:=by intro r _;exact rfl
noncomputable def Kb:UW cx:=ae 47 Tryz.call47 (bs vX) _ _ (λ_=>ai) [] (λ_=>rfl) follows Tryz.func47 (by kernel_rfl) B2
def SD(F:Xx):Cut:=⟨Nat,λk=>k<=F.n∧VI (λi=>dW (F.e i)) 0 F.n=VI (λi=>dW (F.e i)) k (F.n-k),λk=>⟨[sl 0 F.sv,sl 1 (.v (.func (.func 47) #[] #[])),sl 7 (i64 F.n),sl 8 (i64 k)],[],0,0,[],[]⟩,λk=>F.n-k⟩
theorem G6:∀a,aA ((λa=>[(a.1.n:Int)<=cB,a.2=.v (.func (.func 47) #[] #[])]) a)->aH (C:=cx) [Kb] [] 0 ⟨[],[],[2],0⟩ Tryz.f83 ((aD gW Vy).enc a) λv H _=>af ((λa=>.v (.int .i64 (VO (λi=>dW (a.1.e i)) a.1.n))) a) H v:=by
 intro⟨⟨N,F⟩,x⟩ ⟨hm,hx⟩;replace hx:x=.v (.func (.func 47) #[] #[]):=hx;subst hx;replace hm:(N:Int)<=9223372036854775807:=hm;refine T' (SD ⟨N,F⟩) ?_;refine Ai ?_ ?_
 ·refine⟨(0:Nat),[],[],trivial,⟨Up _,rfl⟩,?_⟩;repeat' (first|refine Ai ?_ ?_|intro _|exact rfl)
 refine fun(k:Nat) (hk:k<=N∧VI (λi=>dW (F i)) 0 N=VI (λi=>dW (F i)) k (N-k))=>?_;obtain⟨k1,k2⟩:=hk;refine Ai (λhb=>?_) (λhb=>?_)
 ·have hb:(k:Int)<N:=Od hb;have e0:=ji (g:=(λi=>dW (F i))) (k:=k) (n:=N) (by omega);refine Ai ⟨by omega,by omega⟩ ?_;refine Ai (λhc=>?_) (λhc=>?_);have hc:dW (F k)=true:=hc;simp only[hc] at e0;exact fZ (g:=(λi=>dW (F i))) (n:=N) (k2.trans e0) (by omega);have hc:dW (F k)=false:=hc;simp only[hc] at e0;refine Ai (by unfold U1;omega:U1 ((k:Int)+1)) ?_;refine⟨k+1,[],[],(by show N-(k+1)<N-k;omega),⟨(by show k+1<=N;omega),by rw[k2,e0]⟩,?_⟩;repeat' (first|refine Ai ?_ ?_|intro _|exact rfl)
 have hb:¬(k:Int)<N:=Uy hb;refine fR (g:=(λi=>dW (F i))) (n:=N) ?_;rw[k2,show N-k=0 by omega];show k=N;omega
noncomputable def NZ:UW cx:=ae 83 Tryz.call83 (aD gW Vy) _ _ (λ_=>⟨[],[],[2],0⟩) [] (λ_=>rfl) follows Tryz.func83 (by kernel_rfl) G6
def jW(r:Xx):Bool:=decide (0<=VO (λi=>dW (r.e i)) r.n)
theorem CG:∀a,aA ((λa=>[(a.1.n:Int)<=cB,a.2=.v (.func (.func 47) #[] #[])]) a)->aH (C:=cx) [NZ] [] 0 ai Tryz.f46 ((aD gW Vy).enc a) λv H _=>af ((λa=>.v (.bool (jW a.1))) a) H v:=by intro⟨l,x⟩ ⟨hm,hx⟩;replace hx:x=.v (.func (.func 47) #[] #[]):=hx;subst hx;refine Ai ⟨(by repeat' (first|exact trivial|exact rfl|refine Ai ?_ ?_|intro _)),hm,rfl⟩ ?_;exact rfl
noncomputable def KH:UW cx:=ae 46 Tryz.call46 (aD gW Vy) _ _ (λ_=>ai) [] (λ_=>rfl) follows Tryz.func46 (by kernel_rfl) CG
def EH(z:VD):Bool:=!Y0 Gw ⟨z.areaLowX,z.areaLowY⟩||!Y0 Gw ⟨z.areaHighX,z.areaHighY⟩||!Y0 z.qd ⟨z.areaLowX,z.areaLowY⟩||!Y0 DO ⟨z.gravityX,z.gravityY⟩||decide ((32:Int)<z.ropes.n)
def js(z:VD):Bool:=!EH z&&(!jW z.ropes&&z.w.valid)
theorem K9:∀a,aA ((λa=>[a.w.l.Sm,(a.ropes.n:Int)<=cB,a.stp.tX]) a)->aH (C:=cx) [Ek,pZ,tI,KH] [] 0 ai Tryz.f14 ((bs iH).enc a) λv H _=>af ((λa=>.v (.bool (js a))) a) H v:=by intro z ⟨hs,hr,hz⟩;replace hs:z.w.l.Sm:=hs;replace hr:(z.ropes.n:Int)<=cB:=hr;replace hz:z.stp.tX:=hz;refine Ai (λhb=>?_) (λhb=>?_);have hb:EH z=true:=hb;have e:js z=false:=(by unfold js;rw[hb];rfl);simp only[e];exact rfl;have hb:EH z=false:=hb;refine Ai ⟨(by repeat' (first|exact trivial|exact rfl|refine Ai ?_ ?_|intro _)),hr,rfl⟩ ?_;refine Ai (λ_=>⟨(by repeat' (first|exact trivial|exact rfl|refine Ai ?_ ?_|intro _)),hs⟩) ?_;refine Ai (λ_=>⟨(by repeat' (first|exact trivial|exact rfl|refine Ai ?_ ?_|intro _)),(by repeat' (first|exact trivial|exact rfl|refine Ai ?_ ?_|intro _)),hz⟩) ?_;refine UR (a:=js z) (b:=(!jW z.ropes&&z.w.valid)) (by unfold js;rw[hb];rfl) ?_;exact(Bool.or_false _).symm
noncomputable def BP:UW cx:=ae 14 Tryz.call14 (bs iH) _ _ (λ_=>ai) [] (λ_=>rfl) follows Tryz.func14 (by kernel_rfl) K9
theorem GV:∀a,aA ((λa=>[a.wEntities.n<=1000,∀i,i<a.wEntities.n->(a.wEntities.e i).l.n<=1000,a.setupSystems.n=0,a.setupProgs.n=0,a.ropes.n<=1000]) a)->aH (C:=cx) [NF,BT,Q4] [] 0 ⟨[1,2],[],[],1⟩ Tryz.f40 ((bs iH).enc a) λv H _=>af ((λa=>a.sv) a) H v:=by
 intro a ⟨h1,h2,h3,h4,h5⟩;replace h3:a.setupSystems.n=0:=h3;replace h4:a.setupProgs.n=0:=h4;refine Ai ⟨(by repeat' (first|exact trivial|exact rfl|refine Ai ?_ ?_|intro _)),h1,h2⟩ ?_;refine Ai ⟨(by repeat' (first|exact trivial|exact rfl|refine Ai ?_ ?_|intro _)),h5⟩ ?_;refine Ai ⟨(by repeat' (first|exact trivial|exact rfl|refine Ai ?_ ?_|intro _)),h3⟩ ?_;refine Ai (λh=>Uw (show (0:Int)<a.setupProgs.n from Od h) (by omega)) (λ_=>?_);repeat' (first|refine Ai ?_ ?_|intro _|exact rfl)
 all_goals first|exact h4|exact Uw (show _<a.setupSystems.n from ‹_›) (by omega)
noncomputable def Eh:UW cx:=ae 40 Tryz.call40 (bs iH) _ _ (λ_=>⟨[1,2],[],[],1⟩) [1,2] (λ_=>rfl) follows Tryz.func40 (by kernel_rfl) GV
def yl(a:Yd)(e:UZ):Bool:=match (bz e.l 1).2 with|true=>Sp a e|false=>false
def jj(a:Yd)(l:V3)(k:Nat):List Int:=cW (λi=>(l.e i).iD) (λi=>yl a (l.e i)) k
def T5(a:Yd)(w:U9):Cut:=⟨Nat,λk=>k<=w.l.n,λk=>⟨[sl 2 (.p 0 0),sl 5 (.g 2 3 1 0 (jj a w.l k).length),sl 10 w.l.sv,sl 11 (i64 w.l.n),sl 12 (i64 k)],
 [(0,.lay [.v (.int .i64 a.lowX),.v (.int .i64 a.lowY),.v (.int .i64 a.highX),.v (.int .i64 a.highY)] 25),(2,.lst 3 1 (jj a w.l k).length (λi=>[.v (.int .i64 ((jj a w.l k).getD i 0))]) 3)],4,0,[],[]⟩,λk=>w.l.n-k⟩
theorem Q8{l:WV}{q:Int}(h:VO (λi=>decide ((l.c i).kind=q)) l.n<0):(bz l q).2=false:=by
 unfold VO at h;unfold bz;cases hd:decide (VI (λi=>decide ((l.c i).kind=q)) 0 l.n<l.n) with
 | false=>rfl
 | true=>rw[hd] at h;exact Uw (show ((VI (λi=>decide ((l.c i).kind=q)) 0 l.n:Nat):Int)<0 from h) (by omega)
theorem Ot{l:WV}{q:Int}(h:¬VO (λi=>decide ((l.c i).kind=q)) l.n<0):(0<=VO (λi=>decide ((l.c i).kind=q)) l.n∧VO (λi=>decide ((l.c i).kind=q)) l.n<l.n)∧bz l q=(l.c (VO (λi=>decide ((l.c i).kind=q)) l.n).toNat,true):=by
 unfold VO at h ⊢;unfold bz;cases hd:decide (VI (λi=>decide ((l.c i).kind=q)) 0 l.n<l.n) with
 | true=>exact⟨⟨by simp only;omega,by have:=Od hd;simp only;omega⟩,rfl⟩
 | false=>rw[hd] at h;exact Uw (show (-1:Int)<0 by decide) h
noncomputable def Js:Wl cx:=⟨57,Tryz.call57,Tryz.f57,Tryz.func57,[],[],[],0,by kernel_rfl⟩
theorem Hh:∀a,aA ((λa=>[a.2=.rp [.il .u8 1] 0]) a)->aH (C:=cx) [] [] 0 ai Tryz.f94 ((aD iB Vy).enc a) λv H _=>af ((λa=>.v (.bool (decide (a.1.kind=rkq a.2)))) a) H v:=by intro⟨c,x⟩ hx;replace hx:x=.rp [.il .u8 1] 0:=hx;subst hx;exact rfl
noncomputable def Og:UW cx:=ae 94 Tryz.call94 (aD iB Vy) _ _ (λ_=>ai) [] (λ_=>rfl) follows Tryz.func94 (by kernel_rfl) Hh
def MX(l:WV):Cut:=⟨Nat,λk=>k<=l.n∧VI (λi=>decide ((l.c i).kind=1)) 0 l.n=VI (λi=>decide ((l.c i).kind=1)) k (l.n-k),
 λk=>⟨[sl 0 l.sv,sl 1 (.f (.func 94) [] [.rp [.il .u8 1] 0]),sl 7 (i64 l.n),sl 8 (i64 k)],[],0,0,[],[]⟩,λk=>l.n-k⟩
theorem G4:∀a,aA ((λa=>[(a.1.n:Int)<=cB,a.2=(.f (.func 94) [] [.rp [.il .u8 1] 0])]) a)->aH (C:=cx) [Og] [] 0 ⟨[],[],[2],0⟩ Tryz.f93 ((aD jx Vy).enc a) λv H _=>af ((λa=>.v (.int .i64 (VO (λi=>decide ((a.1.c i).kind=kxq a.2)) a.1.n))) a) H v:=by
 intro⟨l,x⟩ ⟨hm,hx⟩;replace hx:x=(.f (.func 94) [] [.rp [.il .u8 1] 0]):=hx;subst hx;replace hm:(l.n:Int)<=9223372036854775807:=hm;refine T' (MX l) ?_;refine Ai ?_ ?_
 ·refine⟨(0:Nat),[],[],trivial,⟨Up _,rfl⟩,?_⟩;repeat' (first|refine Ai ?_ ?_|intro _|exact rfl)
 refine fun(k:Nat) (hk:k<=l.n∧VI (λi=>decide ((l.c i).kind=1)) 0 l.n=VI (λi=>decide ((l.c i).kind=1)) k (l.n-k))=>?_;obtain⟨k1,k2⟩:=hk;refine Ai (λhb=>?_) (λhb=>?_)
 ·have hb:(k:Int)<l.n:=Od hb;have e:=ji (g:=(λi=>decide ((l.c i).kind=1))) (k:=k) (n:=l.n) (by omega);refine Ai ⟨by omega,by omega⟩ ?_;refine Ai rfl ?_;refine Ai (λhc=>?_) (λhc=>?_);have hc:(decide ((l.c k).kind=1))=true:=hc;simp only[hc] at e;exact fZ (g:=(λi=>decide ((l.c i).kind=1))) (n:=l.n) (k2.trans e) (by omega);have hc:(decide ((l.c k).kind=1))=false:=hc;simp only[hc] at e;refine Ai (by unfold U1;omega:U1 ((k:Int)+1)) ?_;refine⟨k+1,[],[],(by show l.n-(k+1)<l.n-k;omega),⟨by omega,by rw[k2,e]⟩,?_⟩;repeat' (first|refine Ai ?_ ?_|intro _|exact rfl)
 have hb:¬(k:Int)<l.n:=Uy hb;refine fR (g:=(λi=>decide ((l.c i).kind=1))) (n:=l.n) ?_;rw[k2,show l.n-k=0 by omega];show k=l.n;omega
noncomputable def NY:UW cx:=ae 93 Tryz.call93 (aD jx Vy) _ _ (λ_=>⟨[],[],[2],0⟩) [] (λ_=>rfl) follows Tryz.func93 (by kernel_rfl) G4
theorem vD:∀a,aA ((λa=>[a.2.l.n<=1000,∀i,i<a.2.l.n->((a.2.l.e i).l.n:Int)<=cB]) a)->aH (C:=cx) [NY,Ek] [Js] 1 ⟨[1006],[],[3],0⟩ Tryz.f45 ((aD yf cY).enc a) λv H _=>af ((λa=>.rs 1 (jj a.1 a.2.l a.2.l.n).length (λi=>[.v (.int .i64 ((jj a.1 a.2.l a.2.l.n).getD i 0))])) a) H v:=by
 intro⟨a,w⟩ ⟨h1,h2⟩;replace h1:w.l.n<=1000:=h1;replace h2:∀i,i<w.l.n->((w.l.e i).l.n:Int)<=cB:=h2;refine T' (T5 a w) ?_;refine Ai ?_ ?_
 ·refine⟨(0:Nat),[],[.slot2 5 1 3],trivial,Up _,?_⟩;repeat' (first|refine Ai ?_ ?_|intro _|exact rfl)
  all_goals exact Uw ‹_<0› (F' _)
 refine fun(k:Nat) (hk:k<=w.l.n)=>?_;refine Ai (λhb=>?_) (λhb=>?_)
 ·have hb:(k:Int)<w.l.n:=Od hb;refine Ai ⟨by omega,by omega⟩ ?_;refine Ai ⟨(by repeat' (first|exact trivial|exact rfl|refine Ai ?_ ?_|intro _)),h2 k (by omega),rfl⟩ ?_;have hlen:(jj a w.l k).length<=k:=gC (f:=λi=>(w.l.e i).iD) (g:=λi=>yl a (w.l.e i)) k;have same:yl a (w.l.e k)=false->jj a w.l (k+1)=jj a w.l k:=λh=>iq h;refine Ai (λhc=>?_) (λhc=>?_)
  ·have hc:VO (λi=>decide (((w.l.e k).l.c i).kind=1)) (w.l.e k).l.n<0:=Od hc;have ey:=same (by unfold yl;rw[Q8 hc]);refine Ai (λh=>Uw (show false=true from h) (by decide)) ?_;refine Ai (λh=>Uw (show false=true from h) (by decide)) ?_;refine Ai (by unfold U1;omega:U1 ((k:Int)+1)) ?_;refine⟨k+1,[],[],(by show w.l.n-(k+1)<w.l.n-k;omega),(by show k+1<=w.l.n;omega),?_⟩;repeat' (first|refine Ai ?_ ?_|intro _|exact rfl)
   all_goals first|exact Uv List.length ey|(rename_i i _;exact Uv (λl:List Int=>l.getD i 0) ey)|trace_state
  have hc:¬VO (λi=>decide (((w.l.e k).l.c i).kind=1)) (w.l.e k).l.n<0:=Uy hc;obtain⟨c1,c2⟩:=Ot hc;refine Ai c1 ?_;have hz:yl a (w.l.e k) = !Y0 a ⟨((w.l.e k).l.c (VO (λi=>decide (((w.l.e k).l.c i).kind=1)) (w.l.e k).l.n).toNat).v0,((w.l.e k).l.c (VO (λi=>decide (((w.l.e k).l.c i).kind=1)) (w.l.e k).l.n).toNat).v1⟩:=(by unfold yl Sp;rw[c2]);refine Ai (λhd=>?_) (λhd=>?_)
  ·have hd:yl a (w.l.e k)=true:=hz.trans hd;have ey:jj a w.l (k+1)=jj a w.l k++[(w.l.e k).iD]:=fJ hd;have em:∀i,i<(jj a w.l k).length+1->(jj a w.l (k+1)).getD i 0=bif Nat.ble (jj a w.l k).length i then(w.l.e k).iD else(jj a w.l k).getD i 0:=λi hi=>(Uv (λl=>l.getD i 0) ey).trans (Sb _ _ hi);have Vv:gQ ((jj a w.l k).length+1) 8:=⟨Nat.le_trans (by omega:(jj a w.l k).length+1<=1001) (by decide),by omega⟩
   refine Ai ⟨Vv,by repeat' (first|exact trivial|exact rfl|refine Ai ?_ ?_|intro _)⟩ ?_;refine Ai (by unfold U1;omega:U1 ((k:Int)+1)) ?_;refine⟨k+1,[(3,8)],[],(by show w.l.n-(k+1)<w.l.n-k;omega),(by show k+1<=w.l.n;omega),?_⟩;repeat' (first|refine Ai ?_ ?_|intro _|exact rfl)
   all_goals first|exact(Uv List.length ey).trans List.length_append|exact em _ ‹_›|trace_state
  have hd:yl a (w.l.e k)=false:=hz.trans hd;have ey:=same hd;refine Ai (by unfold U1;omega:U1 ((k:Int)+1)) ?_;refine⟨k+1,[],[],(by show w.l.n-(k+1)<w.l.n-k;omega),(by show k+1<=w.l.n;omega),?_⟩;repeat' (first|refine Ai ?_ ?_|intro _|exact rfl)
  all_goals first|exact Uv List.length ey|(rename_i i _;exact Uv (λl:List Int=>l.getD i 0) ey)|trace_state
 have hb:¬(k:Int)<w.l.n:=Uy hb;obtain rfl:k=w.l.n:=by omega
 repeat' (first|refine Ai ?_ ?_|intro _|exact rfl)
 all_goals first|exact Uv (λi=>(jj a w.l w.l.n).getD i 0) (B' _).symm|trace_state
noncomputable def Oa:UW cx:=ae 45 Tryz.call45 (aD yf cY) _ _ (λ_=>⟨[1006],[],[3],0⟩) [1006] (λ_=>rfl) follows Tryz.func45 (by kernel_rfl) vD
end Go.Proofs.YtgigkennhdolpaaGreatDoor
namespace Go.Proofs.YtgigkennhdolpaaGreatDoor
abbrev link:Go.Conc.Lib.WgLink:={add:=113,done:=115,wait:=117,relMerge:=157,disable:=158,enable:=159,inBubble:=160,associate:=161,fatal:=162,uOr:=163,uAdd:=164,raceRead:=165,uLoad:=166,uStore:=167,disassociate:=168,semrelease:=169,acquire:=172,isAssociated:=173,uCas:=174,raceWrite:=175,semacquire:=176,orU64:=210,addU64:=211,loadU64:=212,storeU64:=213,casU64:=216,tWgP:=260,tUP:=262,tAssoc:=263,tWg:=198,tAU:=196,tU64:=31,tUint:=240,tU32:=59,tPU32:=267,tPAU:=313,tPU64:=315,tNoCopy:=192,tANoCopy:=193,tAlign64:=194}
theorem Hu:Go.Conc.Lib.WgLib Tryz.prog link:=
 ⟨Tryz.func113,Tryz.func115,Tryz.func117,Tryz.func157,Tryz.func158,Tryz.func159,Tryz.func160,Tryz.func161,Tryz.func162,Tryz.func163,Tryz.func164,Tryz.func165,Tryz.func166,Tryz.func167,Tryz.func168,Tryz.func169,Tryz.func172,Tryz.func173,Tryz.func174,Tryz.func175,Tryz.func176,Tryz.func210,Tryz.func211,Tryz.func212,Tryz.func213,Tryz.func216,Tryz.underlying260,Tryz.runUnderlying260,Tryz.sizeOf260,Tryz.isAgg260,Tryz.zeroValue260,Tryz.underlying262,Tryz.runUnderlying262,Tryz.sizeOf262,Tryz.isAgg262,Tryz.zeroValue262,Tryz.underlying263,Tryz.runUnderlying263,Tryz.sizeOf263,Tryz.isAgg263,Tryz.zeroValue263,Tryz.underlying198,Tryz.runUnderlying198,Tryz.sizeOf198,Tryz.isAgg198,Tryz.zeroValue198,Tryz.underlying196,Tryz.runUnderlying196,Tryz.sizeOf196,Tryz.isAgg196,Tryz.zeroValue196,Tryz.underlying31,Tryz.runUnderlying31,Tryz.sizeOf31,Tryz.isAgg31,Tryz.zeroValue31,Tryz.underlying240,Tryz.runUnderlying240,Tryz.sizeOf240,Tryz.isAgg240,Tryz.zeroValue240,Tryz.underlying59,Tryz.runUnderlying59,Tryz.sizeOf59,Tryz.isAgg59,Tryz.zeroValue59,Tryz.underlying267,Tryz.runUnderlying267,Tryz.sizeOf267,Tryz.isAgg267,Tryz.zeroValue267,Tryz.underlying313,Tryz.runUnderlying313,Tryz.sizeOf313,Tryz.isAgg313,Tryz.zeroValue313,Tryz.underlying315,Tryz.runUnderlying315,Tryz.sizeOf315,Tryz.isAgg315,Tryz.zeroValue315,Tryz.underlying0,Tryz.runUnderlying0,Tryz.sizeOf0,Tryz.isAgg0,Tryz.zeroValue0,Tryz.underlying3,Tryz.runUnderlying3,Tryz.sizeOf3,Tryz.isAgg3,Tryz.zeroValue3,Tryz.underlying4,Tryz.runUnderlying4,Tryz.sizeOf4,Tryz.isAgg4,Tryz.zeroValue4,Tryz.underlying9,Tryz.runUnderlying9,Tryz.sizeOf9,Tryz.isAgg9,Tryz.zeroValue9,Tryz.underlying20,Tryz.runUnderlying20,Tryz.sizeOf20,Tryz.isAgg20,Tryz.zeroValue20,Tryz.underlying21,Tryz.runUnderlying21,Tryz.sizeOf21,Tryz.isAgg21,Tryz.zeroValue21,(by kernel_rfl),(by kernel_rfl)⟩
end Go.Proofs.YtgigkennhdolpaaGreatDoor
