/- law 30's Same of equal zones with empty setups.. -/
import Derived.Test.YtgigkennhdolpaaGreatDoorM45
import Derived.Test.YtgigkennhdolpaaGreatDoorM20
import Derived.Test.YtgigkennhdolpaaGreatDoorM22
namespace Go.Proofs.YtgigkennhdolpaaGreatDoor
open Go.RowKit
structure ZEq (a b:Va):Prop where
 ar:a.tG=b.tG
 gx:a.gravityX=b.gravityX
 gy:a.gravityY=b.gravityY
 w:mV a.w b.w=true
 wn:(a.w.l.n:Int)<=bY
 wc:∀i,i<a.w.l.n->((a.w.l.e i).l.n:Int)<=bY
 rn:a.ropes.n=b.ropes.n
 rb:(a.ropes.n:Int)<=bY
 re:∀i,i<a.ropes.n->a.ropes.e i=b.ropes.e i
 s1:a.setupSystems.n=0
 s2:b.setupSystems.n=0
 p1:a.setupProgs.n=0
 p2:b.setupProgs.n=0
 se:a.setupSeed=b.setupSeed
 fu:a.setupFuel=b.setupFuel
def TG(a b:Va):Cut:=⟨Nat,λk=>k<=a.ropes.n,λk=>⟨[sl 2 (.p 0 0),sl 3 (.p 1 0),sl 79 (i64 a.ropes.n),sl 80 (i64 k)],[(0,.lay a.cells 36),(1,.lay b.cells 36)],2,0,[],[]⟩,λk=>a.ropes.n-k⟩
set_option maxHeartbeats 2000000 in
set_option maxRecDepth 8000 in
theorem BP:∀a,aH ((λa=>[ZEq a.1 a.2]) a)->aM (C:=cx) [JM] [] 0 ⟨[],[],[4],1⟩ Tryz.f15 ((aL dD dD).enc a) λv H _=>ae ((λ_=>.bl true) a) H v:=by
 intro⟨a,b⟩ h;replace h:ZEq a b:=h;have a1:a.areaLowX=b.areaLowX:=Uo X4.lowX h.ar;have a2:a.areaLowY=b.areaLowY:=Uo X4.lowY h.ar;have a3:a.areaHighX=b.areaHighX:=Uo X4.highX h.ar;have a4:a.areaHighY=b.areaHighY:=Uo X4.highY h.ar;have V0:(!(decide (a.areaLowX=b.areaLowX)&&decide (a.areaLowY=b.areaLowY)&&(decide (a.areaHighX=b.areaHighX)&&decide (a.areaHighY=b.areaHighY)))||!(decide (a.gravityX=b.gravityX)&&decide (a.gravityY=b.gravityY))||!mV a.w b.w||decide (¬(a.ropes.n:Int)=b.ropes.n)||decide (¬a.setupSeed=b.setupSeed)||decide (¬a.setupFuel=b.setupFuel)||decide (¬(a.setupSystems.n:Int)=b.setupSystems.n)||decide (¬(a.setupProgs.n:Int)=b.setupProgs.n))=false:=by have r1:=h.rn;have r2:=h.s1;have r3:=h.s2;have r4:=h.p1;have r5:=h.p2;rw[Uu a1,Uu a2,Uu a3,Uu a4,Uu h.gx,Uu h.gy,h.w,Ut (by omega:¬¬(a.ropes.n:Int)=b.ropes.n),Ut (λx=>x h.se),Ut (λx=>x h.fu),Ut (by omega:¬¬(a.setupSystems.n:Int)=b.setupSystems.n),Ut (by omega:¬¬(a.setupProgs.n:Int)=b.setupProgs.n)];rfl
 refine Ai (λ_=>⟨(by repeat' (first|exact trivial|exact rfl|refine Ai ?_ ?_|intro _)),(by repeat' (first|exact trivial|exact rfl|refine Ai ?_ ?_|intro _)),h.wn,h.wc⟩) ?_;refine Ai (λhx=>?_) (λ_=>?_);have hx:(!(decide (a.areaLowX=b.areaLowX)&&decide (a.areaLowY=b.areaLowY)&&(decide (a.areaHighX=b.areaHighX)&&decide (a.areaHighY=b.areaHighY)))||!(decide (a.gravityX=b.gravityX)&&decide (a.gravityY=b.gravityY))||!mV a.w b.w||decide (¬(a.ropes.n:Int)=b.ropes.n)||decide (¬a.setupSeed=b.setupSeed)||decide (¬a.setupFuel=b.setupFuel)||decide (¬(a.setupSystems.n:Int)=b.setupSystems.n)||decide (¬(a.setupProgs.n:Int)=b.setupProgs.n))=true:=hx;exact Up (V0.symm.trans hx) Bool.false_ne_true;refine Uh (TG a b) ?_;refine Ai ?_ ?_
 ·refine⟨(0:Nat),[],[],trivial,Ui _,?_⟩;repeat' (first|refine Ai ?_ ?_|intro _|exact rfl)
  all_goals first|exact Up (Nat.lt_of_lt_of_eq (by assumption) h.s1) (F' _)|exact Up (Nat.lt_of_lt_of_eq (by assumption) h.s2) (F' _)|trace_state
 refine fun(k:Nat) (hk:k<=a.ropes.n)=>?_;refine Ai (λhb=>?_) (λhb=>?_)
 ·have hb:(k:Int)<a.ropes.n:=Od hb;have hrn:=h.rn;have hrb:(a.ropes.n:Int)<=9223372036854775807:=h.rb;have he:=h.re k (by omega);refine Ai ⟨by omega,by omega⟩ ?_;refine Ai ⟨by omega,(show (k:Int)<b.ropes.n by omega)⟩ ?_;have hq:(!(decide ((a.ropes.e k).a=(b.ropes.e k).a)&&(decide ((a.ropes.e k).b=(b.ropes.e k).b)&&decide ((a.ropes.e k).len=(b.ropes.e k).len))))=false:=(by rw[he,Uu rfl,Uu rfl,Uu rfl];rfl);refine Ai (λhx=>Up (hq.symm.trans (show (!(decide ((a.ropes.e k).a=(b.ropes.e k).a)&&(decide ((a.ropes.e k).b=(b.ropes.e k).b)&&decide ((a.ropes.e k).len=(b.ropes.e k).len))))=true from hx)) Bool.false_ne_true) (λ_=>?_);refine Ai (by unfold UP;omega:UP ((k:Int)+1)) ?_;refine⟨k+1,[],[],(by show a.ropes.n-(k+1)<a.ropes.n-k;omega),(by show k+1<=a.ropes.n;omega),?_⟩;repeat' (first|refine Ai ?_ ?_|intro _|exact rfl)
  all_goals first|exact Up (Nat.lt_of_lt_of_eq (by assumption) h.s1) (F' _)|exact Up (Nat.lt_of_lt_of_eq (by assumption) h.s2) (F' _)|trace_state
 refine Ai (λhx=>Up (show (0:Int)<a.setupSystems.n from Od hx) (by rw[h.s1];decide)) (λ_=>?_);refine Ai (λhx=>Up (show (0:Int)<a.setupProgs.n from Od hx) (by rw[h.p1];decide)) (λ_=>?_);exact rfl
noncomputable def JL:UO cx:=ai 15 Tryz.call15 (aL dD dD) _ _ (λ_=>⟨[],[],[4],1⟩) [] (λ_=>rfl) follows Tryz.func15 (by kernel_rfl) BP
set_option maxRecDepth 8000
noncomputable def Mm:V3 Wa:=⟨12,Tryz.call12,Tryz.f12,Tryz.func12,[9],[],[7],1,by kernel_rfl⟩
noncomputable def Mn:V3 Wa:=⟨39,Tryz.call39,Tryz.f39,Tryz.func39,[5],[],[3],1,by kernel_rfl⟩
def RZ(l:xn)(k e:Nat):SB:=.nst e 4 k (λi=>[.e,.v (.int .i64 (l.e i).locals),.v (.int .u32 (l.e i).reads),.v (.int .u32 (l.e i).writes)]) 0 2 (λi=>((l.e i).code.n,λj=>((l.e i).code.e j).cells)) 153 105 none
def OT(z:Va)(en pr:SV):List SV:=[.v (.int .i64 z.areaLowX),.v (.int .i64 z.areaLowY),.v (.int .i64 z.areaHighX),.v (.int .i64 z.areaHighY),.v (.int .i64 z.wTick),en,z.setupSystems.sv,pr,.v (.int .u64 z.setupSeed),.v (.int .i64 z.setupFuel),z.ropes.sv,.v (.int .i64 z.gravityX),.v (.int .i64 z.gravityY)]
def SW(z:Va):aY:=[(0,.lay z.cells 36),(1,.lay z.cells 36),(2,.lay qH 36),(3,.lay z.cells 36)]
def cpP(z:Va):Cut:=⟨Nat,λk=>k<=z.setupProgs.n,λk=>⟨[sl 1 (.p 1 0),sl 2 (.p 2 0),sl 3 (.p 3 0),sl 27 z.setupProgs.sv,sl 28 (i64 z.setupProgs.n),sl 29 (i64 k)],
 [(0,.lay z.cells 36),(1,.lay z.cells 36),(2,.lay qH 36),(3,.lay (OT z (.g 7 8 2 0 z.wEntities.n) (.g 11 12 4 0 k)) 36),(7,yd z.wEntities z.wEntities.n 8),(11,RZ z.setupProgs k 12)],13,0,[],[]⟩,λk=>z.setupProgs.n-k⟩
def KW(z:Va)(en pr ro:SV):List SV:=[.v (.int .i64 z.areaLowX),.v (.int .i64 z.areaLowY),.v (.int .i64 z.areaHighX),.v (.int .i64 z.areaHighY),.v (.int .i64 z.wTick),en,z.setupSystems.sv,pr,.v (.int .u64 z.setupSeed),.v (.int .i64 z.setupFuel),ro,.v (.int .i64 z.gravityX),.v (.int .i64 z.gravityY)]
def T3(z:Va):Cut:=⟨Nat,λk=>k<=z.setupProgs.n,λk=>⟨[sl 1 (.p 1 0),sl 2 (.p 2 0),sl 3 (.p 3 0),sl 27 z.setupProgs.sv,sl 28 (i64 z.setupProgs.n),sl 29 (i64 k)],
 [(0,.lay z.cells 36),(1,.lay z.cells 36),(2,.lay qH 36),(3,.lay (KW z (.g 7 8 2 0 z.wEntities.n) (.g 11 12 4 0 k) (.g 9 9 3 0 z.ropes.n)) 36),(9,.lst 9 3 z.ropes.n (λi=>(z.ropes.e i).cells) 94),(7,yd z.wEntities z.wEntities.n 8),(11,RZ z.setupProgs k 12)],13,0,[],[]⟩,λk=>z.setupProgs.n-k⟩
theorem Dm{z:Va}{l:bX}(h:jR z l=true):z.wEntities.n<=10∧z.setupSystems.n<=6∧z.setupProgs.n<=6∧z.ropes.n<=34∧(∀i,i<z.wEntities.n->(z.wEntities.e i).l.n<=12)∧∀i,i<z.setupProgs.n->(z.setupProgs.e i).code.n<=200:=by unfold jR Mz lT MA at h;simp only[Uk,Bool.not_eq_true',UA,Us,Bool.not_eq_false'] at h;obtain⟨⟨⟨⟨h1,-⟩,h4⟩,-⟩,-⟩:=h;obtain⟨⟨h5,h6⟩,h7⟩:=h1;obtain⟨⟨⟨h8,h9⟩,h10⟩,-⟩:=h5;have h8:¬(10:Int)<z.wEntities.n:=h8;have h9:¬(6:Int)<z.setupSystems.n:=h9;have h10:¬(6:Int)<z.setupProgs.n:=h10;refine⟨by omega,by omega,by omega,by omega,λi hi=>?_,λi hi=>?_⟩;have:=Ur (gG h6 i (Ui _) (by show i<0+z.wEntities.n;omega));have:¬(12:Int)<((z.wEntities.e i).l.n:Nat):=this;omega;have:=Ur (gG h7 i (Ui _) (by show i<0+z.setupProgs.n;omega));have:¬(200:Int)<((z.setupProgs.e i).code.n:Nat):=this;omega
theorem Mg:Vd 0:=by unfold Vd;omega
theorem gw{w:U8}{l:bX}{k:Nat}(hk:k<l.n)(h:lf (l.e k).client=true):eE w l=true:=by
 unfold eE;cases ha:bN (λi=>lf (l.e i).client) 0 l.n with
 | true=>simp
 | false=>exact Up (gG ha k (Ui _) (by omega)) (by simp only[h];decide)
theorem vt{z:Va}(h:jq z=true):cm z=false:=by unfold cm;rw[h];rfl
theorem B9{z:Va}{k:Nat}(hk:k<z.ropes.n)(h:dG (z.ropes.e k)=true):cm z=false:=by
 have:dh z.ropes=true:=by unfold dh;rw[yH,kU (b:=λi=>dG (z.ropes.e i)) h hk];rfl
 unfold cm;rw[this];cases jq z<;>rfl
theorem Tn{z:Va}(h:z.w.valid=false):cm z=false:=by unfold cm;rw[h];cases jq z<;>cases dh z.ropes<;>rfl
theorem To{z:Va}(h:qx z.stp=false):cm z=false:=by unfold cm;rw[h];cases jq z<;>cases dh z.ropes<;>cases z.w.valid<;>rfl
theorem GU{s:Xi}(h:s.fuel<0):qx s=false:=by unfold qx KZ;rw[Uu h];cases nC s.systems<;>simp
theorem GM{z:Va}(h:cm z=true):jq z=false∧dh z.ropes=false∧z.w.valid=true∧qx z.stp=true:=by unfold cm at h;simpa using h
theorem uz{z:Va}{l:bX}(h:eE z.w l=true):jb z l=2:=by unfold jb;rw[h];cases cm z<;>rfl
def qi(z:Va):Va:={z with wTick:=1073741824}
theorem IE{z:Va}(h:cm z=true):jb (qi z) (bX.of (bZ (.slice none 0 0)))=300:=by
 obtain⟨v1,v2,v3,v4⟩:=GM h;have hw:(qi z).w.valid=true:=U8.ew.2 ⟨(by decide:(0:Int)<=1073741824),Int.le_refl _,(U8.ew.1 v3).len,(U8.ew.1 v3).inc,(U8.ew.1 v3).right⟩;have e:cm (qi z)=true:=by unfold cm;rw[hw,show jq (qi z)=false from v1,show dh (qi z).ropes=false from v2,show qx (qi z).stp=true from v4];rfl
 have e2:eE (qi z).w (bX.of (bZ (.slice none 0 0)))=false:=by unfold eE;rw[hw];rfl
 unfold jb;rw[e,e2]
theorem OS:ZEq (Va.of (.agg ru)) (Va.of (.agg ru)):=⟨rfl,rfl,rfl,rfl,(by decide:((0:Nat):Int)<=bY),λi hi=>Up hi (F' i),rfl,(by decide:((0:Nat):Int)<=bY),λi hi=>Up hi (F' i),rfl,rfl,rfl,rfl,rfl,rfl⟩
theorem TX{v:Bool}{t:Int}(hv:v=false)(ht:t=2):true=(!v&&decide (t=2)&&decide (2=t)&&decide (2=t)&&decide (2=t)||false||false||false||false||false):=by subst hv ht;rfl
structure OP (z:Va):Prop where
 v:cm z=false
 lim:z.Lim
 cop:z.Cop
def Pv(z:Va)(ro:SV):List SV:=[.v (.int .i64 z.areaLowX),.v (.int .i64 z.areaLowY),.v (.int .i64 z.areaHighX),.v (.int .i64 z.areaHighY),.v (.int .i64 z.wTick),z.wEntities.sv,z.setupSystems.sv,z.setupProgs.sv,.v (.int .u64 z.setupSeed),.v (.int .i64 z.setupFuel),ro,.v (.int .i64 z.gravityX),.v (.int .i64 z.gravityY)]
def Q9(XD n:Int):List (Nat×Slot):=[sl 1 (.v (.int .u8 XD)),sl 2 (i64 n),sl 3 (.p 0 0)]
def zwA(z:Va)(XD n:Int):Cut:=⟨Unit,λ_=>True,λ_=>⟨Q9 XD n,[(0,.lay z.cells 36)],1,0,[],[]⟩,λ_=>0⟩
def zwB(z:Va)(XD n:Int):Cut:=⟨Unit,λ_=>True,λ_=>⟨sl 14 (.p 1 0)::Q9 XD n,[(0,.lay z.cells 36),(1,.lay z.cells 36)],2,0,[],[]⟩,λ_=>0⟩
def zwC(z:Va)(XD n:Int):Cut:=⟨Unit,λ_=>True,λ_=>⟨[sl 1 (.v (.int .u8 XD)),sl 2 (i64 n),sl 18 (.p 1 0)],[(1,.lay (Pv z (.g 2 2 3 0 z.ropes.n)) 36),(2,.lst 2 3 z.ropes.n (λi=>(z.ropes.e i).cells) 94)],4,0,[],[]⟩,λ_=>0⟩
def zwD:Cut:=⟨Va,OP,λz=>⟨[sl 18 (.p 1 0)],[(1,.lay z.cells 36)],2,0,[],[]⟩,λ_=>0⟩
def zN(z:Va)(_:Int):Va:={z with areaLowX:=z.areaHighX+1}
def zM(z:Va)(_:Int):Va:={z with areaHighY:=z.areaLowY-1}
def Kb(z:Va)(n:Int):Va:={z with areaLowY:=min n (-1048577)}
def Ka(z:Va)(n:Int):Va:={z with gravityX:=max n 4097}
def OL(z:Va)(_:Int):Va:={z with ropes:=⟨z.ropes.n+1,λi=>bif Nat.ble z.ropes.n i then⟨3,3,0⟩ else z.ropes.e i⟩}
def OK(z:Va)(n:Int):Va:={z with ropes:=⟨z.ropes.n+1,λi=>bif Nat.ble z.ropes.n i then⟨3,4,min n (-1)⟩ else z.ropes.e i⟩}
def J9(z:Va)(n:Int):Va:={z with wTick:=min n (-1)}
def OJ(z:Va)(n:Int):Va:={z with setupFuel:=min n (-1)}
theorem KX{z:Va}(h:jq z=false):(-1048576<=z.areaHighX∧z.areaHighX<=1048576)∧(-1048576<=z.areaLowY∧z.areaLowY<=1048576):=by unfold jq X6 zL at h;simp only[UA,Bool.not_eq_false',Uk,Uq] at h;omega
theorem NJ(z:Va)(n:Int):cm (zN z n)=false:=vt (by
 have h:X6 (zN z n).tG ⟨(zN z n).areaLowX,(zN z n).areaLowY⟩=false:=by show (decide (z.areaHighX+1<=z.areaHighX+1)&&decide (z.areaHighX+1<=z.areaHighX)&&_&&_)=false;rw[Ut (by omega:¬z.areaHighX+1<=z.areaHighX)];simp
 unfold jq;rw[h];simp)
theorem NI(z:Va)(n:Int):cm (zM z n)=false:=vt (by
 have h:X6 (zM z n).tG ⟨(zM z n).areaLowX,(zM z n).areaLowY⟩=false:=by show (_&&_&&_&&decide (z.areaLowY<=z.areaLowY-1))=false;rw[Ut (by omega:¬z.areaLowY<=z.areaLowY-1)];simp
 unfold jq;rw[h];simp)
theorem jH(f:j7->Int)(b:Bool)(x y:j7):f (bif b then x else y)=bif b then f x else f y:=by cases b<;>rfl
theorem NG(z:Va)(n:Int):cm (Kb z n)=false:=vt (by
 have h:¬-1048576<=min n (-1048577):=by omega
 simp[jq,X6,zL,Kb,h])
theorem NF(z:Va)(n:Int):cm (Ka z n)=false:=vt (by
 have h:¬max n 4097<=4096:=by omega
 simp[jq,X6,yO,Ka,h])
theorem zK(n:Nat):Nat.ble n n=true:=Nat.ble_eq_true_of_le (I' n)
theorem ND(z:Va)(n:Int):cm (OL z n)=false:=B9 (k:=z.ropes.n) (Nat.lt_succ_self _) (by show dG (bif Nat.ble z.ropes.n z.ropes.n then _ else _)=true;rw[zK];rfl)
theorem NC(z:Va)(n:Int):cm (OK z n)=false:=B9 (k:=z.ropes.n) (Nat.lt_succ_self _) (by show dG (bif Nat.ble z.ropes.n z.ropes.n then _ else _)=true;rw[zK];show (decide ((4:Int)<=3)||decide (min n (-1)<0)||decide (2097152<min n (-1)))=true;rw[Uu (by omega:min n (-1)<0)];simp)
theorem NB(z:Va)(n:Int):cm (J9 z n)=false:=Tn (by
 cases h:(J9 z n).w.valid with
 | false=>rfl
 | true=>
  have:0<=min n (-1):=(U8.ew.1 h).lo;omega)
theorem NA(z:Va)(n:Int):cm (OJ z n)=false:=To (GU (by show min n (-1)<0;omega))
set_option maxHeartbeats 2000000 in
theorem FR:∀a,aH ((λa=>[a.1.l.Sm,(a.2.n:Int)<=bY,eE a.1 a.2=true]) a)->aM (C:=cx) [iE,DL] [yL] 1 ⟨[20],[14],[5,13],0⟩ Tryz.f21 ((aL c8 gU).enc a) λv H _=>ae ((λ_=>.tup [.agg N9,.il .i64 2]) a) H v:=by
 intro⟨w,l⟩ ⟨hs,hn,hb⟩;replace hs:w.l.Sm:=hs;replace hn:(l.n:Int)<=9223372036854775807:=hn;replace hb:eE w l=true:=hb;refine Ai ⟨(by repeat' (first|exact trivial|exact rfl|refine Ai ?_ ?_|intro _)),hs⟩ ?_;refine Ai (λ_=>⟨λ_ _=>trivial,hn,rfl⟩) ?_;refine Ai (λhc=>?_) (λhc=>?_)
 ·repeat' (first|refine Ai ?_ ?_|intro _|exact rfl)
 have hc:eE w l=false:=hc;exact Up (hb.symm.trans hc) (by decide)
noncomputable def MT:UO cx:=ai 21 Tryz.call21 (aL c8 gU) _ _ (λ_=>⟨[20],[14],[5,13],0⟩) [20] (λ_=>rfl) follows Tryz.func21 (by kernel_rfl) FR
set_option maxHeartbeats 4000000 in
theorem zZ:∀a,aH ((λa:Va×Int×Int=>[a.1.Sm,0<=a.2.1∧a.2.1<=255]) a)->aM (C:=Wa) [JW.lift rfl,BB,JE.lift rfl,MR.lift rfl,MT.lift rfl,M9.lift rfl,Na.lift rfl,MS.lift rfl,JL.lift rfl] [Mm,Mn] 2 ⟨[],[13,14,18,19,36],[],3⟩ Tryz.f8 ((ib dD (VK .u8) (VK .i64)).enc a) λv H _=>ae (.bl true) H v:=by
 intro⟨z,XD,n⟩ ⟨hz,hw⟩;replace hz:z.Sm:=hz;replace hw:0<=XD∧XD<=255:=hw;have hn:(z.wEntities.n:Int)<=9223372036854775807:=hz.l.1;refine Ai ⟨(by repeat' (first|exact trivial|exact rfl|refine Ai ?_ ?_|intro _)),(by repeat' (first|exact trivial|exact rfl|refine Ai ?_ ?_|intro _)),(by repeat' (first|exact trivial|exact rfl|refine Ai ?_ ?_|intro _)),(by repeat' (first|exact trivial|exact rfl|refine Ai ?_ ?_|intro _)),hz.l,hz.p,hz.nm⟩ ?_;have lim:(!jR z (bX.of (bZ (.slice none 0 0))))=false->z.Lim:=λh=>by obtain⟨fn,fs,fp,fr,fc,fk⟩:=Dm (by simpa using h:jR z (bX.of (bZ (.slice none 0 0)))=true);exact⟨hz.l,hz.r,hz.s,hz.p,λi hi=>by have:=fk i hi;omega⟩
 refine Ai (λhg=>⟨(by repeat' (first|exact trivial|exact rfl|refine Ai ?_ ?_|intro _)),(by repeat' (first|exact trivial|exact rfl|refine Ai ?_ ?_|intro _)),(by repeat' (first|exact trivial|exact rfl|refine Ai ?_ ?_|intro _)),(by repeat' (first|exact trivial|exact rfl|refine Ai ?_ ?_|intro _)),lim hg⟩) ?_;refine Ai (λ_=>?_) (λhx=>?_);exact rfl;have hx:(!jR z (bX.of (bZ (.slice none 0 0)))||!cm z)=false:=hx;obtain⟨hx1,hx2⟩:=UA.1 hx;have hL:=lim hx1;have hv:cm z=true:=by simpa using hx2
 obtain⟨fn,fs,fp,fr,fc,fk⟩:=Dm (by simpa using hx1:jR z (bX.of (bZ (.slice none 0 0)))=true);have hC:z.Cop:=⟨by omega,λi hi=>by have:=fc i hi;omega,by omega,by omega,λi hi=>by have:=fk i hi;omega,by omega⟩
 obtain⟨v1,v2,v3,v4⟩:=GM hv;have nP:lf (min n 0)=true:=by unfold lf;rw[Uu (by omega:min n 0<1)];rfl
 have bad2:lf (max n 9)=true:=by unfold lf;rw[Uu (by omega:8<max n 9)];simp
 refine Uh (zwA z XD n) ?_;refine Ai ?_ ?_
 ·skip
  refine Ai ⟨(by repeat' (first|exact trivial|exact rfl|refine Ai ?_ ?_|intro _)),(λi hi=>by obtain rfl|rfl:i=0∨i=1:=(by omega)<;>exact trivial),hL.l,(by decide:((2:Nat):Int)<=bY),gw (k:=1) (Nat.lt_succ_self 1) nP⟩ ?_;refine Ai ⟨(by repeat' (first|exact trivial|exact rfl|refine Ai ?_ ?_|intro _)),(by repeat' (first|exact trivial|exact rfl|refine Ai ?_ ?_|intro _)),(by repeat' (first|exact trivial|exact rfl|refine Ai ?_ ?_|intro _)),(by repeat' (first|exact trivial|exact rfl|refine Ai ?_ ?_|intro _)),(λi hi=>by obtain rfl:i=0:=(by omega);exact trivial),⟨hL,hC,(by decide:((1:Nat):Int)<=bY),(λi hi=>by obtain rfl:i=0:=Nat.lt_one_iff.1 hi;exact⟨Mg,Mg⟩),λ_ hs=>Up ((gw (k:=0) Nat.zero_lt_one nP).symm.trans hs) (by decide)⟩⟩ ?_;refine Ai (λhc=>Up (uz (gw (k:=0) Nat.zero_lt_one nP)) (Od hc)) (λhc=>?_);refine Ai ⟨(by repeat' (first|exact trivial|exact rfl|refine Ai ?_ ?_|intro _)),(λi hi=>by obtain rfl|rfl:i=0∨i=1:=(by omega)<;>exact trivial),hL.l,(by decide:((2:Nat):Int)<=bY),gw (k:=1) (Nat.lt_succ_self 1) bad2⟩ ?_;refine Ai ⟨(by repeat' (first|exact trivial|exact rfl|refine Ai ?_ ?_|intro _)),(by repeat' (first|exact trivial|exact rfl|refine Ai ?_ ?_|intro _)),(by repeat' (first|exact trivial|exact rfl|refine Ai ?_ ?_|intro _)),(by repeat' (first|exact trivial|exact rfl|refine Ai ?_ ?_|intro _)),(λi hi=>by obtain rfl:i=0:=(by omega);exact trivial),⟨hL,hC,(by decide:((1:Nat):Int)<=bY),(λi hi=>by obtain rfl:i=0:=Nat.lt_one_iff.1 hi;exact⟨Mg,Mg⟩),λ_ hs=>Up ((gw (k:=0) Nat.zero_lt_one bad2).symm.trans hs) (by decide)⟩⟩ ?_;refine Ai (λhc=>Up (uz (gw (k:=0) Nat.zero_lt_one bad2)) (Od hc)) (λhc=>?_);refine⟨(),[],[],trivial,trivial,?_⟩;repeat' (first|refine Ai ?_ ?_|intro _|exact rfl)
 refine fun(_:Unit) _=>?_;refine Uh (zwB z XD n) ?_;refine Ai ?_ ?_
 ·skip
  refine Uh (Qv z.w 4 (SW z)) ?_;refine Ai ?_ ?_
  ·refine⟨(0:Nat),[],[.cellN 6 1 2 1 5 46 42],trivial,Ui _,?_⟩;repeat' (first|refine Ai ?_ ?_|intro _|exact rfl)
   all_goals first|exact Up ‹_<0› (F' _)|exact VS (hz.nm _ (by assumption))|trace_state
  refine fun(k:Nat) (hk:k<=z.wEntities.n)=>?_;refine Ai (λhb=>?_) (λhb=>?_)
  ·have hb:(k:Int)<z.wEntities.n:=Od hb;have hcn:=fc k (by omega);refine Ai ⟨by omega,(show (k:Int)<z.wEntities.n from hb)⟩ ?_;have hfc:dW (z.wEntities.e k).l.n 40:=⟨Nat.le_trans (by omega:(z.wEntities.e k).l.n<=1000) (by decide),by omega⟩
   refine Ai hfc ?_;have Vn:dW (k+1) 32:=⟨Nat.le_trans (by omega:k+1<=1001) (by decide),by omega⟩
   refine Ai ⟨Vn,?_⟩ ?_
   ·repeat' (first|refine Ai ?_ ?_|intro _|exact rfl)
   refine Ai (by unfold UP;omega:UP ((k:Int)+1)) ?_;refine⟨k+1,[(8,12)],[.bq 7],(by show z.wEntities.n-(k+1)<z.wEntities.n-k;omega),(by show k+1<=z.wEntities.n;omega),?_⟩;repeat' (first|refine Ai ?_ ?_|intro _|exact rfl)
   all_goals first
    | exact VS (hz.nm _ (by assumption))
    | (refine az (α:=List SV) (p:=λi y=>aI (Vl 9 [(8,12)] (List.set [SV.v (Value.int IntKind.i64 (z.w.l.e i).iD),SV.e] 1 SV.e) (y.set 1 SV.e))) ?_ ?_ _ ‹_›
       exact rfl
       ·exact λi _=>rfl)
    | (refine az (α:=Nat×(Nat->List SV)) (p:=λi y=>(z.w.l.e i).l.n=y.1) ?_ ?_ _ ‹_›
       exact rfl
       ·exact λi _=>rfl)
    | (refine az (α:=Nat×(Nat->List SV)) (p:=λi y=>∀j,j<y.1->aI (Vl 9 [(8,12)] ((z.w.l.e i).l.c j).cells (y.2 j))) ?_ ?_ _ ‹_› _ ‹_›
       ·exact λj _=>⟨rfl,rfl,rfl,rfl,rfl⟩
       ·exact λi _ j _=>⟨rfl,rfl,rfl,rfl,rfl⟩)
    | trace_state
  have hb:¬(k:Int)<z.wEntities.n:=Ur hb;obtain rfl:k=z.wEntities.n:=(by omega);have WX:dW z.ropes.n 24:=⟨Nat.le_trans (by omega:z.ropes.n<=1000) (by decide),by omega⟩
  refine Ai WX ?_;have Yg:dW z.setupSystems.n 32:=⟨Nat.le_trans (by omega:z.setupSystems.n<=1000) (by decide),by omega⟩
  refine Ai Yg ?_;refine Uh (cpP z) ?_;refine Ai ?_ ?_
  ·refine⟨(0:Nat),[],[.freeze 9,.freeze 10,.cellN 3 7 4 0 2 153 105],trivial,Ui _,?_⟩;repeat' (first|refine Ai ?_ ?_|intro _|exact rfl)
   all_goals first|exact Up ‹_<0› (F' _)|exact VS (hz.nm _ (by assumption))|exact Uo (λj=>Value.string (z.setupSystems.e j).name) (B' _).symm|exact Uo (λj=>(z.setupSystems.e j).reads) (B' _).symm|exact Uo (λj=>(z.setupSystems.e j).writes) (B' _).symm|exact Uo (λj=>(z.setupSystems.e j).prog) (B' _).symm|exact(Uo (λj=>(z.ropes.e j).a) (B' _).symm)|exact(Uo (λj=>(z.ropes.e j).b) (B' _).symm)|exact(Uo (λj=>(z.ropes.e j).len) (B' _).symm)|(show aI (Vl _ _ (z.setupSystems.e _).cells (z.setupSystems.e (0+_)).cells);rw[B'];exact VS (hz.nm _ (by assumption)))|trace_state
  refine fun(k:Nat) (hk:k<=z.setupProgs.n)=>?_;refine Ai (λhb=>?_) (λhb=>?_)
  ·have hb:(k:Int)<z.setupProgs.n:=Od hb;have hcn:=fk k (by omega);refine Ai ⟨by omega,hb⟩ ?_;have hfc:dW (z.setupProgs.e k).code.n 16:=⟨Nat.le_trans (by omega:(z.setupProgs.e k).code.n<=1000) (by decide),by omega⟩
   refine Ai hfc ?_;have Vn:dW (k+1) 40:=⟨Nat.le_trans (by omega:k+1<=1001) (by decide),by omega⟩
   refine Ai ⟨Vn,?_⟩ ?_
   ·repeat' (first|refine Ai ?_ ?_|intro _|exact rfl)
   refine Ai (by unfold UP;omega:UP ((k:Int)+1)) ?_;refine⟨k+1,[(12,16)],[.bq 11],(by show z.setupProgs.n-(k+1)<z.setupProgs.n-k;omega),(by show k+1<=z.setupProgs.n;omega),?_⟩;repeat' (first|refine Ai ?_ ?_|intro _|exact rfl)
   all_goals first
    | exact VS (hz.nm _ (by assumption))
    | (refine az (α:=List SV) (p:=λi y=>aI (Vl 13 [(12,16)] (List.set [SV.e,.v (.int .i64 (z.setupProgs.e i).locals),.v (.int .u32 (z.setupProgs.e i).reads),.v (.int .u32 (z.setupProgs.e i).writes)] 0 SV.e) (y.set 0 SV.e))) ?_ ?_ _ ‹_›
       exact⟨rfl,rfl,rfl⟩
       ·exact λi _=>⟨rfl,rfl,rfl⟩)
    | (refine az (α:=Nat×(Nat->List SV)) (p:=λi y=>(z.setupProgs.e i).code.n=y.1) ?_ ?_ _ ‹_›
       exact rfl
       ·exact λi _=>rfl)
    | (refine az (α:=Nat×(Nat->List SV)) (p:=λi y=>∀j,j<y.1->aI (Vl 13 [(12,16)] ((z.setupProgs.e i).code.e j).cells (y.2 j))) ?_ ?_ _ ‹_› _ ‹_›
       ·exact λj _=>⟨rfl,rfl⟩
       ·exact λi _ j _=>⟨rfl,rfl⟩)
    | trace_state
  have hb:¬(k:Int)<z.setupProgs.n:=Ur hb;obtain rfl:k=z.setupProgs.n:=(by omega);refine⟨(),[(1,13)],[.freeze 7,.freeze 11],trivial,trivial,?_⟩;repeat' (first|refine Ai ?_ ?_|intro _|exact rfl)
  all_goals (show _=_;first|(rw[B'];done)|(rw[B'];rfl))
 refine fun(_:Unit) _=>?_;refine Uh (zwA z XD n) ?_;refine Ai ?_ ?_
 ·have hT:Kw (qi z) (bX.of (bZ (.slice none 0 0))):=⟨⟨hL.l,hL.r,hL.s,hL.p,hL.c⟩,⟨hC.n,hC.c,hC.s,hC.p,hC.q,hC.r⟩,(by decide:((0:Nat):Int)<=bY),λi hi=>Up hi (F' i),λ_ _=>Int.le_refl _⟩
  refine Ai ⟨(by repeat' (first|exact trivial|exact rfl|refine Ai ?_ ?_|intro _)),(by repeat' (first|exact trivial|exact rfl|refine Ai ?_ ?_|intro _)),(by repeat' (first|exact trivial|exact rfl|refine Ai ?_ ?_|intro _)),(by repeat' (first|exact trivial|exact rfl|refine Ai ?_ ?_|intro _)),hT⟩ ?_;refine Ai (λhc=>Up (IE hv) (Od hc)) (λ_=>?_);refine⟨(),[],[],trivial,trivial,?_⟩;repeat' (first|refine Ai ?_ ?_|intro _|exact rfl)
 refine fun(_:Unit) _=>?_;refine Uh (zwC z XD n) ?_;refine Ai ?_ ?_
 ·skip
  refine Uh (Qv z.w 4 (SW z)) ?_;refine Ai ?_ ?_
  ·refine⟨(0:Nat),[],[.cellN 6 1 2 1 5 46 42],trivial,Ui _,?_⟩;repeat' (first|refine Ai ?_ ?_|intro _|exact rfl)
   all_goals first|exact Up ‹_<0› (F' _)|exact VS (hz.nm _ (by assumption))|trace_state
  refine fun(k:Nat) (hk:k<=z.wEntities.n)=>?_;refine Ai (λhb=>?_) (λhb=>?_)
  ·have hb:(k:Int)<z.wEntities.n:=Od hb;have hcn:=fc k (by omega);refine Ai ⟨by omega,(show (k:Int)<z.wEntities.n from hb)⟩ ?_;have hfc:dW (z.wEntities.e k).l.n 40:=⟨Nat.le_trans (by omega:(z.wEntities.e k).l.n<=1000) (by decide),by omega⟩
   refine Ai hfc ?_;have Vn:dW (k+1) 32:=⟨Nat.le_trans (by omega:k+1<=1001) (by decide),by omega⟩
   refine Ai ⟨Vn,?_⟩ ?_
   ·repeat' (first|refine Ai ?_ ?_|intro _|exact rfl)
   refine Ai (by unfold UP;omega:UP ((k:Int)+1)) ?_;refine⟨k+1,[(8,12)],[.bq 7],(by show z.wEntities.n-(k+1)<z.wEntities.n-k;omega),(by show k+1<=z.wEntities.n;omega),?_⟩;repeat' (first|refine Ai ?_ ?_|intro _|exact rfl)
   all_goals first
    | exact VS (hz.nm _ (by assumption))
    | (refine az (α:=List SV) (p:=λi y=>aI (Vl 9 [(8,12)] (List.set [SV.v (Value.int IntKind.i64 (z.w.l.e i).iD),SV.e] 1 SV.e) (y.set 1 SV.e))) ?_ ?_ _ ‹_›
       exact rfl
       ·exact λi _=>rfl)
    | (refine az (α:=Nat×(Nat->List SV)) (p:=λi y=>(z.w.l.e i).l.n=y.1) ?_ ?_ _ ‹_›
       exact rfl
       ·exact λi _=>rfl)
    | (refine az (α:=Nat×(Nat->List SV)) (p:=λi y=>∀j,j<y.1->aI (Vl 9 [(8,12)] ((z.w.l.e i).l.c j).cells (y.2 j))) ?_ ?_ _ ‹_› _ ‹_›
       ·exact λj _=>⟨rfl,rfl,rfl,rfl,rfl⟩
       ·exact λi _ j _=>⟨rfl,rfl,rfl,rfl,rfl⟩)
    | trace_state
  have hb:¬(k:Int)<z.wEntities.n:=Ur hb;obtain rfl:k=z.wEntities.n:=(by omega);have WX:dW z.ropes.n 24:=⟨Nat.le_trans (by omega:z.ropes.n<=1000) (by decide),by omega⟩
  refine Ai WX ?_;have Yg:dW z.setupSystems.n 32:=⟨Nat.le_trans (by omega:z.setupSystems.n<=1000) (by decide),by omega⟩
  refine Ai Yg ?_;refine Uh (T3 z) ?_;refine Ai ?_ ?_
  ·refine⟨(0:Nat),[],[.freeze 10,.cellN 3 7 4 0 2 153 105],trivial,Ui _,?_⟩;repeat' (first|refine Ai ?_ ?_|intro _|exact rfl)
   all_goals first|exact Up ‹_<0› (F' _)|exact VS (hz.nm _ (by assumption))|exact Uo (λj=>Value.string (z.setupSystems.e j).name) (B' _).symm|exact Uo (λj=>(z.setupSystems.e j).reads) (B' _).symm|exact Uo (λj=>(z.setupSystems.e j).writes) (B' _).symm|exact Uo (λj=>(z.setupSystems.e j).prog) (B' _).symm|exact(Uo (λj=>(z.ropes.e j).a) (B' _).symm)|exact(Uo (λj=>(z.ropes.e j).b) (B' _).symm)|exact(Uo (λj=>(z.ropes.e j).len) (B' _).symm)|(show aI (Vl _ _ (z.setupSystems.e _).cells (z.setupSystems.e (0+_)).cells);rw[B'];exact VS (hz.nm _ (by assumption)))|trace_state
  refine fun(k:Nat) (hk:k<=z.setupProgs.n)=>?_;refine Ai (λhb=>?_) (λhb=>?_)
  ·have hb:(k:Int)<z.setupProgs.n:=Od hb;have hcn:=fk k (by omega);refine Ai ⟨by omega,hb⟩ ?_;have hfc:dW (z.setupProgs.e k).code.n 16:=⟨Nat.le_trans (by omega:(z.setupProgs.e k).code.n<=1000) (by decide),by omega⟩
   refine Ai hfc ?_;have Vn:dW (k+1) 40:=⟨Nat.le_trans (by omega:k+1<=1001) (by decide),by omega⟩
   refine Ai ⟨Vn,?_⟩ ?_
   ·repeat' (first|refine Ai ?_ ?_|intro _|exact rfl)
   refine Ai (by unfold UP;omega:UP ((k:Int)+1)) ?_;refine⟨k+1,[(12,16)],[.bq 11],(by show z.setupProgs.n-(k+1)<z.setupProgs.n-k;omega),(by show k+1<=z.setupProgs.n;omega),?_⟩;repeat' (first|refine Ai ?_ ?_|intro _|exact rfl)
   all_goals first
    | exact VS (hz.nm _ (by assumption))
    | (refine az (α:=List SV) (p:=λi y=>aI (Vl 13 [(12,16)] (List.set [SV.e,.v (.int .i64 (z.setupProgs.e i).locals),.v (.int .u32 (z.setupProgs.e i).reads),.v (.int .u32 (z.setupProgs.e i).writes)] 0 SV.e) (y.set 0 SV.e))) ?_ ?_ _ ‹_›
       exact⟨rfl,rfl,rfl⟩
       ·exact λi _=>⟨rfl,rfl,rfl⟩)
    | (refine az (α:=Nat×(Nat->List SV)) (p:=λi y=>(z.setupProgs.e i).code.n=y.1) ?_ ?_ _ ‹_›
       exact rfl
       ·exact λi _=>rfl)
    | (refine az (α:=Nat×(Nat->List SV)) (p:=λi y=>∀j,j<y.1->aI (Vl 13 [(12,16)] ((z.setupProgs.e i).code.e j).cells (y.2 j))) ?_ ?_ _ ‹_› _ ‹_›
       ·exact λj _=>⟨rfl,rfl⟩
       ·exact λi _ j _=>⟨rfl,rfl⟩)
    | trace_state
  have hb:¬(k:Int)<z.setupProgs.n:=Ur hb;obtain rfl:k=z.setupProgs.n:=(by omega);refine⟨(),[(1,13),(2,9)],[.freeze 7,.freeze 11],trivial,trivial,?_⟩;repeat' (first|refine Ai ?_ ?_|intro _|exact rfl)
  all_goals (show _=_;first|(rw[B'];done)|(rw[B'];rfl))
 refine fun(_:Unit) _=>?_;refine Uh zwD ?_;refine Ai ?_ ?_
 ·have hm:XD.tmod 8=XD%8:=Int.tmod_eq_emod_of_nonneg hw.1;have X8:=KX v1;refine Ai (λh0=>?_) (λh0=>?_)
  ·skip
   refine Ai (show UP (z.areaHighX+1) from by unfold UP;omega) ?_;refine⟨zN z n,[],[.freeze 2],trivial,⟨NJ z n,⟨hL.l,hL.r,hL.s,hL.p,hL.c⟩,⟨hC.n,hC.c,hC.s,hC.p,hC.q,hC.r⟩⟩,?_⟩;repeat' (first|refine Ai ?_ ?_|intro _|exact rfl)
   all_goals (show _=_;first|(rw[B'];done)|(rw[B'];rfl))
  refine Ai (λh1=>?_) (λh1=>?_)
  ·skip
   refine Ai (show UP (z.areaLowY-1) from by unfold UP;omega) ?_;refine⟨zM z n,[],[.freeze 2],trivial,⟨NI z n,⟨hL.l,hL.r,hL.s,hL.p,hL.c⟩,⟨hC.n,hC.c,hC.s,hC.p,hC.q,hC.r⟩⟩,?_⟩;repeat' (first|refine Ai ?_ ?_|intro _|exact rfl)
   all_goals (show _=_;first|(rw[B'];done)|(rw[B'];rfl))
  refine Ai (λh2=>?_) (λh2=>?_)
  ·skip
   refine⟨Kb z n,[],[.freeze 2],trivial,⟨NG z n,⟨hL.l,hL.r,hL.s,hL.p,hL.c⟩,⟨hC.n,hC.c,hC.s,hC.p,hC.q,hC.r⟩⟩,?_⟩;repeat' (first|refine Ai ?_ ?_|intro _|exact rfl)
   all_goals (show _=_;first|(rw[B'];done)|(rw[B'];rfl))
  refine Ai (λh3=>?_) (λh3=>?_)
  ·skip
   refine⟨Ka z n,[],[.freeze 2],trivial,⟨NF z n,⟨hL.l,hL.r,hL.s,hL.p,hL.c⟩,⟨hC.n,hC.c,hC.s,hC.p,hC.q,hC.r⟩⟩,?_⟩;repeat' (first|refine Ai ?_ ?_|intro _|exact rfl)
   all_goals (show _=_;first|(rw[B'];done)|(rw[B'];rfl))
  refine Ai (λh4=>?_) (λh4=>?_)
  ·skip
   refine Ai ⟨(⟨Nat.le_trans (by omega:z.ropes.n+1<=1001) (by decide),by omega⟩:dW (z.ropes.n+1) 24),(by repeat' (first|exact trivial|exact rfl|refine Ai ?_ ?_|intro _))⟩ ?_;refine⟨OL z n,[],[.freeze 2],trivial,⟨ND z n,⟨hL.l,(show ((z.ropes.n+1:Nat):Int)<=9223372036854775807 from by omega),hL.s,hL.p,hL.c⟩,⟨hC.n,hC.c,hC.s,hC.p,hC.q,(show z.ropes.n+1<=1000 from by omega)⟩⟩,?_⟩;repeat' (first|refine Ai ?_ ?_|intro _|exact rfl)
   all_goals (show _=_;first|(rw[B'];done)|(rw[B'];rfl)|(rw[B'];first|exact jH j7.a (Nat.ble z.ropes.n _) _ (z.ropes.e _)|exact jH j7.b (Nat.ble z.ropes.n _) _ (z.ropes.e _)|exact jH j7.len (Nat.ble z.ropes.n _) _ (z.ropes.e _)))
  refine Ai (λh5=>?_) (λh5=>?_)
  ·skip
   refine Ai ⟨(⟨Nat.le_trans (by omega:z.ropes.n+1<=1001) (by decide),by omega⟩:dW (z.ropes.n+1) 24),(by repeat' (first|exact trivial|exact rfl|refine Ai ?_ ?_|intro _))⟩ ?_;refine⟨OK z n,[],[.freeze 2],trivial,⟨NC z n,⟨hL.l,(show ((z.ropes.n+1:Nat):Int)<=9223372036854775807 from by omega),hL.s,hL.p,hL.c⟩,⟨hC.n,hC.c,hC.s,hC.p,hC.q,(show z.ropes.n+1<=1000 from by omega)⟩⟩,?_⟩;repeat' (first|refine Ai ?_ ?_|intro _|exact rfl)
   all_goals (show _=_;first|(rw[B'];done)|(rw[B'];rfl)|(rw[B'];first|exact jH j7.a (Nat.ble z.ropes.n _) _ (z.ropes.e _)|exact jH j7.b (Nat.ble z.ropes.n _) _ (z.ropes.e _)|exact jH j7.len (Nat.ble z.ropes.n _) _ (z.ropes.e _)))
  refine Ai (λh6=>?_) (λh6=>?_)
  ·skip
   refine⟨J9 z n,[],[.freeze 2],trivial,⟨NB z n,⟨hL.l,hL.r,hL.s,hL.p,hL.c⟩,⟨hC.n,hC.c,hC.s,hC.p,hC.q,hC.r⟩⟩,?_⟩;repeat' (first|refine Ai ?_ ?_|intro _|exact rfl)
   all_goals (show _=_;first|(rw[B'];done)|(rw[B'];rfl))
  refine Ai (λh7=>?_) (λh7=>?_)
  ·skip
   refine⟨OJ z n,[],[.freeze 2],trivial,⟨NA z n,⟨hL.l,hL.r,hL.s,hL.p,hL.c⟩,⟨hC.n,hC.c,hC.s,hC.p,hC.q,hC.r⟩⟩,?_⟩;repeat' (first|refine Ai ?_ ?_|intro _|exact rfl)
   all_goals (show _=_;first|(rw[B'];done)|(rw[B'];rfl))
  exfalso;have g0:¬XD.tmod 8=0:=Ur h0;have g1:¬XD.tmod 8=1:=Ur h1;have g2:¬XD.tmod 8=2:=Ur h2;have g3:¬XD.tmod 8=3:=Ur h3;have g4:¬XD.tmod 8=4:=Ur h4;have g5:¬XD.tmod 8=5:=Ur h5;have g6:¬XD.tmod 8=6:=Ur h6;have g7:¬XD.tmod 8=7:=Ur h7;omega
 refine fun(b:Va) (hb:OP b)=>?_;have hT:Kw b (bX.of (bZ (.slice none 0 0))):=⟨hb.lim,hb.cop,(by decide:((0:Nat):Int)<=bY),λi hi=>Up hi (F' i),λh _=>Up (hb.v.symm.trans h) (by decide)⟩
 have hc:jb b (bX.of (bZ (.slice none 0 0)))=2:=by unfold jb;rw[hb.v]
 refine Ai ⟨(by repeat' (first|exact trivial|exact rfl|refine Ai ?_ ?_|intro _)),(by repeat' (first|exact trivial|exact rfl|refine Ai ?_ ?_|intro _)),(by repeat' (first|exact trivial|exact rfl|refine Ai ?_ ?_|intro _)),(by repeat' (first|exact trivial|exact rfl|refine Ai ?_ ?_|intro _)),hT⟩ ?_;refine Ai ⟨(by repeat' (first|exact trivial|exact rfl|refine Ai ?_ ?_|intro _)),(by repeat' (first|exact trivial|exact rfl|refine Ai ?_ ?_|intro _)),(by repeat' (first|exact trivial|exact rfl|refine Ai ?_ ?_|intro _)),(by repeat' (first|exact trivial|exact rfl|refine Ai ?_ ?_|intro _)),hb.lim,hb.v⟩ ?_;refine Ai ⟨(by repeat' (first|exact trivial|exact rfl|refine Ai ?_ ?_|intro _)),(by repeat' (first|exact trivial|exact rfl|refine Ai ?_ ?_|intro _)),(by repeat' (first|exact trivial|exact rfl|refine Ai ?_ ?_|intro _)),(by repeat' (first|exact trivial|exact rfl|refine Ai ?_ ?_|intro _)),hb.lim,hb.v⟩ ?_;refine Ai ⟨(by repeat' (first|exact trivial|exact rfl|refine Ai ?_ ?_|intro _)),(by repeat' (first|exact trivial|exact rfl|refine Ai ?_ ?_|intro _)),(by repeat' (first|exact trivial|exact rfl|refine Ai ?_ ?_|intro _)),(by repeat' (first|exact trivial|exact rfl|refine Ai ?_ ?_|intro _)),hb.lim,hb.v,⟨(by decide:((0:Nat):Int)<=bY),λi hi=>Up hi (F' i)⟩⟩ ?_;refine Ai ⟨(by repeat' (first|exact trivial|exact rfl|refine Ai ?_ ?_|intro _)),(by repeat' (first|exact trivial|exact rfl|refine Ai ?_ ?_|intro _)),(by repeat' (first|exact trivial|exact rfl|refine Ai ?_ ?_|intro _)),(by repeat' (first|exact trivial|exact rfl|refine Ai ?_ ?_|intro _)),hb.lim⟩ ?_;refine Ai (λ_=>OS) ?_;refine Ai (λ_=>OS) ?_;refine Ai (λ_=>OS) ?_;exact TX hb.v hc
end Go.Proofs.YtgigkennhdolpaaGreatDoor
namespace Go.Proofs.YtgigkennhdolpaaGreatDoor
open Go.Conc
section
variable {P:Program}{Φ:Value->World->Prop}{w00:World}{S0:Nat->Prop}
theorem L3{α:Type} : ∀{m:Sem α} {w w':World} {r:α},LO P m->m.run P w=.ok r w'->w'=w:=by
 intro m
 induction m with
 | pure a=>intro w w' r _ e;simp only[Sem.run,Result.ok.injEq] at e;exact e.2.symm
 | load md a k ih=>
  intro w w' r h e;simp only[Sem.run] at e;split at e;exact ih _ (h _) e;split at e;exact ih _ (h _) e;cases e
 | program k ih=>exact λh e=>ih P h e
 | halt h=>intro w w' r _ e;cases e
 | _=>exact λh _=>h.elim
theorem Qo{fr:Frame}{v:Value}{W:World}(hl:fr.leaving P W (.returned v))(hi:P.inits.idxOf? fr.fn=none)
  (hΦ:∀W1,Rv W W1->∀(S:Nat->Prop) (w:World),View S (λ_=>False) w W1->(∀b:Nat,S0 b->S b∧w.heap[b]? = w00.heap[b]?)->(∀b:Nat,S b->S0 b∨w00.heap.size<=b)->Φ v w):Er P Φ w00 S0 (G fr []) W:=by
 intro W1 r1 hz S w gs sl t hv YN h0 hB;obtain⟨⟨q,hL⟩,⟨Xp,hP,V8⟩,-⟩:=hB;refine beside_ends (D:=λ_ _ es=>∀e∈es,EvL Xp w.heap.size e) (λ_ _ _ h=>h) h0 hL hP (n:=0) ?_;rintro w₁ ⟨d,rfl⟩;refine⟨rfl,v,?_⟩;have hv1:=hv.at_ d;have hrr:Rv W (W1.at d):=r1.trans (Rv.at_ W1 d);obtain⟨l1,l2,l3,fn,l4,l5⟩:=hl;have e1:=oq hrr hv1 (cY fn fr.tmps) l5;obtain⟨u,k1,k2,kk,k3⟩:=b7 #[] (cY fn fr.tmps).ns hv1 e1;obtain rfl:=L3 (cY fn fr.tmps) k1;refine⟨seen P fr.fn ((results fn fr.tmps).events P (w.at d) #[]),?_,λe he=>?_,hΦ _ hrr S _ hv1 YN.1 YN.2⟩;obtain⟨ffn,ZR,ZQ,XU,ZS,ZT,YD⟩:=fr;simp only at l1 l2 l3 l4 k1 hi;subst l1 l2 l3;simp[G,stepG,unwind,doReturn,l4,k1,hi,GStep.after];rcases k3 e (mem_seen he) with x|x;simp at x;exact Jh V8 x
theorem vM{f:FuncId}{args:Array Value}{w:World}{R:Ending->World->Prop}(hi:P.inits.idxOf? f=none)(hs:∀b:Nat,S0 b->b<w.heap.size)(hp:∀(b:Nat) (o:Obj),¬S0 b->w.heap[b]? = some o->Obj.plain o)
  (h:br P true f args (mask S0 (λ_=>False) w) R)
  (hR:∀e W,R e W->∃v,e=.returned v∧∀W1,Rv W W1->∀(S:Nat->Prop) (w':World),View S (λ_=>False) w' W1->(∀b:Nat,S0 b->S b∧w'.heap[b]? = w.heap[b]?)->(∀b:Nat,S b->S0 b∨w.heap.size<=b)->Φ v w') :
  ∃M last o w' t',runNT P (M+1) (solo (G (Frame.enter P f args .normal) []) w) #[]=(.ended o w',t')∧runN P M (solo (G (Frame.enter P f args .normal) []) w)=.next last ∧
   step P last=.ended o w'∧Conc.Good P Φ last o w' t':=by
 have hE:Er P Φ w S0 (G (Frame.enter P f args .normal) []) (mask S0 (λ_=>False) w):=h _ mw [] λe W fr hr hf hl=>by obtain⟨v,rfl,k⟩:=hR e W hr;exact Qo hl (by rw[hf];exact hi) k
 have hv:=jL (S:=S0) (R:=λ_=>False) (w:=w) hp hs λb _ h=>h.elim;rw[solo_eq_crowd];exact hE _ (Rv.refl _) (Nat.le_of_eq hv.size) S0 w #[_] none #[] hv ⟨λb hb=>⟨hb,rfl⟩,λb hb=>.inl hb⟩ rfl ⟨⟨_,leavers_one P _⟩,⟨_,past_nil.mono (Ui _),λl h=>h.elim⟩,λk a e=>by simp[Trace.act?] at e⟩
end
end Go.Proofs.YtgigkennhdolpaaGreatDoor
