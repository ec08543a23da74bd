/- law 30's awake (in company).. -/
import Derived.Test.YtmdpdknpapjchaaGreatDoorM45
set_option linter.all false
namespace Go.Proofs.YtmdpdknpapjchaaGreatDoor
noncomputable section
section
open Go.RowKit
variable {j:Nat}{z:X2}{w:XU}{l:cD}
def Bm(T:X2->cD->X2)(hT:T=xw cj stW)(S:X2->cD->kT)(hS:S=λz l=>stS (cj z.w l).1 (grv z))(Gn:X2->cD->Fam)(hG:Gn=λz l=>Hn z.gS (xw cj stW z l).w):XR Zi:=af (C:=Zi) 19 Tryz.call19 (aH eZ mo) (λa=>[rH cj stW a.1 a.2]) (λa=>.tup [(T a.1 a.2).sv,.agg [gG,(S a.1 a.2).sv,(Gn a.1 a.2).svI],.v (.int .i64 0)]) (λ_=>⟨[6,15,18,19],[17],[],4⟩) [6,15,18,19] (λ_=>rfl) follows Tryz.func19 (by kernel_rfl) (by subst hT hS hG;exact Ia cj rfl stW rfl stS rfl Hn rfl)
def z0:X2:=X2.of (Uh exW)
def WH:SV:=match sP cx 57 2 [(0,.agg [.il .i64 2,.il .i64 5,.il .i64 0,.il .i64 70,.il .i64 (-35),.bl false,.il .i64 0,.il .i64 0,.il .i64 0,.il .i64 0]),(1,.agg [.il .i64 2,.il .i64 4,.il .i64 0,.il .i64 1,.il .i64 1,.bl false,.il .i64 0,.il .i64 0,.il .i64 0,.il .i64 0])] with|some r=>r.v|none=>.e
def l0:cD:=cD.of WH
def lN:cD:=cD.of (.v (.slice none 0 0))
def smC(l:Zp):Bool:=decide ((l.n:Int)<=9223372036854775807)&&!bQ (λj=>!(decide (0<=(l.c j).kind)&&decide ((l.c j).kind<=255))) 0 l.n
def smB(l:ZJ):Bool:=decide ((l.n:Int)<=9223372036854775807)&&!bQ (λi=>!smC (l.e i).l) 0 l.n
theorem R4{l:Zp}(h:smC l=true):l.Sm:=by simp only[smC,I',U',Bool.not_eq_true'] at h;refine⟨h.1,λi hi=>?_⟩;have:=ja h.2 i (F9 _) (by omega);simpa using this
theorem Cu{l:ZJ}(h:smB l=true):l.Sm:=by simp only[smB,I',U',Bool.not_eq_true'] at h;refine⟨h.1,λi hi=>?_⟩;have:=ja h.2 i (F9 _) (by omega);exact R4 (by simpa using this)
def mvB(l:cD):Bool:=!bQ (λi=>!(KW (l.e i).moveX&&KW (l.e i).moveY)) 0 l.n
theorem SA(h:mvB l=true):∀i,i<l.n->Yd (l.e i).moveX∧Yd (l.e i).moveY:=λi hi=>by simp only[mvB,Bool.not_eq_true'] at h;have:=ja h i (F9 _) (by omega);simp only[Bool.not_eq_false',I'] at this;exact⟨sK this.1,sK this.2⟩
def gpB(l:ZJ):Bool:=!bQ (λi=>!(bu (l.e i).l 1).2) 0 l.n
theorem Th{l:ZJ}(h:gpB l=true):∀i,i<l.n->(bu (l.e i).l 1).2=true:=λi hi=>by simp only[gpB,Bool.not_eq_true'] at h;have:=ja h i (F9 _) (by omega);simpa using this
def tkB(z:X2)(l:cD):Bool:=smB z.w.l&&z.w.valid&&(inR H2 ⟨z.areaLowX,z.areaLowY⟩&&inR H2 ⟨z.areaHighX,z.areaHighY⟩&&inR z.gS ⟨z.areaLowX,z.areaLowY⟩&&inR Fb ⟨z.gravityX,z.gravityY⟩&&Nat.beq z.ropes.n 0&&Nat.beq z.setupSystems.n 0&&Nat.beq z.setupProgs.n 0&&decide (0<=z.setupFuel)&&decide (z.setupFuel<=10000))&&Nat.ble l.n 100&&mvB l &&
 decide ((cj z.w l).2=0)&&(cj z.w l).1.valid&&smB (cj z.w l).1.l&&Nat.ble (bB (cj z.w l).1.l (cj z.w l).1.l.n).length 1&&decide ((cj z.w l).1.tick<1073741824)&&KW ((stW (cj z.w l).1 (grv z)).tick+1)&&Nat.ble (stW (cj z.w l).1 (grv z)).l.n 1000&&smB (stW (cj z.w l).1 (grv z)).l&&gpB (stW (cj z.w l).1 (grv z)).l
theorem Jc(h:tkB z l=true):rH cj stW z l:=by simp only[tkB,I'] at h;obtain⟨⟨⟨⟨⟨⟨⟨⟨⟨⟨⟨⟨⟨h1,h2⟩,⟨⟨⟨⟨⟨⟨⟨⟨a1,a2⟩,a3⟩,a4⟩,a5⟩,a6⟩,a7⟩,a8⟩,a9⟩⟩,h3⟩,h4⟩,h5⟩,h6⟩,h7⟩,h8⟩,h9⟩,h10⟩,h11⟩,h12⟩,h13⟩:=h;have hn:=F4 h3;exact⟨Cu h1,h2,⟨a1,a2,a3,a4,Nb a5,⟨Nb a6,Nb a7,Od a8,Od a9⟩⟩,(show (l.n:Int)<=9223372036854775807 by omega),SA h4,Od h5,h6,Cu h7,F4 h8,Od h9,sK h10,F4 h11,λi hi=>((Cu h12).2 i hi).1,Th h13⟩
theorem tk1:rH cj stW z0 l0:=Jc (by kernel_rfl)
theorem tk2:rH cj stW (xw cj stW z0 l0) lN:=Jc (by kernel_rfl)
def Bq:XR Zi:={yK.lift rfl with frz:=true}
def Fu(l:List SV):Fam:=⟨l.length,λi=>(YQ (chunk l 1 i)).iv⟩
def fA:Fam:=Fu [.il .i64 74,.il .i64 (-22),.il .i64 98,.il .i64 50]
def fB:Fam:=Fu [.il .i64 138,.il .i64 (-54),.il .i64 101,.il .i64 50]
def fC:Fam:=Fu [.il .i64 1]
def fD:Fam:=Fu [.il .i64 1,.il .i64 2]
structure Tk where
 z:X2
 s:kT
 g:Fam
def Tk.rep(k:Tk):List SV:=[gG,k.s.sv,k.g.svI]
def awC(a0:Tk):Cut:=⟨Tk,λa=>a=a0,λa=>⟨[sl 1 (.p 0 0),sl 2 (.p 1 0),sl 3 (i64 0)],[(0,.lay a.z.cells 36),(1,.lay a.rep 70)],2,0,[],[]⟩,λ_=>0⟩
def awD(a0 b0:Tk):Cut:=⟨Tk×Tk,λa=>a.1=a0∧a.2=b0,λa=>⟨[sl 1 (.p 0 0),sl 2 (.p 1 0),sl 3 (i64 0),sl 4 (.p 2 0),sl 5 (.p 3 0),sl 6 (i64 0)],[(0,.lay a.1.z.cells 36),(1,.lay a.1.rep 70),(2,.lay a.2.z.cells 36),(3,.lay a.2.rep 70)],4,0,[],[]⟩,λ_=>0⟩
section
variable (T:X2->cD->X2)(hT:T=xw cj stW)(S:X2->cD->kT)(hS:S=λz l=>stS (cj z.w l).1 (grv z))(Gn:X2->cD->Fam)(hG:Gn=λz l=>Hn z.gS (xw cj stW z l).w)
def tkA(z:X2)(l:cD):Tk:=⟨T z l,S z l,Gn z l⟩
set_option maxHeartbeats 4000000 in
set_option maxRecDepth 8000 in
theorem D7:aJ (C:=Zi) [Bq,Bm T hT S hS Gn hG,FN.lift rfl,FL.lift rfl] [] 0 ⟨[],[2,3],[],0⟩ Tryz.f6 (CF.enc ()) λv H _=>ae (.bl true) H v:=by
 have n0:(T z0 l0).setupSystems.n=0:=by rw[hT];rfl
 have n1:∀z:X2,z.setupSystems.n=0->(T z lN).setupSystems.n=0:=λz h=>by rw[hT];exact h
 refine F8 (awC (tkA T S Gn z0 l0)) ?_;refine Ai ?_ ?_
 ·refine Ai ⟨(by repeat' first|exact trivial|exact rfl|apply Ai|intro),al2 (by repeat' first|exact trivial|exact rfl|apply Ai|intro) (by repeat' first|exact trivial|exact rfl|apply Ai|intro),tk1⟩ ?_;refine⟨tkA T S Gn z0 l0,[],[],trivial,rfl,?_⟩;repeat' first|apply Ai|exact rfl|intro
  all_goals first|(exact P' (show _<0 by assumption) (F1 _))|(exact P' (Nat.lt_of_lt_of_eq (by assumption) n0) (F1 _))
 refine fun(a:Tk) (ha:a=tkA T S Gn z0 l0)=>?_;have m0:a.z.setupSystems.n=0:=by rw[ha];exact n0
 refine F8 (awD (tkA T S Gn z0 l0) (tkA T S Gn (T z0 l0) lN)) ?_;refine Ai ?_ ?_
 ·refine Ai ⟨(by repeat' first|exact trivial|exact rfl|apply Ai|intro),λi hi=>P' (Nat.lt_of_lt_of_eq hi m0) (F1 _),(by repeat' first|exact trivial|exact rfl|apply Ai|intro),(by repeat' first|exact trivial|exact rfl|apply Ai|intro),(show rH cj stW a.z lN from by rw[ha];show rH cj stW (T z0 l0) lN;rw[hT];exact tk2)⟩ ?_;refine⟨(a,tkA T S Gn a.z lN),[],[],trivial,⟨ha,by rw[ha];rfl⟩,?_⟩;repeat' first|apply Ai|exact rfl|intro
  all_goals first|(exact P' (show _<0 by assumption) (F1 _))|(exact P' (Nat.lt_of_lt_of_eq (by assumption) m0) (F1 _))|(exact P' (Nat.lt_of_lt_of_eq (by assumption) (n1 _ m0)) (F1 _))
 refine fun(a:Tk×Tk) (ha:a.1=tkA T S Gn z0 l0∧a.2=tkA T S Gn (T z0 l0) lN)=>?_;have h1:=ha.1;have h2:=ha.2;have q1:a.1.z.w.l.n<=100000:=by rw[h1];show (T z0 l0).wEntities.n<=100000;rw[hT];exact F4 (by kernel_rfl)
 have q2:a.2.z.w.l.n<=100000:=by rw[h2];show (T (T z0 l0) lN).wEntities.n<=100000;rw[hT];exact F4 (by kernel_rfl)
 have g1:(a.1.g.n:Int)<=cp:=by rw[h1];show ((Gn z0 l0).n:Int)<=9223372036854775807;rw[hG];exact Od (by kernel_rfl)
 have g2:(a.2.g.n:Int)<=cp:=by rw[h2];show ((Gn (T z0 l0) lN).n:Int)<=9223372036854775807;rw[hT,hG];exact Od (by kernel_rfl)
 have fin:((((((decide ((0:Int)=0)&&decide ((0:Int)=0))&&atW a.1.z.w fA)&&atW a.2.z.w fB)&&pg a.1.g fC)&&pg a.2.g fD)&&decide (a.2.z.w.tick=2))=true:=by
  rw[h1,h2];subst hT hS hG
  kernel_rfl
 refine Ai (λ_=>⟨(by repeat' first|exact trivial|exact rfl|apply Ai|intro),al4 (by repeat' first|exact trivial|exact rfl|apply Ai|intro) (by repeat' first|exact trivial|exact rfl|apply Ai|intro) (by repeat' first|exact trivial|exact rfl|apply Ai|intro) (by repeat' first|exact trivial|exact rfl|apply Ai|intro),q1⟩) ?_;refine Ai (λ_=>⟨(by repeat' first|exact trivial|exact rfl|apply Ai|intro),al4 (by repeat' first|exact trivial|exact rfl|apply Ai|intro) (by repeat' first|exact trivial|exact rfl|apply Ai|intro) (by repeat' first|exact trivial|exact rfl|apply Ai|intro) (by repeat' first|exact trivial|exact rfl|apply Ai|intro),q2⟩) ?_;refine Ai (λ_=>⟨(by repeat' first|exact trivial|exact rfl|apply Ai|intro),al1 (by repeat' first|exact trivial|exact rfl|apply Ai|intro),g1⟩) ?_;refine Ai (λ_=>⟨(by repeat' first|exact trivial|exact rfl|apply Ai|intro),al2 (by repeat' first|exact trivial|exact rfl|apply Ai|intro) (by repeat' first|exact trivial|exact rfl|apply Ai|intro),g2⟩) ?_;refine XA (a:=true) fin.symm ?_;exact rfl
end
theorem yY:∀a,aD ((λ_=>[]) a)->aJ (C:=Zi) [Bq,Bm (xw cj stW) rfl (λz l=>stS (cj z.w l).1 (grv z)) rfl (λz l=>Hn z.gS (xw cj stW z l).w) rfl,FN.lift rfl,FL.lift rfl] [] 0 ⟨[],[2,3],[],0⟩ Tryz.f6 (CF.enc a) λv H _=>ae ((λ_=>.bl true) a) H v:=λ_ _=>D7 _ rfl _ rfl _ rfl
def Dl:XR Zi:=af (C:=Zi) 6 Tryz.call6 CF (λ_=>[]) (λ_=>.bl true) (λ_=>⟨[],[2,3],[],0⟩) [] (λ_=>rfl) follows Tryz.func6 (by kernel_rfl) yY
set_option maxRecDepth 8000
set_option maxHeartbeats 2000000
def BP.Nm(_:BP):Prop:=True
structure X2.Sm (z:X2):Prop where
 l:z.wEntities.Sm
 s:(z.setupSystems.n:Int)<=cp
 p:(z.setupProgs.n:Int)<=cp
 c:∀i,i<z.setupProgs.n->((z.setupProgs.e i).code.n:Int)<=cp
 r:(z.ropes.n:Int)<=cp
 nm:∀i,i<z.setupSystems.n->(z.setupSystems.e i).Nm
def Pz(w:XU)(s:Z8):Bool:=decide ((10:Int)<w.l.n)||decide ((6:Int)<s.systems.n)||decide ((6:Int)<s.progs.n)||(decide (600<s.fuel)&&decide (s.fuel<=10000))
def yy(w:XU)(i:Nat):Bool:=decide ((12:Int)<((w.l.e i).l.n:Nat))
def yx(s:Z8)(i:Nat):Bool:=decide ((200:Int)<((s.progs.e i).code.n:Nat))
def mK(w:XU)(s:Z8):Bool:=!Pz w s&&!bQ (yy w) 0 w.l.n&&!bQ (yx s) 0 s.progs.n
def VD(w:XU)(s:Z8):Cut:=⟨Nat,λk=>k<=w.l.n∧bQ (yy w) 0 w.l.n=bQ (yy w) k (w.l.n-k),λk=>⟨[sl 3 (.p 1 0),sl 36 w.l.sv,sl 37 (i64 w.l.n),sl 38 (i64 k)],[(1,.lay s.cells 33)],2,0,[],[]⟩,λk=>w.l.n-k⟩
def VC(s:Z8):Cut:=⟨Nat,λk=>k<=s.progs.n∧bQ (yx s) 0 s.progs.n=bQ (yx s) k (s.progs.n-k),λk=>⟨[sl 48 s.progs.sv,sl 49 (i64 s.progs.n),sl 50 (i64 k)],[],2,0,[],[]⟩,λk=>s.progs.n-k⟩
theorem DX:∀a,aD ((λa=>[a.1.l.Sm,(a.2.progs.n:Int)<=cp,∀i,i<a.2.systems.n->(a.2.systems.e i).Nm]) a)->aJ (C:=cx) [] [] 0 ⟨[],[],[4,10],0⟩ Tryz.f13 ((aH cI nO).enc a) λv H _=>ae ((λa=>.v (.bool (mK a.1 a.2))) a) H v:=by
 intro⟨w,s⟩ ⟨hm,hp,hs⟩;replace hs:∀i,i<s.systems.n->(s.systems.e i).Nm:=hs;replace hm:w.l.Sm:=hm;have hn:(w.l.n:Int)<=9223372036854775807:=hm.1;replace hp:(s.progs.n:Int)<=9223372036854775807:=hp;refine Ai (λhx=>?_) (λhx=>?_);have hx:Pz w s=true:=hx;have e:mK w s=false:=(by unfold mK;rw[hx];rfl);simp only[e];exact rfl;have hx:Pz w s=false:=hx;refine F8 (VD w s) ?_;refine Ai ?_ ?_
 ·refine⟨(0:Nat),[],[],trivial,⟨F9 _,rfl⟩,?_⟩;repeat' first|apply Ai|exact rfl|intro
  all_goals exact ZW (hs _ (by assumption))
 refine fun(k:Nat) (hk:k<=w.l.n∧bQ (yy w) 0 w.l.n=bQ (yy w) k (w.l.n-k))=>?_;obtain⟨k1,k2⟩:=hk;refine Ai (λhb=>?_) (λhb=>?_)
 ·have hb:(k:Int)<w.l.n:=Od hb;have e:=eA (g:=yy w) (k:=k) (n:=w.l.n) (by omega);refine Ai ⟨by omega,by omega⟩ ?_;refine Ai (λhc=>?_) (λhc=>?_);have hc:yy w k=true:=hc;simp only[hc] at e;have e1:mK w s=false:=(by unfold mK;rw[k2,e];simp);simp only[e1];exact rfl;have hc:yy w k=false:=hc;simp only[hc] at e;refine Ai (by unfold XT;omega:XT ((k:Int)+1)) ?_;refine⟨k+1,[],[],(by show w.l.n-(k+1)<w.l.n-k;omega),⟨by omega,by rw[k2,e]⟩,?_⟩;repeat' first|apply Ai|exact rfl|intro
  all_goals exact ZW (hs _ (by assumption))
 have hb:¬(k:Int)<w.l.n:=Xg hb;have a1:bQ (yy w) 0 w.l.n=false:=by rw[k2,show w.l.n-k=0 by omega];rfl
 refine F8 (VC s) ?_;refine Ai ?_ ?_
 ·refine⟨(0:Nat),[],[],trivial,⟨F9 _,rfl⟩,?_⟩;repeat' first|apply Ai|exact rfl|intro
  all_goals exact ZW (hs _ (by assumption))
 refine fun(k:Nat) (hk:k<=s.progs.n∧bQ (yx s) 0 s.progs.n=bQ (yx s) k (s.progs.n-k))=>?_;obtain⟨k1,k2⟩:=hk;refine Ai (λhb=>?_) (λhb=>?_)
 ·have hb:(k:Int)<s.progs.n:=Od hb;have e:=eA (g:=yx s) (k:=k) (n:=s.progs.n) (by omega);refine Ai ⟨by omega,by omega⟩ ?_;refine Ai (λhc=>?_) (λhc=>?_);have hc:yx s k=true:=hc;simp only[hc] at e;have e1:mK w s=false:=(by unfold mK;rw[k2,e];simp);simp only[e1];exact rfl;have hc:yx s k=false:=hc;simp only[hc] at e;refine Ai (by unfold XT;omega:XT ((k:Int)+1)) ?_;refine⟨k+1,[],[],(by show s.progs.n-(k+1)<s.progs.n-k;omega),⟨by omega,by rw[k2,e]⟩,?_⟩;repeat' first|apply Ai|exact rfl|intro
  all_goals exact ZW (hs _ (by assumption))
 have hb:¬(k:Int)<s.progs.n:=Xg hb;have a2:bQ (yx s) 0 s.progs.n=false:=by rw[k2,show s.progs.n-k=0 by omega];rfl
 have e1:mK w s=true:=by unfold mK;rw[a1,a2,hx];rfl
 simp only[e1];exact rfl
def Mm:XR cx:=af 13 Tryz.call13 (aH cI nO) _ _ (λ_=>⟨[],[],[4,10],0⟩) [] (λ_=>rfl) follows Tryz.func13 (by kernel_rfl) DX
def zw(n:Int):Bool:=decide (-300<=n)&&decide (n<=300)
theorem Ic:∀a,aD ((λ_=>[]) a)->aJ (C:=cx) [] [] 0 ak Tryz.f14 ((bh (Yp .i64)).enc a) λv H _=>ae ((λn=>.v (.bool (zw n))) a) H v:=by intro n _;exact rfl
def PV:XR cx:=af 14 Tryz.call14 (bh (Yp .i64)) _ _ (λ_=>ak) [] (λ_=>rfl) follows Tryz.func14 (by kernel_rfl) Ic
def pN(c:aZ):Bool:=decide (c.kind=2)&&(!zw c.v0||!zw c.v1)
def VB(z:X2):Bool:=(zw z.gravityX&&zw z.gravityY)||decide (4096<z.gravityX)||decide (4096<z.gravityY)||decide (z.gravityX < -4096)||decide (z.gravityY < -4096)
def Py(z:X2)(l:cD):Bool:=!mK z.w z.stp||decide ((20:Int)<l.n)||decide ((34:Int)<z.ropes.n)
def uH(z:X2)(i:Nat):Bool:=bQ (λk=>pN ((z.wEntities.e i).l.c k)) 0 (z.wEntities.e i).l.n
def kJ(z:X2)(l:cD):Bool:=!Py z l&&!bQ (uH z) 0 z.wEntities.n&&VB z
def QZ:SV:=.v (.func (.func 14) #[] #[])
def fvC(z:X2):Cut:=⟨Nat,λk=>k<=z.wEntities.n∧bQ (uH z) 0 z.wEntities.n=bQ (uH z) k (z.wEntities.n-k),λk=>⟨[sl 2 (.p 0 0),sl 5 QZ,sl 29 z.wEntities.sv,sl 30 (i64 z.wEntities.n),sl 31 (i64 k)],[(0,.lay z.cells 36)],1,0,[],[]⟩,λk=>z.wEntities.n-k⟩
def fwC(z:X2)(i:Nat):Cut:=⟨Nat,λk=>k<=(z.wEntities.e i).l.n∧uH z i=bQ (λk=>pN ((z.wEntities.e i).l.c k)) k ((z.wEntities.e i).l.n-k),λk=>⟨[sl 2 (.p 0 0),sl 5 QZ,sl 29 z.wEntities.sv,sl 30 (i64 z.wEntities.n),sl 31 (i64 i),sl 36 (z.wEntities.e i).l.sv,sl 37 (i64 (z.wEntities.e i).l.n),sl 38 (i64 k)],[(0,.lay z.cells 36)],1,0,[],[]⟩,λk=>(z.wEntities.e i).l.n-k⟩
theorem DW:∀a,aD ((λa=>[a.1.wEntities.Sm,(a.1.setupProgs.n:Int)<=cp,∀i,i<a.1.setupSystems.n->(a.1.setupSystems.e i).Nm]) a)->aJ (C:=cx) [Mm,PV] [] 0 ⟨[],[],[5,8],0⟩ Tryz.f4 ((aH eZ mo).enc a) λv H _=>ae ((λa=>.v (.bool (kJ a.1 a.2))) a) H v:=by
 intro⟨z,l⟩ ⟨hm,hp,hs⟩;replace hs:∀i,i<z.setupSystems.n->(z.setupSystems.e i).Nm:=hs;replace hm:z.wEntities.Sm:=hm;replace hp:(z.setupProgs.n:Int)<=cp:=hp;have hn:(z.wEntities.n:Int)<=9223372036854775807:=hm.1;refine Ai ⟨λ_ _ _ _=>trivial,by repeat' (first|exact trivial|exact rfl|apply Ai|intro),by repeat' (first|exact trivial|exact rfl|apply Ai|intro),hm,hp,hs⟩ ?_;refine Ai (λhx=>?_) (λhx=>?_);have hx:Py z l=true:=hx;have e:kJ z l=false:=(by unfold kJ;rw[hx];rfl);simp only[e];exact rfl;have hx:Py z l=false:=hx;refine F8 (fvC z) ?_;refine Ai ?_ ?_
 ·refine⟨(0:Nat),[],[],trivial,⟨F9 _,rfl⟩,?_⟩;repeat' first|apply Ai|exact rfl|intro
  all_goals exact ZW (hs _ (by assumption))
 refine fun(i:Nat) (hi:i<=z.wEntities.n∧bQ (uH z) 0 z.wEntities.n=bQ (uH z) i (z.wEntities.n-i))=>?_;obtain⟨i1,i2⟩:=hi;refine Ai (λhb=>?_) (λhb=>?_)
 ·have hb:(i:Int)<z.wEntities.n:=Od hb;have ei:=eA (g:=uH z) (k:=i) (n:=z.wEntities.n) (by omega);have hc:((z.wEntities.e i).l.n:Int)<=9223372036854775807:=(hm.2 i (by omega)).1;refine Ai ⟨by omega,by omega⟩ ?_;refine F8 (fwC z i) ?_;refine Ai ?_ ?_
  ·refine⟨(0:Nat),[],[],trivial,⟨F9 _,rfl⟩,?_⟩;repeat' first|apply Ai|exact rfl|intro
   all_goals exact ZW (hs _ (by assumption))
  refine fun(k:Nat) (hk:k<=(z.wEntities.e i).l.n∧uH z i=bQ (λk=>pN ((z.wEntities.e i).l.c k)) k ((z.wEntities.e i).l.n-k))=>?_;obtain⟨k1,k2⟩:=hk;refine Ai (λhb=>?_) (λhb=>?_)
  ·have hb:(k:Int)<(z.wEntities.e i).l.n:=Od hb;have e:=eA (g:=λk=>pN ((z.wEntities.e i).l.c k)) (k:=k) (n:=(z.wEntities.e i).l.n) (by omega);refine Ai ⟨by omega,by omega⟩ ?_;refine Ai (λhq=>?_) (λhq=>?_);have hq:(λk=>pN ((z.wEntities.e i).l.c k)) k=true:=hq;simp only[hq] at e;have e0:uH z i=true:=(by rw[k2,e]);simp only[e0] at ei;have e1:kJ z l=false:=(by unfold kJ;rw[i2,ei];simp);simp only[e1];exact rfl;have hq:(λk=>pN ((z.wEntities.e i).l.c k)) k=false:=hq;simp only[hq] at e;refine Ai (by unfold XT;omega:XT ((k:Int)+1)) ?_;refine⟨k+1,[],[],(by show (z.wEntities.e i).l.n-(k+1)<(z.wEntities.e i).l.n-k;omega),⟨by omega,by rw[k2,e]⟩,?_⟩;repeat' first|apply Ai|exact rfl|intro
   all_goals exact ZW (hs _ (by assumption))
  have hb:¬(k:Int)<(z.wEntities.e i).l.n:=Xg hb;have e0:uH z i=false:=(by rw[k2,show (z.wEntities.e i).l.n-k=0 by omega];rfl);simp only[e0] at ei;refine Ai (by unfold XT;omega:XT ((i:Int)+1)) ?_;refine⟨i+1,[],[],(by show z.wEntities.n-(i+1)<z.wEntities.n-i;omega),⟨by omega,by rw[i2,ei]⟩,?_⟩;repeat' first|apply Ai|exact rfl|intro
  all_goals exact ZW (hs _ (by assumption))
 have hb:¬(i:Int)<z.wEntities.n:=Xg hb;have a2:bQ (uH z) 0 z.wEntities.n=false:=by rw[i2,show z.wEntities.n-i=0 by omega];rfl
 have e1:kJ z l=VB z:=by unfold kJ;rw[a2,hx];rfl
 simp only[e1];exact rfl
def Ml:XR cx:=af 4 Tryz.call4 (aH eZ mo) _ _ (λ_=>⟨[],[],[5,8],0⟩) [] (λ_=>rfl) follows Tryz.func4 (by kernel_rfl) DW
set_option maxRecDepth 8000
set_option maxHeartbeats 2000000
theorem Ft(h:kJ z l=true):z.wEntities.n<=10∧z.setupSystems.n<=6∧z.setupProgs.n<=6∧z.ropes.n<=34∧(∀i,i<z.wEntities.n->(z.wEntities.e i).l.n<=12)∧∀i,i<z.setupProgs.n->(z.setupProgs.e i).code.n<=200:=by unfold kJ Py mK Pz at h;simp only[I',Bool.not_eq_true',Xp,Xh,Bool.not_eq_false'] at h;obtain⟨⟨⟨⟨h1,-⟩,h4⟩,-⟩,-⟩:=h;obtain⟨⟨h5,h6⟩,h7⟩:=h1;obtain⟨⟨⟨h8,h9⟩,h10⟩,-⟩:=h5;have h8:¬(10:Int)<z.wEntities.n:=h8;have h9:¬(6:Int)<z.setupSystems.n:=h9;have h10:¬(6:Int)<z.setupProgs.n:=h10;refine⟨by omega,by omega,by omega,by omega,λi hi=>?_,λi hi=>?_⟩;have:=Xg (ja h6 i (F9 _) (by show i<0+z.wEntities.n;omega));have:¬(12:Int)<((z.wEntities.e i).l.n:Nat):=this;omega;have:=Xg (ja h7 i (F9 _) (by show i<0+z.setupProgs.n;omega));have:¬(200:Int)<((z.setupProgs.e i).code.n:Nat):=this;omega
theorem QL(F:X2->XO->X2×Int)(hF:F=eH):∀a,aD ((λa=>[a.1.Lim,a.2.l.Sm,cu a.1=true->a.1.Cop]) a)->aJ (C:=cx) [u9,mU,yH,nw,FO gw rfl,sO] [uo] 1 ⟨[1004],[],[],0⟩ Tryz.f7 ((aH eZ eE).enc a) λv H _=>ae ((λa=>.tup [(F a.1 a.2).1.sv,.v (.int .i64 (F a.1 a.2).2)]) a) H v:=by rw[hF];exact MU gw rfl
def PT(F:X2->XO->X2×Int)(hF:F=eH):XR cx:=af 7 Tryz.call7 (aH eZ eE) (λa=>[a.1.Lim,a.2.l.Sm,cu a.1=true->a.1.Cop]) (λa=>.tup [(F a.1 a.2).1.sv,.v (.int .i64 (F a.1 a.2).2)]) (λ_=>⟨[1004],[],[],0⟩) [1004] (λ_=>rfl) follows Tryz.func7 (by kernel_rfl) (QL F hF)
theorem QS(G:X2->Int->X2×XO×Int)(hG:G=lI):∀a,aD ((λa=>[a.1.Lim,cu a.1=true->a.1.Cop]) a)->aJ (C:=cx) [u9,xh,Ma,sO] [] 0 ⟨[11],[],[],0⟩ Tryz.f8 ((aH eZ (Yp .i64)).enc a) λv H _=>ae ((λa=>.tup [(G a.1 a.2).1.sv,(G a.1 a.2).2.1.sv,.v (.int .i64 (G a.1 a.2).2.2)]) a) H v:=by rw[hG];exact Nc
def P9(G:X2->Int->X2×XO×Int)(hG:G=lI):XR cx:=af 8 Tryz.call8 (aH eZ (Yp .i64)) (λa=>[a.1.Lim,cu a.1=true->a.1.Cop]) (λa=>.tup [(G a.1 a.2).1.sv,(G a.1 a.2).2.1.sv,.v (.int .i64 (G a.1 a.2).2.2)]) (λ_=>⟨[11],[],[],0⟩) [11] (λ_=>rfl) follows Tryz.func8 (by kernel_rfl) (QS G hG)
structure qR (w:XU):Prop where
 n:w.l.n<=11
 c:∀i,i<w.l.n->(w.l.e i).l.n<=12
 k:w.l.Sm
theorem ED(hL:z.Lim)(h:qR w):(z.put w).Lim:=⟨h.k,hL.r,hL.s,hL.p,hL.c⟩
theorem EE(hC:z.Cop)(h:qR w):(z.put w).Cop:=⟨by have:=h.n;show w.l.n<=1000;omega,λi hi=>by have:=h.c i hi;show (w.l.e i).l.n<=1000;omega,hC.s,hC.p,hC.q,hC.r⟩
theorem Kj{e:XO}(hn:w.l.n<=10)(hc:∀i,i<w.l.n->(w.l.e i).l.n<=12)(hk:w.l.Sm)(he:e.l.n<=12)(hs:e.l.Sm)(hj:j<=w.l.n):qR (w.more j e):=by
 have key:∀(Q:XO->Prop),Q e->(∀i,i<w.l.n->Q (w.l.e i))->∀i,i<w.l.n+1->Q (gV j w.l.e e i):=λQ h1 h2 i hi=>by rcases Nat.lt_trichotomy i j with h|h|h;rw[kF h];exact h2 i (by omega);subst h;rw[jA];exact h1;rw[iq h];exact h2 (i-1) (by omega)
 exact⟨by show w.l.n+1<=11;omega,key (λx=>x.l.n<=12) he hc,by show ((w.l.n+1:Nat):Int)<=9223372036854775807;omega,key (λx=>x.l.Sm) hs hk.2⟩
theorem Ku(hn:w.l.n<=10)(hc:∀i,i<w.l.n->(w.l.e i).l.n<=12)(hk:w.l.Sm):qR (w.less j):=
 ⟨by show w.l.n-1<=11;omega,λi hi=>hc _ (xB hi),by show ((w.l.n-1:Nat):Int)<=9223372036854775807;omega,λi hi=>hk.2 _ (xB hi)⟩
def zgS(which:Int):List (Nat×Slot):=[sl 1 (.v (.int .u8 which)),sl 3 (.p 0 0)]
def zgE(z:X2)(e:XO):aU:=[(0,.lay z.cells 36),(1,.lay e.cells 39)]
def zg4(z:X2)(which:Int)(e:XO)(A:X2×Int):Cut:=⟨X2×Int,λa=>a=A,λa=>⟨sl 5 (.p 1 0)::sl 7 (.p 2 0)::sl 8 (i64 a.2)::zgS which,zgE z e++[(2,.lay a.1.cells 36)],3,0,[],[]⟩,λ_=>0⟩
def zg6(z:X2)(which:Int)(e:XO)(t:X2):Cut:=⟨X2×XO×Int,λa=>a=(z,e,0),λa=>⟨sl 5 (.p 1 0)::sl 7 (.p 2 0)::sl 9 (.p 3 0)::sl 10 (.p 4 0)::sl 11 (i64 a.2.2)::zgS which,zgE z e++[(2,.lay t.cells 36),(3,.lay a.1.cells 36),(4,.lay a.2.1.cells 39)],5,0,[],[]⟩,λ_=>0⟩
def zg7(z:X2)(which:Int)(e:XO)(t:X2):Cut:=⟨Int,λa=>a=2,λa=>⟨sl 5 (.p 1 0)::sl 7 (.p 2 0)::sl 9 (.p 3 0)::sl 10 (.p 4 0)::sl 11 (i64 0)::sl 13 (i64 a)::zgS which,zgE z e++[(2,.lay t.cells 36),(3,.lay z.cells 36),(4,.lay e.cells 39)],5,0,[],[]⟩,λ_=>0⟩
def zg9(z:X2)(which:Int):Cut:=⟨Unit,λ_=>True,λ_=>⟨zgS which,[(0,.lay z.cells 36)],1,0,[],[]⟩,λ_=>0⟩
def zgO(z:X2)(i:Nat):aU:=[(0,.lay z.cells 36),(1,.lay (z.wEntities.e i).cells 39)]
def V5(z:X2):Cut:=⟨Nat,λi=>i<z.wEntities.n,λi=>⟨[sl 3 (.p 0 0),sl 14 (.p 1 0)],zgO z i,2,0,[],[]⟩,λ_=>0⟩
def V4(z:X2)(i:Nat):Cut:=⟨X2×XO×Int,λa=>a=(z.put (z.w.less i),z.wEntities.e i,0),λa=>⟨[sl 3 (.p 0 0),sl 14 (.p 1 0),sl 15 (.p 2 0),sl 16 (.p 3 0),sl 17 (i64 a.2.2)],zgO z i++[(2,.lay a.1.cells 36),(3,.lay a.2.1.cells 39)],4,0,[],[]⟩,λ_=>0⟩
def V3(z l:X2)(i:Nat):Cut:=⟨Int,λa=>a=6,λa=>⟨[sl 3 (.p 0 0),sl 14 (.p 1 0),sl 15 (.p 2 0),sl 16 (.p 3 0),sl 17 (i64 0),sl 20 (i64 a)],zgO z i++[(2,.lay l.cells 36),(3,.lay (z.wEntities.e i).cells 39)],4,0,[],[]⟩,λ_=>0⟩
def V1(z:X2)(i:Nat)(A:X2×Int):Cut:=⟨X2×Int,λa=>a=A,λa=>⟨[sl 3 (.p 0 0),sl 14 (.p 1 0),sl 21 (.p 2 0),sl 22 (i64 a.2)],zgO z i++[(2,.lay a.1.cells 36)],3,0,[],[]⟩,λ_=>0⟩
def V0(z:X2)(b:X2×Int)(A:aZ×Bool):Cut:=⟨aZ×Bool,λa=>a=A,λa=>⟨[sl 3 (.p 0 0),sl 21 (.p 1 0),sl 22 (i64 b.2),sl 23 (.p 2 0),sl 24 (.v (.bool a.2))],[(0,.lay z.cells 36),(1,.lay b.1.cells 36),(2,.lay a.1.cells 52)],3,0,[],[]⟩,λ_=>0⟩
section
variable (F:X2->XO->X2×Int)(hF:F=eH)(G:X2->Int->X2×XO×Int)(hG:G=lI)
set_option maxHeartbeats 8000000 in
theorem BL:∀a,aD ((λa:X2×Int×XO=>[a.1.Sm,0<=a.2.1∧a.2.1<=255,a.2.2.l.Sm]) a)->aJ (C:=Zi) [Ml.lift rfl,Dl,u9.lift rfl,(PT F hF).lift rfl,(P9 G hG).lift rfl,L6.lift rfl,Bo.lift rfl,TN.lift rfl,nw.lift rfl] [] 0 ⟨[],[4,6,7,9,12,13,14,17,18],[],0⟩ Tryz.f3 ((eC eZ (Yp .u8) eE).enc a) λv H _=>ae (.bl true) H v:=by
 intro⟨z,which,e⟩ ⟨hz,hw,he⟩;replace hz:z.Sm:=hz;replace hw:0<=which∧which<=255:=hw;replace he:e.l.Sm:=he;have hn:(z.wEntities.n:Int)<=9223372036854775807:=hz.l.1;refine Ai ⟨λ_ _ _ _=>trivial,λ_ _=>trivial,λ_ _ _ _=>trivial,λ_ _=>trivial,hz.l,hz.p,hz.nm⟩ ?_;have lim:(!kJ z (cD.of (cH (.slice none 0 0))))=false->z.Lim:=λh=>by obtain⟨fn,fs,fp,fr,fc,fk⟩:=Ft (by simpa using h:kJ z (cD.of (cH (.slice none 0 0)))=true);exact⟨hz.l,hz.r,hz.s,hz.p,λi hi=>by have:=fk i hi;omega⟩
 refine Ai (λhg=>⟨λ_ _ _ _=>trivial,λ_ _=>trivial,λ_ _ _ _=>trivial,λ_ _=>trivial,lim hg⟩) ?_;refine Ai (λ_=>?_) (λhx=>?_);exact rfl;have hx:((!kJ z (cD.of (cH (.slice none 0 0)))||!cu z)||decide ((12:Int)<e.l.n))=false:=hx;obtain⟨hx12,hx3⟩:=Xp.1 hx;obtain⟨hx1,hx2⟩:=Xp.1 hx12;have hL:=lim hx1;have hv:cu z=true:=by simpa using hx2
 have hen:¬(12:Int)<e.l.n:=Xg hx3;obtain⟨fn,fs,fp,fr,fc,fk⟩:=Ft (by simpa using hx1:kJ z (cD.of (cH (.slice none 0 0)))=true);have hC:z.Cop:=⟨by omega,λi hi=>by have:=fc i hi;omega,by omega,by omega,λi hi=>by have:=fk i hi;omega,by omega⟩
 have hS:z.Sz:=⟨hn,λi hi=>by have:=fc i hi;show ((z.wEntities.e i).l.n:Int)<=9223372036854775807;omega,hz.r,hz.s,hz.p,hz.c⟩
 have hwn:z.w.l.n<=10:=fn;have hwc:∀i,i<z.w.l.n->(z.w.l.e i).l.n<=12:=fc;have hwk:z.w.l.Sm:=hz.l;refine F8 (zg9 z which) ?_;refine Ai ?_ ?_
 ·refine F8 (zg4 z which e (F z e)) ?_;refine Ai ?_ ?_
  ·refine Ai ⟨λ_ _ _ _=>trivial,λ_ _=>trivial,λ_ _ _ _=>trivial,λ_ _=>trivial,λ_ _=>trivial,hL,he,λ_=>hC⟩ ?_;refine⟨F z e,[],[],trivial,rfl,?_⟩;repeat' first|apply Ai|exact rfl|intro
  refine fun(a:X2×Int) (ha:a=F z e)=>?_;obtain⟨t,r⟩:=a;have ht1:t=(F z e).1:=O' Prod.fst ha;have hr1:r=(F z e).2:=O' Prod.snd ha;refine Ai (λhf=>?_) (λhf=>?_)
  ·have hf:r=0:=Od hf;have T:jW z e:=R0 (by rw[<-hF,<-hr1];exact hf);have hT:t=z.put (z.w.more (av z.w e.iD).1 e):=(by rw[ht1,hF];exact T.is);have hfew:qR (z.w.more (av z.w e.iD).1 e):=Kj hwn hwc hwk (by omega) he yr;have tL:t.Lim:=(by rw[hT];exact ED hL hfew);have tC:t.Cop:=(by rw[hT];exact EE hC hfew);have tv:cu t=true:=(by rw[ht1,hF];exact T.valid);have hg:G t e.iD=(z,e,0):=(by rw[hG,ht1,hF];exact T.give);have ht2:(F t e).2=2:=(by rw[ht1,hF];exact T.UB);refine F8 (zg6 z which e t) ?_;refine Ai ?_ ?_
   ·refine Ai ⟨λ_ _ _ _=>trivial,λ_ _=>trivial,λ_ _ _ _=>trivial,λ_ _=>trivial,tL,λ_=>tC⟩ ?_;refine⟨G t e.iD,[],[],trivial,hg,?_⟩;repeat' first|apply Ai|exact rfl|intro
   refine fun(b:X2×XO×Int) (hb:b=(z,e,0))=>?_;subst hb;refine F8 (zg7 z which e t) ?_;refine Ai ?_ ?_
   ·refine Ai ⟨λ_ _ _ _=>trivial,λ_ _=>trivial,λ_ _ _ _=>trivial,λ_ _=>trivial,λ_ _=>trivial,tL,he,λ_=>tC⟩ ?_;refine⟨(F t e).2,[],[],trivial,ht2,?_⟩;repeat' first|apply Ai|exact rfl|intro
   refine fun(h:Int) (hh:h=2)=>?_;subst hh;refine Ai (λ_=>⟨λ_ _ _ _=>trivial,λ_ _=>trivial,λ_ _ _ _=>trivial,λ_ _=>trivial,λ_ _ _ _=>trivial,λ_ _=>trivial,λ_ _ _ _=>trivial,λ_ _=>trivial,rfl,hS⟩) ?_;refine Ai (λ_=>⟨λ_ _=>trivial,λ_ _=>trivial,by show (e.l.n:Int)<=9223372036854775807;omega⟩) ?_;refine Ai (λ_=>⟨λ_ _ _ _=>trivial,λ_ _=>trivial,λ_ _ _ _=>trivial,λ_ _=>trivial,tL⟩) ?_;refine Ai (λhx=>?_) (λ_=>?_);exfalso;have hx:(decide (¬(0:Int)=0)||decide (¬(2:Int)=2)||!true||!fM e e||!cu t)=true:=hx;rw[om,tv] at hx;simp at hx;refine⟨(),[],[],trivial,trivial,?_⟩;repeat' first|apply Ai|exact rfl|intro
  refine⟨(),[],[],trivial,trivial,?_⟩;repeat' first|apply Ai|exact rfl|intro
 refine fun(_:Unit) _=>?_;refine Ai (λh0=>?_) (λh0=>?_);exact rfl;have h0:¬(z.wEntities.n:Int)=0:=Xg h0;refine F8 (V5 z) ?_;refine Ai ?_ ?_
 ·have hm:which.tmod z.wEntities.n=which%z.wEntities.n:=Int.tmod_eq_emod_of_nonneg hw.1;have hm1:=Int.emod_nonneg which h0;have hm2:=Int.emod_lt_of_pos which (by omega:(0:Int)<z.wEntities.n);refine Ai (show Yd which by unfold Yd;omega) ?_;refine Ai h0 ?_;refine Ai (show 0<=which.tmod z.wEntities.n∧which.tmod z.wEntities.n<z.wEntities.n by rw[hm];exact⟨hm1,hm2⟩) ?_;refine⟨(which.tmod z.wEntities.n).toNat,[],[],trivial,(show (which.tmod z.wEntities.n).toNat<z.wEntities.n by rw[hm];omega),?_⟩;repeat' first|apply Ai|exact rfl|intro
 refine fun(i:Nat) (hi:i<z.wEntities.n)=>?_;have hgi:G z (z.wEntities.e i).iD=(z.put (z.w.less i),z.wEntities.e i,0):=by rw[hG];exact Pq hv hi
 have hfew:qR (z.w.less i):=Ku hwn hwc hwk;have YV:=oE hv hi;have htb:=GF hv hi;have hog:=Oy hv hi;have tL:(z.put (z.w.less i)).Lim:=ED hL hfew;have tC:(z.put (z.w.less i)).Cop:=EE hC hfew;have tn:((z.put (z.w.less i)).wEntities.n:Int)=z.wEntities.n-1:=by show ((z.wEntities.n-1:Nat):Int)=_;omega
 have hga:(G (z.put (z.w.less i)) (z.wEntities.e i).iD).2.2=6:=by rw[hG];exact YV.2
 have hFb:F (z.put (z.w.less i)) (z.wEntities.e i)=match iJ z.gS (z.wEntities.e i) with|true=>(X2.no,2)|false=>(z,0):=by rw[hF];exact htb
 have ZL:=YV.1;have Yt:=fc i hi;have hes:(z.wEntities.e i).l.Sm:=hz.l.2 i hi;refine F8 (V4 z i) ?_;refine Ai ?_ ?_
 ·refine Ai ⟨λ_ _ _ _=>trivial,λ_ _=>trivial,λ_ _ _ _=>trivial,λ_ _=>trivial,hL,λ_=>hC⟩ ?_;refine⟨G z (z.wEntities.e i).iD,[],[],trivial,hgi,?_⟩;repeat' first|apply Ai|exact rfl|intro
 refine fun(b:X2×XO×Int) (hb:b=(z.put (z.w.less i),z.wEntities.e i,0))=>?_;subst hb;obtain⟨l,hl⟩:∃l,l=z.put (z.w.less i):=⟨_,rfl⟩
 rw[<-hl] at tL tC tn hga hFb ZL ⊢;refine F8 (V3 z l i) ?_;refine Ai ?_ ?_
 ·refine Ai ⟨λ_ _ _ _=>trivial,λ_ _=>trivial,λ_ _ _ _=>trivial,λ_ _=>trivial,tL,λ_=>tC⟩ ?_;refine⟨(G l (z.wEntities.e i).iD).2.2,[],[],trivial,hga,?_⟩;repeat' first|apply Ai|exact rfl|intro
 refine fun(h:Int) (hh:h=6)=>?_;subst hh;refine Ai (λ_=>⟨λ_ _=>trivial,λ_ _=>trivial,by show ((z.wEntities.e i).l.n:Int)<=9223372036854775807;omega⟩) ?_;refine Ai (λ_=>⟨λ_ _ _ _=>trivial,λ_ _=>trivial,λ_ _ _ _=>trivial,λ_ _=>trivial,tL⟩) ?_;refine Ai (λ_=>show Yd ((z.wEntities.n:Int)-1) by unfold Yd;omega) ?_;refine Ai (λhx=>?_) (λ_=>?_);exfalso;have hx:(decide (¬(0:Int)=0)||decide (¬(6:Int)=6)||!fM (z.wEntities.e i) (z.wEntities.e i)||!cu l||decide (¬(l.wEntities.n:Int)=z.wEntities.n-1))=true:=hx;rw[om,ZL,tn] at hx;simp at hx;refine F8 (V1 z i (F l (z.wEntities.e i))) ?_;refine Ai ?_ ?_
 ·refine Ai ⟨λ_ _ _ _=>trivial,λ_ _=>trivial,λ_ _ _ _=>trivial,λ_ _=>trivial,λ_ _=>trivial,tL,hes,λ_=>tC⟩ ?_;refine⟨F l (z.wEntities.e i),[(2,4)],[],trivial,rfl,?_⟩;repeat' first|apply Ai|exact rfl|intro
 refine fun(b:X2×Int) (hb:b=F l (z.wEntities.e i))=>?_;rw[hFb] at hb;refine F8 (V0 z b (oF z.w (z.wEntities.e i).iD 1)) ?_;refine Ai ?_ ?_
 ·refine Ai ⟨(by repeat' first|exact trivial|exact rfl|apply Ai|intro),hz.l⟩ ?_;refine⟨oF z.w (z.wEntities.e i).iD 1,[(1,2),(2,3)],[],trivial,rfl,?_⟩;repeat' first|apply Ai|exact rfl|intro
 refine fun(c:aZ×Bool) (hc:c=oF z.w (z.wEntities.e i).iD 1)=>?_;obtain⟨c,has⟩:=c;rw[<-hc] at hog;have hog:iJ z.gS (z.wEntities.e i)=(has&&!inR z.gS ⟨c.v0,c.v1⟩):=hog;refine Ai (λhx=>?_) (λhx=>?_);have hx:(has&&!inR z.gS ⟨c.v0,c.v1⟩)=true:=hx;rw[hog,hx] at hb;subst hb;exact rfl;have hx:(has&&!inR z.gS ⟨c.v0,c.v1⟩)=false:=hx;rw[hog,hx] at hb;subst hb;refine Ai (λ_=>⟨λ_ _ _ _=>trivial,λ_ _=>trivial,λ_ _ _ _=>trivial,λ_ _=>trivial,λ_ _ _ _=>trivial,λ_ _=>trivial,λ_ _ _ _=>trivial,λ_ _=>trivial,rfl,hS⟩) ?_;exact rfl
end
end
section
open Go.Conc
section
variable {P:Program}{Φ:Value->World->Prop}{w00:World}{S0:Nat->Prop}
theorem OS{α:Type} : ∀{m:Sem α} {w w':World} {r:α},LO P m->m.run P w=.ok r w'->w'=w:=by
 intro m
 induction m with
 | pure a=>intro w w' r _ e;simp only[Sem.run,Result.ok.injEq] at e;exact e.2.symm
 | load md a k ih=>
  intro w w' r h e;simp only[Sem.run] at e;split at e;exact ih _ (h _) e;split at e;exact ih _ (h _) e;cases e
 | program k ih=>exact λh e=>ih P h e
 | halt h=>intro w w' r _ e;cases e
 | _=>exact λh _=>h.elim
theorem Tt{fr:Frame}{v:Value}{W:World}(hl:fr.leaving P W (.returned v))(hi:P.inits.idxOf? fr.fn=none)
  (hΦ:∀W1,Rv W W1->∀(S:Nat->Prop) (w:World),View S (λ_=>False) w W1->(∀b:Nat,S0 b->S b∧w.heap[b]? = w00.heap[b]?)->(∀b:Nat,S b->S0 b∨w00.heap.size<=b)->Φ v w):Er P Φ w00 S0 (G fr []) W:=by
 intro W1 r1 hz S w gs sl t hv hs0 h0 hB;obtain⟨⟨q,hL⟩,⟨Z9,hP,Za⟩,-⟩:=hB;refine beside_ends (D:=λ_ _ es=>∀e∈es,EvL Z9 w.heap.size e) (λ_ _ _ h=>h) h0 hL hP (n:=0) ?_;rintro w₁ ⟨d,rfl⟩;refine⟨rfl,v,?_⟩;have hv1:=hv.at_ d;have hrr:Rv W (W1.at d):=r1.trans (Rv.at_ W1 d);obtain⟨l1,l2,l3,fn,l4,l5⟩:=hl;have e1:=pd hrr hv1 (dz fn fr.tmps) l5;obtain⟨u,k1,k2,kk,k3⟩:=ck #[] (dz fn fr.tmps).ns hv1 e1;obtain rfl:=OS (dz fn fr.tmps) k1;refine⟨seen P fr.fn ((results fn fr.tmps).events P (w.at d) #[]),?_,λe he=>?_,hΦ _ hrr S _ hv1 hs0.1 hs0.2⟩;obtain⟨ffn,ftmps,ftodo,fdefers,fmode,fkind,fround⟩:=fr;simp only at l1 l2 l3 l4 k1 hi;subst l1 l2 l3;simp[G,stepG,unwind,doReturn,l4,k1,hi,GStep.after];rcases k3 e (mem_seen he) with x|x;simp at x;exact Lv Za x
theorem xF{f:FuncId}{args:Array Value}{w:World}{R:Ending->World->Prop}(hi:P.inits.idxOf? f=none)(hs:∀b:Nat,S0 b->b<w.heap.size)(hp:∀(b:Nat) (o:Obj),¬S0 b->w.heap[b]? = some o->Obj.plain o)
  (h:bj P true f args (mask S0 (λ_=>False) w) R)
  (hR:∀e W,R e W->∃v,e=.returned v∧∀W1,Rv W W1->∀(S:Nat->Prop) (w':World),View S (λ_=>False) w' W1->(∀b:Nat,S0 b->S b∧w'.heap[b]? = w.heap[b]?)->(∀b:Nat,S b->S0 b∨w.heap.size<=b)->Φ v w') :
  ∃M last o w' t',runNT P (M+1) (solo (G (Frame.enter P f args .normal) []) w) #[]=(.ended o w',t')∧runN P M (solo (G (Frame.enter P f args .normal) []) w)=.next last ∧
   step P last=.ended o w'∧Conc.Good P Φ last o w' t':=by
 have hE:Er P Φ w S0 (G (Frame.enter P f args .normal) []) (mask S0 (λ_=>False) w):=h _ np [] λe W fr hr hf hl=>by obtain⟨v,rfl,k⟩:=hR e W hr;exact Tt hl (by rw[hf];exact hi) k
 have hv:=kD (S:=S0) (R:=λ_=>False) (w:=w) hp hs λb _ h=>h.elim;rw[solo_eq_crowd];exact hE _ (Rv.refl _) (Nat.le_of_eq hv.size) S0 w #[_] none #[] hv ⟨λb hb=>⟨hb,rfl⟩,λb hb=>.inl hb⟩ rfl ⟨⟨_,leavers_one P _⟩,⟨_,past_nil.mono (F9 _),λl h=>h.elim⟩,λk a e=>by simp[Trace.act?] at e⟩
end
end
end
end Go.Proofs.YtmdpdknpapjchaaGreatDoor
