/- law 30's awake (in company).. -/
import Derived.Test.YtgigkennhdolpaaGreatDoorM46
import Derived.Test.YtgigkennhdolpaaGreatDoorM19
import Derived.Test.YtgigkennhdolpaaGreatDoorM22
namespace Go.Proofs.YtgigkennhdolpaaGreatDoor
open Go.RowKit
noncomputable def zN(T:VD->cm->VD)(hT:T=vN bT Ys)(S:VD->cm->jK)(hS:S=λz l=>stS (bT z.w l).1 (XX z))(Gn:VD->cm->X2)(hG:Gn=λz l=>FC z.qd (vN bT Ys z l).w):UW V7:=ae (C:=V7) 13 Tryz.call13 (aD iH jO) (λa=>[qF bT Ys a.1 a.2]) (λa=>.tup [(T a.1 a.2).sv,.agg [fP,(S a.1 a.2).sv,(Gn a.1 a.2).svI],.v (.int .i64 0)]) (λ_=>⟨[6,15,18,19],[17],[],4⟩) [6,15,18,19] (λ_=>rfl) follows Tryz.func13 (by kernel_rfl) (by subst hT hS hG;exact GI bT rfl Ys rfl stS rfl FC rfl)
def z0:VD:=VD.of (RE exW)
def T3:SV:=match rE cx 57 2 [(0,.agg [.il .i64 2,.il .i64 5,.il .i64 0,.il .i64 70,.il .i64 (-35),.bl false,.il .i64 0,.il .i64 0,.il .i64 0,.il .i64 0]),(1,.agg [.il .i64 2,.il .i64 4,.il .i64 0,.il .i64 1,.il .i64 1,.bl false,.il .i64 0,.il .i64 0,.il .i64 0,.il .i64 0])] with|some r=>r.v|none=>.e
def l0:cm:=cm.of T3
def lN:cm:=cm.of (.v (.slice none 0 0))
def smC(l:WV):Bool:=decide ((l.n:Int)<=9223372036854775807)&&!bQ (λj=>!(decide (0<=(l.c j).kind)&&decide ((l.c j).kind<=255))) 0 l.n
def smB(l:V3):Bool:=decide ((l.n:Int)<=9223372036854775807)&&!bQ (λi=>!smC (l.e i).l) 0 l.n
theorem PE{l:WV}(h:smC l=true):l.Sm:=by simp only[smC,Ur,Ux,Bool.not_eq_true'] at h;refine⟨h.1,λi hi=>?_⟩;have:=iR h.2 i (Up _) (by omega);simpa using this
theorem Ba{l:V3}(h:smB l=true):l.Sm:=by simp only[smB,Ur,Ux,Bool.not_eq_true'] at h;refine⟨h.1,λi hi=>?_⟩;have:=iR h.2 i (Up _) (by omega);exact PE (by simpa using this)
def mvB(l:cm):Bool:=!bQ (λi=>!(Jq (l.e i).moveX&&Jq (l.e i).moveY)) 0 l.n
theorem P5{l:cm}(h:mvB l=true):∀i,i<l.n->UU (l.e i).moveX∧UU (l.e i).moveY:=λi hi=>by simp only[mvB,Bool.not_eq_true'] at h;have:=iR h i (Up _) (by omega);simp only[Bool.not_eq_false',Ur] at this;exact⟨rz this.1,rz this.2⟩
def gpB(l:V3):Bool:=!bQ (λi=>!(bz (l.e i).l 1).2) 0 l.n
theorem Qv{l:V3}(h:gpB l=true):∀i,i<l.n->(bz (l.e i).l 1).2=true:=λi hi=>by simp only[gpB,Bool.not_eq_true'] at h;have:=iR h i (Up _) (by omega);simpa using this
def tkB(z:VD)(l:cm):Bool:=smB z.w.l&&z.w.valid&&(Y0 Gw ⟨z.areaLowX,z.areaLowY⟩&&Y0 Gw ⟨z.areaHighX,z.areaHighY⟩&&Y0 z.qd ⟨z.areaLowX,z.areaLowY⟩&&Y0 DO ⟨z.gravityX,z.gravityY⟩&&Nat.beq z.ropes.n 0&&Nat.beq z.setupSystems.n 0&&Nat.beq z.setupProgs.n 0&&decide (0<=z.setupFuel)&&decide (z.setupFuel<=10000))&&Nat.ble l.n 100&&mvB l &&
 decide ((bT z.w l).2=0)&&(bT z.w l).1.valid&&smB (bT z.w l).1.l&&Nat.ble (aP (bT z.w l).1.l (bT z.w l).1.l.n).length 1&&decide ((bT z.w l).1.tick<1073741824)&&Jq ((Ys (bT z.w l).1 (XX z)).tick+1)&&Nat.ble (Ys (bT z.w l).1 (XX z)).l.n 1000&&smB (Ys (bT z.w l).1 (XX z)).l&&gpB (Ys (bT z.w l).1 (XX z)).l
theorem HK{z:VD}{l:cm}(h:tkB z l=true):qF bT Ys z l:=by simp only[tkB,Ur] at h;obtain⟨⟨⟨⟨⟨⟨⟨⟨⟨⟨⟨⟨⟨h1,h2⟩,⟨⟨⟨⟨⟨⟨⟨⟨a1,a2⟩,a3⟩,a4⟩,a5⟩,a6⟩,a7⟩,a8⟩,a9⟩⟩,h3⟩,h4⟩,h5⟩,h6⟩,h7⟩,h8⟩,h9⟩,h10⟩,h11⟩,h12⟩,h13⟩:=h;have hn:=L' h3;exact⟨Ba h1,h2,⟨a1,a2,a3,a4,Nb a5,⟨Nb a6,Nb a7,Od a8,Od a9⟩⟩,(show (l.n:Int)<=9223372036854775807 by omega),P5 h4,Od h5,h6,Ba h7,L' h8,Od h9,rz h10,L' h11,λi hi=>((Ba h12).2 i hi).1,Qv h13⟩
theorem tk1:qF bT Ys z0 l0:=HK (by kernel_rfl)
theorem tk2:qF bT Ys (vN bT Ys z0 l0) lN:=HK (by kernel_rfl)
noncomputable def zV:UW V7:={xh.lift rfl with frz:=true}
def D5(l:List SV):X2:=⟨l.length,λi=>(VP (chunk l 1 i)).iv⟩
def fA:X2:=D5 [.il .i64 74,.il .i64 (-22),.il .i64 98,.il .i64 50]
def fB:X2:=D5 [.il .i64 138,.il .i64 (-54),.il .i64 101,.il .i64 50]
def fC:X2:=D5 [.il .i64 1]
def fD:X2:=D5 [.il .i64 1,.il .i64 2]
structure Tk where
 z:VD
 s:jK
 g:X2
def Tk.rep(k:Tk):List SV:=[fP,k.s.sv,k.g.svI]
def awC(a0:Tk):Cut:=⟨Tk,λa=>a=a0,λa=>⟨[sl 1 (.p 0 0),sl 2 (.p 1 0),sl 3 (i64 0)],[(0,.lay a.z.cells 36),(1,.lay a.rep 51)],2,0,[],[]⟩,λ_=>0⟩
def awD(a0 b0:Tk):Cut:=⟨Tk×Tk,λa=>a.1=a0∧a.2=b0,λa=>⟨[sl 1 (.p 0 0),sl 2 (.p 1 0),sl 3 (i64 0),sl 4 (.p 2 0),sl 5 (.p 3 0),sl 6 (i64 0)],[(0,.lay a.1.z.cells 36),(1,.lay a.1.rep 51),(2,.lay a.2.z.cells 36),(3,.lay a.2.rep 51)],4,0,[],[]⟩,λ_=>0⟩
section
variable (T:VD->cm->VD)(hT:T=vN bT Ys)(S:VD->cm->jK)(hS:S=λz l=>stS (bT z.w l).1 (XX z))(Gn:VD->cm->X2)(hG:Gn=λz l=>FC z.qd (vN bT Ys z l).w)
def tkA(z:VD)(l:cm):Tk:=⟨T z l,S z l,Gn z l⟩
set_option maxHeartbeats 4000000 in
set_option maxRecDepth 8000 in
theorem CK:aH (C:=V7) [zV,zN T hT S hS Gn hG,El.lift rfl,Ej.lift rfl] [] 0 ⟨[],[2,3],[],0⟩ Tryz.f11 (Iq.enc ()) λv H _=>af (.bl true) H v:=by
 have n0:(T z0 l0).setupSystems.n=0:=by rw[hT];rfl
 have n1:∀z:VD,z.setupSystems.n=0->(T z lN).setupSystems.n=0:=λz h=>by rw[hT];exact h
 refine T' (awC (tkA T S Gn z0 l0)) ?_;refine Ai ?_ ?_
 ·refine Ai ⟨(by repeat' (first|exact trivial|exact rfl|refine Ai ?_ ?_|intro _)),al2 (by repeat' (first|exact trivial|exact rfl|refine Ai ?_ ?_|intro _)) (by repeat' (first|exact trivial|exact rfl|refine Ai ?_ ?_|intro _)),tk1⟩ ?_;refine⟨tkA T S Gn z0 l0,[],[],trivial,rfl,?_⟩;repeat' (first|refine Ai ?_ ?_|intro _|exact rfl)
  all_goals first|(exact Uw (show _<0 by assumption) (F' _))|(exact Uw (Nat.lt_of_lt_of_eq (by assumption) n0) (F' _))
 refine fun(a:Tk) (ha:a=tkA T S Gn z0 l0)=>?_;have m0:a.z.setupSystems.n=0:=by rw[ha];exact n0
 refine T' (awD (tkA T S Gn z0 l0) (tkA T S Gn (T z0 l0) lN)) ?_;refine Ai ?_ ?_
 ·refine Ai ⟨(by repeat' (first|exact trivial|exact rfl|refine Ai ?_ ?_|intro _)),λi hi=>Uw (Nat.lt_of_lt_of_eq hi m0) (F' _),(by repeat' (first|exact trivial|exact rfl|refine Ai ?_ ?_|intro _)),(by repeat' (first|exact trivial|exact rfl|refine Ai ?_ ?_|intro _)),(show qF bT Ys a.z lN from by rw[ha];show qF bT Ys (T z0 l0) lN;rw[hT];exact tk2)⟩ ?_;refine⟨(a,tkA T S Gn a.z lN),[],[],trivial,⟨ha,by rw[ha];rfl⟩,?_⟩;repeat' (first|refine Ai ?_ ?_|intro _|exact rfl)
  all_goals first|(exact Uw (show _<0 by assumption) (F' _))|(exact Uw (Nat.lt_of_lt_of_eq (by assumption) m0) (F' _))|(exact Uw (Nat.lt_of_lt_of_eq (by assumption) (n1 _ m0)) (F' _))
 refine fun(a:Tk×Tk) (ha:a.1=tkA T S Gn z0 l0∧a.2=tkA T S Gn (T z0 l0) lN)=>?_;have h1:=ha.1;have h2:=ha.2;have q1:a.1.z.w.l.n<=100000:=by rw[h1];show (T z0 l0).wEntities.n<=100000;rw[hT];exact L' (by kernel_rfl)
 have q2:a.2.z.w.l.n<=100000:=by rw[h2];show (T (T z0 l0) lN).wEntities.n<=100000;rw[hT];exact L' (by kernel_rfl)
 have g1:(a.1.g.n:Int)<=cB:=by rw[h1];show ((Gn z0 l0).n:Int)<=9223372036854775807;rw[hG];exact Od (by kernel_rfl)
 have g2:(a.2.g.n:Int)<=cB:=by rw[h2];show ((Gn (T z0 l0) lN).n:Int)<=9223372036854775807;rw[hT,hG];exact Od (by kernel_rfl)
 have fin:((((((decide ((0:Int)=0)&&decide ((0:Int)=0))&&atW a.1.z.w fA)&&atW a.2.z.w fB)&&oB a.1.g fC)&&oB a.2.g fD)&&decide (a.2.z.w.tick=2))=true:=by
  rw[h1,h2];subst hT hS hG
  kernel_rfl
 refine Ai (λ_=>⟨(by repeat' (first|exact trivial|exact rfl|refine Ai ?_ ?_|intro _)),al4 (by repeat' (first|exact trivial|exact rfl|refine Ai ?_ ?_|intro _)) (by repeat' (first|exact trivial|exact rfl|refine Ai ?_ ?_|intro _)) (by repeat' (first|exact trivial|exact rfl|refine Ai ?_ ?_|intro _)) (by repeat' (first|exact trivial|exact rfl|refine Ai ?_ ?_|intro _)),q1⟩) ?_;refine Ai (λ_=>⟨(by repeat' (first|exact trivial|exact rfl|refine Ai ?_ ?_|intro _)),al4 (by repeat' (first|exact trivial|exact rfl|refine Ai ?_ ?_|intro _)) (by repeat' (first|exact trivial|exact rfl|refine Ai ?_ ?_|intro _)) (by repeat' (first|exact trivial|exact rfl|refine Ai ?_ ?_|intro _)) (by repeat' (first|exact trivial|exact rfl|refine Ai ?_ ?_|intro _)),q2⟩) ?_;refine Ai (λ_=>⟨(by repeat' (first|exact trivial|exact rfl|refine Ai ?_ ?_|intro _)),al1 (by repeat' (first|exact trivial|exact rfl|refine Ai ?_ ?_|intro _)),g1⟩) ?_;refine Ai (λ_=>⟨(by repeat' (first|exact trivial|exact rfl|refine Ai ?_ ?_|intro _)),al2 (by repeat' (first|exact trivial|exact rfl|refine Ai ?_ ?_|intro _)) (by repeat' (first|exact trivial|exact rfl|refine Ai ?_ ?_|intro _)),g2⟩) ?_;refine UR (a:=true) fin.symm ?_;exact rfl
end
theorem xz:∀a,aA ((λ_=>[]) a)->aH (C:=V7) [zV,zN (vN bT Ys) rfl (λz l=>stS (bT z.w l).1 (XX z)) rfl (λz l=>FC z.qd (vN bT Ys z l).w) rfl,El.lift rfl,Ej.lift rfl] [] 0 ⟨[],[2,3],[],0⟩ Tryz.f11 (Iq.enc a) λv H _=>af ((λ_=>.bl true) a) H v:=λ_ _=>CK _ rfl _ rfl _ rfl
noncomputable def BV:UW V7:=ae (C:=V7) 11 Tryz.call11 Iq (λ_=>[]) (λ_=>.bl true) (λ_=>⟨[],[2,3],[],0⟩) [] (λ_=>rfl) follows Tryz.func11 (by kernel_rfl) xz
noncomputable def M7:Wl V7:=⟨12,Tryz.call12,Tryz.f12,Tryz.func12,[9],[],[7],1,by kernel_rfl⟩
noncomputable def M8:Wl V7:=⟨39,Tryz.call39,Tryz.f39,Tryz.func39,[5],[],[3],1,by kernel_rfl⟩
def pd(c:aR):aR:=match decide (c.kind=2) with|true=>⟨c.kind,0,0,c.v2,c.v3⟩|false=>c
def xM(e:UZ)(q:Nat):UZ:=⟨e.iD,⟨e.l.n,λj=>bif Nat.blt j q then pd (e.l.c j) else e.l.c j⟩⟩
def da(l:V3)(k q:Nat):V3:=⟨l.n,λi=>bif Nat.blt i k then xM (l.e i) (l.e i).l.n else bif Nat.beq i k then xM (l.e i) q else l.e i⟩
def TV(l:xv)(k e:Nat):SB:=.nst e 4 k (λi=>[.e,.v (.int .i64 (l.e i).locals),.v (.int .u32 (l.e i).reads),.v (.int .u32 (l.e i).writes)]) 0 2 (λi=>((l.e i).code.n,λj=>((l.e i).code.e j).cells)) 153 105 none
def Pp(z:VD)(en pr:SV):List SV:=[.v (.int .i64 z.areaLowX),.v (.int .i64 z.areaLowY),.v (.int .i64 z.areaHighX),.v (.int .i64 z.areaHighY),.v (.int .i64 z.wTick),en,z.setupSystems.sv,pr,.v (.int .u64 z.setupSeed),.v (.int .i64 z.setupFuel),z.ropes.sv,.v (.int .i64 z.gravityX),.v (.int .i64 z.gravityY)]
def Ub(z:VD):bc:=[(0,.lay z.cells 36),(1,.lay z.cells 36),(2,.lay qT 36),(3,.lay z.cells 36)]
def cpP(z:VD):Cut:=⟨Nat,λk=>k<=z.setupProgs.n,λk=>⟨[sl 1 (.p 1 0),sl 2 (.p 2 0),sl 3 (.p 3 0),sl 27 z.setupProgs.sv,sl 28 (i64 z.setupProgs.n),sl 29 (i64 k)],
 [(0,.lay z.cells 36),(1,.lay z.cells 36),(2,.lay qT 36),(3,.lay (Pp z (.g 7 8 2 0 z.wEntities.n) (.g 11 12 4 0 k)) 36),(7,yo z.wEntities z.wEntities.n 8),(11,TV z.setupProgs k 12)],13,0,[],[]⟩,λk=>z.setupProgs.n-k⟩
theorem ic{nm:Nat}{σ:List (Nat×Nat)}{b:uy}(h:b.Nm):aO (Vu nm σ b.cells b.cells):=by obtain⟨v,e⟩:=h;obtain⟨n,r,w,p⟩:=b;obtain rfl:n=.v (.string v):=e;repeat' (first|exact rfl|exact trivial|(refine Ai ?_ ?_))
theorem z8{i k:Nat}(h:i<k):Nat.blt i k=true:=Nat.ble_eq_true_of_le h
theorem vv{i k:Nat}(h:¬i<k):Nat.blt i k=false:=by
 cases e:Nat.blt i k with
 | false=>rfl
 | true=>exact Uw (L' e) h
theorem HU{e:UZ} : xM e 0=e:=by unfold xM;simp only[vv (F' _),cond_false]
theorem kB{l:V3}{k q i:Nat}(h:i<k):(da l k q).e i=xM (l.e i) (l.e i).l.n:=by show (bif Nat.blt i k then _ else _)=_;rw[z8 h];rfl
theorem lJ{l:V3}{k q:Nat} : (da l k q).e k=xM (l.e k) q:=by show (bif Nat.blt k k then _ else bif Nat.beq k k then _ else _)=_;rw[vv (Nat.lt_irrefl k),UN];rfl
theorem nx{l:V3}{k q i:Nat}(h:k<i):(da l k q).e i=l.e i:=by show (bif Nat.blt i k then _ else bif Nat.beq i k then _ else _)=_;rw[vv (by omega),ga (by omega)];rfl
theorem xL{l:V3}{i:Nat} : (da l 0 0).e i=l.e i:=by
 cases i with
 | zero=>rw[lJ,HU]
 | succ i=>exact nx (by omega)
theorem jc{l:V3}{k i:Nat} : (da l (k+1) 0).e i=(da l k (l.e k).l.n).e i:=by rcases Nat.lt_trichotomy i k with h|h|h;rw[kB (by omega),kB h];subst h;rw[kB (by omega),lJ];rw[nx h];rcases UK (Nat.succ_le_of_lt h) with e|e;subst e;rw[lJ,HU];exact nx e
theorem rV{l:V3}{k q i:Nat} : ((da l k q).e i).iD=(l.e i).iD:=by rcases Nat.lt_trichotomy i k with h|h|h;rw[kB h];rfl;subst h;rw[lJ];rfl;rw[nx h]
theorem rU{l:V3}{k q i:Nat} : ((da l k q).e i).l.n=(l.e i).l.n:=by rcases Nat.lt_trichotomy i k with h|h|h;rw[kB h];rfl;subst h;rw[lJ];rfl;rw[nx h]
theorem oc{l:V3}{k q:Nat} : ((da l k q).e k).l.c q=(l.e k).l.c q:=by rw[lJ];show (bif Nat.blt q q then _ else _)=_;rw[vv (Nat.lt_irrefl q)];rfl
theorem mr{l:V3}{k q i j:Nat} : ((da l k (q+1)).e i).l.c j=bif lh (Nat.beq i k) (Nat.beq j q) then pd ((l.e k).l.c q) else((da l k q).e i).l.c j:=by
 rcases Nat.lt_trichotomy i k with h|h|h;rw[kB h,kB h,ga (by omega)];rfl
 ·subst h;rw[lJ,lJ,UN];show (bif Nat.blt j (q+1) then _ else _)=(bif Nat.beq j q then _ else bif Nat.blt j q then _ else _)
  rcases Nat.lt_trichotomy j q with h|h|h;rw[z8 (by omega),ga (by omega),z8 h];rfl;subst h;rw[z8 (by omega),UN];rfl;rw[vv (by omega),ga (by omega),vv (by omega)];rfl
 rw[nx h,nx h,ga (by omega)];rfl
theorem rI{a b:Nat} : lh (Nat.beq a a) (Nat.beq b b)=true:=by rw[UN,UN];rfl
theorem rT{l:V3}{k q i j:Nat}(hk:¬((l.e k).l.c q).kind=2):((da l k (q+1)).e i).l.c j=((da l k q).e i).l.c j:=by
 rw[mr];have e:pd ((l.e k).l.c q)=(l.e k).l.c q:=by unfold pd;rw[UA hk]
 rw[e];by_cases h1:i=k;by_cases h2:j=q;subst h1 h2;rw[oc];cases lh (Nat.beq i i) (Nat.beq j j)<;>rfl;rw[ga h2];cases Nat.beq i k<;>rfl;rw[ga h1];rfl
def szC(z:VD)(en:SV):List SV:=[.v (.int .i64 z.areaLowX),.v (.int .i64 z.areaLowY),.v (.int .i64 z.areaHighX),.v (.int .i64 z.areaHighY),.v (.int .i64 z.wTick),en,.v (.slice none 0 0),.v (.slice none 0 0),.il .u64 0,.il .i64 0,z.ropes.sv,.il .i64 0,.il .i64 0]
def jd(z:VD):VD:=VD.of (.agg (szC z (da z.wEntities z.wEntities.n 0).sv))
def szT(z:VD):Cut:=⟨Unit,λ_=>True,λ_=>⟨[sl 1 (.p 0 0)],[(0,.lay (szC z (da z.wEntities z.wEntities.n 0).sv) 36)],3,0,[],[]⟩,λ_=>0⟩
def R1(z:VD)(k:Nat):List (Nat×Slot):=[sl 1 (.p 0 0),sl 28 (i64 z.wEntities.n),sl 29 (i64 k)]
def szH(z:VD)(k q:Nat):bc:=[(0,.lay (szC z (.g 1 2 2 0 z.wEntities.n)) 36),(1,yo (da z.wEntities k q) z.wEntities.n 2)]
def szO(z:VD):Cut:=⟨Nat,λk=>k<=z.wEntities.n,λk=>⟨R1 z k,szH z k 0,3,0,[],[]⟩,λk=>z.wEntities.n-k⟩
def szI(z:VD)(k:Nat):Cut:=⟨Nat,λq=>q<=(z.wEntities.e k).l.n,λq=>⟨R1 z k++[sl 3 (i64 k),sl 39 (i64 (z.wEntities.e k).l.n),sl 40 (i64 q)],szH z k q,3,0,[],[]⟩,λq=>(z.wEntities.e k).l.n-q⟩
theorem QE{z:VD}{l:cm}(h:lZ z l=true):z.wEntities.n<=10∧z.setupSystems.n<=6∧z.setupProgs.n<=6∧z.ropes.n<=34∧(∀i,i<z.wEntities.n->(z.wEntities.e i).l.n<=12)∧∀i,i<z.setupProgs.n->(z.setupProgs.e i).code.n<=200:=by unfold lZ Nn l7 No at h;simp only[Ur,Bool.not_eq_true',UH,Uz,Bool.not_eq_false'] at h;obtain⟨⟨⟨⟨h1,-⟩,h4⟩,-⟩,-⟩:=h;obtain⟨⟨h5,h6⟩,h7⟩:=h1;obtain⟨⟨⟨h8,h9⟩,h10⟩,-⟩:=h5;have h8:¬(10:Int)<z.wEntities.n:=h8;have h9:¬(6:Int)<z.setupSystems.n:=h9;have h10:¬(6:Int)<z.setupProgs.n:=h10;refine⟨by omega,by omega,by omega,by omega,λi hi=>?_,λi hi=>?_⟩;have:=Uy (iR h6 i (Up _) (by show i<0+z.wEntities.n;omega));have:¬(12:Int)<((z.wEntities.e i).l.n:Nat):=this;omega;have:=Uy (iR h7 i (Up _) (by show i<0+z.setupProgs.n;omega));have:¬(200:Int)<((z.setupProgs.e i).code.n:Nat):=this;omega
theorem EV(e:UZ):gu e e=true:=by
 have h:bQ (λi=>!eqC (e.l.c i) (e.l.c i)) 0 e.l.n=false:=oU λi _ _=>by simp[eqC]
 unfold gu;rw[h];simp
theorem uG{c:aR} : (pd c).kind=c.kind:=by unfold pd;cases decide (c.kind=2)<;>rfl
theorem PD{c:aR}(h:(pd c).kind=2):(pd c).v0=0∧(pd c).v1=0:=by rw[uG] at h;unfold pd;rw[UB h];exact⟨rfl,rfl⟩
theorem HT{e:UZ}{j:Nat}(h:j<e.l.n):(xM e e.l.n).l.c j=pd (e.l.c j):=by show (bif Nat.blt j e.l.n then _ else _)=_;rw[z8 h];rfl
theorem AU{l:V3}{i:Nat}(hi:i<l.n)(h:eF ((da l l.n 0).e i).l 2=true):(((da l l.n 0).e i).l.c (U0 ((da l l.n 0).e i).l 2)).v0=0∧(((da l l.n 0).e i).l.c (U0 ((da l l.n 0).e i).l 2)).v1=0:=by have hk:=yQ h;have hn:U0 ((da l l.n 0).e i).l 2<((da l l.n 0).e i).l.n:=Od h;rw[kB hi] at hk hn ⊢;have hn':U0 (xM (l.e i) (l.e i).l.n).l 2<(l.e i).l.n:=hn;rw[HT hn'] at hk ⊢;exact PD hk
theorem HS{z:VD}(hz:z.Sm)(hr:z.ropes.n<=34)(ht:z.wTick<1073741824):Ld (jd z):=by refine⟨⟨hz.l.1,λi hi=>?_⟩,?_,⟨rfl,rfl,Int.le_refl _,(by decide:(0:Int)<=10000)⟩,⟨λi hi h=>?_⟩,rfl,rfl,ht⟩;have h:=hz.l.2 i hi;show (((da z.wEntities z.wEntities.n 0).e i).l).Sm;have hi:i<z.wEntities.n:=hi;rw[kB hi];refine⟨h.1,λj hj=>?_⟩;have hj:j<(z.wEntities.e i).l.n:=hj;rw[HT hj,uG];exact h.2 j hj;show (z.ropes.n:Int)<=9223372036854775807;omega;exact AU hi h
set_option maxHeartbeats 4000000 in
set_option maxRecDepth 8000 in
theorem Ah:∀a,aA ((λa:VD=>[a.Sm]) a)->aH (C:=V7) [KF.lift rfl,BV,Ke bT rfl,BP.lift rfl,Kj.lift rfl] [M7,M8] 2 ⟨[13],[16],[6,9],1⟩ Tryz.f3 ((bs iH).enc a) λv H _=>af (.bl true) H v:=by
 intro z hz;replace hz:z.Sm:=hz;have hn:(z.wEntities.n:Int)<=9223372036854775807:=hz.l.1;refine Ai ⟨(by repeat' (first|exact trivial|exact rfl|refine Ai ?_ ?_|intro _)),(by repeat' (first|exact trivial|exact rfl|refine Ai ?_ ?_|intro _)),(by repeat' (first|exact trivial|exact rfl|refine Ai ?_ ?_|intro _)),(by repeat' (first|exact trivial|exact rfl|refine Ai ?_ ?_|intro _)),hz.l,hz.p,hz.nm⟩ ?_;refine Ai (λ_=>?_) (λhx=>?_);exact rfl;have hx:(!lZ z (cm.of (cO (.slice none 0 0)))||decide ((1073741824:Int)<=z.wTick))=false:=hx;obtain⟨hx1,hx2⟩:=UH.1 hx;have hf:lZ z (cm.of (cO (.slice none 0 0)))=true:=by simpa using hx1
 have ht:z.wTick<1073741824:=by have:=Uy hx2;omega
 obtain⟨fn,fs,fp,fr,fc,fk⟩:=QE hf;refine T' (S9 z.w 4 (Ub z)) ?_;refine Ai ?_ ?_
 ·refine⟨(0:Nat),[],[.cellN 6 1 2 1 5 46 42],trivial,Up _,?_⟩;repeat' (first|refine Ai ?_ ?_|intro _|exact rfl)
  all_goals first|exact Uw ‹_<0› (F' _)|exact ic (hz.nm _ (by assumption))|trace_state
 refine fun(k:Nat) (hk:k<=z.wEntities.n)=>?_;refine Ai (λhb=>?_) (λhb=>?_)
 ·have hb:(k:Int)<z.wEntities.n:=Od hb;have hcn:=fc k (by omega);refine Ai ⟨by omega,(show (k:Int)<z.wEntities.n from hb)⟩ ?_;have hfc:gQ (z.wEntities.e k).l.n 40:=⟨Nat.le_trans (by omega:(z.wEntities.e k).l.n<=1000) (by decide),by omega⟩
  refine Ai hfc ?_;have Vv:gQ (k+1) 32:=⟨Nat.le_trans (by omega:k+1<=1001) (by decide),by omega⟩
  refine Ai ⟨Vv,?_⟩ ?_
  ·repeat' (first|refine Ai ?_ ?_|intro _|exact rfl)
  refine Ai (by unfold U1;omega:U1 ((k:Int)+1)) ?_;refine⟨k+1,[(8,12)],[.bE 7],(by show z.wEntities.n-(k+1)<z.wEntities.n-k;omega),(by show k+1<=z.wEntities.n;omega),?_⟩;repeat' (first|refine Ai ?_ ?_|intro _|exact rfl)
  all_goals first
   | exact ic (hz.nm _ (by assumption))
   | (refine aG (α:=List SV) (p:=λi y=>aO (Vu 9 [(8,12)] (List.set [SV.v (Value.int IntKind.i64 (z.w.l.e i).iD),SV.e] 1 SV.e) (y.set 1 SV.e))) ?_ ?_ _ ‹_›
      exact rfl
      ·exact λi _=>rfl)
   | (refine aG (α:=Nat×(Nat->List SV)) (p:=λi y=>(z.w.l.e i).l.n=y.1) ?_ ?_ _ ‹_›
      exact rfl
      ·exact λi _=>rfl)
   | (refine aG (α:=Nat×(Nat->List SV)) (p:=λi y=>∀j,j<y.1->aO (Vu 9 [(8,12)] ((z.w.l.e i).l.c j).cells (y.2 j))) ?_ ?_ _ ‹_› _ ‹_›
      ·exact λj _=>⟨rfl,rfl,rfl,rfl,rfl⟩
      ·exact λi _ j _=>⟨rfl,rfl,rfl,rfl,rfl⟩)
   | trace_state
 have hb:¬(k:Int)<z.wEntities.n:=Uy hb;obtain rfl:k=z.wEntities.n:=by omega
 have Xq:gQ z.ropes.n 24:=⟨Nat.le_trans (by omega:z.ropes.n<=1000) (by decide),by omega⟩
 refine Ai Xq ?_;have YD:gQ z.setupSystems.n 32:=⟨Nat.le_trans (by omega:z.setupSystems.n<=1000) (by decide),by omega⟩
 refine Ai YD ?_;refine T' (cpP z) ?_;refine Ai ?_ ?_
 ·refine⟨(0:Nat),[],[.freeze 9,.freeze 10,.cellN 3 7 4 0 2 153 105],trivial,Up _,?_⟩;repeat' (first|refine Ai ?_ ?_|intro _|exact rfl)
  all_goals first|exact Uw ‹_<0› (F' _)|exact ic (hz.nm _ (by assumption))|exact(Uv (λj=>(z.ropes.e j).a) (B' _).symm)|exact(Uv (λj=>(z.ropes.e j).b) (B' _).symm)|exact(Uv (λj=>(z.ropes.e j).len) (B' _).symm)|(show aO (Vu _ _ (z.setupSystems.e _).cells (z.setupSystems.e (0+_)).cells);rw[B'];exact ic (hz.nm _ (by assumption)))|trace_state
 refine fun(k:Nat) (hk:k<=z.setupProgs.n)=>?_;refine Ai (λhb=>?_) (λhb=>?_)
 ·have hb:(k:Int)<z.setupProgs.n:=Od hb;have hcn:=fk k (by omega);refine Ai ⟨by omega,hb⟩ ?_;have hfc:gQ (z.setupProgs.e k).code.n 16:=⟨Nat.le_trans (by omega:(z.setupProgs.e k).code.n<=1000) (by decide),by omega⟩
  refine Ai hfc ?_;have Vv:gQ (k+1) 40:=⟨Nat.le_trans (by omega:k+1<=1001) (by decide),by omega⟩
  refine Ai ⟨Vv,?_⟩ ?_
  ·repeat' (first|refine Ai ?_ ?_|intro _|exact rfl)
  refine Ai (by unfold U1;omega:U1 ((k:Int)+1)) ?_;refine⟨k+1,[(12,16)],[.bE 11],(by show z.setupProgs.n-(k+1)<z.setupProgs.n-k;omega),(by show k+1<=z.setupProgs.n;omega),?_⟩;repeat' (first|refine Ai ?_ ?_|intro _|exact rfl)
  all_goals first
   | exact ic (hz.nm _ (by assumption))
   | (refine aG (α:=List SV) (p:=λi y=>aO (Vu 13 [(12,16)] (List.set [SV.e,.v (.int .i64 (z.setupProgs.e i).locals),.v (.int .u32 (z.setupProgs.e i).reads),.v (.int .u32 (z.setupProgs.e i).writes)] 0 SV.e) (y.set 0 SV.e))) ?_ ?_ _ ‹_›
      exact⟨rfl,rfl,rfl⟩
      ·exact λi _=>⟨rfl,rfl,rfl⟩)
   | (refine aG (α:=Nat×(Nat->List SV)) (p:=λi y=>(z.setupProgs.e i).code.n=y.1) ?_ ?_ _ ‹_›
      exact rfl
      ·exact λi _=>rfl)
   | (refine aG (α:=Nat×(Nat->List SV)) (p:=λi y=>∀j,j<y.1->aO (Vu 13 [(12,16)] ((z.setupProgs.e i).code.e j).cells (y.2 j))) ?_ ?_ _ ‹_› _ ‹_›
      ·exact λj _=>⟨rfl,rfl⟩
      ·exact λi _ j _=>⟨rfl,rfl⟩)
   | trace_state
 have hb:¬(k:Int)<z.setupProgs.n:=Uy hb;obtain rfl:k=z.setupProgs.n:=by omega
 refine T' (szT z) ?_;refine Ai ?_ ?_;refine T' (szO z) ?_;refine Ai ?_ ?_
 ·refine⟨(0:Nat),[(1,7),(2,8)],[],trivial,Up _,?_⟩;repeat' (first|refine Ai ?_ ?_|intro _|exact rfl)
  all_goals first|exact ic (hz.nm _ (by assumption))|exact Uv (λe:UZ=>(e.l.c _).kind) xL|exact Uv (λe:UZ=>(e.l.c _).v0) xL|exact Uv (λe:UZ=>(e.l.c _).v1) xL|exact Uv (λe:UZ=>(e.l.c _).v2) xL|exact Uv (λe:UZ=>(e.l.c _).v3) xL|exact rU|exact rV|trace_state
 refine fun(k:Nat) (hk:k<=z.wEntities.n)=>?_;refine Ai (λhb=>?_) (λhb=>?_)
 ·have hb:(k:Int)<z.wEntities.n:=Od hb;refine Ai ⟨by omega,hb⟩ ?_;refine T' (szI z k) ?_;refine Ai ?_ ?_
  ·refine⟨(0:Nat),[],[],trivial,Up _,?_⟩;repeat' (first|refine Ai ?_ ?_|intro _|exact rfl)
   all_goals first|exact ic (hz.nm _ (by assumption))|(show ((z.wEntities.e k).l.n:Int)=(((da z.wEntities k 0).e (0+k)).l.n:Nat);rw[B',rU])|trace_state
  refine fun(q:Nat) (hq:q<=(z.wEntities.e k).l.n)=>?_;refine Ai (λVz=>?_) (λVz=>?_)
  ·have Vz:(q:Int)<(z.wEntities.e k).l.n:=Od Vz;have hcn:=fc k (by omega);refine Ai ⟨by omega,hb⟩ ?_;refine Ai ⟨by omega,(show (q:Int)<(((da z.wEntities k q).e (0+k)).l.n:Nat) by rw[B',rU];exact Vz)⟩ ?_;refine Ai (λhc=>?_) (λhc=>?_)
   ·have hc:decide ((((da z.wEntities k q).e (0+k)).l.c (0+q)).kind=2)=true:=hc;rw[B',B',oc] at hc;have hc:=Od hc;refine Ai (by repeat' (first|exact trivial|exact rfl|refine Ai ?_ ?_|intro _)) ?_;refine Ai (by repeat' (first|exact trivial|exact rfl|refine Ai ?_ ?_|intro _)) ?_;refine Ai (by unfold U1;omega:U1 ((q:Int)+1)) ?_;refine⟨q+1,[],[],(by show (z.wEntities.e k).l.n-(q+1)<(z.wEntities.e k).l.n-q;omega),(by show q+1<=(z.wEntities.e k).l.n;omega),?_⟩;have hK:pd ((z.wEntities.e k).l.c q)=⟨((z.wEntities.e k).l.c q).kind,0,0,((z.wEntities.e k).l.c q).v2,((z.wEntities.e k).l.c q).v3⟩:=(by unfold pd;rw[UB hc]);have hC:((da z.wEntities k q).e (0+k)).l.c (0+q)=(z.wEntities.e k).l.c q:=(by rw[B',B',oc]);have hA:∀i j,lh (Nat.beq i (0+k)) (Nat.beq j (0+q))=lh (Nat.beq i k) (Nat.beq j q):=λi j=>(by rw[B',B']);have lkind:∀i j,(((da z.wEntities k (q+1)).e i).l.c j).kind=bif lh (Nat.beq i (0+k)) (Nat.beq j (0+q)) then(((da z.wEntities k q).e (0+k)).l.c (0+q)).kind else(((da z.wEntities k q).e i).l.c j).kind:=λi j=>(by rw[hA,mr,hK,hC];cases lh (Nat.beq i k) (Nat.beq j q)<;>rfl);have lv0:∀i j,(((da z.wEntities k (q+1)).e i).l.c j).v0=bif lh (Nat.beq i (0+k)) (Nat.beq j (0+q)) then 0 else(((da z.wEntities k q).e i).l.c j).v0:=λi j=>(by rw[hA,mr,hK];cases lh (Nat.beq i k) (Nat.beq j q)<;>rfl);have lv1:∀i j,(((da z.wEntities k (q+1)).e i).l.c j).v1=bif lh (Nat.beq i (0+k)) (Nat.beq j (0+q)) then 0 else(((da z.wEntities k q).e i).l.c j).v1:=λi j=>(by rw[hA,mr,hK];cases lh (Nat.beq i k) (Nat.beq j q)<;>rfl);have lv2:∀i j,(((da z.wEntities k (q+1)).e i).l.c j).v2=bif lh (Nat.beq i (0+k)) (Nat.beq j (0+q)) then(((da z.wEntities k q).e (0+k)).l.c (0+q)).v2 else(((da z.wEntities k q).e i).l.c j).v2:=λi j=>(by rw[hA,mr,hK,hC];cases lh (Nat.beq i k) (Nat.beq j q)<;>rfl);have lv3:∀i j,(((da z.wEntities k (q+1)).e i).l.c j).v3=bif lh (Nat.beq i (0+k)) (Nat.beq j (0+q)) then(((da z.wEntities k q).e (0+k)).l.c (0+q)).v3 else(((da z.wEntities k q).e i).l.c j).v3:=λi j=>by rw[hA,mr,hK,hC];cases lh (Nat.beq i k) (Nat.beq j q)<;>rfl
    (repeat' (first|refine Ai ?_ ?_|intro _|exact rfl));all_goals first|exact ic (hz.nm _ (by assumption))|exact(lkind _ _).trans (bb1 rI)|exact(lv0 _ _).trans (bb1 rI)|exact(lv1 _ _).trans bb2|exact(lv2 _ _).trans (bb1 rI)|exact(lv3 _ _).trans (bb1 rI)|exact(rU.trans rU.symm)|exact(rV.trans rV.symm)|trace_state
   have hc:decide ((((da z.wEntities k q).e (0+k)).l.c (0+q)).kind=2)=false:=hc;rw[B',B',oc] at hc;have hc:=Uy hc;refine Ai (by unfold U1;omega:U1 ((q:Int)+1)) ?_;refine⟨q+1,[],[],(by show (z.wEntities.e k).l.n-(q+1)<(z.wEntities.e k).l.n-q;omega),(by show q+1<=(z.wEntities.e k).l.n;omega),?_⟩;repeat' (first|refine Ai ?_ ?_|intro _|exact rfl)
   all_goals first|exact ic (hz.nm _ (by assumption))|exact Uv (λc:aR=>c.kind) (rT hc)|exact Uv (λc:aR=>c.v0) (rT hc)|exact Uv (λc:aR=>c.v1) (rT hc)|exact Uv (λc:aR=>c.v2) (rT hc)|exact Uv (λc:aR=>c.v3) (rT hc)|exact(rU.trans rU.symm)|exact(rV.trans rV.symm)|trace_state
  have Vz:¬(q:Int)<(z.wEntities.e k).l.n:=Uy Vz;obtain rfl:q=(z.wEntities.e k).l.n:=(by omega);refine Ai (by unfold U1;omega:U1 ((k:Int)+1)) ?_;refine⟨k+1,[],[],(by show z.wEntities.n-(k+1)<z.wEntities.n-k;omega),(by show k+1<=z.wEntities.n;omega),?_⟩;repeat' (first|refine Ai ?_ ?_|intro _|exact rfl)
  all_goals first|exact ic (hz.nm _ (by assumption))|exact Uv (λc:aR=>c.kind) (Uv (λe:UZ=>e.l.c _) jc)|exact Uv (λc:aR=>c.v0) (Uv (λe:UZ=>e.l.c _) jc)|exact Uv (λc:aR=>c.v1) (Uv (λe:UZ=>e.l.c _) jc)|exact Uv (λc:aR=>c.v2) (Uv (λe:UZ=>e.l.c _) jc)|exact Uv (λc:aR=>c.v3) (Uv (λe:UZ=>e.l.c _) jc)|exact(Uv (λe:UZ=>e.l.n) jc)|exact(Uv UZ.iD jc)|trace_state
 have hb:¬(k:Int)<z.wEntities.n:=Uy hb;obtain rfl:k=z.wEntities.n:=by omega
 ·refine⟨(),[],[.freeze 1],trivial,trivial,?_⟩;repeat' (first|refine Ai ?_ ?_|intro _|exact rfl)
  all_goals first|exact Uv (λj=>((da z.wEntities z.wEntities.n 0).e j).iD) (B' _).symm|exact Uv (λj=>((da z.wEntities z.wEntities.n 0).e j).l.n) (B' _).symm|exact Uv (λj=>(((da z.wEntities z.wEntities.n 0).e j).l.c _).kind) (B' _).symm|exact Uv (λj=>(((da z.wEntities z.wEntities.n 0).e j).l.c _).v0) (B' _).symm|exact Uv (λj=>(((da z.wEntities z.wEntities.n 0).e j).l.c _).v1) (B' _).symm|exact Uv (λj=>(((da z.wEntities z.wEntities.n 0).e j).l.c _).v2) (B' _).symm|exact Uv (λj=>(((da z.wEntities z.wEntities.n 0).e j).l.c _).v3) (B' _).symm|trace_state
 refine fun(_:Unit) _=>?_;have hT:Ld (jd z):=HS hz fr ht;refine Ai ?_ ?_
 ·(repeat' (first|exact trivial|exact rfl|exact hT|refine Ai ?_ ?_|intro _));all_goals trace_state
 refine Ai (λhc=>?_) (λhc=>?_)
 ·have hc:decide (¬tkE (jd z)=0)=true:=hc;have hv:js (jd z)=false:=by
   unfold tkE at hc;cases h:js (jd z) with
   | false=>rfl
   | true=>rw[h] at hc;exact Uw hc (by decide)
  refine Ai ⟨(by repeat' (first|exact trivial|exact rfl|exact hT.sm|refine Ai ?_ ?_|intro _)),(by repeat' (first|exact trivial|exact rfl|exact hT.sm|refine Ai ?_ ?_|intro _)),hT.sm,hT.ro,hT.st⟩ ?_;show true=(bif !js (jd z) then true else false)
  rw[hv];rfl
 have hc:decide (¬tkE (jd z)=0)=false:=hc;have hv:js (jd z)=true:=by
  unfold tkE at hc;cases h:js (jd z) with
  | true=>rfl
  | false=>rw[h] at hc;exact Uw hc (by decide)
 have hV:=U9.gq.1 (xA hv).1;have ht0:(0:Int)<=z.wTick:=hV.lo;refine Ai (show UU (z.wTick+1) from⟨by omega,by omega⟩) ?_;have e1:tkZ (jd z)=sI (jd z):=by unfold tkZ;rw[hv]
 have hz1:(tkZ (jd z)).setupProgs.n=0:=by rw[e1];rfl
 have e2:(Z7 (jd z)).faults.n=0∧(Z7 (jd z)).stops.n=0:=by unfold Z7;rw[hv];exact⟨rfl,rfl⟩
 have hE:ZEq (tkZ (jd z)) (sI (jd z)):=by rw[e1];have hwn:(z.wEntities.n:Int)<=cB:=hz.l.1;refine⟨rfl,rfl,rfl,?_,hT.sm.1,λi hi=>(hT.sm.2 i hi).1,rfl,hT.ro,λ_ _=>rfl,rfl,rfl,rfl,rfl,rfl,rfl⟩;have h:bQ (λi=>!gu ((sI (jd z)).w.l.e i) ((sI (jd z)).w.l.e i)) 0 (sI (jd z)).w.l.n=false:=oU λi _ _=>(by simp only[EV];rfl);unfold lK;rw[h];simp
 refine Ai ?_ ?_
 ·(repeat' (first|exact trivial|exact rfl|exact hE|refine Ai ?_ ?_|intro _));all_goals first|exact Uw (Nat.lt_of_lt_of_eq (by assumption) hz1) (F' _)|trace_state
 refine Ai (λ_=>?_) ?_;show UU (((Z7 (jd z)).faults.n:Int)+((Z7 (jd z)).stops.n:Int));rw[e2.1,e2.2];exact⟨by decide,by decide⟩;show true=(bif decide (((Z7 (jd z)).faults.n:Int)+((Z7 (jd z)).stops.n:Int)=0) then true else false)
 rw[e2.1,e2.2];rfl
end Go.Proofs.YtgigkennhdolpaaGreatDoor
namespace Go.Proofs.YtgigkennhdolpaaGreatDoor
open Go.Conc
section
variable {P:Program}{Φ:Value->World->Prop}{w00:World}{S0:Nat->Prop}
theorem MS{α:Type} : ∀{m:Sem α} {w w':World} {r:α},LO P m->m.run P w=.ok r w'->w'=w:=by
 intro m
 induction m with
 | pure a=>intro w w' r _ e;simp only[Sem.run,Result.ok.injEq] at e;exact e.2.symm
 | load md a k ih=>
  intro w w' r h e;simp only[Sem.run] at e;split at e;exact ih _ (h _) e;split at e;exact ih _ (h _) e;cases e
 | program k ih=>exact λh e=>ih P h e
 | halt h=>intro w w' r _ e;cases e
 | _=>exact λh _=>h.elim
theorem QL{fr:Frame}{v:Value}{W:World}(hl:fr.leaving P W (.returned v))(hi:P.inits.idxOf? fr.fn=none)
  (hΦ:∀W1,Rv W W1->∀(S:Nat->Prop) (w:World),View S (λ_=>False) w W1->(∀b:Nat,S0 b->S b∧w.heap[b]? = w00.heap[b]?)->(∀b:Nat,S b->S0 b∨w00.heap.size<=b)->Φ v w):Er P Φ w00 S0 (G fr []) W:=by
 intro W1 r1 hz S w gs sl t hv Yg h0 hB;obtain⟨⟨q,hL⟩,⟨Xv,hP,Wi⟩,-⟩:=hB;refine beside_ends (D:=λ_ _ es=>∀e∈es,EvL Xv w.heap.size e) (λ_ _ _ h=>h) h0 hL hP (n:=0) ?_;rintro w₁ ⟨d,rfl⟩;refine⟨rfl,v,?_⟩;have hv1:=hv.at_ d;have hrr:Rv W (W1.at d):=r1.trans (Rv.at_ W1 d);obtain⟨l1,l2,l3,fn,l4,l5⟩:=hl;have e1:=ox hrr hv1 (dt fn fr.tmps) l5;obtain⟨u,k1,k2,kk,k3⟩:=cb #[] (dt fn fr.tmps).ns hv1 e1;obtain rfl:=MS (dt fn fr.tmps) k1;refine⟨seen P fr.fn ((results fn fr.tmps).events P (w.at d) #[]),?_,λe he=>?_,hΦ _ hrr S _ hv1 Yg.1 Yg.2⟩;obtain⟨ffn,Z3,Z2,XY,Z4,Z5,YJ⟩:=fr;simp only at l1 l2 l3 l4 k1 hi;subst l1 l2 l3;simp[G,stepG,unwind,doReturn,l4,k1,hi,GStep.after];rcases k3 e (mem_seen he) with x|x;simp at x;exact JQ Wi x
theorem vT{f:FuncId}{args:Array Value}{w:World}{R:Ending->World->Prop}(hi:P.inits.idxOf? f=none)(hs:∀b:Nat,S0 b->b<w.heap.size)(hp:∀(b:Nat) (o:Obj),¬S0 b->w.heap[b]? = some o->Obj.plain o)
  (h:bx P true f args (mask S0 (λ_=>False) w) R)
  (hR:∀e W,R e W->∃v,e=.returned v∧∀W1,Rv W W1->∀(S:Nat->Prop) (w':World),View S (λ_=>False) w' W1->(∀b:Nat,S0 b->S b∧w'.heap[b]? = w.heap[b]?)->(∀b:Nat,S b->S0 b∨w.heap.size<=b)->Φ v w') :
  ∃M last o w' t',runNT P (M+1) (solo (G (Frame.enter P f args .normal) []) w) #[]=(.ended o w',t')∧runN P M (solo (G (Frame.enter P f args .normal) []) w)=.next last ∧
   step P last=.ended o w'∧Conc.Good P Φ last o w' t':=by
 have hE:Er P Φ w S0 (G (Frame.enter P f args .normal) []) (mask S0 (λ_=>False) w):=h _ mJ [] λe W fr hr hf hl=>by obtain⟨v,rfl,k⟩:=hR e W hr;exact QL hl (by rw[hf];exact hi) k
 have hv:=j7 (S:=S0) (R:=λ_=>False) (w:=w) hp hs λb _ h=>h.elim;rw[solo_eq_crowd];exact hE _ (Rv.refl _) (Nat.le_of_eq hv.size) S0 w #[_] none #[] hv ⟨λb hb=>⟨hb,rfl⟩,λb hb=>.inl hb⟩ rfl ⟨⟨_,leavers_one P _⟩,⟨_,past_nil.mono (Up _),λl h=>h.elim⟩,λk a e=>by simp[Trace.act?] at e⟩
end
end Go.Proofs.YtgigkennhdolpaaGreatDoor
