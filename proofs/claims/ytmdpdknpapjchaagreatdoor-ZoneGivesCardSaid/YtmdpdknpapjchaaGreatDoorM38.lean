/- law 30's comp. -/
import Derived.Test.YtmdpdknpapjchaaGreatDoorM37
set_option linter.all false
namespace Go.Proofs.YtmdpdknpapjchaaGreatDoor
noncomputable section
section
open Go.RowKit
set_option maxRecDepth 8000
set_option maxHeartbeats 2000000
variable {q:Int}{i:Nat}{p:Nat->Prop}{l:Zp}
theorem al1(h0:p 0):∀i,i<1->p i:=λi hi=>by
 match i,hi with
 | 0,_=>exact h0
def atF(f:Fam)(i:Nat):Int:=bif Nat.blt i f.n then f.g i else 0
def VL(q:Int)(f:Fam):aZ:=⟨q,atF f 0,atF f 1,atF f 2,atF f 3⟩
theorem al2(h0:p 0)(h1:p 1):∀i,i<2->p i:=λi hi=>by
 match i,hi with
 | 0,_=>exact h0
 | 1,_=>exact h1
theorem B2:∀a,aD ((λ_=>[]) a)->aJ (C:=cx) [] [] 0 ak Tryz.f47 ((aH (Yp .u8) (rdF .i64)).enc a) λv H _=>ae ((λa=>(VL a.1 a.2).sv) a) H v:=by
 intro⟨q,f⟩ _;repeat' (first|apply Ai|exact rfl|exact trivial|intro)
 all_goals skip
def HN:XR cx:=af 47 Tryz.call47 (aH (Yp .u8) (rdF .i64)) _ _ (λ_=>ak) [] (λ_=>rfl) follows Tryz.func47 (by kernel_rfl) B2
def exE:Nat->XO
 | 0=>⟨1,⟨4,λj=>match j with|0=>⟨1,10,10,0,0⟩|1=>⟨2,0,0,0,0⟩|2=>⟨3,1,1,0,0⟩|_=>⟨4,2,0,0,0⟩⟩⟩
 | _=>⟨2,⟨2,λj=>match j with|0=>⟨1,95,50,0,0⟩|_=>⟨2,3,0,0,0⟩⟩⟩
def exW:XU:=⟨0,⟨2,exE⟩⟩
def Uh(w:XU):SV:=.agg [.v (.int .i64 0),.v (.int .i64 0),.v (.int .i64 99),.v (.int .i64 99),.v (.int .i64 w.tick),w.l.sv,.v (.slice none 0 0),.v (.slice none 0 0),.v (.int .u64 0),.v (.int .i64 0),.v (.slice none 0 0),.v (.int .i64 0),.v (.int .i64 0)]
theorem al4(h0:p 0)(h1:p 1)(h2:p 2)(h3:p 3):∀i,i<4->p i:=λi hi=>by
 match i,hi with
 | 0,_=>exact h0
 | 1,_=>exact h1
 | 2,_=>exact h2
 | 3,_=>exact h3
theorem vw:∀a,aD ((λ_=>[]) a)->aJ (C:=cx) [HN] [] 0 ak Tryz.f20 ((CF).enc a) λv H _=>ae ((λ_=>Uh exW) a) H v:=by intro _ _;refine Ai (al2 trivial trivial) ?_;refine Ai (al2 trivial trivial) ?_;refine Ai (al1 trivial) ?_;refine Ai (al2 trivial trivial) ?_;refine Ai (al1 trivial) ?_;repeat' (first|refine Ai ?_ ?_|exact rfl|exact trivial|(refine al2 ?_ ?_)|(refine al3 ?_ ?_ ?_)|(refine al4 ?_ ?_ ?_ ?_))
def yK:XR cx:=af 20 Tryz.call20 (CF) _ _ (λ_=>ak) [] (λ_=>rfl) follows Tryz.func20 (by kernel_rfl) vw
def eqC(a b:aZ):Bool:=decide (a.kind=b.kind)&&(decide (a.v0=b.v0)&&(decide (a.v1=b.v1)&&(decide (a.v2=b.v2)&&decide (a.v3=b.v3))))
def fM(a b:XO):Bool:=!(decide (¬a.iD=b.iD)||decide (¬(a.l.n:Int)=b.l.n))&&!bQ (λi=>!eqC (a.l.c i) (b.l.c i)) 0 a.l.n
def R6(a b:XO):Cut:=⟨Nat,λk=>k<=a.l.n∧bQ (λi=>!eqC (a.l.c i) (b.l.c i)) 0 a.l.n=bQ (λi=>!eqC (a.l.c i) (b.l.c i)) k (a.l.n-k),
 λk=>⟨[sl 2 (.p 0 0),sl 3 (.p 1 0),sl 22 (i64 a.l.n),sl 23 (i64 k)],[(0,.lay a.cells 39),(1,.lay b.cells 39)],2,0,[],[]⟩,λk=>a.l.n-k⟩
theorem DG:∀a,aD ((λa=>[(a.1.l.n:Int)<=cp]) a)->aJ (C:=cx) [] [] 0 ⟨[],[],[4],0⟩ Tryz.f10 ((aH eE eE).enc a) λv H _=>ae ((λa=>.v (.bool (fM a.1 a.2))) a) H v:=by
 intro⟨a,b⟩ hp;replace hp:(a.l.n:Int)<=9223372036854775807:=hp;refine Ai (λhx=>?_) (λhx=>?_);have hx:(decide (¬a.iD=b.iD)||decide (¬(a.l.n:Int)=b.l.n))=true:=hx;have e:fM a b=false:=(by unfold fM;rw[hx];rfl);simp only[e];exact rfl;have hx:(decide (¬a.iD=b.iD)||decide (¬(a.l.n:Int)=b.l.n))=false:=hx;have hn:(a.l.n:Int)=b.l.n:=by simp at hx;omega
 refine F8 (R6 a b) ?_;refine Ai ?_ ?_
 ·refine⟨(0:Nat),[],[],trivial,⟨F9 _,rfl⟩,?_⟩;repeat' first|apply Ai|exact rfl|intro
 refine fun(k:Nat) (hk:k<=a.l.n∧bQ (λi=>!eqC (a.l.c i) (b.l.c i)) 0 (a.l.n)=bQ (λi=>!eqC (a.l.c i) (b.l.c i)) k (a.l.n-k))=>?_;obtain⟨k1,k2⟩:=hk;refine Ai (λhb=>?_) (λhb=>?_)
 ·have hb:(k:Int)<a.l.n:=Od hb;have e:=eA (g:=(λi=>!eqC (a.l.c i) (b.l.c i))) (k:=k) (n:=a.l.n) (by omega);refine Ai ⟨by omega,by omega⟩ ?_;refine Ai ⟨by omega,by omega⟩ ?_;refine Ai (λhc=>?_) (λhc=>?_);have hc:(λi=>!eqC (a.l.c i) (b.l.c i)) k=true:=hc;simp only[hc] at e;have e0:bQ (λi=>!eqC (a.l.c i) (b.l.c i)) 0 (a.l.n)=true:=(by rw[k2,e]);have e1:fM a b=false:=(by unfold fM;rw[e0];simp);simp only[e1];exact rfl;have hc:(λi=>!eqC (a.l.c i) (b.l.c i)) k=false:=hc;simp only[hc] at e;refine Ai (by unfold XT;omega:XT ((k:Int)+1)) ?_;refine⟨k+1,[],[],(by show a.l.n-(k+1)<a.l.n-k;omega),⟨by omega,by rw[k2,e]⟩,?_⟩;repeat' first|apply Ai|exact rfl|intro
 have hb:¬(k:Int)<a.l.n:=Xg hb;have e0:bQ (λi=>!eqC (a.l.c i) (b.l.c i)) 0 (a.l.n)=false:=by rw[k2,show a.l.n-k=0 by omega];rfl
 have e1:fM a b=true:=by unfold fM;rw[e0,hx];rfl
 simp only[e1];exact rfl
def Bo:XR cx:=af 10 Tryz.call10 (aH eE eE) _ _ (λ_=>⟨[],[],[4],0⟩) [] (λ_=>rfl) follows Tryz.func10 (by kernel_rfl) DG
def nN(a b:XU):Bool:=!(decide (¬a.tick=b.tick)||decide (¬(a.l.n:Int)=b.l.n))&&!bQ (λi=>!fM (a.l.e i) (b.l.e i)) 0 a.l.n
def R5(a b:XU):Cut:=⟨Nat,λk=>k<=a.l.n∧bQ (λi=>!fM (a.l.e i) (b.l.e i)) 0 a.l.n=bQ (λi=>!fM (a.l.e i) (b.l.e i)) k (a.l.n-k),
 λk=>⟨[sl 2 (.p 0 0),sl 3 (.p 1 0),sl 22 (i64 a.l.n),sl 23 (i64 k)],[(0,.lay a.cells 28),(1,.lay b.cells 28)],2,0,[],[]⟩,λk=>a.l.n-k⟩
theorem DD:∀a,aD ((λa=>[(a.1.l.n:Int)<=cp,∀i,i<a.1.l.n->((a.1.l.e i).l.n:Int)<=cp]) a)->aJ (C:=cx) [Bo] [] 0 ⟨[],[],[4],0⟩ Tryz.f29 ((aH cI cI).enc a) λv H _=>ae ((λa=>.v (.bool (nN a.1 a.2))) a) H v:=by
 intro⟨a,b⟩ hp;obtain⟨hp,hq⟩:(a.l.n:Int)<=9223372036854775807∧∀i,i<a.l.n->((a.l.e i).l.n:Int)<=cp:=hp;refine Ai (λhx=>?_) (λhx=>?_);have hx:(decide (¬a.tick=b.tick)||decide (¬(a.l.n:Int)=b.l.n))=true:=hx;have e:nN a b=false:=(by unfold nN;rw[hx];rfl);simp only[e];exact rfl;have hx:(decide (¬a.tick=b.tick)||decide (¬(a.l.n:Int)=b.l.n))=false:=hx;have hn:(a.l.n:Int)=b.l.n:=by simp at hx;omega
 refine F8 (R5 a b) ?_;refine Ai ?_ ?_
 ·refine⟨(0:Nat),[],[],trivial,⟨F9 _,rfl⟩,?_⟩;repeat' first|apply Ai|exact rfl|intro
 refine fun(k:Nat) (hk:k<=a.l.n∧bQ (λi=>!fM (a.l.e i) (b.l.e i)) 0 (a.l.n)=bQ (λi=>!fM (a.l.e i) (b.l.e i)) k (a.l.n-k))=>?_;obtain⟨k1,k2⟩:=hk;refine Ai (λhb=>?_) (λhb=>?_)
 ·have hb:(k:Int)<a.l.n:=Od hb;have e:=eA (g:=(λi=>!fM (a.l.e i) (b.l.e i))) (k:=k) (n:=a.l.n) (by omega);refine Ai ⟨by omega,by omega⟩ ?_;refine Ai ⟨by omega,by omega⟩ ?_;refine Ai ⟨λ_ _=>trivial,λ_ _=>trivial,hq k (by omega)⟩ ?_;refine Ai (λhc=>?_) (λhc=>?_);have hc:(λi=>!fM (a.l.e i) (b.l.e i)) k=true:=hc;simp only[hc] at e;have e0:bQ (λi=>!fM (a.l.e i) (b.l.e i)) 0 (a.l.n)=true:=(by rw[k2,e]);have e1:nN a b=false:=(by unfold nN;rw[e0];simp);simp only[e1];exact rfl;have hc:(λi=>!fM (a.l.e i) (b.l.e i)) k=false:=hc;simp only[hc] at e;refine Ai (by unfold XT;omega:XT ((k:Int)+1)) ?_;refine⟨k+1,[],[],(by show a.l.n-(k+1)<a.l.n-k;omega),⟨by omega,by rw[k2,e]⟩,?_⟩;repeat' first|apply Ai|exact rfl|intro
 have hb:¬(k:Int)<a.l.n:=Xg hb;have e0:bQ (λi=>!fM (a.l.e i) (b.l.e i)) 0 (a.l.n)=false:=by rw[k2,show a.l.n-k=0 by omega];rfl
 have e1:nN a b=true:=by unfold nN;rw[e0,hx];rfl
 simp only[e1];exact rfl
def L5:XR cx:=af 29 Tryz.call29 (aH cI cI) _ _ (λ_=>⟨[],[],[4],0⟩) [] (λ_=>rfl) follows Tryz.func29 (by kernel_rfl) DD
set_option maxRecDepth 8000
set_option maxHeartbeats 2000000
structure Rct where
 lowX:Int
 lowY:Int
 highX:Int
 highY:Int
def Rct.sv(b:Rct):SV:=.agg [.v (.int .i64 b.lowX),.v (.int .i64 b.lowY),.v (.int .i64 b.highX),.v (.int .i64 b.highY)]
def Rct.of(x:SV):Rct:=⟨(aS 0 x).iv,(aS 1 x).iv,(aS 2 x).iv,(aS 3 x).iv⟩
def Ew:Rd Rct:=⟨.agg [.v (.int .i64 0),.v (.int .i64 0),.v (.int .i64 0),.v (.int .i64 0)],Rct.of,Rct.sv,λ_=>rfl⟩
def inR(a:Rct)(p:Vec):Bool:=decide (a.lowX<=p.x)&&decide (p.x<=a.highX)&&decide (a.lowY<=p.y)&&decide (p.y<=a.highY)
theorem IA:∀a,aD ((λ_=>[]) a)->aJ (C:=cx) [] [] 0 ak Tryz.f12 ((aH Ew fb).enc a) λv H _=>ae ((λa=>.v (.bool (inR a.1 a.2))) a) H v:=by intro⟨a,p⟩ _;repeat' first|apply Ai|exact rfl|intro
def nw:XR cx:=af 12 Tryz.call12 (aH Ew fb) _ _ (λ_=>ak) [] (λ_=>rfl) follows Tryz.func12 (by kernel_rfl) IA
theorem Nj:∀a,aD ((λa=>[a.n=0]) a)->aJ (C:=cx) [] [] 0 ak Tryz.f59 ((bh ot).enc a) λv H _=>fH ((λa=>a.sv) a) H v:=by
 intro l hm;replace hm:l.n=0:=hm;intro b hb;refine Ai (λh=>?_) (λh=>?_);have h:(b != false)=true:=h;have hn:=hb (by simpa using h);exact hn;have hf:gQ l.n 32:=⟨Nat.le_trans (by omega:l.n<=1000) (by decide),by omega⟩
 refine Ai hf ?_;repeat' first|apply Ai|exact rfl|intro
 all_goals exact P' ‹_<l.n› (by omega)
def TR:XR cx:=jo 59 Tryz.call59 (bh ot) _ _ (λ_=>ak) [] (λ_=>rfl) follows Tryz.func59 (by kernel_rfl) Nj
def V6(w:XU)(b:Nat):Cut:=⟨Nat,λk=>k<=w.l.n,λk=>⟨[sl 2 (.p (b+1) 0),sl 3 (.p (b+2) 0),sl 10 w.l.sv,sl 11 (i64 w.l.n),sl 12 (i64 k)],
 [(b+1,.lay vZ 28),(b+2,.lay [.v (.int .i64 w.tick),.g (b+3) (b+4) 2 0 k] 28),(b+3,G5 w.l k (b+4))],b+5,0,[],[]⟩,λk=>w.l.n-k⟩
theorem H8:∀a,aD ((λa=>[a.l.n<=1000,∀i,i<a.l.n->(a.l.e i).l.n<=1000]) a)->aJ (C:=cx) [qJ] [] 0 ⟨[],[],[3],0⟩ Tryz.f57 ((bh cI).enc a) λv H _=>fH ((λa=>a.sv) a) H v:=by
 intro w ⟨hn,hl⟩;replace hn:w.l.n<=1000:=hn;replace hl:∀i,i<w.l.n->(w.l.e i).l.n<=1000:=hl;refine F8 (V6 w 0) ?_;refine Ai ?_ ?_
 ·refine⟨(0:Nat),[],[.cellN 2 1 2 1 5 52 39],trivial,F9 _,?_⟩;repeat' first|apply Ai|exact rfl|intro
  all_goals exact P' ‹_<0› (F1 _)
 refine fun(k:Nat) (hk:k<=w.l.n)=>?_;refine Ai (λhb=>?_) (λhb=>?_)
 ·have hb:(k:Int)<w.l.n:=Od hb;refine Ai ⟨by omega,by omega⟩ ?_;refine Ai ⟨λ_ _=>trivial,hl k (by omega)⟩ ?_;have Yo:gQ (k+1) 32:=⟨Nat.le_trans (by omega:k+1<=1001) (by decide),by omega⟩
  refine Ai ⟨Yo,?_⟩ ?_
  ·repeat' first|apply Ai|exact rfl|intro
  refine Ai (by unfold XT;omega:XT ((k:Int)+1)) ?_;refine⟨k+1,[(4,8)],[.bP 3],(by show w.l.n-(k+1)<w.l.n-k;omega),(by omega:k+1<=w.l.n),?_⟩;repeat' first|apply Ai|exact rfl|intro
  refine aP (α:=List SV) (p:=λi y=>aT (Yv 5 [(4,8)] (List.set [SV.v (Value.int IntKind.i64 (w.l.e i).iD),SV.e] 1 SV.e) (y.set 1 SV.e))) ?_ ?_ _ ‹_›;exact rfl;exact λi _=>rfl;refine aP (α:=Nat×(Nat->List SV)) (p:=λi y=>(w.l.e i).l.n=y.1) ?_ ?_ _ ‹_›;exact rfl;exact λi _=>rfl;refine aP (α:=Nat×(Nat->List SV)) (p:=λi y=>∀j,j<y.1->aT (Yv 5 [(4,8)] ((w.l.e i).l.c j).cells (y.2 j))) ?_ ?_ _ ‹_› _ ‹_›
  ·exact λj _=>⟨rfl,rfl,rfl,rfl,rfl⟩
  ·exact λi _ j _=>⟨rfl,rfl,rfl,rfl,rfl⟩
 have hb:¬(k:Int)<w.l.n:=Xg hb;obtain rfl:k=w.l.n:=by omega
 repeat' first|apply Ai|exact rfl|intro
 all_goals first|(show (_:Int)=_;rw[B'];done)|(show (_:Nat)=_;rw[B'];done)|(show (_:Nat)=_;rw[B'];rfl)
def FI:XR cx:=jo 57 Tryz.call57 (bh cI) _ _ (λ_=>⟨[],[],[3],0⟩) [] (λ_=>rfl) follows Tryz.func57 (by kernel_rfl) H8
theorem UQ(l:List Int)(x:Int)(hi:i<l.length+1):(l++[x]).getD i 0=bif Nat.ble l.length i then x else l.getD i 0:=by
 by_cases h:i<l.length;rw[show Nat.ble l.length i=false from by cases e:Nat.ble l.length i;rfl;exact P' (F4 e) (by omega)];simp[List.getD_eq_getElem?_getD,F5 h];rw[show Nat.ble l.length i=true from Nat.ble_eq_true_of_le (by omega)];have:i=l.length:=by omega
 subst this;simp[List.getD_eq_getElem?_getD]
def Oz(a:Rct)(e:XO):Bool:=!inR a ⟨(bu e.l 1).1.v0,(bu e.l 1).1.v1⟩
def X2.gS(z:X2):Rct:=⟨z.areaLowX,z.areaLowY,z.areaHighX,z.areaHighY⟩
def X2.w(z:X2):XU:=⟨z.wTick,z.wEntities⟩
def X2.stp(z:X2):Z8:=⟨z.setupSystems,z.setupProgs,z.setupSeed,z.setupFuel⟩
def H2:Rct:=⟨-1048576,-1048576,1048576,1048576⟩
def Fb:Rct:=⟨-4096,-4096,4096,4096⟩
structure X2.Ok (z:X2):Prop where
 lo:inR H2 ⟨z.areaLowX,z.areaLowY⟩=true
 hi:inR H2 ⟨z.areaHighX,z.areaHighY⟩=true
 in_:inR z.gS ⟨z.areaLowX,z.areaLowY⟩=true
 gr:inR Fb ⟨z.gravityX,z.gravityY⟩=true
 ro:z.ropes.n=0
 st:z.stp.vV
def pg(a b:Fam):Bool:=decide (a.n=b.n)&&!bQ (λi=>decide (¬a.g i=b.g i)) 0 a.n
def Vl(a b:Fam):Cut:=⟨Nat,λk=>k<=a.n∧bQ (λi=>decide (¬a.g i=b.g i)) 0 a.n=bQ (λi=>decide (¬a.g i=b.g i)) k (a.n-k),
 λk=>⟨[sl 0 (.rs 1 a.n λi=>[.v (.int .i64 (a.g i))]),sl 1 (.rs 1 b.n λi=>[.v (.int .i64 (b.g i))]),sl 12 (i64 a.n),sl 13 (i64 k)],[],0,0,[],[]⟩,λk=>a.n-k⟩
set_option maxHeartbeats 2000000 in
set_option maxRecDepth 8000 in
theorem Iz:∀a,aD ((λa=>[(a.1.n:Int)<=cp]) a)->aJ (C:=cx) [] [] 0 ⟨[],[],[4],0⟩ Tryz.f22 ((aH (rdF .i64) (rdF .i64)).enc a) λv H _=>ae ((λa=>.v (.bool (pg a.1 a.2))) a) H v:=by
 intro⟨a,b⟩ hp;replace hp:(a.n:Int)<=9223372036854775807:=hp;refine Ai (λhx=>?_) (λhx=>?_);have hx:decide (¬(a.n:Int)=b.n)=true:=hx;have:=Od hx;have e:pg a b=false:=(by unfold pg;rw[Xi (by omega)];rfl);simp only[e];exact rfl;have hx:decide (¬(a.n:Int)=b.n)=false:=hx;have hx:=Xg hx;have hn:a.n=b.n:=by omega
 refine F8 (Vl a b) ?_;refine Ai ?_ ?_
 ·refine⟨(0:Nat),[],[],trivial,⟨F9 _,rfl⟩,?_⟩;repeat' first|apply Ai|exact rfl|intro
 refine fun(k:Nat) (hk:k<=a.n∧bQ (λi=>decide (¬a.g i=b.g i)) 0 a.n=bQ (λi=>decide (¬a.g i=b.g i)) k (a.n-k))=>?_;obtain⟨k1,k2⟩:=hk;refine Ai (λhb=>?_) (λhb=>?_)
 ·have hb:(k:Int)<a.n:=Od hb;have e:=eA (g:=λi=>decide (¬a.g i=b.g i)) (k:=k) (n:=a.n) (by omega);refine Ai ⟨by omega,by omega⟩ ?_;refine Ai ⟨by omega,by omega⟩ ?_;refine Ai (λhc=>?_) (λhc=>?_);have hc:decide (¬a.g k=b.g k)=true:=hc;simp only[hc] at e;have e2:pg a b=false:=(by unfold pg;rw[k2,e,Bool.not_true,Bool.and_false]);simp only[e2];exact rfl;have hc:decide (¬a.g k=b.g k)=false:=hc;simp only[hc] at e;refine Ai (by unfold XT;omega:XT ((k:Int)+1)) ?_;refine⟨k+1,[],[],(by show a.n-(k+1)<a.n-k;omega),⟨by omega,by rw[k2,e]⟩,?_⟩;repeat' first|apply Ai|exact rfl|intro
 have hb:¬(k:Int)<a.n:=Xg hb;have e2:pg a b=true:=by unfold pg;rw[k2,show a.n-k=0 by omega,Xj hn];rfl
 simp only[e2];exact rfl
def FL:XR cx:=af 22 Tryz.call22 (aH (rdF .i64) (rdF .i64)) _ _ (λ_=>⟨[],[],[4],0⟩) [] (λ_=>rfl) follows Tryz.func22 (by kernel_rfl) Iz
set_option maxRecDepth 8000
set_option maxHeartbeats 2000000
def fT(r:rX):Bool:=decide (r.b<=r.a)||decide (r.len<0)||decide (2097152<r.len)
theorem Du:∀a,aD ((λ_=>[]) a)->aJ (C:=cx) [] [] 0 ak Tryz.f16 ((bh JF).enc a) λv H _=>ae ((λr=>.v (.bool (fT r))) a) H v:=by intro r _;exact rfl
def LZ:XR cx:=af 16 Tryz.call16 (bh JF) _ _ (λ_=>ak) [] (λ_=>rfl) follows Tryz.func16 (by kernel_rfl) Du
def Vj(F:Rps):Cut:=⟨Nat,λk=>k<=F.n∧YK (λi=>fT (F.e i)) 0 F.n=YK (λi=>fT (F.e i)) k (F.n-k),λk=>⟨[sl 0 F.sv,sl 1 (.v (.func (.func 16) #[] #[])),sl 7 (i64 F.n),sl 8 (i64 k)],[],0,0,[],[]⟩,λk=>F.n-k⟩
theorem Ix:∀a,aD ((λa=>[(a.1.n:Int)<=cp,a.2=.v (.func (.func 16) #[] #[])]) a)->aJ (C:=cx) [LZ] [] 0 ⟨[],[],[2],0⟩ Tryz.f34 ((aH nP YS).enc a) λv H _=>ae ((λa=>.v (.int .i64 (YO (λi=>fT (a.1.e i)) a.1.n))) a) H v:=by
 intro⟨⟨N,F⟩,x⟩ ⟨hm,hx⟩;replace hx:x=.v (.func (.func 16) #[] #[]):=hx;subst hx;replace hm:(N:Int)<=9223372036854775807:=hm;refine F8 (Vj ⟨N,F⟩) ?_;refine Ai ?_ ?_
 ·refine⟨(0:Nat),[],[],trivial,⟨F9 _,rfl⟩,?_⟩;repeat' first|apply Ai|exact rfl|intro
 refine fun(k:Nat) (hk:k<=N∧YK (λi=>fT (F i)) 0 N=YK (λi=>fT (F i)) k (N-k))=>?_;obtain⟨k1,k2⟩:=hk;refine Ai (λhb=>?_) (λhb=>?_)
 ·have hb:(k:Int)<N:=Od hb;have e0:=jz (g:=(λi=>fT (F i))) (k:=k) (n:=N) (by omega);refine Ai ⟨by omega,by omega⟩ ?_;refine Ai (λhc=>?_) (λhc=>?_);have hc:fT (F k)=true:=hc;simp only[hc] at e0;exact iX (g:=(λi=>fT (F i))) (n:=N) (k2.trans e0) (by omega);have hc:fT (F k)=false:=hc;simp only[hc] at e0;refine Ai (by unfold XT;omega:XT ((k:Int)+1)) ?_;refine⟨k+1,[],[],(by show N-(k+1)<N-k;omega),⟨(by show k+1<=N;omega),by rw[k2,e0]⟩,?_⟩;repeat' first|apply Ai|exact rfl|intro
 have hb:¬(k:Int)<N:=Xg hb;refine gI (g:=(λi=>fT (F i))) (n:=N) ?_;rw[k2,show N-k=0 by omega];show k=N;omega
def P4:XR cx:=af 34 Tryz.call34 (aH nP YS) _ _ (λ_=>⟨[],[],[2],0⟩) [] (λ_=>rfl) follows Tryz.func34 (by kernel_rfl) Ix
def ij(r:Rps):Bool:=decide (0<=YO (λi=>fT (r.e i)) r.n)
theorem DY:∀a,aD ((λa=>[(a.1.n:Int)<=cp,a.2=.v (.func (.func 16) #[] #[])]) a)->aJ (C:=cx) [P4] [] 0 ak Tryz.f15 ((aH nP YS).enc a) λv H _=>ae ((λa=>.v (.bool (ij a.1))) a) H v:=by intro⟨l,x⟩ ⟨hm,hx⟩;replace hx:x=.v (.func (.func 16) #[] #[]):=hx;subst hx;refine Ai ⟨(by repeat' first|exact trivial|exact rfl|apply Ai|intro),hm,rfl⟩ ?_;exact rfl
def Br:XR cx:=af 15 Tryz.call15 (aH nP YS) _ _ (λ_=>ak) [] (λ_=>rfl) follows Tryz.func15 (by kernel_rfl) DY
def sS(z:X2):Bool:=!inR H2 ⟨z.areaLowX,z.areaLowY⟩||!inR H2 ⟨z.areaHighX,z.areaHighY⟩||!inR z.gS ⟨z.areaLowX,z.areaLowY⟩||!inR Fb ⟨z.gravityX,z.gravityY⟩||decide ((32:Int)<z.ropes.n)
def yZ(z:X2):Bool:=!sS z&&(!ij z.ropes&&z.w.valid)
theorem MN:∀a,aD ((λa=>[a.w.l.Sm,(a.ropes.n:Int)<=cp,a.stp.vV]) a)->aJ (C:=cx) [nw,gl,va,Br] [] 0 ak Tryz.f5 ((bh eZ).enc a) λv H _=>ae ((λa=>.v (.bool (yZ a))) a) H v:=by intro z ⟨hs,hr,hz⟩;replace hs:z.w.l.Sm:=hs;replace hr:(z.ropes.n:Int)<=cp:=hr;replace hz:z.stp.vV:=hz;refine Ai (λhb=>?_) (λhb=>?_);have hb:sS z=true:=hb;have e:yZ z=false:=(by unfold yZ;rw[hb];rfl);simp only[e];exact rfl;have hb:sS z=false:=hb;refine Ai ⟨(by repeat' first|exact trivial|exact rfl|apply Ai|intro),hr,rfl⟩ ?_;refine Ai (λ_=>⟨(by repeat' first|exact trivial|exact rfl|apply Ai|intro),hs⟩) ?_;refine Ai (λ_=>⟨(by repeat' first|exact trivial|exact rfl|apply Ai|intro),(by repeat' first|exact trivial|exact rfl|apply Ai|intro),hz⟩) ?_;refine XA (a:=yZ z) (b:=(!ij z.ropes&&z.w.valid)) (by unfold yZ;rw[hb];rfl) ?_;exact(Bool.or_false _).symm
def Ty:XR cx:=af 5 Tryz.call5 (bh eZ) _ _ (λ_=>ak) [] (λ_=>rfl) follows Tryz.func5 (by kernel_rfl) MN
theorem Io:∀a,aD ((λa=>[a.wEntities.n<=1000,∀i,i<a.wEntities.n->(a.wEntities.e i).l.n<=1000,a.setupSystems.n=0,a.setupProgs.n=0,a.ropes.n<=1000]) a)->aJ (C:=cx) [FI,Dk,TR] [] 0 ⟨[1,2],[],[],1⟩ Tryz.f26 ((bh eZ).enc a) λv H _=>ae ((λa=>a.sv) a) H v:=by
 intro a ⟨h1,h2,h3,h4,h5⟩;replace h3:a.setupSystems.n=0:=h3;replace h4:a.setupProgs.n=0:=h4;refine Ai ⟨(by repeat' first|exact trivial|exact rfl|apply Ai|intro),h1,h2⟩ ?_;refine Ai ⟨(by repeat' first|exact trivial|exact rfl|apply Ai|intro),h5⟩ ?_;refine Ai ⟨(by repeat' first|exact trivial|exact rfl|apply Ai|intro),h3⟩ ?_;refine Ai (λh=>P' (show (0:Int)<a.setupProgs.n from Od h) (by omega)) (λ_=>?_);repeat' first|apply Ai|exact rfl|intro
 all_goals first|exact h4|exact P' (show _<a.setupSystems.n from ‹_›) (by omega)
def PZ:XR cx:=af 26 Tryz.call26 (bh eZ) _ _ (λ_=>⟨[1,2],[],[],1⟩) [1,2] (λ_=>rfl) follows Tryz.func26 (by kernel_rfl) Io
def iJ(a:Rct)(e:XO):Bool:=match (bu e.l 1).2 with|true=>Oz a e|false=>false
def lH(a:Rct)(l:ZJ)(k:Nat):List Int:=fP (λi=>(l.e i).iD) (λi=>iJ a (l.e i)) k
def WM(a:Rct)(w:XU):Cut:=⟨Nat,λk=>k<=w.l.n,λk=>⟨[sl 2 (.p 0 0),sl 5 (.g 2 3 1 0 (lH a w.l k).length),sl 10 w.l.sv,sl 11 (i64 w.l.n),sl 12 (i64 k)],
 [(0,.lay [.v (.int .i64 a.lowX),.v (.int .i64 a.lowY),.v (.int .i64 a.highX),.v (.int .i64 a.highY)] 25),(2,.lst 3 1 (lH a w.l k).length (λi=>[.v (.int .i64 ((lH a w.l k).getD i 0))]) 3)],4,0,[],[]⟩,λk=>w.l.n-k⟩
theorem Ms(h:YO (λi=>decide ((l.c i).kind=q)) l.n<0):(bu l q).2=false:=by
 unfold YO at h;unfold bu;cases hd:decide (YK (λi=>decide ((l.c i).kind=q)) 0 l.n<l.n) with
 | false=>rfl
 | true=>rw[hd] at h;exact P' (show ((YK (λi=>decide ((l.c i).kind=q)) 0 l.n:Nat):Int)<0 from h) (by omega)
theorem FX(h:¬YO (λi=>decide ((l.c i).kind=q)) l.n<0):(0<=YO (λi=>decide ((l.c i).kind=q)) l.n∧YO (λi=>decide ((l.c i).kind=q)) l.n<l.n)∧bu l q=(l.c (YO (λi=>decide ((l.c i).kind=q)) l.n).toNat,true):=by
 unfold YO at h ⊢;unfold bu;cases hd:decide (YK (λi=>decide ((l.c i).kind=q)) 0 l.n<l.n) with
 | true=>exact⟨⟨by simp only;omega,by have:=Od hd;simp only;omega⟩,rfl⟩
 | false=>rw[hd] at h;exact P' (show (-1:Int)<0 by decide) h
def uo:Y0 cx:=⟨24,Tryz.call24,Tryz.f24,Tryz.func24,[],[],[],0,by kernel_rfl⟩
theorem II:∀a,aD ((λa=>[a.2=.rp [.il .u8 1] 0]) a)->aJ (C:=cx) [] [] 0 ak Tryz.f53 ((aH gE YS).enc a) λv H _=>ae ((λa=>.v (.bool (decide (a.1.kind=rkq a.2)))) a) H v:=by intro⟨c,x⟩ hx;replace hx:x=.rp [.il .u8 1] 0:=hx;subst hx;exact rfl
def Qd:XR cx:=af 53 Tryz.call53 (aH gE YS) _ _ (λ_=>ak) [] (λ_=>rfl) follows Tryz.func53 (by kernel_rfl) II
def OY(l:Zp):Cut:=⟨Nat,λk=>k<=l.n∧YK (λi=>decide ((l.c i).kind=1)) 0 l.n=YK (λi=>decide ((l.c i).kind=1)) k (l.n-k),
 λk=>⟨[sl 0 l.sv,sl 1 (.f (.func 53) [] [.rp [.il .u8 1] 0]),sl 7 (i64 l.n),sl 8 (i64 k)],[],0,0,[],[]⟩,λk=>l.n-k⟩
theorem Iu:∀a,aD ((λa=>[(a.1.n:Int)<=cp,a.2=(.f (.func 53) [] [.rp [.il .u8 1] 0])]) a)->aJ (C:=cx) [Qd] [] 0 ⟨[],[],[2],0⟩ Tryz.f52 ((aH gU YS).enc a) λv H _=>ae ((λa=>.v (.int .i64 (YO (λi=>decide ((a.1.c i).kind=kxq a.2)) a.1.n))) a) H v:=by
 intro⟨l,x⟩ ⟨hm,hx⟩;replace hx:x=(.f (.func 53) [] [.rp [.il .u8 1] 0]):=hx;subst hx;replace hm:(l.n:Int)<=9223372036854775807:=hm;refine F8 (OY l) ?_;refine Ai ?_ ?_
 ·refine⟨(0:Nat),[],[],trivial,⟨F9 _,rfl⟩,?_⟩;repeat' first|apply Ai|exact rfl|intro
 refine fun(k:Nat) (hk:k<=l.n∧YK (λi=>decide ((l.c i).kind=1)) 0 l.n=YK (λi=>decide ((l.c i).kind=1)) k (l.n-k))=>?_;obtain⟨k1,k2⟩:=hk;refine Ai (λhb=>?_) (λhb=>?_)
 ·have hb:(k:Int)<l.n:=Od hb;have e:=jz (g:=(λi=>decide ((l.c i).kind=1))) (k:=k) (n:=l.n) (by omega);refine Ai ⟨by omega,by omega⟩ ?_;refine Ai rfl ?_;refine Ai (λhc=>?_) (λhc=>?_);have hc:(decide ((l.c k).kind=1))=true:=hc;simp only[hc] at e;exact iX (g:=(λi=>decide ((l.c i).kind=1))) (n:=l.n) (k2.trans e) (by omega);have hc:(decide ((l.c k).kind=1))=false:=hc;simp only[hc] at e;refine Ai (by unfold XT;omega:XT ((k:Int)+1)) ?_;refine⟨k+1,[],[],(by show l.n-(k+1)<l.n-k;omega),⟨by omega,by rw[k2,e]⟩,?_⟩;repeat' first|apply Ai|exact rfl|intro
 have hb:¬(k:Int)<l.n:=Xg hb;refine gI (g:=(λi=>decide ((l.c i).kind=1))) (n:=l.n) ?_;rw[k2,show l.n-k=0 by omega];show k=l.n;omega
def yH:XR cx:=af 52 Tryz.call52 (aH gU YS) _ _ (λ_=>⟨[],[],[2],0⟩) [] (λ_=>rfl) follows Tryz.func52 (by kernel_rfl) Iu
theorem IE:∀a,aD ((λa=>[a.2.l.n<=1000,∀i,i<a.2.l.n->((a.2.l.e i).l.n:Int)<=cp]) a)->aJ (C:=cx) [yH,nw] [uo] 1 ⟨[1006],[],[3],0⟩ Tryz.f46 ((aH Ew cI).enc a) λv H _=>ae ((λa=>.rs 1 (lH a.1 a.2.l a.2.l.n).length (λi=>[.v (.int .i64 ((lH a.1 a.2.l a.2.l.n).getD i 0))])) a) H v:=by
 intro⟨a,w⟩ ⟨h1,h2⟩;replace h1:w.l.n<=1000:=h1;replace h2:∀i,i<w.l.n->((w.l.e i).l.n:Int)<=cp:=h2;refine F8 (WM a w) ?_;refine Ai ?_ ?_
 ·refine⟨(0:Nat),[],[.slot2 5 1 3],trivial,F9 _,?_⟩;repeat' first|apply Ai|exact rfl|intro
  all_goals exact P' ‹_<0› (F1 _)
 refine fun(k:Nat) (hk:k<=w.l.n)=>?_;refine Ai (λhb=>?_) (λhb=>?_)
 ·have hb:(k:Int)<w.l.n:=Od hb;refine Ai ⟨by omega,by omega⟩ ?_;refine Ai ⟨(by repeat' first|exact trivial|exact rfl|apply Ai|intro),h2 k (by omega),rfl⟩ ?_;have hlen:(lH a w.l k).length<=k:=qz (f:=λi=>(w.l.e i).iD) (g:=λi=>iJ a (w.l.e i)) k;have same:iJ a (w.l.e k)=false->lH a w.l (k+1)=lH a w.l k:=λh=>mH h;refine Ai (λhc=>?_) (λhc=>?_)
  ·have hc:YO (λi=>decide (((w.l.e k).l.c i).kind=1)) (w.l.e k).l.n<0:=Od hc;have ey:=same (by unfold iJ;rw[Ms hc]);refine Ai (λh=>P' (show false=true from h) (by decide)) ?_;refine Ai (λh=>P' (show false=true from h) (by decide)) ?_;refine Ai (by unfold XT;omega:XT ((k:Int)+1)) ?_;refine⟨k+1,[],[],(by show w.l.n-(k+1)<w.l.n-k;omega),(by show k+1<=w.l.n;omega),?_⟩;repeat' first|apply Ai|exact rfl|intro
   all_goals first|exact O' List.length ey|(rename_i i _;exact O' (λl:List Int=>l.getD i 0) ey)
  have hc:¬YO (λi=>decide (((w.l.e k).l.c i).kind=1)) (w.l.e k).l.n<0:=Xg hc;obtain⟨c1,c2⟩:=FX hc;refine Ai c1 ?_;have hz:iJ a (w.l.e k) = !inR a ⟨((w.l.e k).l.c (YO (λi=>decide (((w.l.e k).l.c i).kind=1)) (w.l.e k).l.n).toNat).v0,((w.l.e k).l.c (YO (λi=>decide (((w.l.e k).l.c i).kind=1)) (w.l.e k).l.n).toNat).v1⟩:=(by unfold iJ Oz;rw[c2]);refine Ai (λhd=>?_) (λhd=>?_)
  ·have hd:iJ a (w.l.e k)=true:=hz.trans hd;have ey:lH a w.l (k+1)=lH a w.l k++[(w.l.e k).iD]:=jg hd;have em:∀i,i<(lH a w.l k).length+1->(lH a w.l (k+1)).getD i 0=bif Nat.ble (lH a w.l k).length i then(w.l.e k).iD else(lH a w.l k).getD i 0:=λi hi=>(O' (λl=>l.getD i 0) ey).trans (UQ _ _ hi);have Yo:gQ ((lH a w.l k).length+1) 8:=⟨Nat.le_trans (by omega:(lH a w.l k).length+1<=1001) (by decide),by omega⟩
   refine Ai ⟨Yo,by repeat' (first|exact trivial|exact rfl|apply Ai|intro)⟩ ?_;refine Ai (by unfold XT;omega:XT ((k:Int)+1)) ?_;refine⟨k+1,[(3,8)],[],(by show w.l.n-(k+1)<w.l.n-k;omega),(by show k+1<=w.l.n;omega),?_⟩;repeat' first|apply Ai|exact rfl|intro
   all_goals first|exact(O' List.length ey).trans List.length_append|exact em _ ‹_›
  have hd:iJ a (w.l.e k)=false:=hz.trans hd;have ey:=same hd;refine Ai (by unfold XT;omega:XT ((k:Int)+1)) ?_;refine⟨k+1,[],[],(by show w.l.n-(k+1)<w.l.n-k;omega),(by show k+1<=w.l.n;omega),?_⟩;repeat' first|apply Ai|exact rfl|intro
  all_goals first|exact O' List.length ey|(rename_i i _;exact O' (λl:List Int=>l.getD i 0) ey)
 have hb:¬(k:Int)<w.l.n:=Xg hb;obtain rfl:k=w.l.n:=by omega
 repeat' first|apply Ai|exact rfl|intro
 all_goals first|exact O' (λi=>(lH a w.l w.l.n).getD i 0) (B' _).symm
set_option maxRecDepth 8000
set_option maxHeartbeats 2000000
def cu(z:X2):Bool:=!sS z&&(!ij z.ropes&&(z.w.valid&&B8 z.stp))
structure X2.Lim (z:X2):Prop where
 l:z.w.l.Sm
 r:(z.ropes.n:Int)<=cp
 s:(z.setupSystems.n:Int)<=cp
 p:(z.setupProgs.n:Int)<=cp
 c:∀i,i<z.setupProgs.n->((z.setupProgs.e i).code.n:Int)<=4000
theorem MM:∀a,aD ((λa=>[a.Lim]) a)->aJ (C:=cx) [nw,gl,TA,Br] [] 0 ak Tryz.f5 ((bh eZ).enc a) λv H _=>ae ((λa=>.v (.bool (cu a))) a) H v:=by intro z hz;replace hz:z.Lim:=hz;refine Ai (λhb=>?_) (λhb=>?_);have hb:sS z=true:=hb;have e:cu z=false:=(by unfold cu;rw[hb];rfl);simp only[e];exact rfl;have hb:sS z=false:=hb;refine Ai ⟨(by repeat' first|exact trivial|exact rfl|apply Ai|intro),hz.r,rfl⟩ ?_;refine Ai (λ_=>⟨(by repeat' first|exact trivial|exact rfl|apply Ai|intro),hz.l⟩) ?_;refine Ai (λ_=>⟨(by repeat' first|exact trivial|exact rfl|apply Ai|intro),(by repeat' first|exact trivial|exact rfl|apply Ai|intro),hz.s,hz.p,hz.c⟩) ?_;exact(by unfold cu;rw[hb];rfl:cu z=(!ij z.ropes&&(z.w.valid&&B8 z.stp))).trans (Bool.and_assoc _ _ _).symm
def u9:XR cx:=af 5 Tryz.call5 (bh eZ) _ _ (λ_=>ak) [] (λ_=>rfl) follows Tryz.func5 (by kernel_rfl) MM
theorem IM:∀a,aD ((λa=>[a.n<=5000]) a)->aJ (C:=cx) [] [] 0 ak Tryz.f59 ((bh ot).enc a) λv H _=>fH ((λa=>a.sv) a) H v:=by
 intro l hm;replace hm:l.n<=5000:=hm;intro b hb;refine Ai (λh=>?_) (λh=>?_);have h:(b != false)=true:=h;have hn:=hb (by simpa using h);exact hn;have hf:gQ l.n 32:=⟨Nat.le_trans hm (by decide),by omega⟩
 refine Ai hf ?_;repeat' first|apply Ai|exact rfl|intro
 all_goals (show _=_;first|(rw[B'];done)|(rw[B'];rfl))
def Qi:XR cx:=jo 59 Tryz.call59 (bh ot) _ _ (λ_=>ak) [] (λ_=>rfl) follows Tryz.func59 (by kernel_rfl) IM
theorem IN:∀a,aD ((λa=>[a.n<=5000]) a)->aJ (C:=cx) [] [] 0 ak Tryz.f60 ((bh jv).enc a) λv H _=>fH ((λa=>a.sv) a) H v:=by
 intro l hm;replace hm:l.n<=5000:=hm;intro b hb;refine Ai (λh=>?_) (λh=>?_);have h:(b != false)=true:=h;have hn:=hb (by simpa using h);exact hn;have hf:gQ l.n 16:=⟨Nat.le_trans hm (by decide),by omega⟩
 refine Ai hf ?_;repeat' first|apply Ai|exact rfl|intro
 all_goals (show _=_;first|(rw[B'];done)|(rw[B'];rfl))
def Qj:XR cx:=jo 60 Tryz.call60 (bh jv) _ _ (λ_=>ak) [] (λ_=>rfl) follows Tryz.func60 (by kernel_rfl) IN
def QV:List SV:=[.il .i64 0,.il .i64 0,.il .i64 0,.il .i64 0,.il .i64 0,.v (.slice none 0 0),.v (.slice none 0 0),.v (.slice none 0 0),.il .u64 0,.il .i64 0,.v (.slice none 0 0),.il .i64 0,.il .i64 0]
def U2(z:X2)(pr:SV):List SV:=[.v (.int .i64 z.areaLowX),.v (.int .i64 z.areaLowY),.v (.int .i64 z.areaHighX),.v (.int .i64 z.areaHighY),.v (.int .i64 z.wTick),z.wEntities.sv,z.setupSystems.sv,pr,.v (.int .u64 z.setupSeed),.v (.int .i64 z.setupFuel),z.ropes.sv,.v (.int .i64 z.gravityX),.v (.int .i64 z.gravityY)]
def Wy(z:X2):Cut:=⟨Nat,λk=>k<=z.setupProgs.n,λk=>⟨[sl 1 (.p 0 0),sl 2 (.p 1 0),sl 3 (.p 2 0),sl 31 z.setupProgs.sv,sl 32 (i64 z.setupProgs.n),sl 33 (i64 k)],
 [(0,.lay z.cells 36),(1,.lay QV 36),(2,.lay (U2 z (.g 3 4 4 0 k)) 36),(3,.lst 4 4 k (λi=>(z.setupProgs.e i).cells) 94)],5,0,[],[]⟩,λk=>z.setupProgs.n-k⟩
theorem HY{α:Type}(f:Nat->α){k:Nat}(hi:i<k+1):f i=bif Nat.ble k i then f k else f i:=by
 cases hb:Nat.ble k i with
 | false=>rfl
 | true=>
  have:=F4 hb;obtain rfl:i=k:=(by omega);rfl
structure X2.Cop (z:X2):Prop where
 n:z.wEntities.n<=1000
 c:∀i,i<z.wEntities.n->(z.wEntities.e i).l.n<=1000
 s:z.setupSystems.n<=1000
 p:z.setupProgs.n<=1000
 q:∀i,i<z.setupProgs.n->(z.setupProgs.e i).code.n<=4000
 r:z.ropes.n<=1000
set_option maxHeartbeats 2000000 in
set_option maxRecDepth 8000 in
theorem Im:∀a,aD ((λa=>[a.Cop]) a)->aJ (C:=cx) [FI,Dk,Qi,Qj] [] 0 ⟨[1,2],[],[4],1⟩ Tryz.f26 ((bh eZ).enc a) λv H _=>ae ((λa=>a.sv) a) H v:=by
 intro z hz;replace hz:z.Cop:=hz;have hpn:=hz.p;refine Ai ⟨(by repeat' first|exact trivial|exact rfl|apply Ai|intro),hz.n,hz.c⟩ ?_;refine Ai ⟨(by repeat' first|exact trivial|exact rfl|apply Ai|intro),hz.r⟩ ?_;refine Ai ⟨(by repeat' first|exact trivial|exact rfl|apply Ai|intro),(Nat.le_trans hz.s (by decide):z.setupSystems.n<=5000)⟩ ?_;refine F8 (Wy z) ?_;refine Ai ?_ ?_
 ·refine⟨(0:Nat),[],[.cell2 2 7 4 94],trivial,F9 _,?_⟩;repeat' first|apply Ai|exact rfl|intro
  all_goals first|exact P' ‹_<0› (F1 _)
 refine fun(k:Nat) (hk:k<=z.setupProgs.n)=>?_;refine Ai (λhb=>?_) (λhb=>?_)
 ·have hb:(k:Int)<z.setupProgs.n:=Od hb;refine Ai ⟨by omega,hb⟩ ?_;refine Ai ⟨(by repeat' first|exact trivial|exact rfl|apply Ai|intro),(Nat.le_trans (hz.q k (by omega)) (by decide):(z.setupProgs.e k).code.n<=5000)⟩ ?_;have Yo:gQ (k+1) 40:=⟨Nat.le_trans (by omega:k+1<=1001) (by decide),by omega⟩
  refine Ai ⟨Yo,(by repeat' first|exact trivial|exact rfl|apply Ai|intro)⟩ ?_;refine Ai (by unfold XT;omega:XT ((k:Int)+1)) ?_;refine⟨k+1,[(4,7)],[],(by show z.setupProgs.n-(k+1)<z.setupProgs.n-k;omega),(by show k+1<=z.setupProgs.n;omega),?_⟩;repeat' first|apply Ai|exact rfl|intro
  all_goals first|exact HY (λj=>(z.setupProgs.e j).code.n) (by assumption)|exact HY (λj=>((z.setupProgs.e j).code.e _).op) (by assumption)|exact HY (λj=>((z.setupProgs.e j).code.e _).a) (by assumption)|exact HY (λj=>(z.setupProgs.e j).locals) (by assumption)|exact HY (λj=>(z.setupProgs.e j).reads) (by assumption)|exact HY (λj=>(z.setupProgs.e j).writes) (by assumption)
 have hb:¬(k:Int)<z.setupProgs.n:=Xg hb;obtain rfl:k=z.setupProgs.n:=by omega
 repeat' first|apply Ai|exact rfl|intro
 all_goals first|exact O' (λj=>(z.setupProgs.e j).code.n) (B' _).symm|exact O' (λj=>((z.setupProgs.e j).code.e _).op) (B' _).symm|exact O' (λj=>((z.setupProgs.e j).code.e _).a) (B' _).symm|exact O' (λj=>(z.setupProgs.e j).locals) (B' _).symm|exact O' (λj=>(z.setupProgs.e j).reads) (B' _).symm|exact O' (λj=>(z.setupProgs.e j).writes) (B' _).symm
def sO:XR cx:=af 26 Tryz.call26 (bh eZ) _ _ (λ_=>⟨[1,2],[],[4],1⟩) [1,2] (λ_=>rfl) follows Tryz.func26 (by kernel_rfl) Im
end
section
abbrev link:Go.Conc.Lib.WgLink:={add:=94,done:=96,wait:=98,relMerge:=127,disable:=128,enable:=129,inBubble:=130,associate:=131,fatal:=132,uOr:=133,uAdd:=134,raceRead:=135,uLoad:=136,uStore:=137,disassociate:=138,semrelease:=139,acquire:=142,isAssociated:=143,uCas:=144,raceWrite:=145,semacquire:=146,orU64:=172,addU64:=173,loadU64:=174,storeU64:=175,casU64:=179,tWgP:=230,tUP:=232,tAssoc:=233,tWg:=184,tAU:=182,tU64:=31,tUint:=164,tU32:=88,tPU32:=237,tPAU:=274,tPU64:=276,tNoCopy:=178,tANoCopy:=179,tAlign64:=180}
theorem I2:Go.Conc.Lib.WgLib Tryz.prog link:=
 ⟨Tryz.func94,Tryz.func96,Tryz.func98,Tryz.func127,Tryz.func128,Tryz.func129,Tryz.func130,Tryz.func131,Tryz.func132,Tryz.func133,Tryz.func134,Tryz.func135,Tryz.func136,Tryz.func137,Tryz.func138,Tryz.func139,Tryz.func142,Tryz.func143,Tryz.func144,Tryz.func145,Tryz.func146,Tryz.func172,Tryz.func173,Tryz.func174,Tryz.func175,Tryz.func179,Tryz.underlying230,Tryz.runUnderlying230,Tryz.sizeOf230,Tryz.isAgg230,Tryz.zeroValue230,Tryz.underlying232,Tryz.runUnderlying232,Tryz.sizeOf232,Tryz.isAgg232,Tryz.zeroValue232,Tryz.underlying233,Tryz.runUnderlying233,Tryz.sizeOf233,Tryz.isAgg233,Tryz.zeroValue233,Tryz.underlying184,Tryz.runUnderlying184,Tryz.sizeOf184,Tryz.isAgg184,Tryz.zeroValue184,Tryz.underlying182,Tryz.runUnderlying182,Tryz.sizeOf182,Tryz.isAgg182,Tryz.zeroValue182,Tryz.underlying31,Tryz.runUnderlying31,Tryz.sizeOf31,Tryz.isAgg31,Tryz.zeroValue31,Tryz.underlying164,Tryz.runUnderlying164,Tryz.sizeOf164,Tryz.isAgg164,Tryz.zeroValue164,Tryz.underlying88,Tryz.runUnderlying88,Tryz.sizeOf88,Tryz.isAgg88,Tryz.zeroValue88,Tryz.underlying237,Tryz.runUnderlying237,Tryz.sizeOf237,Tryz.isAgg237,Tryz.zeroValue237,Tryz.underlying274,Tryz.runUnderlying274,Tryz.sizeOf274,Tryz.isAgg274,Tryz.zeroValue274,Tryz.underlying276,Tryz.runUnderlying276,Tryz.sizeOf276,Tryz.isAgg276,Tryz.zeroValue276,Tryz.underlying0,Tryz.runUnderlying0,Tryz.sizeOf0,Tryz.isAgg0,Tryz.zeroValue0,Tryz.underlying3,Tryz.runUnderlying3,Tryz.sizeOf3,Tryz.isAgg3,Tryz.zeroValue3,Tryz.underlying4,Tryz.runUnderlying4,Tryz.sizeOf4,Tryz.isAgg4,Tryz.zeroValue4,Tryz.underlying9,Tryz.runUnderlying9,Tryz.sizeOf9,Tryz.isAgg9,Tryz.zeroValue9,Tryz.underlying20,Tryz.runUnderlying20,Tryz.sizeOf20,Tryz.isAgg20,Tryz.zeroValue20,Tryz.underlying21,Tryz.runUnderlying21,Tryz.sizeOf21,Tryz.isAgg21,Tryz.zeroValue21,(by kernel_rfl),(by kernel_rfl)⟩
end
end
end Go.Proofs.YtmdpdknpapjchaaGreatDoor
