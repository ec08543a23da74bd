/- law 30's comp, example, at. -/
import Derived.Test.YtgigkennhdolpaaGreatDoorM36
import Derived.Test.YtgigkennhdolpaaGreatDoorM26
import Derived.Test.YtgigkennhdolpaaGreatDoorM31
import Derived.Test.YtgigkennhdolpaaGreatDoorProg
import Derived.Test.YtgigkennhdolpaaGreatDoorM20
import Derived.KernelRfl
namespace Go.Proofs.YtgigkennhdolpaaGreatDoor
open Go.RowKit
set_option maxRecDepth 8000
set_option maxHeartbeats 2000000
theorem al1{p:Nat->Prop}(h0:p 0):∀i,i<1->p i:=λi hi=>by
 match i,hi with
 | 0,_=>exact h0
def atF(f:XP)(i:Nat):Int:=bif Nat.blt i f.n then f.g i else 0
def S4(q:Int)(f:XP):bd:=⟨q,atF f 0,atF f 1,atF f 2,atF f 3⟩
theorem al2{p:Nat->Prop}(h0:p 0)(h1:p 1):∀i,i<2->p i:=λi hi=>by
 match i,hi with
 | 0,_=>exact h0
 | 1,_=>exact h1
theorem Am:∀a,aH ((λ_=>[]) a)->aM (C:=cx) [] [] 0 av Tryz.f75 ((aL (VK .u8) (rdF .i64)).enc a) λv H _=>ae ((λa=>(S4 a.1 a.2).sv) a) H v:=by
 intro⟨q,f⟩ _;repeat' (first|refine Ai ?_ ?_|intro _|exact rfl|exact trivial)
 all_goals skip
noncomputable def Fu:UO cx:=ai 75 Tryz.call75 (aL (VK .u8) (rdF .i64)) _ _ (λ_=>av) [] (λ_=>rfl) follows Tryz.func75 (by kernel_rfl) Am
def exE:Nat->U3
 | 0=>⟨1,⟨4,λj=>match j with|0=>⟨1,10,10,0,0⟩|1=>⟨2,0,0,0,0⟩|2=>⟨3,1,1,0,0⟩|_=>⟨4,2,0,0,0⟩⟩⟩
 | _=>⟨2,⟨2,λj=>match j with|0=>⟨1,95,50,0,0⟩|_=>⟨2,3,0,0,0⟩⟩⟩
def exW:U8:=⟨0,⟨2,exE⟩⟩
def Ra(w:U8):SV:=.agg [.v (.int .i64 0),.v (.int .i64 0),.v (.int .i64 99),.v (.int .i64 99),.v (.int .i64 w.tick),w.l.sv,.v (.slice none 0 0),.v (.slice none 0 0),.v (.int .u64 0),.v (.int .i64 0),.v (.slice none 0 0),.v (.int .i64 0),.v (.int .i64 0)]
theorem al4{p:Nat->Prop}(h0:p 0)(h1:p 1)(h2:p 2)(h3:p 3):∀i,i<4->p i:=λi hi=>by
 match i,hi with
 | 0,_=>exact h0
 | 1,_=>exact h1
 | 2,_=>exact h2
 | 3,_=>exact h3
theorem tQ:∀a,aH ((λ_=>[]) a)->aM (C:=cx) [Fu] [] 0 av Tryz.f37 ((AS).enc a) λv H _=>ae ((λ_=>Ra exW) a) H v:=by
 intro _ _;refine Ai (al2 trivial trivial) ?_;refine Ai (al2 trivial trivial) ?_;refine Ai (al1 trivial) ?_;refine Ai (al2 trivial trivial) ?_;refine Ai (al1 trivial) ?_;repeat' (first|refine Ai ?_ ?_|exact rfl|exact trivial|(refine al2 ?_ ?_)|(refine al3 ?_ ?_ ?_)|(refine al4 ?_ ?_ ?_ ?_))
 all_goals trace_state
noncomputable def w7:UO cx:=ai 37 Tryz.call37 (AS) _ _ (λ_=>av) [] (λ_=>rfl) follows Tryz.func37 (by kernel_rfl) tQ
def eqC(a b:bd):Bool:=decide (a.kind=b.kind)&&(decide (a.v0=b.v0)&&(decide (a.v1=b.v1)&&(decide (a.v2=b.v2)&&decide (a.v3=b.v3))))
def gH(a b:U3):Bool:=!(decide (¬a.iD=b.iD)||decide (¬(a.l.n:Int)=b.l.n))&&!bN (λi=>!eqC (a.l.c i) (b.l.c i)) 0 a.l.n
def Pb(a b:U3):Cut:=⟨Nat,λk=>k<=a.l.n∧bN (λi=>!eqC (a.l.c i) (b.l.c i)) 0 a.l.n=bN (λi=>!eqC (a.l.c i) (b.l.c i)) k (a.l.n-k),
 λk=>⟨[sl 2 (.p 0 0),sl 3 (.p 1 0),sl 22 (i64 a.l.n),sl 23 (i64 k)],[(0,.lay a.cells 42),(1,.lay b.cells 42)],2,0,[],[]⟩,λk=>a.l.n-k⟩
theorem BR:∀a,aH ((λa=>[(a.1.l.n:Int)<=bY]) a)->aM (C:=cx) [] [] 0 ⟨[],[],[4],0⟩ Tryz.f24 ((aL g8 g8).enc a) λv H _=>ae ((λa=>.v (.bool (gH a.1 a.2))) a) H v:=by
 intro⟨a,b⟩ hp;replace hp:(a.l.n:Int)<=9223372036854775807:=hp;refine Ai (λhx=>?_) (λhx=>?_);have hx:(decide (¬a.iD=b.iD)||decide (¬(a.l.n:Int)=b.l.n))=true:=hx;have e:gH a b=false:=(by unfold gH;rw[hx];rfl);simp only[e];exact rfl;have hx:(decide (¬a.iD=b.iD)||decide (¬(a.l.n:Int)=b.l.n))=false:=hx;have hn:(a.l.n:Int)=b.l.n:=by simp at hx;omega
 refine Uh (Pb a b) ?_;refine Ai ?_ ?_
 ·refine⟨(0:Nat),[],[],trivial,⟨Ui _,rfl⟩,?_⟩;repeat' (first|refine Ai ?_ ?_|intro _|exact rfl)
 refine fun(k:Nat) (hk:k<=a.l.n∧bN (λi=>!eqC (a.l.c i) (b.l.c i)) 0 (a.l.n)=bN (λi=>!eqC (a.l.c i) (b.l.c i)) k (a.l.n-k))=>?_;obtain⟨k1,k2⟩:=hk;refine Ai (λhb=>?_) (λhb=>?_)
 ·have hb:(k:Int)<a.l.n:=Od hb;have e:=dS (g:=(λi=>!eqC (a.l.c i) (b.l.c i))) (k:=k) (n:=a.l.n) (by omega);refine Ai ⟨by omega,by omega⟩ ?_;refine Ai ⟨by omega,by omega⟩ ?_;refine Ai (λhc=>?_) (λhc=>?_);have hc:(λi=>!eqC (a.l.c i) (b.l.c i)) k=true:=hc;simp only[hc] at e;have e0:bN (λi=>!eqC (a.l.c i) (b.l.c i)) 0 (a.l.n)=true:=(by rw[k2,e]);have e1:gH a b=false:=(by unfold gH;rw[e0];simp);simp only[e1];exact rfl;have hc:(λi=>!eqC (a.l.c i) (b.l.c i)) k=false:=hc;simp only[hc] at e;refine Ai (by unfold UP;omega:UP ((k:Int)+1)) ?_;refine⟨k+1,[],[],(by show a.l.n-(k+1)<a.l.n-k;omega),⟨by omega,by rw[k2,e]⟩,?_⟩;repeat' (first|refine Ai ?_ ?_|intro _|exact rfl)
 have hb:¬(k:Int)<a.l.n:=Ur hb;have e0:bN (λi=>!eqC (a.l.c i) (b.l.c i)) 0 (a.l.n)=false:=by rw[k2,show a.l.n-k=0 by omega];rfl
 have e1:gH a b=true:=by unfold gH;rw[e0,hx];rfl
 simp only[e1];exact rfl
noncomputable def JN:UO cx:=ai 24 Tryz.call24 (aL g8 g8) _ _ (λ_=>⟨[],[],[4],0⟩) [] (λ_=>rfl) follows Tryz.func24 (by kernel_rfl) BR
def mV(a b:U8):Bool:=!(decide (¬a.tick=b.tick)||decide (¬(a.l.n:Int)=b.l.n))&&!bN (λi=>!gH (a.l.e i) (b.l.e i)) 0 a.l.n
def Pa(a b:U8):Cut:=⟨Nat,λk=>k<=a.l.n∧bN (λi=>!gH (a.l.e i) (b.l.e i)) 0 a.l.n=bN (λi=>!gH (a.l.e i) (b.l.e i)) k (a.l.n-k),
 λk=>⟨[sl 2 (.p 0 0),sl 3 (.p 1 0),sl 22 (i64 a.l.n),sl 23 (i64 k)],[(0,.lay a.cells 28),(1,.lay b.cells 28)],2,0,[],[]⟩,λk=>a.l.n-k⟩
theorem BQ:∀a,aH ((λa=>[(a.1.l.n:Int)<=bY,∀i,i<a.1.l.n->((a.1.l.e i).l.n:Int)<=bY]) a)->aM (C:=cx) [JN] [] 0 ⟨[],[],[4],0⟩ Tryz.f22 ((aL c8 c8).enc a) λv H _=>ae ((λa=>.v (.bool (mV a.1 a.2))) a) H v:=by
 intro⟨a,b⟩ hp;obtain⟨hp,hq⟩:(a.l.n:Int)<=9223372036854775807∧∀i,i<a.l.n->((a.l.e i).l.n:Int)<=bY:=hp;refine Ai (λhx=>?_) (λhx=>?_);have hx:(decide (¬a.tick=b.tick)||decide (¬(a.l.n:Int)=b.l.n))=true:=hx;have e:mV a b=false:=(by unfold mV;rw[hx];rfl);simp only[e];exact rfl;have hx:(decide (¬a.tick=b.tick)||decide (¬(a.l.n:Int)=b.l.n))=false:=hx;have hn:(a.l.n:Int)=b.l.n:=by simp at hx;omega
 refine Uh (Pa a b) ?_;refine Ai ?_ ?_
 ·refine⟨(0:Nat),[],[],trivial,⟨Ui _,rfl⟩,?_⟩;repeat' (first|refine Ai ?_ ?_|intro _|exact rfl)
 refine fun(k:Nat) (hk:k<=a.l.n∧bN (λi=>!gH (a.l.e i) (b.l.e i)) 0 (a.l.n)=bN (λi=>!gH (a.l.e i) (b.l.e i)) k (a.l.n-k))=>?_;obtain⟨k1,k2⟩:=hk;refine Ai (λhb=>?_) (λhb=>?_)
 ·have hb:(k:Int)<a.l.n:=Od hb;have e:=dS (g:=(λi=>!gH (a.l.e i) (b.l.e i))) (k:=k) (n:=a.l.n) (by omega);refine Ai ⟨by omega,by omega⟩ ?_;refine Ai ⟨by omega,by omega⟩ ?_;refine Ai ⟨λ_ _=>trivial,λ_ _=>trivial,hq k (by omega)⟩ ?_;refine Ai (λhc=>?_) (λhc=>?_);have hc:(λi=>!gH (a.l.e i) (b.l.e i)) k=true:=hc;simp only[hc] at e;have e0:bN (λi=>!gH (a.l.e i) (b.l.e i)) 0 (a.l.n)=true:=(by rw[k2,e]);have e1:mV a b=false:=(by unfold mV;rw[e0];simp);simp only[e1];exact rfl;have hc:(λi=>!gH (a.l.e i) (b.l.e i)) k=false:=hc;simp only[hc] at e;refine Ai (by unfold UP;omega:UP ((k:Int)+1)) ?_;refine⟨k+1,[],[],(by show a.l.n-(k+1)<a.l.n-k;omega),⟨by omega,by rw[k2,e]⟩,?_⟩;repeat' (first|refine Ai ?_ ?_|intro _|exact rfl)
 have hb:¬(k:Int)<a.l.n:=Ur hb;have e0:bN (λi=>!gH (a.l.e i) (b.l.e i)) 0 (a.l.n)=false:=by rw[k2,show a.l.n-k=0 by omega];rfl
 have e1:mV a b=true:=by unfold mV;rw[e0,hx];rfl
 simp only[e1];exact rfl
noncomputable def JM:UO cx:=ai 22 Tryz.call22 (aL c8 c8) _ _ (λ_=>⟨[],[],[4],0⟩) [] (λ_=>rfl) follows Tryz.func22 (by kernel_rfl) BQ
set_option maxRecDepth 8000
set_option maxHeartbeats 2000000
structure X4 where
 lowX:Int
 lowY:Int
 highX:Int
 highY:Int
def X4.sv(b:X4):SV:=.agg [.v (.int .i64 b.lowX),.v (.int .i64 b.lowY),.v (.int .i64 b.highX),.v (.int .i64 b.highY)]
def X4.of(x:SV):X4:=⟨(aS 0 x).iv,(aS 1 x).iv,(aS 2 x).iv,(aS 3 x).iv⟩
def Cy:Rd X4:=⟨.agg [.v (.int .i64 0),.v (.int .i64 0),.v (.int .i64 0),.v (.int .i64 0)],X4.of,X4.sv,λ_=>rfl⟩
def X6(a:X4)(p:Vec):Bool:=decide (a.lowX<=p.x)&&decide (p.x<=a.highX)&&decide (a.lowY<=p.y)&&decide (p.y<=a.highY)
theorem Gm:∀a,aH ((λ_=>[]) a)->aM (C:=cx) [] [] 0 av Tryz.f34 ((aL Cy eI).enc a) λv H _=>ae ((λa=>.v (.bool (X6 a.1 a.2))) a) H v:=by
 intro⟨a,p⟩ _;repeat' (first|refine Ai ?_ ?_|intro _|exact rfl)
 all_goals trace_state
noncomputable def rj:UO cx:=ai 34 Tryz.call34 (aL Cy eI) _ _ (λ_=>av) [] (λ_=>rfl) follows Tryz.func34 (by kernel_rfl) Gm
theorem KP:∀a,aH ((λa=>[a.n=0]) a)->aM (C:=cx) [] [] 0 av Tryz.f77 ((bh nw).enc a) λv H _=>eZ ((λa=>a.sv) a) H v:=by
 intro l hm;replace hm:l.n=0:=hm;intro b hb;refine Ai (λh=>?_) (λh=>?_);have h:(b != false)=true:=h;have hn:=hb (by simpa using h);exact hn;have hf:dW l.n 32:=⟨Nat.le_trans (by omega:l.n<=1000) (by decide),by omega⟩
 refine Ai hf ?_;repeat' (first|refine Ai ?_ ?_|intro _|exact rfl)
 all_goals exact Up ‹_<l.n› (by omega)
noncomputable def QK:UO cx:=iL 77 Tryz.call77 (bh nw) _ _ (λ_=>av) [] (λ_=>rfl) follows Tryz.func77 (by kernel_rfl) KP
def Tp(w:U8)(b:Nat):Cut:=⟨Nat,λk=>k<=w.l.n,λk=>⟨[sl 2 (.p (b+1) 0),sl 3 (.p (b+2) 0),sl 10 w.l.sv,sl 11 (i64 w.l.n),sl 12 (i64 k)],
 [(b+1,.lay uq 28),(b+2,.lay [.v (.int .i64 w.tick),.g (b+3) (b+4) 2 0 k] 28),(b+3,yd w.l k (b+4))],b+5,0,[],[]⟩,λk=>w.l.n-k⟩
theorem FM:∀a,aH ((λa=>[a.l.n<=1000,∀i,i<a.l.n->(a.l.e i).l.n<=1000]) a)->aM (C:=cx) [pM] [] 0 ⟨[],[],[3],0⟩ Tryz.f56 ((bh c8).enc a) λv H _=>eZ ((λa=>a.sv) a) H v:=by
 intro w ⟨hn,hl⟩;replace hn:w.l.n<=1000:=hn;replace hl:∀i,i<w.l.n->(w.l.e i).l.n<=1000:=hl;refine Uh (Tp w 0) ?_;refine Ai ?_ ?_
 ·refine⟨(0:Nat),[],[.cellN 2 1 2 1 5 46 42],trivial,Ui _,?_⟩;repeat' (first|refine Ai ?_ ?_|intro _|exact rfl)
  all_goals exact Up ‹_<0› (F' _)
 refine fun(k:Nat) (hk:k<=w.l.n)=>?_;refine Ai (λhb=>?_) (λhb=>?_)
 ·have hb:(k:Int)<w.l.n:=Od hb;refine Ai ⟨by omega,by omega⟩ ?_;refine Ai ⟨λ_ _=>trivial,hl k (by omega)⟩ ?_;have Vn:dW (k+1) 32:=⟨Nat.le_trans (by omega:k+1<=1001) (by decide),by omega⟩
  refine Ai ⟨Vn,?_⟩ ?_
  ·repeat' (first|refine Ai ?_ ?_|intro _|exact rfl)
  refine Ai (by unfold UP;omega:UP ((k:Int)+1)) ?_;refine⟨k+1,[(4,8)],[.bq 3],(by show w.l.n-(k+1)<w.l.n-k;omega),(by omega:k+1<=w.l.n),?_⟩;repeat' (first|refine Ai ?_ ?_|intro _|exact rfl)
  refine az (α:=List SV) (p:=λi y=>aI (Vl 5 [(4,8)] (List.set [SV.v (Value.int IntKind.i64 (w.l.e i).iD),SV.e] 1 SV.e) (y.set 1 SV.e))) ?_ ?_ _ ‹_›;exact rfl;exact λi _=>rfl;refine az (α:=Nat×(Nat->List SV)) (p:=λi y=>(w.l.e i).l.n=y.1) ?_ ?_ _ ‹_›;exact rfl;exact λi _=>rfl;refine az (α:=Nat×(Nat->List SV)) (p:=λi y=>∀j,j<y.1->aI (Vl 5 [(4,8)] ((w.l.e i).l.c j).cells (y.2 j))) ?_ ?_ _ ‹_› _ ‹_›
  ·exact λj _=>⟨rfl,rfl,rfl,rfl,rfl⟩
  ·exact λi _ j _=>⟨rfl,rfl,rfl,rfl,rfl⟩
 have hb:¬(k:Int)<w.l.n:=Ur hb;obtain rfl:k=w.l.n:=by omega
 repeat' (first|refine Ai ?_ ?_|intro _|exact rfl)
 all_goals first|(show (_:Int)=_;rw[B'];done)|(show (_:Nat)=_;rw[B'];done)|(show (_:Nat)=_;rw[B'];rfl)
noncomputable def DI:UO cx:=iL 56 Tryz.call56 (bh c8) _ _ (λ_=>⟨[],[],[3],0⟩) [] (λ_=>rfl) follows Tryz.func56 (by kernel_rfl) FM
theorem RU(l:List Int)(x:Int){i:Nat}(hi:i<l.length+1):(l++[x]).getD i 0=bif Nat.ble l.length i then x else l.getD i 0:=by
 by_cases h:i<l.length;rw[show Nat.ble l.length i=false from by cases e:Nat.ble l.length i;rfl;exact Up (L' e) (by omega)];simp[List.getD_eq_getElem?_getD,M' h];rw[show Nat.ble l.length i=true from Nat.ble_eq_true_of_le (by omega)];have:i=l.length:=by omega
 subst this;simp[List.getD_eq_getElem?_getD]
def Sa(a:X4)(e:U3):Bool:=!X6 a ⟨(bx e.l 1).1.v0,(bx e.l 1).1.v1⟩
def Va.tG(z:Va):X4:=⟨z.areaLowX,z.areaLowY,z.areaHighX,z.areaHighY⟩
def Va.w(z:Va):U8:=⟨z.wTick,z.wEntities⟩
def Va.stp(z:Va):Xi:=⟨z.setupSystems,z.setupProgs,z.setupSeed,z.setupFuel⟩
def zL:X4:=⟨-1048576,-1048576,1048576,1048576⟩
def yO:X4:=⟨-4096,-4096,4096,4096⟩
structure Va.Ok (z:Va):Prop where
 lo:X6 zL ⟨z.areaLowX,z.areaLowY⟩=true
 hi:X6 zL ⟨z.areaHighX,z.areaHighY⟩=true
 in_:X6 z.tG ⟨z.areaLowX,z.areaLowY⟩=true
 gr:X6 yO ⟨z.gravityX,z.gravityY⟩=true
 ro:z.ropes.n=0
 st:z.stp.uk
def ov(a b:XP):Bool:=decide (a.n=b.n)&&!bN (λi=>decide (¬a.g i=b.g i)) 0 a.n
def Sv(a b:XP):Cut:=⟨Nat,λk=>k<=a.n∧bN (λi=>decide (¬a.g i=b.g i)) 0 a.n=bN (λi=>decide (¬a.g i=b.g i)) k (a.n-k),
 λk=>⟨[sl 0 (.rs 1 a.n λi=>[.v (.int .i64 (a.g i))]),sl 1 (.rs 1 b.n λi=>[.v (.int .i64 (b.g i))]),sl 12 (i64 a.n),sl 13 (i64 k)],[],0,0,[],[]⟩,λk=>a.n-k⟩
set_option maxHeartbeats 2000000 in
set_option maxRecDepth 8000 in
theorem Gl:∀a,aH ((λa=>[(a.1.n:Int)<=bY]) a)->aM (C:=cx) [] [] 0 ⟨[],[],[4],0⟩ Tryz.f20 ((aL (rdF .i64) (rdF .i64)).enc a) λv H _=>ae ((λa=>.v (.bool (ov a.1 a.2))) a) H v:=by
 intro⟨a,b⟩ hp;replace hp:(a.n:Int)<=9223372036854775807:=hp;refine Ai (λhx=>?_) (λhx=>?_);have hx:decide (¬(a.n:Int)=b.n)=true:=hx;have:=Od hx;have e:ov a b=false:=(by unfold ov;rw[Ut (by omega)];rfl);simp only[e];exact rfl;have hx:decide (¬(a.n:Int)=b.n)=false:=hx;have hx:=Ur hx;have hn:a.n=b.n:=by omega
 refine Uh (Sv a b) ?_;refine Ai ?_ ?_
 ·refine⟨(0:Nat),[],[],trivial,⟨Ui _,rfl⟩,?_⟩;repeat' (first|refine Ai ?_ ?_|intro _|exact rfl)
 refine fun(k:Nat) (hk:k<=a.n∧bN (λi=>decide (¬a.g i=b.g i)) 0 a.n=bN (λi=>decide (¬a.g i=b.g i)) k (a.n-k))=>?_;obtain⟨k1,k2⟩:=hk;refine Ai (λhb=>?_) (λhb=>?_)
 ·have hb:(k:Int)<a.n:=Od hb;have e:=dS (g:=λi=>decide (¬a.g i=b.g i)) (k:=k) (n:=a.n) (by omega);refine Ai ⟨by omega,by omega⟩ ?_;refine Ai ⟨by omega,by omega⟩ ?_;refine Ai (λhc=>?_) (λhc=>?_);have hc:decide (¬a.g k=b.g k)=true:=hc;simp only[hc] at e;have e2:ov a b=false:=(by unfold ov;rw[k2,e,Bool.not_true,Bool.and_false]);simp only[e2];exact rfl;have hc:decide (¬a.g k=b.g k)=false:=hc;simp only[hc] at e;refine Ai (by unfold UP;omega:UP ((k:Int)+1)) ?_;refine⟨k+1,[],[],(by show a.n-(k+1)<a.n-k;omega),⟨by omega,by rw[k2,e]⟩,?_⟩;repeat' (first|refine Ai ?_ ?_|intro _|exact rfl)
 have hb:¬(k:Int)<a.n:=Ur hb;have e2:ov a b=true:=by unfold ov;rw[k2,show a.n-k=0 by omega,Uu hn];rfl
 simp only[e2];exact rfl
noncomputable def DK:UO cx:=ai 20 Tryz.call20 (aL (rdF .i64) (rdF .i64)) _ _ (λ_=>⟨[],[],[4],0⟩) [] (λ_=>rfl) follows Tryz.func20 (by kernel_rfl) Gl
set_option maxRecDepth 8000
set_option maxHeartbeats 2000000
def dG(r:j7):Bool:=decide (r.b<=r.a)||decide (r.len<0)||decide (2097152<r.len)
theorem BI:∀a,aH ((λ_=>[]) a)->aM (C:=cx) [] [] 0 av Tryz.f47 ((bh HG).enc a) λv H _=>ae ((λr=>.v (.bool (dG r))) a) H v:=by intro r _;exact rfl
noncomputable def JD:UO cx:=ai 47 Tryz.call47 (bh HG) _ _ (λ_=>av) [] (λ_=>rfl) follows Tryz.func47 (by kernel_rfl) BI
def Ss(F:Yt):Cut:=⟨Nat,λk=>k<=F.n∧VI (λi=>dG (F.e i)) 0 F.n=VI (λi=>dG (F.e i)) k (F.n-k),λk=>⟨[sl 0 F.sv,sl 1 (.v (.func (.func 47) #[] #[])),sl 7 (i64 F.n),sl 8 (i64 k)],[],0,0,[],[]⟩,λk=>F.n-k⟩
theorem Gj:∀a,aH ((λa=>[(a.1.n:Int)<=bY,a.2=.v (.func (.func 47) #[] #[])]) a)->aM (C:=cx) [JD] [] 0 ⟨[],[],[2],0⟩ Tryz.f83 ((aL mX V4).enc a) λv H _=>ae ((λa=>.v (.int .i64 (VM (λi=>dG (a.1.e i)) a.1.n))) a) H v:=by
 intro⟨⟨N,F⟩,x⟩ ⟨hm,hx⟩;replace hx:x=.v (.func (.func 47) #[] #[]):=hx;subst hx;replace hm:(N:Int)<=9223372036854775807:=hm;refine Uh (Ss ⟨N,F⟩) ?_;refine Ai ?_ ?_
 ·refine⟨(0:Nat),[],[],trivial,⟨Ui _,rfl⟩,?_⟩;repeat' (first|refine Ai ?_ ?_|intro _|exact rfl)
 refine fun(k:Nat) (hk:k<=N∧VI (λi=>dG (F i)) 0 N=VI (λi=>dG (F i)) k (N-k))=>?_;obtain⟨k1,k2⟩:=hk;refine Ai (λhb=>?_) (λhb=>?_)
 ·have hb:(k:Int)<N:=Od hb;have e0:=iR (g:=(λi=>dG (F i))) (k:=k) (n:=N) (by omega);refine Ai ⟨by omega,by omega⟩ ?_;refine Ai (λhc=>?_) (λhc=>?_);have hc:dG (F k)=true:=hc;simp only[hc] at e0;exact im (g:=(λi=>dG (F i))) (n:=N) (k2.trans e0) (by omega);have hc:dG (F k)=false:=hc;simp only[hc] at e0;refine Ai (by unfold UP;omega:UP ((k:Int)+1)) ?_;refine⟨k+1,[],[],(by show N-(k+1)<N-k;omega),⟨(by show k+1<=N;omega),by rw[k2,e0]⟩,?_⟩;repeat' (first|refine Ai ?_ ?_|intro _|exact rfl)
 have hb:¬(k:Int)<N:=Ur hb;refine ga (g:=(λi=>dG (F i))) (n:=N) ?_;rw[k2,show N-k=0 by omega];show k=N;omega
noncomputable def M5:UO cx:=ai 83 Tryz.call83 (aL mX V4) _ _ (λ_=>⟨[],[],[2],0⟩) [] (λ_=>rfl) follows Tryz.func83 (by kernel_rfl) Gj
def dh(r:Yt):Bool:=decide (0<=VM (λi=>dG (r.e i)) r.n)
theorem B2:∀a,aH ((λa=>[(a.1.n:Int)<=bY,a.2=.v (.func (.func 47) #[] #[])]) a)->aM (C:=cx) [M5] [] 0 av Tryz.f46 ((aL mX V4).enc a) λv H _=>ae ((λa=>.v (.bool (dh a.1))) a) H v:=by intro⟨l,x⟩ ⟨hm,hx⟩;replace hx:x=.v (.func (.func 47) #[] #[]):=hx;subst hx;refine Ai ⟨(by repeat' (first|exact trivial|exact rfl|refine Ai ?_ ?_|intro _)),hm,rfl⟩ ?_;exact rfl
noncomputable def tB:UO cx:=ai 46 Tryz.call46 (aL mX V4) _ _ (λ_=>av) [] (λ_=>rfl) follows Tryz.func46 (by kernel_rfl) B2
def jq(z:Va):Bool:=!X6 zL ⟨z.areaLowX,z.areaLowY⟩||!X6 zL ⟨z.areaHighX,z.areaHighY⟩||!X6 z.tG ⟨z.areaLowX,z.areaLowY⟩||!X6 yO ⟨z.gravityX,z.gravityY⟩||decide ((32:Int)<z.ropes.n)
def xq(z:Va):Bool:=!jq z&&(!dh z.ropes&&z.w.valid)
theorem Kq:∀a,aH ((λa=>[a.w.l.Sm,(a.ropes.n:Int)<=bY,a.stp.uk]) a)->aM (C:=cx) [rj,iE,tx,tB] [] 0 av Tryz.f14 ((bh dD).enc a) λv H _=>ae ((λa=>.v (.bool (xq a))) a) H v:=by intro z ⟨hs,hr,hz⟩;replace hs:z.w.l.Sm:=hs;replace hr:(z.ropes.n:Int)<=bY:=hr;replace hz:z.stp.uk:=hz;refine Ai (λhb=>?_) (λhb=>?_);have hb:jq z=true:=hb;have e:xq z=false:=(by unfold xq;rw[hb];rfl);simp only[e];exact rfl;have hb:jq z=false:=hb;refine Ai ⟨(by repeat' (first|exact trivial|exact rfl|refine Ai ?_ ?_|intro _)),hr,rfl⟩ ?_;refine Ai (λ_=>⟨(by repeat' (first|exact trivial|exact rfl|refine Ai ?_ ?_|intro _)),hs⟩) ?_;refine Ai (λ_=>⟨(by repeat' (first|exact trivial|exact rfl|refine Ai ?_ ?_|intro _)),(by repeat' (first|exact trivial|exact rfl|refine Ai ?_ ?_|intro _)),hz⟩) ?_;refine UK (a:=xq z) (b:=(!dh z.ropes&&z.w.valid)) (by unfold xq;rw[hb];rfl) ?_;exact(Bool.or_false _).symm
noncomputable def Qw:UO cx:=ai 14 Tryz.call14 (bh dD) _ _ (λ_=>av) [] (λ_=>rfl) follows Tryz.func14 (by kernel_rfl) Kq
theorem Gc:∀a,aH ((λa=>[a.wEntities.n<=1000,∀i,i<a.wEntities.n->(a.wEntities.e i).l.n<=1000,a.setupSystems.n=0,a.setupProgs.n=0,a.ropes.n<=1000]) a)->aM (C:=cx) [DI,BA,QK] [] 0 ⟨[1,2],[],[],1⟩ Tryz.f40 ((bh dD).enc a) λv H _=>ae ((λa=>a.sv) a) H v:=by
 intro a ⟨h1,h2,h3,h4,h5⟩;replace h3:a.setupSystems.n=0:=h3;replace h4:a.setupProgs.n=0:=h4;refine Ai ⟨(by repeat' (first|exact trivial|exact rfl|refine Ai ?_ ?_|intro _)),h1,h2⟩ ?_;refine Ai ⟨(by repeat' (first|exact trivial|exact rfl|refine Ai ?_ ?_|intro _)),h5⟩ ?_;refine Ai ⟨(by repeat' (first|exact trivial|exact rfl|refine Ai ?_ ?_|intro _)),h3⟩ ?_;refine Ai (λh=>Up (show (0:Int)<a.setupProgs.n from Od h) (by omega)) (λ_=>?_);repeat' (first|refine Ai ?_ ?_|intro _|exact rfl)
 all_goals first|exact h4|exact Up (show _<a.setupSystems.n from ‹_›) (by omega)
noncomputable def M0:UO cx:=ai 40 Tryz.call40 (bh dD) _ _ (λ_=>⟨[1,2],[],[],1⟩) [1,2] (λ_=>rfl) follows Tryz.func40 (by kernel_rfl) Gc
def x8(a:X4)(e:U3):Bool:=match (bx e.l 1).2 with|true=>Sa a e|false=>false
def kM(a:X4)(l:WU)(k:Nat):List Int:=fy (λi=>(l.e i).iD) (λi=>x8 a (l.e i)) k
def TV(a:X4)(w:U8):Cut:=⟨Nat,λk=>k<=w.l.n,λk=>⟨[sl 2 (.p 0 0),sl 5 (.g 2 3 1 0 (kM a w.l k).length),sl 10 w.l.sv,sl 11 (i64 w.l.n),sl 12 (i64 k)],
 [(0,.lay [.v (.int .i64 a.lowX),.v (.int .i64 a.lowY),.v (.int .i64 a.highX),.v (.int .i64 a.highY)] 25),(2,.lst 3 1 (kM a w.l k).length (λi=>[.v (.int .i64 ((kM a w.l k).getD i 0))]) 3)],4,0,[],[]⟩,λk=>w.l.n-k⟩
theorem QO{l:WL}{q:Int}(h:VM (λi=>decide ((l.c i).kind=q)) l.n<0):(bx l q).2=false:=by
 unfold VM at h;unfold bx;cases hd:decide (VI (λi=>decide ((l.c i).kind=q)) 0 l.n<l.n) with
 | false=>rfl
 | true=>rw[hd] at h;exact Up (show ((VI (λi=>decide ((l.c i).kind=q)) 0 l.n:Nat):Int)<0 from h) (by omega)
theorem Nr{l:WL}{q:Int}(h:¬VM (λi=>decide ((l.c i).kind=q)) l.n<0):(0<=VM (λi=>decide ((l.c i).kind=q)) l.n∧VM (λi=>decide ((l.c i).kind=q)) l.n<l.n)∧bx l q=(l.c (VM (λi=>decide ((l.c i).kind=q)) l.n).toNat,true):=by
 unfold VM at h ⊢;unfold bx;cases hd:decide (VI (λi=>decide ((l.c i).kind=q)) 0 l.n<l.n) with
 | true=>exact⟨⟨by simp only;omega,by have:=Od hd;simp only;omega⟩,rfl⟩
 | false=>rw[hd] at h;exact Up (show (-1:Int)<0 by decide) h
noncomputable def IU:V3 cx:=⟨57,Tryz.call57,Tryz.f57,Tryz.func57,[],[],[],0,by kernel_rfl⟩
theorem Gy:∀a,aH ((λa=>[a.2=.rp [.il .u8 1] 0]) a)->aM (C:=cx) [] [] 0 av Tryz.f94 ((aL gV V4).enc a) λv H _=>ae ((λa=>.v (.bool (decide (a.1.kind=rkq a.2)))) a) H v:=by intro⟨c,x⟩ hx;replace hx:x=.rp [.il .u8 1] 0:=hx;subst hx;exact rfl
noncomputable def Ng:UO cx:=ai 94 Tryz.call94 (aL gV V4) _ _ (λ_=>av) [] (λ_=>rfl) follows Tryz.func94 (by kernel_rfl) Gy
def Ma(l:WL):Cut:=⟨Nat,λk=>k<=l.n∧VI (λi=>decide ((l.c i).kind=1)) 0 l.n=VI (λi=>decide ((l.c i).kind=1)) k (l.n-k),
 λk=>⟨[sl 0 l.sv,sl 1 (.f (.func 94) [] [.rp [.il .u8 1] 0]),sl 7 (i64 l.n),sl 8 (i64 k)],[],0,0,[],[]⟩,λk=>l.n-k⟩
theorem Gh:∀a,aH ((λa=>[(a.1.n:Int)<=bY,a.2=(.f (.func 94) [] [.rp [.il .u8 1] 0])]) a)->aM (C:=cx) [Ng] [] 0 ⟨[],[],[2],0⟩ Tryz.f93 ((aL jc V4).enc a) λv H _=>ae ((λa=>.v (.int .i64 (VM (λi=>decide ((a.1.c i).kind=kxq a.2)) a.1.n))) a) H v:=by
 intro⟨l,x⟩ ⟨hm,hx⟩;replace hx:x=(.f (.func 94) [] [.rp [.il .u8 1] 0]):=hx;subst hx;replace hm:(l.n:Int)<=9223372036854775807:=hm;refine Uh (Ma l) ?_;refine Ai ?_ ?_
 ·refine⟨(0:Nat),[],[],trivial,⟨Ui _,rfl⟩,?_⟩;repeat' (first|refine Ai ?_ ?_|intro _|exact rfl)
 refine fun(k:Nat) (hk:k<=l.n∧VI (λi=>decide ((l.c i).kind=1)) 0 l.n=VI (λi=>decide ((l.c i).kind=1)) k (l.n-k))=>?_;obtain⟨k1,k2⟩:=hk;refine Ai (λhb=>?_) (λhb=>?_)
 ·have hb:(k:Int)<l.n:=Od hb;have e:=iR (g:=(λi=>decide ((l.c i).kind=1))) (k:=k) (n:=l.n) (by omega);refine Ai ⟨by omega,by omega⟩ ?_;refine Ai rfl ?_;refine Ai (λhc=>?_) (λhc=>?_);have hc:(decide ((l.c k).kind=1))=true:=hc;simp only[hc] at e;exact im (g:=(λi=>decide ((l.c i).kind=1))) (n:=l.n) (k2.trans e) (by omega);have hc:(decide ((l.c k).kind=1))=false:=hc;simp only[hc] at e;refine Ai (by unfold UP;omega:UP ((k:Int)+1)) ?_;refine⟨k+1,[],[],(by show l.n-(k+1)<l.n-k;omega),⟨by omega,by rw[k2,e]⟩,?_⟩;repeat' (first|refine Ai ?_ ?_|intro _|exact rfl)
 have hb:¬(k:Int)<l.n:=Ur hb;refine ga (g:=(λi=>decide ((l.c i).kind=1))) (n:=l.n) ?_;rw[k2,show l.n-k=0 by omega];show k=l.n;omega
noncomputable def M4:UO cx:=ai 93 Tryz.call93 (aL jc V4) _ _ (λ_=>⟨[],[],[2],0⟩) [] (λ_=>rfl) follows Tryz.func93 (by kernel_rfl) Gh
theorem Gv:∀a,aH ((λa=>[a.2.l.n<=1000,∀i,i<a.2.l.n->((a.2.l.e i).l.n:Int)<=bY]) a)->aM (C:=cx) [M4,rj] [IU] 1 ⟨[1006],[],[3],0⟩ Tryz.f45 ((aL Cy c8).enc a) λv H _=>ae ((λa=>.rs 1 (kM a.1 a.2.l a.2.l.n).length (λi=>[.v (.int .i64 ((kM a.1 a.2.l a.2.l.n).getD i 0))])) a) H v:=by
 intro⟨a,w⟩ ⟨h1,h2⟩;replace h1:w.l.n<=1000:=h1;replace h2:∀i,i<w.l.n->((w.l.e i).l.n:Int)<=bY:=h2;refine Uh (TV a w) ?_;refine Ai ?_ ?_
 ·refine⟨(0:Nat),[],[.slot2 5 1 3],trivial,Ui _,?_⟩;repeat' (first|refine Ai ?_ ?_|intro _|exact rfl)
  all_goals exact Up ‹_<0› (F' _)
 refine fun(k:Nat) (hk:k<=w.l.n)=>?_;refine Ai (λhb=>?_) (λhb=>?_)
 ·have hb:(k:Int)<w.l.n:=Od hb;refine Ai ⟨by omega,by omega⟩ ?_;refine Ai ⟨(by repeat' (first|exact trivial|exact rfl|refine Ai ?_ ?_|intro _)),h2 k (by omega),rfl⟩ ?_;have hlen:(kM a w.l k).length<=k:=pC (f:=λi=>(w.l.e i).iD) (g:=λi=>x8 a (w.l.e i)) k;have same:x8 a (w.l.e k)=false->kM a w.l (k+1)=kM a w.l k:=λh=>lQ h;refine Ai (λhc=>?_) (λhc=>?_)
  ·have hc:VM (λi=>decide (((w.l.e k).l.c i).kind=1)) (w.l.e k).l.n<0:=Od hc;have ey:=same (by unfold x8;rw[QO hc]);refine Ai (λh=>Up (show false=true from h) (by decide)) ?_;refine Ai (λh=>Up (show false=true from h) (by decide)) ?_;refine Ai (by unfold UP;omega:UP ((k:Int)+1)) ?_;refine⟨k+1,[],[],(by show w.l.n-(k+1)<w.l.n-k;omega),(by show k+1<=w.l.n;omega),?_⟩;repeat' (first|refine Ai ?_ ?_|intro _|exact rfl)
   all_goals first|exact Uo List.length ey|(rename_i i _;exact Uo (λl:List Int=>l.getD i 0) ey)|trace_state
  have hc:¬VM (λi=>decide (((w.l.e k).l.c i).kind=1)) (w.l.e k).l.n<0:=Ur hc;obtain⟨c1,c2⟩:=Nr hc;refine Ai c1 ?_;have hz:x8 a (w.l.e k) = !X6 a ⟨((w.l.e k).l.c (VM (λi=>decide (((w.l.e k).l.c i).kind=1)) (w.l.e k).l.n).toNat).v0,((w.l.e k).l.c (VM (λi=>decide (((w.l.e k).l.c i).kind=1)) (w.l.e k).l.n).toNat).v1⟩:=(by unfold x8 Sa;rw[c2]);refine Ai (λhd=>?_) (λhd=>?_)
  ·have hd:x8 a (w.l.e k)=true:=hz.trans hd;have ey:kM a w.l (k+1)=kM a w.l k++[(w.l.e k).iD]:=iB hd;have em:∀i,i<(kM a w.l k).length+1->(kM a w.l (k+1)).getD i 0=bif Nat.ble (kM a w.l k).length i then(w.l.e k).iD else(kM a w.l k).getD i 0:=λi hi=>(Uo (λl=>l.getD i 0) ey).trans (RU _ _ hi);have Vn:dW ((kM a w.l k).length+1) 8:=⟨Nat.le_trans (by omega:(kM a w.l k).length+1<=1001) (by decide),by omega⟩
   refine Ai ⟨Vn,by repeat' (first|exact trivial|exact rfl|refine Ai ?_ ?_|intro _)⟩ ?_;refine Ai (by unfold UP;omega:UP ((k:Int)+1)) ?_;refine⟨k+1,[(3,8)],[],(by show w.l.n-(k+1)<w.l.n-k;omega),(by show k+1<=w.l.n;omega),?_⟩;repeat' (first|refine Ai ?_ ?_|intro _|exact rfl)
   all_goals first|exact(Uo List.length ey).trans List.length_append|exact em _ ‹_›|trace_state
  have hd:x8 a (w.l.e k)=false:=hz.trans hd;have ey:=same hd;refine Ai (by unfold UP;omega:UP ((k:Int)+1)) ?_;refine⟨k+1,[],[],(by show w.l.n-(k+1)<w.l.n-k;omega),(by show k+1<=w.l.n;omega),?_⟩;repeat' (first|refine Ai ?_ ?_|intro _|exact rfl)
  all_goals first|exact Uo List.length ey|(rename_i i _;exact Uo (λl:List Int=>l.getD i 0) ey)|trace_state
 have hb:¬(k:Int)<w.l.n:=Ur hb;obtain rfl:k=w.l.n:=by omega
 repeat' (first|refine Ai ?_ ?_|intro _|exact rfl)
 all_goals first|exact Uo (λi=>(kM a w.l w.l.n).getD i 0) (B' _).symm|trace_state
set_option maxRecDepth 8000
set_option maxHeartbeats 2000000
def cm(z:Va):Bool:=!jq z&&(!dh z.ropes&&(z.w.valid&&qx z.stp))
structure Va.Lim (z:Va):Prop where
 l:z.w.l.Sm
 r:(z.ropes.n:Int)<=bY
 s:(z.setupSystems.n:Int)<=bY
 p:(z.setupProgs.n:Int)<=bY
 c:∀i,i<z.setupProgs.n->((z.setupProgs.e i).code.n:Int)<=4000
theorem Ko:∀a,aH ((λa=>[a.Lim]) a)->aM (C:=cx) [rj,iE,JF,tB] [] 0 av Tryz.f14 ((bh dD).enc a) λv H _=>ae ((λa=>.v (.bool (cm a))) a) H v:=by intro z hz;replace hz:z.Lim:=hz;refine Ai (λhb=>?_) (λhb=>?_);have hb:jq z=true:=hb;have e:cm z=false:=(by unfold cm;rw[hb];rfl);simp only[e];exact rfl;have hb:jq z=false:=hb;refine Ai ⟨(by repeat' (first|exact trivial|exact rfl|refine Ai ?_ ?_|intro _)),hz.r,rfl⟩ ?_;refine Ai (λ_=>⟨(by repeat' (first|exact trivial|exact rfl|refine Ai ?_ ?_|intro _)),hz.l⟩) ?_;refine Ai (λ_=>⟨(by repeat' (first|exact trivial|exact rfl|refine Ai ?_ ?_|intro _)),(by repeat' (first|exact trivial|exact rfl|refine Ai ?_ ?_|intro _)),hz.s,hz.p,hz.c⟩) ?_;exact(by unfold cm;rw[hb];rfl:cm z=(!dh z.ropes&&(z.w.valid&&qx z.stp))).trans (Bool.and_assoc _ _ _).symm
noncomputable def JE:UO cx:=ai 14 Tryz.call14 (bh dD) _ _ (λ_=>av) [] (λ_=>rfl) follows Tryz.func14 (by kernel_rfl) Ko
theorem GF:∀a,aH ((λa=>[a.n<=5000]) a)->aM (C:=cx) [] [] 0 av Tryz.f77 ((bh nw).enc a) λv H _=>eZ ((λa=>a.sv) a) H v:=by
 intro l hm;replace hm:l.n<=5000:=hm;intro b hb;refine Ai (λh=>?_) (λh=>?_);have h:(b != false)=true:=h;have hn:=hb (by simpa using h);exact hn;have hf:dW l.n 32:=⟨Nat.le_trans hm (by decide),by omega⟩
 refine Ai hf ?_;repeat' (first|refine Ai ?_ ?_|intro _|exact rfl)
 all_goals (show _=_;first|(rw[B'];done)|(rw[B'];rfl))
noncomputable def Nj:UO cx:=iL 77 Tryz.call77 (bh nw) _ _ (λ_=>av) [] (λ_=>rfl) follows Tryz.func77 (by kernel_rfl) GF
theorem GG:∀a,aH ((λa=>[a.n<=5000]) a)->aM (C:=cx) [] [] 0 av Tryz.f78 ((bh nx).enc a) λv H _=>eZ ((λa=>a.sv) a) H v:=by
 intro l hm;replace hm:l.n<=5000:=hm;intro b hb;refine Ai (λh=>?_) (λh=>?_);have h:(b != false)=true:=h;have hn:=hb (by simpa using h);exact hn;have hf:dW l.n 16:=⟨Nat.le_trans hm (by decide),by omega⟩
 refine Ai hf ?_;repeat' (first|refine Ai ?_ ?_|intro _|exact rfl)
 all_goals (show _=_;first|(rw[B'];done)|(rw[B'];rfl))
noncomputable def Nk:UO cx:=iL 78 Tryz.call78 (bh nx) _ _ (λ_=>av) [] (λ_=>rfl) follows Tryz.func78 (by kernel_rfl) GG
def ru:List SV:=[.il .i64 0,.il .i64 0,.il .i64 0,.il .i64 0,.il .i64 0,.v (.slice none 0 0),.v (.slice none 0 0),.v (.slice none 0 0),.il .u64 0,.il .i64 0,.v (.slice none 0 0),.il .i64 0,.il .i64 0]
def R8(z:Va)(pr:SV):List SV:=[.v (.int .i64 z.areaLowX),.v (.int .i64 z.areaLowY),.v (.int .i64 z.areaHighX),.v (.int .i64 z.areaHighY),.v (.int .i64 z.wTick),z.wEntities.sv,z.setupSystems.sv,pr,.v (.int .u64 z.setupSeed),.v (.int .i64 z.setupFuel),z.ropes.sv,.v (.int .i64 z.gravityX),.v (.int .i64 z.gravityY)]
def TN(z:Va):Cut:=⟨Nat,λk=>k<=z.setupProgs.n,λk=>⟨[sl 1 (.p 0 0),sl 2 (.p 1 0),sl 3 (.p 2 0),sl 31 z.setupProgs.sv,sl 32 (i64 z.setupProgs.n),sl 33 (i64 k)],
 [(0,.lay z.cells 36),(1,.lay ru 36),(2,.lay (R8 z (.g 3 4 4 0 k)) 36),(3,.lst 4 4 k (λi=>(z.setupProgs.e i).cells) 105)],5,0,[],[]⟩,λk=>z.setupProgs.n-k⟩
theorem FF{α:Type}(f:Nat->α){k i:Nat}(hi:i<k+1):f i=bif Nat.ble k i then f k else f i:=by
 cases hb:Nat.ble k i with
 | false=>rfl
 | true=>
  have:=L' hb;obtain rfl:i=k:=(by omega);rfl
structure Va.Cop (z:Va):Prop where
 n:z.wEntities.n<=1000
 c:∀i,i<z.wEntities.n->(z.wEntities.e i).l.n<=1000
 s:z.setupSystems.n<=1000
 p:z.setupProgs.n<=1000
 q:∀i,i<z.setupProgs.n->(z.setupProgs.e i).code.n<=4000
 r:z.ropes.n<=1000
set_option maxHeartbeats 2000000 in
set_option maxRecDepth 8000 in
theorem Gb:∀a,aH ((λa=>[a.Cop]) a)->aM (C:=cx) [DI,BA,Nj,Nk] [] 0 ⟨[1,2],[],[4],1⟩ Tryz.f40 ((bh dD).enc a) λv H _=>ae ((λa=>a.sv) a) H v:=by
 intro z hz;replace hz:z.Cop:=hz;have hpn:=hz.p;refine Ai ⟨(by repeat' (first|exact trivial|exact rfl|refine Ai ?_ ?_|intro _)),hz.n,hz.c⟩ ?_;refine Ai ⟨(by repeat' (first|exact trivial|exact rfl|refine Ai ?_ ?_|intro _)),hz.r⟩ ?_;refine Ai ⟨(by repeat' (first|exact trivial|exact rfl|refine Ai ?_ ?_|intro _)),(Nat.le_trans hz.s (by decide):z.setupSystems.n<=5000)⟩ ?_;refine Uh (TN z) ?_;refine Ai ?_ ?_
 ·refine⟨(0:Nat),[],[.cell2 2 7 4 105],trivial,Ui _,?_⟩;repeat' (first|refine Ai ?_ ?_|intro _|exact rfl)
  all_goals first|exact Up ‹_<0› (F' _)|trace_state
 refine fun(k:Nat) (hk:k<=z.setupProgs.n)=>?_;refine Ai (λhb=>?_) (λhb=>?_)
 ·have hb:(k:Int)<z.setupProgs.n:=Od hb;refine Ai ⟨by omega,hb⟩ ?_;refine Ai ⟨(by repeat' (first|exact trivial|exact rfl|refine Ai ?_ ?_|intro _)),(Nat.le_trans (hz.q k (by omega)) (by decide):(z.setupProgs.e k).code.n<=5000)⟩ ?_;have Vn:dW (k+1) 40:=⟨Nat.le_trans (by omega:k+1<=1001) (by decide),by omega⟩
  refine Ai ⟨Vn,(by repeat' (first|exact trivial|exact rfl|refine Ai ?_ ?_|intro _))⟩ ?_;refine Ai (by unfold UP;omega:UP ((k:Int)+1)) ?_;refine⟨k+1,[(4,7)],[],(by show z.setupProgs.n-(k+1)<z.setupProgs.n-k;omega),(by show k+1<=z.setupProgs.n;omega),?_⟩;repeat' (first|refine Ai ?_ ?_|intro _|exact rfl)
  all_goals first|exact FF (λj=>(z.setupProgs.e j).code.n) (by assumption)|exact FF (λj=>((z.setupProgs.e j).code.e _).op) (by assumption)|exact FF (λj=>((z.setupProgs.e j).code.e _).a) (by assumption)|exact FF (λj=>(z.setupProgs.e j).locals) (by assumption)|exact FF (λj=>(z.setupProgs.e j).reads) (by assumption)|exact FF (λj=>(z.setupProgs.e j).writes) (by assumption)|trace_state
 have hb:¬(k:Int)<z.setupProgs.n:=Ur hb;obtain rfl:k=z.setupProgs.n:=by omega
 repeat' (first|refine Ai ?_ ?_|intro _|exact rfl)
 all_goals first|exact Uo (λj=>(z.setupProgs.e j).code.n) (B' _).symm|exact Uo (λj=>((z.setupProgs.e j).code.e _).op) (B' _).symm|exact Uo (λj=>((z.setupProgs.e j).code.e _).a) (B' _).symm|exact Uo (λj=>(z.setupProgs.e j).locals) (B' _).symm|exact Uo (λj=>(z.setupProgs.e j).reads) (B' _).symm|exact Uo (λj=>(z.setupProgs.e j).writes) (B' _).symm|trace_state
noncomputable def MZ:UO cx:=ai 40 Tryz.call40 (bh dD) _ _ (λ_=>⟨[1,2],[],[4],1⟩) [1,2] (λ_=>rfl) follows Tryz.func40 (by kernel_rfl) Gb
end Go.Proofs.YtgigkennhdolpaaGreatDoor
namespace Go.Proofs.YtgigkennhdolpaaGreatDoor
abbrev link:Go.Conc.Lib.WgLink:={add:=113,done:=115,wait:=117,relMerge:=157,disable:=158,enable:=159,inBubble:=160,associate:=161,fatal:=162,uOr:=163,uAdd:=164,raceRead:=165,uLoad:=166,uStore:=167,disassociate:=168,semrelease:=169,acquire:=172,isAssociated:=173,uCas:=174,raceWrite:=175,semacquire:=176,orU64:=210,addU64:=211,loadU64:=212,storeU64:=213,casU64:=216,tWgP:=260,tUP:=262,tAssoc:=263,tWg:=198,tAU:=196,tU64:=31,tUint:=240,tU32:=59,tPU32:=267,tPAU:=313,tPU64:=315,tNoCopy:=192,tANoCopy:=193,tAlign64:=194}
theorem GY:Go.Conc.Lib.WgLib Tryz.prog link:=
 ⟨Tryz.func113,Tryz.func115,Tryz.func117,Tryz.func157,Tryz.func158,Tryz.func159,Tryz.func160,Tryz.func161,Tryz.func162,Tryz.func163,Tryz.func164,Tryz.func165,Tryz.func166,Tryz.func167,Tryz.func168,Tryz.func169,Tryz.func172,Tryz.func173,Tryz.func174,Tryz.func175,Tryz.func176,Tryz.func210,Tryz.func211,Tryz.func212,Tryz.func213,Tryz.func216,Tryz.underlying260,Tryz.runUnderlying260,Tryz.sizeOf260,Tryz.isAgg260,Tryz.zeroValue260,Tryz.underlying262,Tryz.runUnderlying262,Tryz.sizeOf262,Tryz.isAgg262,Tryz.zeroValue262,Tryz.underlying263,Tryz.runUnderlying263,Tryz.sizeOf263,Tryz.isAgg263,Tryz.zeroValue263,Tryz.underlying198,Tryz.runUnderlying198,Tryz.sizeOf198,Tryz.isAgg198,Tryz.zeroValue198,Tryz.underlying196,Tryz.runUnderlying196,Tryz.sizeOf196,Tryz.isAgg196,Tryz.zeroValue196,Tryz.underlying31,Tryz.runUnderlying31,Tryz.sizeOf31,Tryz.isAgg31,Tryz.zeroValue31,Tryz.underlying240,Tryz.runUnderlying240,Tryz.sizeOf240,Tryz.isAgg240,Tryz.zeroValue240,Tryz.underlying59,Tryz.runUnderlying59,Tryz.sizeOf59,Tryz.isAgg59,Tryz.zeroValue59,Tryz.underlying267,Tryz.runUnderlying267,Tryz.sizeOf267,Tryz.isAgg267,Tryz.zeroValue267,Tryz.underlying313,Tryz.runUnderlying313,Tryz.sizeOf313,Tryz.isAgg313,Tryz.zeroValue313,Tryz.underlying315,Tryz.runUnderlying315,Tryz.sizeOf315,Tryz.isAgg315,Tryz.zeroValue315,Tryz.underlying0,Tryz.runUnderlying0,Tryz.sizeOf0,Tryz.isAgg0,Tryz.zeroValue0,Tryz.underlying3,Tryz.runUnderlying3,Tryz.sizeOf3,Tryz.isAgg3,Tryz.zeroValue3,Tryz.underlying4,Tryz.runUnderlying4,Tryz.sizeOf4,Tryz.isAgg4,Tryz.zeroValue4,Tryz.underlying9,Tryz.runUnderlying9,Tryz.sizeOf9,Tryz.isAgg9,Tryz.zeroValue9,Tryz.underlying20,Tryz.runUnderlying20,Tryz.sizeOf20,Tryz.isAgg20,Tryz.zeroValue20,Tryz.underlying21,Tryz.runUnderlying21,Tryz.sizeOf21,Tryz.isAgg21,Tryz.zeroValue21,(by kernel_rfl),(by kernel_rfl)⟩
end Go.Proofs.YtgigkennhdolpaaGreatDoor
