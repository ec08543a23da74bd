/- law 30's comp, example, at; zone.In, Ints. zone.In, Ints, law 30's at; copies. zone.gone where all entities have positions. zone.Valid at empty setup; Ints; law 30's at. law 17's and law 30's Few. -/
import Derived.Test.YtgigkennhdolpaaGreatDoorM35
import Derived.Test.YtgigkennhdolpaaGreatDoorM29
namespace Go.Proofs.YtgigkennhdolpaaGreatDoor
open Go.RowKit
set_option maxRecDepth 8000
set_option maxHeartbeats 2000000
theorem al1{p:Nat→Prop}(h0:p 0):∀i,i<1→p i:=fun i hi=>by
 match i,hi with
 | 0,_=>exact h0
def atF(f:Fam)(i:Nat):Int:=bif Nat.blt i f.n then f.g i else 0
def compF(q:Int)(f:Fam):aJ:=⟨q,atF f 0,atF f 1,atF f 2,atF f 3⟩
theorem al2{p:Nat→Prop}(h0:p 0)(h1:p 1):∀i,i<2→p i:=fun i hi=>by
 match i,hi with
 | 0,_=>exact h0
 | 1,_=>exact h1
theorem Comp30_walk:∀a,aK ((fun _=>[]) a)→aX (C:=cx) [] [] 0 aw Tryz.f75 ((aV (rdI .u8) (rdF .i64)).enc a) fun v H _=>ai ((fun a=>(compF a.1 a.2).sv) a) H v:=by
 intro⟨q,f⟩ _
 repeat' (first|(refine Ai ?_ ?_)|(intro _)|exact rfl|exact trivial)
 all_goals skip
noncomputable def conComp30:Con cx:=ah 75 Tryz.call75 (aV (rdI .u8) (rdF .i64)) _ _ (fun _=>aw) [] (fun _=>rfl) follows Tryz.func75 (by kernel_rfl) Comp30_walk
def exE:Nat→Ent
 | 0=>⟨1,⟨4,fun j=>match j with|0=>⟨1,10,10,0,0⟩|1=>⟨2,0,0,0,0⟩|2=>⟨3,1,1,0,0⟩|_=>⟨4,2,0,0,0⟩⟩⟩
 | _=>⟨2,⟨2,fun j=>match j with|0=>⟨1,95,50,0,0⟩|_=>⟨2,3,0,0,0⟩⟩⟩
def exW:Wor:=⟨0,⟨2,exE⟩⟩
def znSV(w:Wor):SV:=.agg [.v (.int .i64 0),.v (.int .i64 0),.v (.int .i64 99),.v (.int .i64 99),.v (.int .i64 w.tick),w.l.sv,.v (.slice none 0 0),.v (.slice none 0 0),.v (.int .u64 0),.v (.int .i64 0),.v (.slice none 0 0),.v (.int .i64 0),.v (.int .i64 0)]
theorem al4{p:Nat→Prop}(h0:p 0)(h1:p 1)(h2:p 2)(h3:p 3):∀i,i<4→p i:=fun i hi=>by
 match i,hi with
 | 0,_=>exact h0
 | 1,_=>exact h1
 | 2,_=>exact h2
 | 3,_=>exact h3
theorem Example30_walk:∀a,aK ((fun _=>[]) a)→aX (C:=cx) [conComp30] [] 0 aw Tryz.f37 ((rds0).enc a) fun v H _=>ai ((fun _=>znSV exW) a) H v:=by
 intro _ _
 refine Ai (al2 trivial trivial) ?_
 refine Ai (al2 trivial trivial) ?_
 refine Ai (al1 trivial) ?_
 refine Ai (al2 trivial trivial) ?_
 refine Ai (al1 trivial) ?_
 repeat' (first|(refine Ai ?_ ?_)|exact rfl|exact trivial|(refine al2 ?_ ?_)|(refine al3 ?_ ?_ ?_)|(refine al4 ?_ ?_ ?_ ?_))
 all_goals trace_state
noncomputable def conExample30:Con cx:=ah 37 Tryz.call37 (rds0) _ _ (fun _=>aw) [] (fun _=>rfl) follows Tryz.func37 (by kernel_rfl) Example30_walk
def eqC(a b:aJ):Bool:=decide (a.kind=b.kind)&&(decide (a.v0=b.v0)&&(decide (a.v1=b.v1)&&(decide (a.v2=b.v2)&&decide (a.v3=b.v3))))
def fc(a b:Ent):Bool:=!(decide (¬a.iD=b.iD)||decide (¬(a.l.n:Int)=b.l.n))&&!bc (fun i=>!eqC (a.l.c i) (b.l.c i)) 0 a.l.n
def sameEC(a b:Ent):Cut:=⟨Nat,fun k=>k≤a.l.n∧bc (fun i=>!eqC (a.l.c i) (b.l.c i)) 0 a.l.n=bc (fun i=>!eqC (a.l.c i) (b.l.c i)) k (a.l.n-k),
 fun k=>⟨[sl 2 (.p 0 0),sl 3 (.p 1 0),sl 22 (i64 a.l.n),sl 23 (i64 k)],[(0,.lay a.cells 42),(1,.lay b.cells 42)],2,0,[],[]⟩,fun k=>a.l.n-k⟩
theorem SameE_walk:∀a,aK ((fun a=>[(a.1.l.n:Int)≤cJ]) a)→aX (C:=cx) [] [] 0 ⟨[],[],[4],0⟩ Tryz.f24 ((aV eG eG).enc a) fun v H _=>ai ((fun a=>.v (.bool (fc a.1 a.2))) a) H v:=by
 intro⟨a,b⟩ hp
 replace hp:(a.l.n:Int)≤9223372036854775807:=hp
 refine Ai (fun hx=>?_) (fun hx=>?_)
 ·have hx:(decide (¬a.iD=b.iD)||decide (¬(a.l.n:Int)=b.l.n))=true:=hx
  have e:fc a b=false:=by unfold fc;rw[hx];rfl
  simp only[e]
  exact rfl
 have hx:(decide (¬a.iD=b.iD)||decide (¬(a.l.n:Int)=b.l.n))=false:=hx
 have hn:(a.l.n:Int)=b.l.n:=by simp at hx;omega
 refine Exists.intro (sameEC a b) ?_
 refine Ai ?_ ?_
 ·refine⟨(0:Nat),[],[],trivial,⟨Nat.zero_le _,rfl⟩,?_⟩
  repeat' (first|(refine Ai ?_ ?_)|(intro _)|exact rfl)
 refine fun(k:Nat) (hk:k≤a.l.n∧bc (fun i=>!eqC (a.l.c i) (b.l.c i)) 0 (a.l.n)=bc (fun i=>!eqC (a.l.c i) (b.l.c i)) k (a.l.n-k))=>?_
 obtain⟨k1,k2⟩:=hk
 refine Ai (fun hb=>?_) (fun hb=>?_)
 ·have hb:(k:Int)<a.l.n:=Od hb
  have e:=dB (g:=(fun i=>!eqC (a.l.c i) (b.l.c i))) (k:=k) (n:=a.l.n) (by omega)
  refine Ai ⟨by omega,by omega⟩ ?_
  refine Ai ⟨by omega,by omega⟩ ?_
  refine Ai (fun hc=>?_) (fun hc=>?_)
  ·have hc:(fun i=>!eqC (a.l.c i) (b.l.c i)) k=true:=hc
   simp only[hc] at e
   have e0:bc (fun i=>!eqC (a.l.c i) (b.l.c i)) 0 (a.l.n)=true:=by rw[k2,e]
   have e1:fc a b=false:=by unfold fc;rw[e0];simp
   simp only[e1]
   exact rfl
  ·have hc:(fun i=>!eqC (a.l.c i) (b.l.c i)) k=false:=hc
   simp only[hc] at e
   refine Ai (by unfold I64;omega:I64 ((k:Int)+1)) ?_
   refine⟨k+1,[],[],(by show a.l.n-(k+1)<a.l.n-k;omega),⟨by omega,by rw[k2,e]⟩,?_⟩
   repeat' (first|(refine Ai ?_ ?_)|(intro _)|exact rfl)
 ·have hb:¬(k:Int)<a.l.n:=of_decide_eq_false hb
  have e0:bc (fun i=>!eqC (a.l.c i) (b.l.c i)) 0 (a.l.n)=false:=by rw[k2,show a.l.n-k=0 by omega];rfl
  have e1:fc a b=true:=by unfold fc;rw[e0,hx];rfl
  simp only[e1]
  exact rfl
noncomputable def conSameE:Con cx:=ah 24 Tryz.call24 (aV eG eG) _ _ (fun _=>⟨[],[],[4],0⟩) [] (fun _=>rfl) follows Tryz.func24 (by kernel_rfl) SameE_walk
def lI(a b:Wor):Bool:=!(decide (¬a.tick=b.tick)||decide (¬(a.l.n:Int)=b.l.n))&&!bc (fun i=>!fc (a.l.e i) (b.l.e i)) 0 a.l.n
def sameWC(a b:Wor):Cut:=⟨Nat,fun k=>k≤a.l.n∧bc (fun i=>!fc (a.l.e i) (b.l.e i)) 0 a.l.n=bc (fun i=>!fc (a.l.e i) (b.l.e i)) k (a.l.n-k),
 fun k=>⟨[sl 2 (.p 0 0),sl 3 (.p 1 0),sl 22 (i64 a.l.n),sl 23 (i64 k)],[(0,.lay a.cells 28),(1,.lay b.cells 28)],2,0,[],[]⟩,fun k=>a.l.n-k⟩
theorem SameW_walk:∀a,aK ((fun a=>[(a.1.l.n:Int)≤cJ,∀i,i<a.1.l.n→((a.1.l.e i).l.n:Int)≤cJ]) a)→aX (C:=cx) [conSameE] [] 0 ⟨[],[],[4],0⟩ Tryz.f22 ((aV cP cP).enc a) fun v H _=>ai ((fun a=>.v (.bool (lI a.1 a.2))) a) H v:=by
 intro⟨a,b⟩ hp
 obtain⟨hp,hq⟩:(a.l.n:Int)≤9223372036854775807∧∀i,i<a.l.n→((a.l.e i).l.n:Int)≤cJ:=hp
 refine Ai (fun hx=>?_) (fun hx=>?_)
 ·have hx:(decide (¬a.tick=b.tick)||decide (¬(a.l.n:Int)=b.l.n))=true:=hx
  have e:lI a b=false:=by unfold lI;rw[hx];rfl
  simp only[e]
  exact rfl
 have hx:(decide (¬a.tick=b.tick)||decide (¬(a.l.n:Int)=b.l.n))=false:=hx
 have hn:(a.l.n:Int)=b.l.n:=by simp at hx;omega
 refine Exists.intro (sameWC a b) ?_
 refine Ai ?_ ?_
 ·refine⟨(0:Nat),[],[],trivial,⟨Nat.zero_le _,rfl⟩,?_⟩
  repeat' (first|(refine Ai ?_ ?_)|(intro _)|exact rfl)
 refine fun(k:Nat) (hk:k≤a.l.n∧bc (fun i=>!fc (a.l.e i) (b.l.e i)) 0 (a.l.n)=bc (fun i=>!fc (a.l.e i) (b.l.e i)) k (a.l.n-k))=>?_
 obtain⟨k1,k2⟩:=hk
 refine Ai (fun hb=>?_) (fun hb=>?_)
 ·have hb:(k:Int)<a.l.n:=Od hb
  have e:=dB (g:=(fun i=>!fc (a.l.e i) (b.l.e i))) (k:=k) (n:=a.l.n) (by omega)
  refine Ai ⟨by omega,by omega⟩ ?_
  refine Ai ⟨by omega,by omega⟩ ?_
  refine Ai ⟨fun _ _=>trivial,fun _ _=>trivial,hq k (by omega)⟩ ?_
  refine Ai (fun hc=>?_) (fun hc=>?_)
  ·have hc:(fun i=>!fc (a.l.e i) (b.l.e i)) k=true:=hc
   simp only[hc] at e
   have e0:bc (fun i=>!fc (a.l.e i) (b.l.e i)) 0 (a.l.n)=true:=by rw[k2,e]
   have e1:lI a b=false:=by unfold lI;rw[e0];simp
   simp only[e1]
   exact rfl
  ·have hc:(fun i=>!fc (a.l.e i) (b.l.e i)) k=false:=hc
   simp only[hc] at e
   refine Ai (by unfold I64;omega:I64 ((k:Int)+1)) ?_
   refine⟨k+1,[],[],(by show a.l.n-(k+1)<a.l.n-k;omega),⟨by omega,by rw[k2,e]⟩,?_⟩
   repeat' (first|(refine Ai ?_ ?_)|(intro _)|exact rfl)
 ·have hb:¬(k:Int)<a.l.n:=of_decide_eq_false hb
  have e0:bc (fun i=>!fc (a.l.e i) (b.l.e i)) 0 (a.l.n)=false:=by rw[k2,show a.l.n-k=0 by omega];rfl
  have e1:lI a b=true:=by unfold lI;rw[e0,hx];rfl
  simp only[e1]
  exact rfl
noncomputable def conSameW:Con cx:=ah 22 Tryz.call22 (aV cP cP) _ _ (fun _=>⟨[],[],[4],0⟩) [] (fun _=>rfl) follows Tryz.func22 (by kernel_rfl) SameW_walk
set_option maxRecDepth 8000
set_option maxHeartbeats 2000000
structure Rct where
 lowX:Int
 lowY:Int
 highX:Int
 highY:Int
def Rct.sv(b:Rct):SV:=.agg [.v (.int .i64 b.lowX),.v (.int .i64 b.lowY),.v (.int .i64 b.highX),.v (.int .i64 b.highY)]
def Rct.of(x:SV):Rct:=⟨(aS 0 x).iv,(aS 1 x).iv,(aS 2 x).iv,(aS 3 x).iv⟩
def rdRct:Rd Rct:=⟨.agg [.v (.int .i64 0),.v (.int .i64 0),.v (.int .i64 0),.v (.int .i64 0)],Rct.of,Rct.sv,fun _=>rfl⟩
def inR(a:Rct)(p:Vec):Bool:=decide (a.lowX≤p.x)&&decide (p.x≤a.highX)&&decide (a.lowY≤p.y)&&decide (p.y≤a.highY)
theorem In30_walk:∀a,aK ((fun _=>[]) a)→aX (C:=cx) [] [] 0 aw Tryz.f34 ((aV rdRct dW).enc a) fun v H _=>ai ((fun a=>.v (.bool (inR a.1 a.2))) a) H v:=by
 intro⟨a,p⟩ _
 repeat' (first|(refine Ai ?_ ?_)|(intro _)|exact rfl)
 all_goals trace_state
noncomputable def conIn30:Con cx:=ah 34 Tryz.call34 (aV rdRct dW) _ _ (fun _=>aw) [] (fun _=>rfl) follows Tryz.func34 (by kernel_rfl) In30_walk
theorem ClS_walk:∀a,aK ((fun a=>[a.n=0]) a)→aX (C:=cx) [] [] 0 aw Tryz.f77 ((bM rdSyss).enc a) fun v H _=>fE ((fun a=>a.sv) a) H v:=by
 intro l hm
 replace hm:l.n=0:=hm
 intro b hb
 refine Ai (fun h=>?_) (fun h=>?_)
 ·have h:(b != false)=true:=h
  have hn:=hb (by simpa using h)
  exact hn
 have hf:iz l.n 32:=⟨Nat.le_trans (by omega:l.n≤1000) (by decide),by omega⟩
 refine Ai hf ?_
 repeat' (first|(refine Ai ?_ ?_)|(intro _)|exact rfl)
 all_goals exact absurd ‹_<l.n› (by omega)
noncomputable def conClS:Con cx:=jZ 77 Tryz.call77 (bM rdSyss) _ _ (fun _=>aw) [] (fun _=>rfl) follows Tryz.func77 (by kernel_rfl) ClS_walk
def zcpC(w:Wor)(b:Nat):Cut:=⟨Nat,fun k=>k≤w.l.n,fun k=>⟨[sl 2 (.p (b+1) 0),sl 3 (.p (b+2) 0),sl 10 w.l.sv,sl 11 (i64 w.l.n),sl 12 (i64 k)],
 [(b+1,.lay zeroW 28),(b+2,.lay [.v (.int .i64 w.tick),.g (b+3) (b+4) 2 0 k] 28),(b+3,nstE w.l k (b+4))],b+5,0,[],[]⟩,fun k=>w.l.n-k⟩
theorem ZCop_walk:∀a,aK ((fun a=>[a.l.n≤1000,∀i,i<a.l.n→(a.l.e i).l.n≤1000]) a)→aX (C:=cx) [n7] [] 0 ⟨[],[],[3],0⟩ Tryz.f56 ((bM cP).enc a) fun v H _=>fE ((fun a=>a.sv) a) H v:=by
 intro w ⟨hn,hl⟩
 replace hn:w.l.n≤1000:=hn
 replace hl:∀i,i<w.l.n→(w.l.e i).l.n≤1000:=hl
 refine Exists.intro (zcpC w 0) ?_
 refine Ai ?_ ?_
 ·refine⟨(0:Nat),[],[.cellN 2 1 2 1 5 46 42],trivial,Nat.zero_le _,?_⟩
  repeat' (first|(refine Ai ?_ ?_)|(intro _)|exact rfl)
  all_goals exact absurd ‹_<0› (Nat.not_lt_zero _)
 refine fun(k:Nat) (hk:k≤w.l.n)=>?_
 refine Ai (fun hb=>?_) (fun hb=>?_)
 ·have hb:(k:Int)<w.l.n:=Od hb
  refine Ai ⟨by omega,by omega⟩ ?_
  refine Ai ⟨fun _ _=>trivial,hl k (by omega)⟩ ?_
  have hfit:iz (k+1) 32:=⟨Nat.le_trans (by omega:k+1≤1001) (by decide),by omega⟩
  refine Ai ⟨hfit,?_⟩ ?_
  ·repeat' (first|(refine Ai ?_ ?_)|(intro _)|exact rfl)
  refine Ai (by unfold I64;omega:I64 ((k:Int)+1)) ?_
  refine⟨k+1,[(4,8)],[.bB 3],(by show w.l.n-(k+1)<w.l.n-k;omega),(by omega:k+1≤w.l.n),?_⟩
  repeat' (first|(refine Ai ?_ ?_)|(intro _)|exact rfl)
  ·refine aC (α:=List SV) (p:=fun i y=>aH (vqL 5 [(4,8)] (List.set [SV.v (Value.int IntKind.i64 (w.l.e i).iD),SV.e] 1 SV.e) (y.set 1 SV.e))) ?_ ?_ _ ‹_›
   ·exact rfl
   ·exact fun i _=>rfl
  ·refine aC (α:=Nat×(Nat→List SV)) (p:=fun i y=>(w.l.e i).l.n=y.1) ?_ ?_ _ ‹_›
   ·exact rfl
   ·exact fun i _=>rfl
  ·refine aC (α:=Nat×(Nat→List SV)) (p:=fun i y=>∀j,j<y.1→aH (vqL 5 [(4,8)] ((w.l.e i).l.c j).cells (y.2 j))) ?_ ?_ _ ‹_› _ ‹_›
   ·exact fun j _=>⟨rfl,rfl,rfl,rfl,rfl⟩
   ·exact fun i _ j _=>⟨rfl,rfl,rfl,rfl,rfl⟩
 ·have hb:¬(k:Int)<w.l.n:=of_decide_eq_false hb
  obtain rfl:k=w.l.n:=by omega
  repeat' (first|(refine Ai ?_ ?_)|(intro _)|exact rfl)
  all_goals first|(show (_:Int)=_;rw[Nat.zero_add];done)|(show (_:Nat)=_;rw[Nat.zero_add];done)|(show (_:Nat)=_;rw[Nat.zero_add];rfl)
noncomputable def conZCop:Con cx:=jZ 56 Tryz.call56 (bM cP) _ _ (fun _=>⟨[],[],[3],0⟩) [] (fun _=>rfl) follows Tryz.func56 (by kernel_rfl) ZCop_walk
theorem Own30_walk:∀a,aK ((fun a=>[a.wEntities.n≤1000,∀i,i<a.wEntities.n→(a.wEntities.e i).l.n≤1000,a.setupSystems.n=0,a.setupProgs.n=0,a.ropes.n=0]) a)→aX (C:=cx) [conZCop,conClR,conClS] [] 0 ⟨[1,2],[],[],1⟩ Tryz.f40 ((bM lJ).enc a) fun v H _=>ai ((fun a=>a.sv) a) H v:=by
 intro a ⟨h1,h2,h3,h4,h5⟩
 replace h3:a.setupSystems.n=0:=h3
 replace h4:a.setupProgs.n=0:=h4
 replace h5:a.ropes.n=0:=h5
 refine Ai ⟨by repeat' (first|exact trivial|exact rfl|refine Ai ?_ ?_|intro _),h1,h2⟩ ?_
 refine Ai ⟨by repeat' (first|exact trivial|exact rfl|refine Ai ?_ ?_|intro _),(by show a.ropes.n≤1000;omega)⟩ ?_
 refine Ai ⟨by repeat' (first|exact trivial|exact rfl|refine Ai ?_ ?_|intro _),h3⟩ ?_
 refine Ai (fun h=>absurd (show (0:Int)<a.setupProgs.n from Od h) (by omega)) (fun _=>?_)
 repeat' (first|(refine Ai ?_ ?_)|(intro _)|exact rfl)
 all_goals first|exact h4|exact absurd (show _<a.setupSystems.n from ‹_›) (by omega)
noncomputable def conOwn30:Con cx:=ah 40 Tryz.call40 (bM lJ) _ _ (fun _=>⟨[1,2],[],[],1⟩) [1,2] (fun _=>rfl) follows Tryz.func40 (by kernel_rfl) Own30_walk
set_option maxRecDepth 8000
set_option maxHeartbeats 2000000
theorem CompT_walk:∀a,aK ((fun a=>[(a.1.l.n:Int)≤cJ,(bm a.1.l a.2).2=true]) a)→aX (C:=cx) [conIxSB] [] 0 aw Tryz.f57 ((aV eG (rdI .u8)).enc a) fun v H _=>ai ((fun a=>.rp (bm a.1.l a.2).1.cells 0) a) H v:=by
 intro⟨e,q⟩ ⟨hm,hs⟩
 replace hs:(bm e.l q).2=true:=hs
 refine Ai ⟨fun _ _=>trivial,hm,⟨q,rfl⟩⟩ ?_
 replace hm:(e.l.n:Int)≤9223372036854775807:=hm
 have hle:=ixN_le (g:=fun i=>decide ((e.l.c i).kind=q)) (r:=e.l.n) (k:=0)
 by_cases h:ixN (fun i=>decide ((e.l.c i).kind=q)) 0 e.l.n<e.l.n
 ·have ei:ixI (fun i=>decide ((e.l.c i).kind=q)) e.l.n=(ixN (fun i=>decide ((e.l.c i).kind=q)) 0 e.l.n:Nat):=kT rfl h
  have ec:bm e.l q=(e.l.c (ixN (fun i=>decide ((e.l.c i).kind=q)) 0 e.l.n),true):=by unfold bm;rw[decide_eq_true h]
  simp only[ec]
  refine Ai (fun hc=>?_) (fun hc=>?_)
  ·have hc:decide (ixI (fun i=>decide ((e.l.c i).kind=q)) e.l.n<0)=true:=hc
   rw[ei] at hc
   have:=Od hc
   omega
  ·refine Ai (show 0≤ixI (fun i=>decide ((e.l.c i).kind=q)) e.l.n∧ixI (fun i=>decide ((e.l.c i).kind=q)) e.l.n<(e.l.n:Nat) by rw[ei];omega) ?_
   have et:(ixI (fun i=>decide ((e.l.c i).kind=q)) e.l.n).toNat=ixN (fun i=>decide ((e.l.c i).kind=q)) 0 e.l.n:=by rw[ei];rfl
   repeat' (first|(refine Ai ?_ ?_)|(intro _))
   all_goals first|exact rfl|exact congrArg (fun i=>(e.l.c i).kind) et.symm|exact congrArg (fun i=>(e.l.c i).v0) et.symm|exact congrArg (fun i=>(e.l.c i).v1) et.symm|exact congrArg (fun i=>(e.l.c i).v2) et.symm|exact congrArg (fun i=>(e.l.c i).v3) et.symm
 ·have ec:bm e.l q=(aJ.no,false):=by unfold bm;rw[decide_eq_false h]
  rw[ec] at hs;exact absurd (show false=true from hs) (by decide)
noncomputable def conCompT:Con cx:=ah 57 Tryz.call57 (aV eG (rdI .u8)) _ _ (fun _=>aw) [] (fun _=>rfl) follows Tryz.func57 (by kernel_rfl) CompT_walk
theorem pushI(l:List Int)(x:Int){i:Nat}(hi:i<l.length+1):(l++[x]).getD i 0=bif Nat.ble l.length i then x else l.getD i 0:=by
 by_cases h:i<l.length
 ·rw[show Nat.ble l.length i=false from by cases e:Nat.ble l.length i;rfl;exact absurd (Nat.le_of_ble_eq_true e) (by omega)]
  simp[List.getD_eq_getElem?_getD,List.getElem?_append_left h]
 ·rw[show Nat.ble l.length i=true from Nat.ble_eq_true_of_le (by omega)]
  have:i=l.length:=by omega
  subst this
  simp[List.getD_eq_getElem?_getD]
def outE(a:Rct)(e:Ent):Bool:=!inR a ⟨(bm e.l 1).1.v0,(bm e.l 1).1.v1⟩
def gG(a:Rct)(l:Ens)(k:Nat):List Int:=gH (fun i=>(l.e i).iD) (fun i=>outE a (l.e i)) k
def goneC(a:Rct)(w:Wor):Cut:=⟨Nat,fun k=>k≤w.l.n,fun k=>⟨[sl 2 (.p 0 0),sl 5 (.g 2 3 1 0 (gG a w.l k).length),sl 10 w.l.sv,sl 11 (i64 w.l.n),sl 12 (i64 k)],
 [(0,.lay [.v (.int .i64 a.lowX),.v (.int .i64 a.lowY),.v (.int .i64 a.highX),.v (.int .i64 a.highY)] 25),(2,.lst 3 1 (gG a w.l k).length (fun i=>[.v (.int .i64 ((gG a w.l k).getD i 0))]) 3)],4,0,[],[]⟩,fun k=>w.l.n-k⟩
theorem Gone30_walk:∀a,aK ((fun a=>[a.2.l.n≤1000,∀i,i<a.2.l.n→((a.2.l.e i).l.n:Int)≤cJ,∀i,i<a.2.l.n→(bm (a.2.l.e i).l 1).2=true]) a)→aX (C:=cx) [conCompT,conIn30] [] 0 ⟨[6],[],[3],0⟩ Tryz.f45 ((aV rdRct cP).enc a) fun v H _=>ai ((fun a=>.rs 1 (gG a.1 a.2.l a.2.l.n).length (fun i=>[.v (.int .i64 ((gG a.1 a.2.l a.2.l.n).getD i 0))])) a) H v:=by
 intro⟨a,w⟩ ⟨h1,h2,h3⟩
 replace h1:w.l.n≤1000:=h1
 replace h2:∀i,i<w.l.n→((w.l.e i).l.n:Int)≤cJ:=h2
 replace h3:∀i,i<w.l.n→(bm (w.l.e i).l 1).2=true:=h3
 refine Exists.intro (goneC a w) ?_
 refine Ai ?_ ?_
 ·refine⟨(0:Nat),[],[.slot2 5 1 3],trivial,Nat.zero_le _,?_⟩
  repeat' (first|(refine Ai ?_ ?_)|(intro _)|exact rfl)
  all_goals exact absurd ‹_<0› (Nat.not_lt_zero _)
 refine fun(k:Nat) (hk:k≤w.l.n)=>?_
 refine Ai (fun hb=>?_) (fun hb=>?_)
 ·have hb:(k:Int)<w.l.n:=Od hb
  refine Ai ⟨by omega,by omega⟩ ?_
  refine Ai ⟨by repeat' (first|exact trivial|exact rfl|refine Ai ?_ ?_|intro _),h2 k (by omega),h3 k (by omega)⟩ ?_
  have hlen:=jc (f:=fun i=>(w.l.e i).iD) (g:=fun i=>outE a (w.l.e i)) k
  refine Ai (fun hc=>?_) (fun hc=>?_)
  ·have hc:outE a (w.l.e k)=true:=hc
   have ey:=gX (f:=fun i=>(w.l.e i).iD) (g:=fun i=>outE a (w.l.e i)) hc
   have em:∀i,i<(gG a w.l k).length+1→(gG a w.l (k+1)).getD i 0=bif Nat.ble (gG a w.l k).length i then(w.l.e k).iD else(gG a w.l k).getD i 0:=fun i hi=>(congrArg (fun l=>l.getD i 0) ey).trans (pushI _ _ hi)
   have hfit:iz ((gG a w.l k).length+1) 8:=⟨Nat.le_trans (by unfold gG;omega:(gG a w.l k).length+1≤1001) (by decide),by unfold gG;omega⟩
   refine Ai ⟨hfit,by repeat' (first|exact trivial|exact rfl|refine Ai ?_ ?_|intro _)⟩ ?_
   refine Ai (by unfold I64;omega:I64 ((k:Int)+1)) ?_
   refine⟨k+1,[(3,6)],[],(by show w.l.n-(k+1)<w.l.n-k;omega),(by show k+1≤w.l.n;omega),?_⟩
   repeat' (first|(refine Ai ?_ ?_)|(intro _)|exact rfl)
   all_goals first|exact(congrArg List.length ey).trans List.length_append|exact em _ ‹_›|trace_state
  ·have hc:outE a (w.l.e k)=false:=hc
   have ey:=jb (f:=fun i=>(w.l.e i).iD) (g:=fun i=>outE a (w.l.e i)) hc
   refine Ai (by unfold I64;omega:I64 ((k:Int)+1)) ?_
   refine⟨k+1,[],[],(by show w.l.n-(k+1)<w.l.n-k;omega),(by show k+1≤w.l.n;omega),?_⟩
   repeat' (first|(refine Ai ?_ ?_)|(intro _)|exact rfl)
   all_goals first|exact congrArg List.length ey|(rename_i i _;exact congrArg (fun l:List Int=>l.getD i 0) ey)|trace_state
 ·have hb:¬(k:Int)<w.l.n:=of_decide_eq_false hb
  obtain rfl:k=w.l.n:=by omega
  repeat' (first|(refine Ai ?_ ?_)|(intro _)|exact rfl)
  all_goals first|exact congrArg (fun i=>(gG a w.l w.l.n).getD i 0) (Nat.zero_add _).symm|trace_state
set_option maxRecDepth 8000
set_option maxHeartbeats 2000000
def Zon.area(z:Zon):Rct:=⟨z.areaLowX,z.areaLowY,z.areaHighX,z.areaHighY⟩
def Zon.w(z:Zon):Wor:=⟨z.wTick,z.wEntities⟩
def Zon.stp(z:Zon):Stp:=⟨z.setupSystems,z.setupProgs,z.setupSeed,z.setupFuel⟩
def bigR:Rct:=⟨-1048576,-1048576,1048576,1048576⟩
def gravR:Rct:=⟨-4096,-4096,4096,4096⟩
structure Zon.Ok (z:Zon):Prop where
 lo:inR bigR ⟨z.areaLowX,z.areaLowY⟩=true
 hi:inR bigR ⟨z.areaHighX,z.areaHighY⟩=true
 in_:inR z.area ⟨z.areaLowX,z.areaLowY⟩=true
 gr:inR gravR ⟨z.gravityX,z.gravityY⟩=true
 ro:z.ropes.n=0
 st:z.stp.None
theorem ZValid_walk:∀a,aK ((fun a=>[a.w.l.Sm,a.w.valid=true,a.Ok]) a)→aX (C:=cx) [conIn30,je,conWValid0] [inCfR,inIxR] 2 ⟨[],[],[],2⟩ Tryz.f14 ((bM lJ).enc a) fun v H _=>ai ((fun a=>.v (.bool a.w.valid)) a) H v:=by
 intro z ⟨hs,hv,hz⟩
 replace hs:z.w.l.Sm:=hs
 replace hv:z.w.valid=true:=hv
 replace hz:z.Ok:=hz
 have hro:=hz.ro
 have hbad:(!inR bigR ⟨z.areaLowX,z.areaLowY⟩||!inR bigR ⟨z.areaHighX,z.areaHighY⟩||!inR z.area ⟨z.areaLowX,z.areaLowY⟩||!inR gravR ⟨z.gravityX,z.gravityY⟩||decide ((32:Int)<z.ropes.n))=false:=by
  rw[hz.lo,hz.hi,hz.in_,hz.gr,decide_eq_false (by omega)];rfl
 refine Ai (fun hb=>absurd (show (!inR bigR ⟨z.areaLowX,z.areaLowY⟩||!inR bigR ⟨z.areaHighX,z.areaHighY⟩||!inR z.area ⟨z.areaLowX,z.areaLowY⟩||!inR gravR ⟨z.gravityX,z.gravityY⟩||decide ((32:Int)<z.ropes.n))=true from hb) (by rw[hbad];decide)) (fun _=>?_)
 refine Ai (fun hh=>absurd (show (0:Int)<z.ropes.n from Od hh) (by omega)) (fun _=>?_)
 refine Ai (fun _=>⟨by repeat' (first|exact trivial|exact rfl|refine Ai ?_ ?_|intro _),hs⟩) ?_
 refine Ai (fun _=>⟨by repeat' (first|exact trivial|exact rfl|refine Ai ?_ ?_|intro _),by repeat' (first|exact trivial|exact rfl|refine Ai ?_ ?_|intro _),hz.st⟩) ?_
 first
  | exact(show (z.w.valid&&true)=true by rw[hv];rfl)
  | exact(show true=(z.w.valid&&true) by rw[hv];rfl)
  | exact(show z.w.valid=true from hv)
  | exact(show true=z.w.valid from hv.symm)
  | exact(show z.w.valid=(z.w.valid&&true) by rw[hv];rfl)
  | exact(show z.w.valid=(z.w.valid||false) by rw[hv];rfl)
noncomputable def conZValid:Con cx:=ah 14 Tryz.call14 (bM lJ) _ _ (fun _=>⟨[],[],[],2⟩) [] (fun _=>rfl) follows Tryz.func14 (by kernel_rfl) ZValid_walk
def mT(a b:Fam):Bool:=decide (a.n=b.n)&&!bc (fun i=>decide (¬a.g i=b.g i)) 0 a.n
def intsC(a b:Fam):Cut:=⟨Nat,fun k=>k≤a.n∧bc (fun i=>decide (¬a.g i=b.g i)) 0 a.n=bc (fun i=>decide (¬a.g i=b.g i)) k (a.n-k),
 fun k=>⟨[sl 0 (.rs 1 a.n fun i=>[.v (.int .i64 (a.g i))]),sl 1 (.rs 1 b.n fun i=>[.v (.int .i64 (b.g i))]),sl 12 (i64 a.n),sl 13 (i64 k)],[],0,0,[],[]⟩,fun k=>a.n-k⟩
theorem Ints_walk:∀a,aK ((fun a=>[(a.1.n:Int)≤cJ]) a)→aX (C:=cx) [] [] 0 ⟨[],[],[4],0⟩ Tryz.f20 ((aV (rdF .i64) (rdF .i64)).enc a) fun v H _=>ai ((fun a=>.v (.bool (mT a.1 a.2))) a) H v:=by
 intro⟨a,b⟩ hp
 replace hp:(a.n:Int)≤9223372036854775807:=hp
 refine Ai (fun hx=>?_) (fun hx=>?_)
 ·have hx:decide (¬(a.n:Int)=b.n)=true:=hx
  have:=Od hx
  have e:mT a b=false:=by unfold mT;rw[decide_eq_false (by omega)];rfl
  simp only[e]
  exact rfl
 have hx:decide (¬(a.n:Int)=b.n)=false:=hx
 have hx:=of_decide_eq_false hx
 have hn:a.n=b.n:=by omega
 refine Exists.intro (intsC a b) ?_
 refine Ai ?_ ?_
 ·refine⟨(0:Nat),[],[],trivial,⟨Nat.zero_le _,rfl⟩,?_⟩
  repeat' (first|(refine Ai ?_ ?_)|(intro _)|exact rfl)
 refine fun(k:Nat) (hk:k≤a.n∧bc (fun i=>decide (¬a.g i=b.g i)) 0 a.n=bc (fun i=>decide (¬a.g i=b.g i)) k (a.n-k))=>?_
 obtain⟨k1,k2⟩:=hk
 refine Ai (fun hb=>?_) (fun hb=>?_)
 ·have hb:(k:Int)<a.n:=Od hb
  have e:=dB (g:=fun i=>decide (¬a.g i=b.g i)) (k:=k) (n:=a.n) (by omega)
  refine Ai ⟨by omega,by omega⟩ ?_
  refine Ai ⟨by omega,by omega⟩ ?_
  refine Ai (fun hc=>?_) (fun hc=>?_)
  ·have hc:decide (¬a.g k=b.g k)=true:=hc
   simp only[hc] at e
   have e2:mT a b=false:=by unfold mT;rw[k2,e,Bool.not_true,Bool.and_false]
   simp only[e2]
   exact rfl
  ·have hc:decide (¬a.g k=b.g k)=false:=hc
   simp only[hc] at e
   refine Ai (by unfold I64;omega:I64 ((k:Int)+1)) ?_
   refine⟨k+1,[],[],(by show a.n-(k+1)<a.n-k;omega),⟨by omega,by rw[k2,e]⟩,?_⟩
   repeat' (first|(refine Ai ?_ ?_)|(intro _)|exact rfl)
 ·have hb:¬(k:Int)<a.n:=of_decide_eq_false hb
  have e2:mT a b=true:=by unfold mT;rw[k2,show a.n-k=0 by omega,decide_eq_true hn];rfl
  simp only[e2]
  exact rfl
noncomputable def conInts:Con cx:=ah 20 Tryz.call20 (aV (rdF .i64) (rdF .i64)) _ _ (fun _=>⟨[],[],[4],0⟩) [] (fun _=>rfl) follows Tryz.func20 (by kernel_rfl) Ints_walk
set_option maxRecDepth 8000
set_option maxHeartbeats 2000000
def Sysm.Nm(b:Sysm):Prop:=∃v,b.name=.v (.string v)
structure Zon.Sm (z:Zon):Prop where
 l:z.wEntities.Sm
 s:(z.setupSystems.n:Int)≤cJ
 p:(z.setupProgs.n:Int)≤cJ
 c:∀i,i<z.setupProgs.n→((z.setupProgs.e i).code.n:Int)≤cJ
 r:(z.ropes.n:Int)≤cJ
 nm:∀i,i<z.setupSystems.n→(z.setupSystems.e i).Nm
theorem fU{nm:Nat}{b:Sysm}(h:b.Nm):aH (vqL nm [] b.cells b.cells):=by
 obtain⟨v,e⟩:=h
 obtain⟨n,r,w,p⟩:=b
 obtain rfl:n=.v (.string v):=e
 repeat' (first|exact rfl|exact trivial|(refine Ai ?_ ?_))
def fewA(w:Wor)(s:Stp):Bool:=decide ((10:Int)<w.l.n)||decide ((6:Int)<s.systems.n)||decide ((6:Int)<s.progs.n)||(decide (600<s.fuel)&&decide (s.fuel≤10000))
def few1(w:Wor)(i:Nat):Bool:=decide ((12:Int)<((w.l.e i).l.n:Nat))
def few2(s:Stp)(i:Nat):Bool:=decide ((200:Int)<((s.progs.e i).code.n:Nat))
def lQ(w:Wor)(s:Stp):Bool:=!fewA w s&&!bc (few1 w) 0 w.l.n&&!bc (few2 s) 0 s.progs.n
def few1C(w:Wor)(s:Stp):Cut:=⟨Nat,fun k=>k≤w.l.n∧bc (few1 w) 0 w.l.n=bc (few1 w) k (w.l.n-k),fun k=>⟨[sl 3 (.p 1 0),sl 36 w.l.sv,sl 37 (i64 w.l.n),sl 38 (i64 k)],[(1,.lay s.cells 33)],2,0,[],[]⟩,fun k=>w.l.n-k⟩
def few2C(s:Stp):Cut:=⟨Nat,fun k=>k≤s.progs.n∧bc (few2 s) 0 s.progs.n=bc (few2 s) k (s.progs.n-k),fun k=>⟨[sl 48 s.progs.sv,sl 49 (i64 s.progs.n),sl 50 (i64 k)],[],2,0,[],[]⟩,fun k=>s.progs.n-k⟩
theorem Few17_walk:∀a,aK ((fun a=>[a.1.l.Sm,(a.2.progs.n:Int)≤cJ,∀i,i<a.2.systems.n→(a.2.systems.e i).Nm]) a)→aX (C:=cx) [] [] 0 ⟨[],[],[4,10],0⟩ Tryz.f35 ((aV cP rdStp).enc a) fun v H _=>ai ((fun a=>.v (.bool (lQ a.1 a.2))) a) H v:=by
 intro⟨w,s⟩ ⟨hm,hp,hs⟩
 replace hs:∀i,i<s.systems.n→(s.systems.e i).Nm:=hs
 replace hm:w.l.Sm:=hm
 have hn:(w.l.n:Int)≤9223372036854775807:=hm.1
 replace hp:(s.progs.n:Int)≤9223372036854775807:=hp
 refine Ai (fun hx=>?_) (fun hx=>?_)
 ·have hx:fewA w s=true:=hx
  have e:lQ w s=false:=by unfold lQ;rw[hx];rfl
  simp only[e]
  exact rfl
 have hx:fewA w s=false:=hx
 refine Exists.intro (few1C w s) ?_
 refine Ai ?_ ?_
 ·refine⟨(0:Nat),[],[],trivial,⟨Nat.zero_le _,rfl⟩,?_⟩
  repeat' (first|(refine Ai ?_ ?_)|(intro _)|exact rfl)
  all_goals exact fU (hs _ (by assumption))
 refine fun(k:Nat) (hk:k≤w.l.n∧bc (few1 w) 0 w.l.n=bc (few1 w) k (w.l.n-k))=>?_
 obtain⟨k1,k2⟩:=hk
 refine Ai (fun hb=>?_) (fun hb=>?_)
 ·have hb:(k:Int)<w.l.n:=Od hb
  have e:=dB (g:=few1 w) (k:=k) (n:=w.l.n) (by omega)
  refine Ai ⟨by omega,by omega⟩ ?_
  refine Ai (fun hc=>?_) (fun hc=>?_)
  ·have hc:few1 w k=true:=hc
   simp only[hc] at e
   have e1:lQ w s=false:=by unfold lQ;rw[k2,e];simp
   simp only[e1]
   exact rfl
  ·have hc:few1 w k=false:=hc
   simp only[hc] at e
   refine Ai (by unfold I64;omega:I64 ((k:Int)+1)) ?_
   refine⟨k+1,[],[],(by show w.l.n-(k+1)<w.l.n-k;omega),⟨by omega,by rw[k2,e]⟩,?_⟩
   repeat' (first|(refine Ai ?_ ?_)|(intro _)|exact rfl)
   all_goals exact fU (hs _ (by assumption))
 have hb:¬(k:Int)<w.l.n:=of_decide_eq_false hb
 have a1:bc (few1 w) 0 w.l.n=false:=by rw[k2,show w.l.n-k=0 by omega];rfl
 refine Exists.intro (few2C s) ?_
 refine Ai ?_ ?_
 ·refine⟨(0:Nat),[],[],trivial,⟨Nat.zero_le _,rfl⟩,?_⟩
  repeat' (first|(refine Ai ?_ ?_)|(intro _)|exact rfl)
  all_goals exact fU (hs _ (by assumption))
 refine fun(k:Nat) (hk:k≤s.progs.n∧bc (few2 s) 0 s.progs.n=bc (few2 s) k (s.progs.n-k))=>?_
 obtain⟨k1,k2⟩:=hk
 refine Ai (fun hb=>?_) (fun hb=>?_)
 ·have hb:(k:Int)<s.progs.n:=Od hb
  have e:=dB (g:=few2 s) (k:=k) (n:=s.progs.n) (by omega)
  refine Ai ⟨by omega,by omega⟩ ?_
  refine Ai (fun hc=>?_) (fun hc=>?_)
  ·have hc:few2 s k=true:=hc
   simp only[hc] at e
   have e1:lQ w s=false:=by unfold lQ;rw[k2,e];simp
   simp only[e1]
   exact rfl
  ·have hc:few2 s k=false:=hc
   simp only[hc] at e
   refine Ai (by unfold I64;omega:I64 ((k:Int)+1)) ?_
   refine⟨k+1,[],[],(by show s.progs.n-(k+1)<s.progs.n-k;omega),⟨by omega,by rw[k2,e]⟩,?_⟩
   repeat' (first|(refine Ai ?_ ?_)|(intro _)|exact rfl)
   all_goals exact fU (hs _ (by assumption))
 ·have hb:¬(k:Int)<s.progs.n:=of_decide_eq_false hb
  have a2:bc (few2 s) 0 s.progs.n=false:=by rw[k2,show s.progs.n-k=0 by omega];rfl
  have e1:lQ w s=true:=by unfold lQ;rw[a1,a2,hx];rfl
  simp only[e1]
  exact rfl
noncomputable def conFew17:Con cx:=ah 35 Tryz.call35 (aV cP rdStp) _ _ (fun _=>⟨[],[],[4,10],0⟩) [] (fun _=>rfl) follows Tryz.func35 (by kernel_rfl) Few17_walk
def slowB(n:Int):Bool:=decide (-300≤n)&&decide (n≤300)
theorem Slow_walk:∀a,aK ((fun _=>[]) a)→aX (C:=cx) [] [] 0 aw Tryz.f36 ((bM (rdI .i64)).enc a) fun v H _=>ai ((fun n=>.v (.bool (slowB n))) a) H v:=by
 intro n _
 exact rfl
noncomputable def conSlow:Con cx:=ah 36 Tryz.call36 (bM (rdI .i64)) _ _ (fun _=>aw) [] (fun _=>rfl) follows Tryz.func36 (by kernel_rfl) Slow_walk
def nj(c:aJ):Bool:=decide (c.kind=2)&&(!slowB c.v0||!slowB c.v1)
def fewG(z:Zon):Bool:=(slowB z.gravityX&&slowB z.gravityY)||decide (4096<z.gravityX)||decide (4096<z.gravityY)||decide (z.gravityX < -4096)||decide (z.gravityY < -4096)
def fewB(z:Zon)(l:bw):Bool:=!lQ z.w z.stp||decide ((20:Int)<l.n)||decide ((34:Int)<z.ropes.n)
def fewV(z:Zon)(i:Nat):Bool:=bc (fun k=>nj ((z.wEntities.e i).l.c k)) 0 (z.wEntities.e i).l.n
def few30(z:Zon)(l:bw):Bool:=!fewB z l&&!bc (fewV z) 0 z.wEntities.n&&fewG z
def slowF:SV:=.v (.func (.func 36) #[] #[])
def fvC(z:Zon):Cut:=⟨Nat,fun k=>k≤z.wEntities.n∧bc (fewV z) 0 z.wEntities.n=bc (fewV z) k (z.wEntities.n-k),fun k=>⟨[sl 2 (.p 0 0),sl 5 slowF,sl 29 z.wEntities.sv,sl 30 (i64 z.wEntities.n),sl 31 (i64 k)],[(0,.lay z.cells 36)],1,0,[],[]⟩,fun k=>z.wEntities.n-k⟩
def fwC(z:Zon)(i:Nat):Cut:=⟨Nat,fun k=>k≤(z.wEntities.e i).l.n∧fewV z i=bc (fun k=>nj ((z.wEntities.e i).l.c k)) k ((z.wEntities.e i).l.n-k),fun k=>⟨[sl 2 (.p 0 0),sl 5 slowF,sl 29 z.wEntities.sv,sl 30 (i64 z.wEntities.n),sl 31 (i64 i),sl 36 (z.wEntities.e i).l.sv,sl 37 (i64 (z.wEntities.e i).l.n),sl 38 (i64 k)],[(0,.lay z.cells 36)],1,0,[],[]⟩,fun k=>(z.wEntities.e i).l.n-k⟩
theorem Few30_walk:∀a,aK ((fun a=>[a.1.wEntities.Sm,(a.1.setupProgs.n:Int)≤cJ,∀i,i<a.1.setupSystems.n→(a.1.setupSystems.e i).Nm]) a)→aX (C:=cx) [conFew17,conSlow] [] 0 ⟨[],[],[5,8],0⟩ Tryz.f10 ((aV lJ iQ).enc a) fun v H _=>ai ((fun a=>.v (.bool (few30 a.1 a.2))) a) H v:=by
 intro⟨z,l⟩ ⟨hm,hp,hs⟩
 replace hs:∀i,i<z.setupSystems.n→(z.setupSystems.e i).Nm:=hs
 replace hm:z.wEntities.Sm:=hm
 replace hp:(z.setupProgs.n:Int)≤cJ:=hp
 have hn:(z.wEntities.n:Int)≤9223372036854775807:=hm.1
 refine Ai ⟨fun _ _ _ _=>trivial,by repeat' (first|exact trivial|exact rfl|refine Ai ?_ ?_|intro _),by repeat' (first|exact trivial|exact rfl|refine Ai ?_ ?_|intro _),hm,hp,hs⟩ ?_
 refine Ai (fun hx=>?_) (fun hx=>?_)
 ·have hx:fewB z l=true:=hx
  have e:few30 z l=false:=by unfold few30;rw[hx];rfl
  simp only[e]
  exact rfl
 have hx:fewB z l=false:=hx
 refine Exists.intro (fvC z) ?_
 refine Ai ?_ ?_
 ·refine⟨(0:Nat),[],[],trivial,⟨Nat.zero_le _,rfl⟩,?_⟩
  repeat' (first|(refine Ai ?_ ?_)|(intro _)|exact rfl)
  all_goals exact fU (hs _ (by assumption))
 refine fun(i:Nat) (hi:i≤z.wEntities.n∧bc (fewV z) 0 z.wEntities.n=bc (fewV z) i (z.wEntities.n-i))=>?_
 obtain⟨i1,i2⟩:=hi
 refine Ai (fun hb=>?_) (fun hb=>?_)
 ·have hb:(i:Int)<z.wEntities.n:=Od hb
  have ei:=dB (g:=fewV z) (k:=i) (n:=z.wEntities.n) (by omega)
  have hc:((z.wEntities.e i).l.n:Int)≤9223372036854775807:=(hm.2 i (by omega)).1
  refine Ai ⟨by omega,by omega⟩ ?_
  refine Exists.intro (fwC z i) ?_
  refine Ai ?_ ?_
  ·refine⟨(0:Nat),[],[],trivial,⟨Nat.zero_le _,rfl⟩,?_⟩
   repeat' (first|(refine Ai ?_ ?_)|(intro _)|exact rfl)
   all_goals exact fU (hs _ (by assumption))
  refine fun(k:Nat) (hk:k≤(z.wEntities.e i).l.n∧fewV z i=bc (fun k=>nj ((z.wEntities.e i).l.c k)) k ((z.wEntities.e i).l.n-k))=>?_
  obtain⟨k1,k2⟩:=hk
  refine Ai (fun hb=>?_) (fun hb=>?_)
  ·have hb:(k:Int)<(z.wEntities.e i).l.n:=Od hb
   have e:=dB (g:=fun k=>nj ((z.wEntities.e i).l.c k)) (k:=k) (n:=(z.wEntities.e i).l.n) (by omega)
   refine Ai ⟨by omega,by omega⟩ ?_
   refine Ai (fun hq=>?_) (fun hq=>?_)
   ·have hq:(fun k=>nj ((z.wEntities.e i).l.c k)) k=true:=hq
    simp only[hq] at e
    have e0:fewV z i=true:=by rw[k2,e]
    simp only[e0] at ei
    have e1:few30 z l=false:=by unfold few30;rw[i2,ei];simp
    simp only[e1]
    exact rfl
   ·have hq:(fun k=>nj ((z.wEntities.e i).l.c k)) k=false:=hq
    simp only[hq] at e
    refine Ai (by unfold I64;omega:I64 ((k:Int)+1)) ?_
    refine⟨k+1,[],[],(by show (z.wEntities.e i).l.n-(k+1)<(z.wEntities.e i).l.n-k;omega),⟨by omega,by rw[k2,e]⟩,?_⟩
    repeat' (first|(refine Ai ?_ ?_)|(intro _)|exact rfl)
    all_goals exact fU (hs _ (by assumption))
  ·have hb:¬(k:Int)<(z.wEntities.e i).l.n:=of_decide_eq_false hb
   have e0:fewV z i=false:=by rw[k2,show (z.wEntities.e i).l.n-k=0 by omega];rfl
   simp only[e0] at ei
   refine Ai (by unfold I64;omega:I64 ((i:Int)+1)) ?_
   refine⟨i+1,[],[],(by show z.wEntities.n-(i+1)<z.wEntities.n-i;omega),⟨by omega,by rw[i2,ei]⟩,?_⟩
   repeat' (first|(refine Ai ?_ ?_)|(intro _)|exact rfl)
   all_goals exact fU (hs _ (by assumption))
 ·have hb:¬(i:Int)<z.wEntities.n:=of_decide_eq_false hb
  have a2:bc (fewV z) 0 z.wEntities.n=false:=by rw[i2,show z.wEntities.n-i=0 by omega];rfl
  have e1:few30 z l=fewG z:=by unfold few30;rw[a2,hx];rfl
  simp only[e1]
  exact rfl
noncomputable def conFew30:Con cx:=ah 10 Tryz.call10 (aV lJ iQ) _ _ (fun _=>⟨[],[],[5,8],0⟩) [] (fun _=>rfl) follows Tryz.func10 (by kernel_rfl) Few30_walk
end Go.Proofs.YtgigkennhdolpaaGreatDoor
