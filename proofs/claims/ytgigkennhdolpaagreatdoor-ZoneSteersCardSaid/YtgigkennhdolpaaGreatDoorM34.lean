/- step.Back: the world behind a step. -/
import Derived.Test.YtgigkennhdolpaaGreatDoorM32
import Derived.Test.YtgigkennhdolpaaGreatDoorM33
import Derived.Test.YtgigkennhdolpaaGreatDoorM21
namespace Go.Proofs.YtgigkennhdolpaaGreatDoor
open Go.RowKit
set_option maxRecDepth 8000
set_option maxHeartbeats 2000000 in
theorem CloneO_walk:∀a,aK ((fun a=>[a.n≤1000]) a)→aX (C:=cx) [] [] 0 aw Tryz.f92 ((bM gE).enc a) fun v H _=>resOutO ((fun a=>a.sv) a) 46 H v:=by
 intro l hm
 replace hm:l.n≤1000:=hm
 intro b hb
 refine Ai (fun h=>?_) (fun h=>?_)
 ·have h:(b != false)=true:=h
  have hn:=hb (by simpa using h)
  exact⟨hn,hn⟩
 have hf:iz l.n 40:=⟨Nat.le_trans hm (by decide),by omega⟩
 refine Ai hf ?_
 repeat' (first|(refine Ai ?_ ?_)|(intro _)|exact rfl)
 all_goals (show (_:Int)=_;first|(rw[Nat.zero_add];done)|(rw[Nat.zero_add];rfl))
noncomputable def n7:Con cx:=walkConO 92 Tryz.call92 (bM gE) (fun a=>[a.n≤1000]) (fun a=>a.sv) 46 (fun _=>aw) [] (fun _=>rfl) follows Tryz.func92 (by kernel_rfl) CloneO_walk
theorem aC{α:Type}{k:Nat}{x:α}{f:Nat→α}{p:Nat→α→Prop}(h1:p k x)(h2:∀i,i<k→p i (f i)):∀i,i<k+1→p i (putF k x f i):=fun i hi=>by
 by_cases e:i=k
 ·subst e;rw[putF_eq];exact h1
 ·rw[putF_ne e];exact h2 i (by omega)
def nstE(l:Ens)(k e:Nat):SB:=.nst e 2 k (fun i=>[.v (.int .i64 (l.e i).iD),.e]) 1 5 (fun i=>((l.e i).l.n,fun j=>((l.e i).l.c j).cells)) 46 42 none
def zeroW:List SV:=[.il .i64 0,.v (.slice none 0 0)]
def ixC(l:Cms)(q:Int):Nat:=ixN (fun i=>decide ((l.c i).kind=q)) 0 l.n
def dP(l:Cms)(q:Int):Bool:=decide (ixC l q<l.n)
theorem ik{l:Cms}{q:Int} : (bm l q).2=dP l q:=by
 unfold bm dP ixC
 cases decide (ixN (fun i=>decide ((l.c i).kind=q)) 0 l.n<l.n)<;>rfl
theorem cmpF_at{l:Cms}{q:Int}(h:dP l q=true):(bm l q).1=l.c (ixC l q):=by
 unfold bm
 unfold dP ixC at h
 rw[h];rfl
theorem kr{l:Cms}{q:Int}(h:dP l q=true):(l.c (ixC l q)).kind=q:=by
 have:=ixN_hit (g:=fun i=>decide ((l.c i).kind=q)) (k:=0) (r:=l.n) (by have:=Od h;unfold ixC at this;omega)
 exact Od this
def code3(b1 b2 b3:Bool):Nat:=match b1,b2,b3 with
 | false,false,false=>0
 | false,false,true=>16
 | false,true,false=>32
 | false,true,true=>48
 | true,false,false=>64
 | true,false,true=>80
 | true,true,false=>96
 | true,true,true=>112
def selN(nm:Nat)(q:Int):Bool:=match (nm-8)/16,q with
 | 1,.ofNat 3=>true
 | 2,.ofNat 2=>true
 | 3,.ofNat 2=>true
 | 3,.ofNat 3=>true
 | 4,.ofNat 1=>true
 | 5,.ofNat 1=>true
 | 5,.ofNat 3=>true
 | 6,.ofNat 1=>true
 | 6,.ofNat 2=>true
 | 7,.ofNat 1=>true
 | 7,.ofNat 2=>true
 | 7,.ofNat 3=>true
 | _,_=>false
def im(n:Int):Int:=max (min n 1048576) (-1048576)
def lx(p v:Int):Int:=bif decide (im (p+v)=p+v) then v else 0
def ig(e:Ent):Ent:=⟨e.iD,⟨e.l.n,fun j=>
 bif Nat.beq j (ixC e.l 1) then⟨(e.l.c (ixC e.l 1)).kind,im ((e.l.c (ixC e.l 1)).v0+(e.l.c (ixC e.l 2)).v0),im ((e.l.c (ixC e.l 1)).v1+(e.l.c (ixC e.l 2)).v1),(e.l.c (ixC e.l 1)).v2,(e.l.c (ixC e.l 1)).v3⟩
 else bif Nat.beq j (ixC e.l 2) then⟨(e.l.c (ixC e.l 2)).kind,lx (e.l.c (ixC e.l 1)).v0 (e.l.c (ixC e.l 2)).v0,lx (e.l.c (ixC e.l 1)).v1 (e.l.c (ixC e.l 2)).v1,(e.l.c (ixC e.l 2)).v2,(e.l.c (ixC e.l 2)).v3⟩
 else e.l.c j⟩⟩
def jD(e:Ent)(b:Body):Ent:=⟨e.iD,⟨e.l.n,fun j=>
 bif Nat.beq j (ixC e.l 1) then⟨(e.l.c (ixC e.l 1)).kind,b.posX,b.posY,(e.l.c (ixC e.l 1)).v2,(e.l.c (ixC e.l 1)).v3⟩
 else bif !(bJ e).1.fixed&&Nat.beq j (ixC e.l 2) then⟨(e.l.c (ixC e.l 2)).kind,b.velX,b.velY,(e.l.c (ixC e.l 2)).v2,(e.l.c (ixC e.l 2)).v3⟩
 else e.l.c j⟩⟩
def ak(s:Scn)(e:Ent):Ent:=match dP e.l 1,dP e.l 2,dP e.l 3 with
 | true,_,true=>bif decide (0<s.bodies.n)&&decide ((s.bodies.e 0).iD=e.iD) then jD e (s.bodies.e 0) else e
 | true,true,false=>ig e
 | _,_,_=>e
def iL(s:Scn)(w:Wor):Wor:=⟨w.tick,⟨w.l.n,fun i=>ak s (w.l.e i)⟩⟩
theorem flyNo{p v:Int}(hp : -1048576≤p∧p≤1048576)(hv : -4096≤v∧v≤4096):(decide (min p v < -1099511627776)||decide (1099511627776<max p v))=false:=by
 rw[decide_eq_false (by omega),decide_eq_false (by omega)];rfl
theorem gA{a b:Nat}(h:a≠b):Nat.beq a b=false:=by
 cases hb:Nat.beq a b with
 | false=>rfl
 | true=>exact absurd (Nb hb) h
theorem fly_1{e:Ent} : (ig e).l.c (ixC e.l 1)=⟨(e.l.c (ixC e.l 1)).kind,im ((e.l.c (ixC e.l 1)).v0+(e.l.c (ixC e.l 2)).v0),im ((e.l.c (ixC e.l 1)).v1+(e.l.c (ixC e.l 2)).v1),(e.l.c (ixC e.l 1)).v2,(e.l.c (ixC e.l 1)).v3⟩:=by
 unfold ig;simp only[Nat.beq_refl,cond_true]
theorem fly_2{e:Ent}(h:ixC e.l 2≠ixC e.l 1):(ig e).l.c (ixC e.l 2)=⟨(e.l.c (ixC e.l 2)).kind,lx (e.l.c (ixC e.l 1)).v0 (e.l.c (ixC e.l 2)).v0,lx (e.l.c (ixC e.l 1)).v1 (e.l.c (ixC e.l 2)).v1,(e.l.c (ixC e.l 2)).v2,(e.l.c (ixC e.l 2)).v3⟩:=by
 unfold ig;simp only[gA h,Nat.beq_refl,cond_true,cond_false]
theorem fly_o{e:Ent}{j:Nat}(h1:j≠ixC e.l 1)(h2:j≠ixC e.l 2):(ig e).l.c j=e.l.c j:=by
 unfold ig;simp only[gA h1,gA h2,cond_false]
theorem put_1{e:Ent}{b:Body} : (jD e b).l.c (ixC e.l 1)=⟨(e.l.c (ixC e.l 1)).kind,b.posX,b.posY,(e.l.c (ixC e.l 1)).v2,(e.l.c (ixC e.l 1)).v3⟩:=by
 unfold jD;simp only[Nat.beq_refl,cond_true]
theorem put_2{e:Ent}{b:Body}(h:ixC e.l 2≠ixC e.l 1)(hf:(bJ e).1.fixed=false):(jD e b).l.c (ixC e.l 2)=⟨(e.l.c (ixC e.l 2)).kind,b.velX,b.velY,(e.l.c (ixC e.l 2)).v2,(e.l.c (ixC e.l 2)).v3⟩:=by
 unfold jD;simp only[gA h,Nat.beq_refl,hf,cond_true,cond_false,Bool.not_false,Bool.and_self]
theorem put_o{e:Ent}{b:Body}{j:Nat}(h1:j≠ixC e.l 1)(h2:(bJ e).1.fixed=true∨j≠ixC e.l 2):(jD e b).l.c j=e.l.c j:=by
 unfold jD
 rcases h2 with h2|h2
 ·simp only[gA h1,h2,cond_false,Bool.not_true,Bool.false_and]
 ·simp only[gA h1,gA h2,cond_false,Bool.and_false]
theorem fix_no{e:Ent}(h1:dP e.l 1=true)(h2:dP e.l 2=false)(h3:dP e.l 3=true):(bJ e).1.fixed=true:=by
 have hf:oL e=true:=by unfold oL;rw[ik,h2];simp
 unfold bJ
 rw[ik,ik,h1,h3]
 show (jh e).fixed=true
 unfold jh
 rw[hf]
theorem lq{p v:Int}(hp : -1048576≤p∧p≤1048576)(hv : -4096≤v∧v≤4096):InR (p+v):=by unfold InR;omega
theorem gq{e:Ent}(h:e.Right){q:Int}(hb:dP e.l q=true):(e.l.c (ixC e.l q)).kind=q∧(e.l.c (ixC e.l q)).Fits∧ixC e.l q<e.l.n:=by
 have hi:ixC e.l q<e.l.n:=Od hb
 exact⟨kr hb,h.fits _ hi,hi⟩
noncomputable def inFlyF:FnI cx:=⟨133,Tryz.call133,Tryz.f133,Tryz.func133,[],[],[],3,by kernel_rfl⟩
noncomputable def inIxBk:FnI cx:=⟨134,Tryz.call134,Tryz.f134,Tryz.func134,[],[],[],2,by kernel_rfl⟩
noncomputable def inBk1:FnI cx:=⟨135,Tryz.call135,Tryz.f135,Tryz.func135,[],[],[],0,by kernel_rfl⟩
def iU(e:Ent):Ent:=⟨e.iD,⟨e.l.n,fun i=>e.l.c (0+i)⟩⟩
theorem ef{e:Ent} : iU e=e:=by unfold iU;simp only[Nat.zero_add]
def bkC(w:Wor)(s:Scn):Cut:=⟨Nat,fun k=>k≤w.l.n,fun k=>⟨[sl 3 (.p 1 0),sl 4 (.p 2 0),sl 5 (.p 3 0),sl 17 w.l.sv,sl 18 (i64 w.l.n),sl 19 (i64 k)],
 [(1,.lay s.cells 161),(2,.lay zeroW 28),(3,.lay [.v (.int .i64 w.tick),.g 4 5 2 0 k] 28),(4,nstE (iL s w).l k 5)],6,0,[],[]⟩,fun k=>w.l.n-k⟩
def bkD(w:Wor)(s:Scn)(k:Nat)(b1 b2 b3:Bool):Cut:=⟨Unit,fun _=>True,fun _=>⟨[sl 3 (.p 1 0),sl 4 (.p 2 0),sl 5 (.p 3 0),sl 7 (.p 6 0),sl 17 w.l.sv,sl 18 (i64 w.l.n),sl 19 (i64 k)],
 [(1,.lay s.cells 161),(2,.lay zeroW 28),(3,.lay [.v (.int .i64 w.tick),.g 4 5 2 0 k] 28),(4,nstE (iL s w).l k 5),(6,.lay [.v (.int .i64 (w.l.e k).iD),.g 7 7 5 0 (w.l.e k).l.n] 42),(7,.lst 7 5 (w.l.e k).l.n (fun j=>((w.l.e k).l.c j).cells) 46)],8+code3 b1 b2 b3,0,[],[]⟩,fun _=>0⟩
set_option maxHeartbeats 4000000 in
theorem Back_walk:∀a,aK ((fun a=>[a.1.valid=true,a.1.l.Sm,a.2.bodies.n≤1]) a)→aX (C:=cx) [n7,conBody,conFirA selN] [inFlyF,inIxBk,inBk1] 2 ⟨[14,16],[6],[3],3⟩ Tryz.f82 ((aV cP oz).enc a) fun v H _=>ai ((fun a=>(iL a.2 a.1).sv) a) H v:=by
 intro⟨w,s⟩ ⟨hv,hs,hn⟩
 replace hv:w.valid=true:=hv
 replace hs:w.l.Sm:=hs
 replace hn:s.bodies.n≤1:=hn
 have hV:=Wor.dq.1 hv
 have hlen:=hV.len
 refine Exists.intro (bkC w s) ?_
 refine Ai ?_ ?_
 ·refine⟨(0:Nat),[],[.cellN 3 1 2 1 5 46 42],trivial,Nat.zero_le _,?_⟩
  repeat' (first|(refine Ai ?_ ?_)|(intro _)|exact rfl)
  all_goals exact absurd ‹_<0› (Nat.not_lt_zero _)
 refine fun(k:Nat) (hk:k≤w.l.n)=>?_
 refine Ai (fun hb=>?_) (fun hb=>?_)
 ·have hb:(k:Int)<w.l.n:=Od hb
  have hkn:k<w.l.n:=by omega
  have hR:=hV.right k hkn
  have hle:(w.l.e k).l.n≤1000:=by have:=hR.len;omega
  refine Ai ⟨by omega,by omega⟩ ?_
  generalize hb1:dP (w.l.e k).l 1=b1
  generalize hb2:dP (w.l.e k).l 2=b2
  generalize hb3:dP (w.l.e k).l 3=b3
  have hbf:(bJ (w.l.e k)).2=(b1&&b3):=by
   unfold bJ
   rw[ik,ik,hb1,hb3]
   cases (b1&&b3)<;>rfl
  have hbig:((w.l.e k).l.n:Int)≤cJ:=Int.le_trans (by omega:((w.l.e k).l.n:Int)≤1000) (by decide)
  have hfit:iz (k+1) 32:=⟨Nat.le_trans (by omega:k+1≤1001) (by decide),by omega⟩
  refine Exists.intro (bkD w s k b1 b2 b3) ?_
  cases b1<;>cases b2<;>cases b3
  ·refine Ai ?_ ?_
   ·refine Ai ⟨fun _ _=>trivial,hle⟩ ?_
    refine⟨(),[],[],trivial,trivial,?_⟩
    repeat' (first|(refine Ai ?_ ?_)|(intro _)|exact rfl)
   refine fun(_:Unit) _=>?_
   refine Ai ⟨hfit,?_⟩ ?_
   ·repeat' (first|(refine Ai ?_ ?_)|(intro _)|exact rfl)
   refine Ai ⟨fun j _=>⟨_,rfl⟩,hbig,hb1.symm⟩ ?_
   refine Ai ⟨fun j _=>⟨_,rfl⟩,hbig,hb2.symm⟩ ?_
   refine Ai ⟨fun _ _=>trivial,hbig⟩ ?_
   have hBE:ak s (w.l.e k)=w.l.e k:=by unfold ak;rw[hb1,hb2,hb3]
   refine Ai (fun hc=>?_) (fun hc=>absurd (show (!(bJ (iU (w.l.e k))).2)=false from hc) (by rw[ef,hbf];decide))
   refine Ai (fun _=>⟨fun j _=>⟨_,rfl⟩,hbig,hb3.symm⟩) ?_
   refine Ai (show I64 ((k:Int)+1) by unfold I64;omega) ?_
   refine⟨k+1,[(5,9)],[.bB 4],(by show w.l.n-(k+1)<w.l.n-k;omega),(by show k+1≤w.l.n;omega),?_⟩
   repeat' (first|(refine Ai ?_ ?_)|(intro _)|exact rfl)
   ·refine aC (α:=List SV) (p:=fun i y=>aH (vqL 5 [(5,9)] (List.set [SV.v (Value.int IntKind.i64 (ak s (w.l.e i)).iD),SV.e] 1 SV.e) (y.set 1 SV.e))) ?_ ?_ _ ‹_›
    ·show aH (vqL 5 [(5,9)] ([SV.v (Value.int IntKind.i64 (ak s (w.l.e k)).iD),SV.e].set 1 SV.e) _)
     rw[hBE];exact rfl
    ·exact fun i _=>rfl
   ·refine aC (α:=Nat×(Nat→List SV)) (p:=fun i y=>(ak s (w.l.e i)).l.n=y.1) ?_ ?_ _ ‹_›
    ·show (ak s (w.l.e k)).l.n=_
     first|(rw[hBE];done)|(rw[hBE];exact rfl)
    ·exact fun i _=>rfl
   ·refine aC (α:=Nat×(Nat→List SV)) (p:=fun i y=>∀j,j<y.1→aH (vqL 5 [(5,9)] ((ak s (w.l.e i)).l.c j).cells (y.2 j))) ?_ ?_ _ ‹_› _ ‹_›
    ·show ∀j,j<_→aH (vqL 5 [(5,9)] ((ak s (w.l.e k)).l.c j).cells _)
     rw[hBE];exact fun j _=>⟨rfl,rfl,rfl,rfl,rfl⟩
    ·exact fun i _ j _=>⟨rfl,rfl,rfl,rfl,rfl⟩
  ·refine Ai ?_ ?_
   ·refine Ai ⟨fun _ _=>trivial,hle⟩ ?_
    refine⟨(),[],[],trivial,trivial,?_⟩
    repeat' (first|(refine Ai ?_ ?_)|(intro _)|exact rfl)
   refine fun(_:Unit) _=>?_
   refine Ai ⟨hfit,?_⟩ ?_
   ·repeat' (first|(refine Ai ?_ ?_)|(intro _)|exact rfl)
   refine Ai ⟨fun j _=>⟨_,rfl⟩,hbig,hb1.symm⟩ ?_
   refine Ai ⟨fun j _=>⟨_,rfl⟩,hbig,hb2.symm⟩ ?_
   refine Ai ⟨fun _ _=>trivial,hbig⟩ ?_
   have hBE:ak s (w.l.e k)=w.l.e k:=by unfold ak;rw[hb1,hb2,hb3]
   refine Ai (fun hc=>?_) (fun hc=>absurd (show (!(bJ (iU (w.l.e k))).2)=false from hc) (by rw[ef,hbf];decide))
   refine Ai (fun _=>⟨fun j _=>⟨_,rfl⟩,hbig,hb3.symm⟩) ?_
   refine Ai (show I64 ((k:Int)+1) by unfold I64;omega) ?_
   refine⟨k+1,[(5,25)],[.bB 4],(by show w.l.n-(k+1)<w.l.n-k;omega),(by show k+1≤w.l.n;omega),?_⟩
   repeat' (first|(refine Ai ?_ ?_)|(intro _)|exact rfl)
   ·refine aC (α:=List SV) (p:=fun i y=>aH (vqL 5 [(5,25)] (List.set [SV.v (Value.int IntKind.i64 (ak s (w.l.e i)).iD),SV.e] 1 SV.e) (y.set 1 SV.e))) ?_ ?_ _ ‹_›
    ·show aH (vqL 5 [(5,25)] ([SV.v (Value.int IntKind.i64 (ak s (w.l.e k)).iD),SV.e].set 1 SV.e) _)
     rw[hBE];exact rfl
    ·exact fun i _=>rfl
   ·refine aC (α:=Nat×(Nat→List SV)) (p:=fun i y=>(ak s (w.l.e i)).l.n=y.1) ?_ ?_ _ ‹_›
    ·show (ak s (w.l.e k)).l.n=_
     first|(rw[hBE];done)|(rw[hBE];exact rfl)
    ·exact fun i _=>rfl
   ·refine aC (α:=Nat×(Nat→List SV)) (p:=fun i y=>∀j,j<y.1→aH (vqL 5 [(5,25)] ((ak s (w.l.e i)).l.c j).cells (y.2 j))) ?_ ?_ _ ‹_› _ ‹_›
    ·show ∀j,j<_→aH (vqL 5 [(5,25)] ((ak s (w.l.e k)).l.c j).cells _)
     rw[hBE];exact fun j _=>⟨rfl,rfl,rfl,rfl,rfl⟩
    ·exact fun i _ j _=>⟨rfl,rfl,rfl,rfl,rfl⟩
  ·refine Ai ?_ ?_
   ·refine Ai ⟨fun _ _=>trivial,hle⟩ ?_
    refine⟨(),[],[],trivial,trivial,?_⟩
    repeat' (first|(refine Ai ?_ ?_)|(intro _)|exact rfl)
   refine fun(_:Unit) _=>?_
   refine Ai ⟨hfit,?_⟩ ?_
   ·repeat' (first|(refine Ai ?_ ?_)|(intro _)|exact rfl)
   refine Ai ⟨fun j _=>⟨_,rfl⟩,hbig,hb1.symm⟩ ?_
   refine Ai ⟨fun j _=>⟨_,rfl⟩,hbig,hb2.symm⟩ ?_
   refine Ai ⟨fun _ _=>trivial,hbig⟩ ?_
   have hBE:ak s (w.l.e k)=w.l.e k:=by unfold ak;rw[hb1,hb2,hb3]
   refine Ai (fun hc=>?_) (fun hc=>absurd (show (!(bJ (iU (w.l.e k))).2)=false from hc) (by rw[ef,hbf];decide))
   refine Ai (fun _=>⟨fun j _=>⟨_,rfl⟩,hbig,hb3.symm⟩) ?_
   refine Ai (show I64 ((k:Int)+1) by unfold I64;omega) ?_
   refine⟨k+1,[(5,41)],[.bB 4],(by show w.l.n-(k+1)<w.l.n-k;omega),(by show k+1≤w.l.n;omega),?_⟩
   repeat' (first|(refine Ai ?_ ?_)|(intro _)|exact rfl)
   ·refine aC (α:=List SV) (p:=fun i y=>aH (vqL 5 [(5,41)] (List.set [SV.v (Value.int IntKind.i64 (ak s (w.l.e i)).iD),SV.e] 1 SV.e) (y.set 1 SV.e))) ?_ ?_ _ ‹_›
    ·show aH (vqL 5 [(5,41)] ([SV.v (Value.int IntKind.i64 (ak s (w.l.e k)).iD),SV.e].set 1 SV.e) _)
     rw[hBE];exact rfl
    ·exact fun i _=>rfl
   ·refine aC (α:=Nat×(Nat→List SV)) (p:=fun i y=>(ak s (w.l.e i)).l.n=y.1) ?_ ?_ _ ‹_›
    ·show (ak s (w.l.e k)).l.n=_
     first|(rw[hBE];done)|(rw[hBE];exact rfl)
    ·exact fun i _=>rfl
   ·refine aC (α:=Nat×(Nat→List SV)) (p:=fun i y=>∀j,j<y.1→aH (vqL 5 [(5,41)] ((ak s (w.l.e i)).l.c j).cells (y.2 j))) ?_ ?_ _ ‹_› _ ‹_›
    ·show ∀j,j<_→aH (vqL 5 [(5,41)] ((ak s (w.l.e k)).l.c j).cells _)
     rw[hBE];exact fun j _=>⟨rfl,rfl,rfl,rfl,rfl⟩
    ·exact fun i _ j _=>⟨rfl,rfl,rfl,rfl,rfl⟩
  ·refine Ai ?_ ?_
   ·refine Ai ⟨fun _ _=>trivial,hle⟩ ?_
    refine⟨(),[],[],trivial,trivial,?_⟩
    repeat' (first|(refine Ai ?_ ?_)|(intro _)|exact rfl)
   refine fun(_:Unit) _=>?_
   refine Ai ⟨hfit,?_⟩ ?_
   ·repeat' (first|(refine Ai ?_ ?_)|(intro _)|exact rfl)
   refine Ai ⟨fun j _=>⟨_,rfl⟩,hbig,hb1.symm⟩ ?_
   refine Ai ⟨fun j _=>⟨_,rfl⟩,hbig,hb2.symm⟩ ?_
   refine Ai ⟨fun _ _=>trivial,hbig⟩ ?_
   have hBE:ak s (w.l.e k)=w.l.e k:=by unfold ak;rw[hb1,hb2,hb3]
   refine Ai (fun hc=>?_) (fun hc=>absurd (show (!(bJ (iU (w.l.e k))).2)=false from hc) (by rw[ef,hbf];decide))
   refine Ai (fun _=>⟨fun j _=>⟨_,rfl⟩,hbig,hb3.symm⟩) ?_
   refine Ai (show I64 ((k:Int)+1) by unfold I64;omega) ?_
   refine⟨k+1,[(5,57)],[.bB 4],(by show w.l.n-(k+1)<w.l.n-k;omega),(by show k+1≤w.l.n;omega),?_⟩
   repeat' (first|(refine Ai ?_ ?_)|(intro _)|exact rfl)
   ·refine aC (α:=List SV) (p:=fun i y=>aH (vqL 5 [(5,57)] (List.set [SV.v (Value.int IntKind.i64 (ak s (w.l.e i)).iD),SV.e] 1 SV.e) (y.set 1 SV.e))) ?_ ?_ _ ‹_›
    ·show aH (vqL 5 [(5,57)] ([SV.v (Value.int IntKind.i64 (ak s (w.l.e k)).iD),SV.e].set 1 SV.e) _)
     rw[hBE];exact rfl
    ·exact fun i _=>rfl
   ·refine aC (α:=Nat×(Nat→List SV)) (p:=fun i y=>(ak s (w.l.e i)).l.n=y.1) ?_ ?_ _ ‹_›
    ·show (ak s (w.l.e k)).l.n=_
     first|(rw[hBE];done)|(rw[hBE];exact rfl)
    ·exact fun i _=>rfl
   ·refine aC (α:=Nat×(Nat→List SV)) (p:=fun i y=>∀j,j<y.1→aH (vqL 5 [(5,57)] ((ak s (w.l.e i)).l.c j).cells (y.2 j))) ?_ ?_ _ ‹_› _ ‹_›
    ·show ∀j,j<_→aH (vqL 5 [(5,57)] ((ak s (w.l.e k)).l.c j).cells _)
     rw[hBE];exact fun j _=>⟨rfl,rfl,rfl,rfl,rfl⟩
    ·exact fun i _ j _=>⟨rfl,rfl,rfl,rfl,rfl⟩
  ·refine Ai ?_ ?_
   ·refine Ai ⟨fun _ _=>trivial,hle⟩ ?_
    refine⟨(),[],[],trivial,trivial,?_⟩
    repeat' (first|(refine Ai ?_ ?_)|(intro _)|exact rfl)
   refine fun(_:Unit) _=>?_
   refine Ai ⟨hfit,?_⟩ ?_
   ·repeat' (first|(refine Ai ?_ ?_)|(intro _)|exact rfl)
   refine Ai ⟨fun j _=>⟨_,rfl⟩,hbig,hb1.symm⟩ ?_
   refine Ai ⟨fun j _=>⟨_,rfl⟩,hbig,hb2.symm⟩ ?_
   refine Ai ⟨fun _ _=>trivial,hbig⟩ ?_
   have hBE:ak s (w.l.e k)=w.l.e k:=by unfold ak;rw[hb1,hb2,hb3]
   refine Ai (fun hc=>?_) (fun hc=>absurd (show (!(bJ (iU (w.l.e k))).2)=false from hc) (by rw[ef,hbf];decide))
   refine Ai (fun _=>⟨fun j _=>⟨_,rfl⟩,hbig,hb3.symm⟩) ?_
   refine Ai (show I64 ((k:Int)+1) by unfold I64;omega) ?_
   refine⟨k+1,[(5,73)],[.bB 4],(by show w.l.n-(k+1)<w.l.n-k;omega),(by show k+1≤w.l.n;omega),?_⟩
   repeat' (first|(refine Ai ?_ ?_)|(intro _)|exact rfl)
   ·refine aC (α:=List SV) (p:=fun i y=>aH (vqL 5 [(5,73)] (List.set [SV.v (Value.int IntKind.i64 (ak s (w.l.e i)).iD),SV.e] 1 SV.e) (y.set 1 SV.e))) ?_ ?_ _ ‹_›
    ·show aH (vqL 5 [(5,73)] ([SV.v (Value.int IntKind.i64 (ak s (w.l.e k)).iD),SV.e].set 1 SV.e) _)
     rw[hBE];exact rfl
    ·exact fun i _=>rfl
   ·refine aC (α:=Nat×(Nat→List SV)) (p:=fun i y=>(ak s (w.l.e i)).l.n=y.1) ?_ ?_ _ ‹_›
    ·show (ak s (w.l.e k)).l.n=_
     first|(rw[hBE];done)|(rw[hBE];exact rfl)
    ·exact fun i _=>rfl
   ·refine aC (α:=Nat×(Nat→List SV)) (p:=fun i y=>∀j,j<y.1→aH (vqL 5 [(5,73)] ((ak s (w.l.e i)).l.c j).cells (y.2 j))) ?_ ?_ _ ‹_› _ ‹_›
    ·show ∀j,j<_→aH (vqL 5 [(5,73)] ((ak s (w.l.e k)).l.c j).cells _)
     rw[hBE];exact fun j _=>⟨rfl,rfl,rfl,rfl,rfl⟩
    ·exact fun i _ j _=>⟨rfl,rfl,rfl,rfl,rfl⟩
  ·refine Ai ?_ ?_
   ·refine Ai ⟨fun _ _=>trivial,hle⟩ ?_
    refine⟨(),[],[],trivial,trivial,?_⟩
    repeat' (first|(refine Ai ?_ ?_)|(intro _)|exact rfl)
   refine fun(_:Unit) _=>?_
   refine Ai ⟨hfit,?_⟩ ?_
   ·repeat' (first|(refine Ai ?_ ?_)|(intro _)|exact rfl)
   refine Ai ⟨fun j _=>⟨_,rfl⟩,hbig,hb1.symm⟩ ?_
   refine Ai ⟨fun j _=>⟨_,rfl⟩,hbig,hb2.symm⟩ ?_
   refine Ai ⟨fun _ _=>trivial,hbig⟩ ?_
   refine Ai (fun hc=>absurd (show (!(bJ (iU (w.l.e k))).2)=true from hc) (by rw[ef,hbf];decide)) (fun hc=>?_)
   obtain⟨k1,f1,i1⟩:=gq hR hb1
   have b11:Nat.beq (ixK (fun j=>((w.l.e k).l.c j).cells) (w.l.e k).l.n 1) (ixK (fun j=>((w.l.e k).l.c j).cells) (w.l.e k).l.n 1)=true:=Nat.beq_refl _
   have hB0:ak s (w.l.e k)=(bif decide (0<s.bodies.n)&&decide ((s.bodies.e 0).iD=(w.l.e k).iD) then jD (w.l.e k) (s.bodies.e 0) else w.l.e k):=by unfold ak;rw[hb1,hb2,hb3]
   refine Ai (fun hn0=>?_) (fun hn0=>?_)
   ·have hn0:(0:Int)<s.bodies.n:=Od hn0
    have hB:0≤Int.ofNat 0∧Int.ofNat 0<(s.bodies.n:Int):=⟨by decide,hn0⟩
    refine Ai hB ?_
    refine Ai (fun he=>?_) (fun he=>?_)
    ·refine Ai hB ?_
     refine Ai hB ?_
     refine Ai ?_ ?_
     ·repeat' (first|(refine Ai ?_ ?_)|(intro _)|exact rfl|exact trivial)
     refine Ai ?_ ?_
     ·repeat' (first|(refine Ai ?_ ?_)|(intro _)|exact rfl|exact trivial)
     have hx:=fix_no hb1 hb2 hb3
     refine Ai (fun hx'=>absurd (show (!(bJ (iU (w.l.e k))).1.fixed)=true from hx') (by rw[ef,hx];decide)) (fun _=>?_)
     have hBE:ak s (w.l.e k)=jD (w.l.e k) (s.bodies.e 0):=by rw[hB0,decide_eq_true (by omega:0<s.bodies.n),decide_eq_true (show (s.bodies.e 0).iD=(w.l.e k).iD from Od he)];rfl
     refine Ai (show I64 ((k:Int)+1) by unfold I64;omega) ?_
     refine⟨k+1,[(5,89)],[.bB 4],(by show w.l.n-(k+1)<w.l.n-k;omega),(by show k+1≤w.l.n;omega),?_⟩
     repeat' (first|(refine Ai ?_ ?_)|(intro _)|exact rfl)
     ·refine aC (α:=List SV) (p:=fun i y=>aH (vqL 5 [(5,89)] (List.set [SV.v (Value.int IntKind.i64 (ak s (w.l.e i)).iD),SV.e] 1 SV.e) (y.set 1 SV.e))) ?_ ?_ _ ‹_›
      ·show aH (vqL 5 [(5,89)] ([SV.v (Value.int IntKind.i64 (ak s (w.l.e k)).iD),SV.e].set 1 SV.e) _)
       rw[hBE];exact rfl
      ·exact fun i _=>rfl
     ·refine aC (α:=Nat×(Nat→List SV)) (p:=fun i y=>(ak s (w.l.e i)).l.n=y.1) ?_ ?_ _ ‹_›
      ·show (ak s (w.l.e k)).l.n=_
       first|(rw[hBE];done)|(rw[hBE];exact rfl)
      ·exact fun i _=>rfl
     ·refine aC (α:=Nat×(Nat→List SV)) (p:=fun i y=>∀j,j<y.1→aH (vqL 5 [(5,89)] ((ak s (w.l.e i)).l.c j).cells (y.2 j))) ?_ ?_ _ ‹_› _ ‹_›
      ·show ∀j,j<_→aH (vqL 5 [(5,89)] ((ak s (w.l.e k)).l.c j).cells _)
       rw[hBE]
       intro j hj
       by_cases j1:j=ixK (fun j=>((w.l.e k).l.c j).cells) (w.l.e k).l.n 1
       ·subst j1
        have e1:(jD (w.l.e k) (s.bodies.e 0)).l.c (ixK (fun j=>((w.l.e k).l.c j).cells) (w.l.e k).l.n 1)=_:=put_1 (e:=w.l.e k)
        rw[e1]
        simp only[b11]
        exact⟨rfl,rfl,rfl,rfl,rfl⟩
       have eo:(jD (w.l.e k) (s.bodies.e 0)).l.c j=_:=put_o (e:=w.l.e k) j1 (.inl hx)
       rw[eo]
       simp only[gA j1]
       exact⟨rfl,rfl,rfl,rfl,rfl⟩
      ·exact fun i _ j _=>⟨rfl,rfl,rfl,rfl,rfl⟩
    ·refine Ai (fun h1=>absurd (show ((0:Int)+1)<s.bodies.n from Od h1) (by omega)) (fun _=>?_)
     have hBE:ak s (w.l.e k)=w.l.e k:=by rw[hB0,decide_eq_false (show ¬(s.bodies.e 0).iD=(w.l.e k).iD from of_decide_eq_false he),Bool.and_false];rfl
     refine Ai (show I64 ((k:Int)+1) by unfold I64;omega) ?_
     refine⟨k+1,[(5,89)],[.bB 4],(by show w.l.n-(k+1)<w.l.n-k;omega),(by show k+1≤w.l.n;omega),?_⟩
     repeat' (first|(refine Ai ?_ ?_)|(intro _)|exact rfl)
     ·refine aC (α:=List SV) (p:=fun i y=>aH (vqL 5 [(5,89)] (List.set [SV.v (Value.int IntKind.i64 (ak s (w.l.e i)).iD),SV.e] 1 SV.e) (y.set 1 SV.e))) ?_ ?_ _ ‹_›
      ·show aH (vqL 5 [(5,89)] ([SV.v (Value.int IntKind.i64 (ak s (w.l.e k)).iD),SV.e].set 1 SV.e) _)
       rw[hBE];exact rfl
      ·exact fun i _=>rfl
     ·refine aC (α:=Nat×(Nat→List SV)) (p:=fun i y=>(ak s (w.l.e i)).l.n=y.1) ?_ ?_ _ ‹_›
      ·show (ak s (w.l.e k)).l.n=_
       first|(rw[hBE];done)|(rw[hBE];exact rfl)
      ·exact fun i _=>rfl
     ·refine aC (α:=Nat×(Nat→List SV)) (p:=fun i y=>∀j,j<y.1→aH (vqL 5 [(5,89)] ((ak s (w.l.e i)).l.c j).cells (y.2 j))) ?_ ?_ _ ‹_› _ ‹_›
      ·show ∀j,j<_→aH (vqL 5 [(5,89)] ((ak s (w.l.e k)).l.c j).cells _)
       rw[hBE];exact fun j _=>⟨rfl,rfl,rfl,rfl,rfl⟩
      ·exact fun i _ j _=>⟨rfl,rfl,rfl,rfl,rfl⟩
   ·have hn0:¬(0:Int)<s.bodies.n:=of_decide_eq_false hn0
    have hBE:ak s (w.l.e k)=w.l.e k:=by rw[hB0,decide_eq_false (by omega:¬0<s.bodies.n)];rfl
    refine Ai (show I64 ((k:Int)+1) by unfold I64;omega) ?_
    refine⟨k+1,[(5,89)],[.bB 4],(by show w.l.n-(k+1)<w.l.n-k;omega),(by show k+1≤w.l.n;omega),?_⟩
    repeat' (first|(refine Ai ?_ ?_)|(intro _)|exact rfl)
    ·refine aC (α:=List SV) (p:=fun i y=>aH (vqL 5 [(5,89)] (List.set [SV.v (Value.int IntKind.i64 (ak s (w.l.e i)).iD),SV.e] 1 SV.e) (y.set 1 SV.e))) ?_ ?_ _ ‹_›
     ·show aH (vqL 5 [(5,89)] ([SV.v (Value.int IntKind.i64 (ak s (w.l.e k)).iD),SV.e].set 1 SV.e) _)
      rw[hBE];exact rfl
     ·exact fun i _=>rfl
    ·refine aC (α:=Nat×(Nat→List SV)) (p:=fun i y=>(ak s (w.l.e i)).l.n=y.1) ?_ ?_ _ ‹_›
     ·show (ak s (w.l.e k)).l.n=_
      first|(rw[hBE];done)|(rw[hBE];exact rfl)
     ·exact fun i _=>rfl
    ·refine aC (α:=Nat×(Nat→List SV)) (p:=fun i y=>∀j,j<y.1→aH (vqL 5 [(5,89)] ((ak s (w.l.e i)).l.c j).cells (y.2 j))) ?_ ?_ _ ‹_› _ ‹_›
     ·show ∀j,j<_→aH (vqL 5 [(5,89)] ((ak s (w.l.e k)).l.c j).cells _)
      rw[hBE];exact fun j _=>⟨rfl,rfl,rfl,rfl,rfl⟩
     ·exact fun i _ j _=>⟨rfl,rfl,rfl,rfl,rfl⟩
  ·refine Ai ?_ ?_
   ·refine Ai ⟨fun _ _=>trivial,hle⟩ ?_
    refine⟨(),[],[],trivial,trivial,?_⟩
    repeat' (first|(refine Ai ?_ ?_)|(intro _)|exact rfl)
   refine fun(_:Unit) _=>?_
   refine Ai ⟨hfit,?_⟩ ?_
   ·repeat' (first|(refine Ai ?_ ?_)|(intro _)|exact rfl)
   refine Ai ⟨fun j _=>⟨_,rfl⟩,hbig,hb1.symm⟩ ?_
   refine Ai ⟨fun j _=>⟨_,rfl⟩,hbig,hb2.symm⟩ ?_
   refine Ai ⟨fun _ _=>trivial,hbig⟩ ?_
   refine Ai (fun hc=>?_) (fun hc=>absurd (show (!(bJ (iU (w.l.e k))).2)=false from hc) (by rw[ef,hbf];decide))
   refine Ai (fun _=>⟨fun j _=>⟨_,rfl⟩,hbig,hb3.symm⟩) ?_
   obtain⟨k1,f1,i1⟩:=gq hR hb1
   obtain⟨k2,f2,i2⟩:=gq hR hb2
   obtain⟨p1,p2,p3,p4,-⟩:=f1.2.2.1 k1
   obtain⟨v1,v2,v3,v4,-⟩:=f2.2.2.2.1 k2
   have d12:ixK (fun j=>((w.l.e k).l.c j).cells) (w.l.e k).l.n 1≠ixK (fun j=>((w.l.e k).l.c j).cells) (w.l.e k).l.n 2:=fun h=>by
    have h:ixC (w.l.e k).l 1=ixC (w.l.e k).l 2:=h
    rw[h,k2] at k1;exact absurd k1 (by decide)
   have b11:Nat.beq (ixK (fun j=>((w.l.e k).l.c j).cells) (w.l.e k).l.n 1) (ixK (fun j=>((w.l.e k).l.c j).cells) (w.l.e k).l.n 1)=true:=Nat.beq_refl _
   have b22:Nat.beq (ixK (fun j=>((w.l.e k).l.c j).cells) (w.l.e k).l.n 2) (ixK (fun j=>((w.l.e k).l.c j).cells) (w.l.e k).l.n 2)=true:=Nat.beq_refl _
   have b12:Nat.beq (ixK (fun j=>((w.l.e k).l.c j).cells) (w.l.e k).l.n 1) (ixK (fun j=>((w.l.e k).l.c j).cells) (w.l.e k).l.n 2)=false:=gA d12
   have b21:Nat.beq (ixK (fun j=>((w.l.e k).l.c j).cells) (w.l.e k).l.n 2) (ixK (fun j=>((w.l.e k).l.c j).cells) (w.l.e k).l.n 1)=false:=gA d12.symm
   refine Ai (fun hc=>absurd (show (decide (min ((w.l.e k).l.c (ixC (w.l.e k).l 1)).v0 ((w.l.e k).l.c (ixC (w.l.e k).l 2)).v0 < -1099511627776)||decide (1099511627776<max ((w.l.e k).l.c (ixC (w.l.e k).l 1)).v0 ((w.l.e k).l.c (ixC (w.l.e k).l 2)).v0))=true from hc) (by rw[flyNo ⟨p1,p2⟩ ⟨v1,v2⟩];exact Bool.false_ne_true)) (fun _=>?_)
   refine Ai (fun hc=>absurd (show (decide (min ((w.l.e k).l.c (ixC (w.l.e k).l 1)).v1 ((w.l.e k).l.c (ixC (w.l.e k).l 2)).v1 < -1099511627776)||decide (1099511627776<max ((w.l.e k).l.c (ixC (w.l.e k).l 1)).v1 ((w.l.e k).l.c (ixC (w.l.e k).l 2)).v1))=true from hc) (by rw[flyNo ⟨p3,p4⟩ ⟨v3,v4⟩];exact Bool.false_ne_true)) (fun _=>?_)
   refine Ai (by first|exact lq ⟨p1,p2⟩ ⟨v1,v2⟩|(simp only[b11,b12,b21,b22,cond_true,cond_false];exact lq ⟨p1,p2⟩ ⟨v1,v2⟩)) ?_
   refine Ai ?_ ?_
   ·repeat' (first|(refine Ai ?_ ?_)|(intro _)|exact rfl|exact trivial)
   refine Ai (fun h0=>?_) (fun h0=>?_)
   ·have h0:=Od h0
    simp only[b11,b12,b21,b22,cond_true,cond_false] at h0
    have g0:lx ((w.l.e k).l.c (ixC (w.l.e k).l 1)).v0 ((w.l.e k).l.c (ixC (w.l.e k).l 2)).v0=0:=by unfold lx;rw[decide_eq_false (show ¬(im (((w.l.e k).l.c (ixC (w.l.e k).l 1)).v0+((w.l.e k).l.c (ixC (w.l.e k).l 2)).v0)=((w.l.e k).l.c (ixC (w.l.e k).l 1)).v0+((w.l.e k).l.c (ixC (w.l.e k).l 2)).v0) from h0)];rfl
    refine Ai ?_ ?_
    ·repeat' (first|(refine Ai ?_ ?_)|(intro _)|exact rfl|exact trivial)
    refine Ai (by first|exact lq ⟨p3,p4⟩ ⟨v3,v4⟩|(simp only[b11,b12,b21,b22,cond_true,cond_false];exact lq ⟨p3,p4⟩ ⟨v3,v4⟩)) ?_
    refine Ai ?_ ?_
    ·repeat' (first|(refine Ai ?_ ?_)|(intro _)|exact rfl|exact trivial)
    refine Ai (fun h1=>?_) (fun h1=>?_)
    ·have h1:=Od h1
     simp only[b11,b12,b21,b22,cond_true,cond_false] at h1
     have g1:lx ((w.l.e k).l.c (ixC (w.l.e k).l 1)).v1 ((w.l.e k).l.c (ixC (w.l.e k).l 2)).v1=0:=by unfold lx;rw[decide_eq_false (show ¬(im (((w.l.e k).l.c (ixC (w.l.e k).l 1)).v1+((w.l.e k).l.c (ixC (w.l.e k).l 2)).v1)=((w.l.e k).l.c (ixC (w.l.e k).l 1)).v1+((w.l.e k).l.c (ixC (w.l.e k).l 2)).v1) from h1)];rfl
     refine Ai ?_ ?_
     ·repeat' (first|(refine Ai ?_ ?_)|(intro _)|exact rfl|exact trivial)
     have hBE:ak s (w.l.e k)=ig (w.l.e k):=by unfold ak;rw[hb1,hb2,hb3]
     refine Ai (show I64 ((k:Int)+1) by unfold I64;omega) ?_
     refine⟨k+1,[(5,105)],[.bB 4],(by show w.l.n-(k+1)<w.l.n-k;omega),(by show k+1≤w.l.n;omega),?_⟩
     repeat' (first|(refine Ai ?_ ?_)|(intro _)|exact rfl)
     ·refine aC (α:=List SV) (p:=fun i y=>aH (vqL 5 [(5,105)] (List.set [SV.v (Value.int IntKind.i64 (ak s (w.l.e i)).iD),SV.e] 1 SV.e) (y.set 1 SV.e))) ?_ ?_ _ ‹_›
      ·show aH (vqL 5 [(5,105)] ([SV.v (Value.int IntKind.i64 (ak s (w.l.e k)).iD),SV.e].set 1 SV.e) _)
       rw[hBE];exact rfl
      ·exact fun i _=>rfl
     ·refine aC (α:=Nat×(Nat→List SV)) (p:=fun i y=>(ak s (w.l.e i)).l.n=y.1) ?_ ?_ _ ‹_›
      ·show (ak s (w.l.e k)).l.n=_
       first|(rw[hBE];done)|(rw[hBE];exact rfl)
      ·exact fun i _=>rfl
     ·refine aC (α:=Nat×(Nat→List SV)) (p:=fun i y=>∀j,j<y.1→aH (vqL 5 [(5,105)] ((ak s (w.l.e i)).l.c j).cells (y.2 j))) ?_ ?_ _ ‹_› _ ‹_›
      ·show ∀j,j<_→aH (vqL 5 [(5,105)] ((ak s (w.l.e k)).l.c j).cells _)
       rw[hBE]
       intro j hj
       by_cases j1:j=ixK (fun j=>((w.l.e k).l.c j).cells) (w.l.e k).l.n 1
       ·subst j1
        have e1:(ig (w.l.e k)).l.c (ixK (fun j=>((w.l.e k).l.c j).cells) (w.l.e k).l.n 1)=_:=fly_1 (e:=w.l.e k)
        rw[e1]
        simp only[b11,b12,b21,b22]
        exact⟨rfl,rfl,rfl,rfl,rfl⟩
       by_cases j2:j=ixK (fun j=>((w.l.e k).l.c j).cells) (w.l.e k).l.n 2
       ·subst j2
        have e2:(ig (w.l.e k)).l.c (ixK (fun j=>((w.l.e k).l.c j).cells) (w.l.e k).l.n 2)=_:=fly_2 (e:=w.l.e k) d12.symm
        rw[e2]
        simp only[b11,b12,b21,b22]
        exact⟨rfl,g0,g1,rfl,rfl⟩
       have eo:(ig (w.l.e k)).l.c j=_:=fly_o (e:=w.l.e k) j1 j2
       rw[eo]
       simp only[gA j1,gA j2]
       exact⟨rfl,rfl,rfl,rfl,rfl⟩
      ·exact fun i _ j _=>⟨rfl,rfl,rfl,rfl,rfl⟩
    ·have h1:=of_decide_eq_false h1
     simp only[b11,b12,b21,b22,cond_true,cond_false] at h1
     have g1:lx ((w.l.e k).l.c (ixC (w.l.e k).l 1)).v1 ((w.l.e k).l.c (ixC (w.l.e k).l 2)).v1=((w.l.e k).l.c (ixC (w.l.e k).l 2)).v1:=by unfold lx;rw[decide_eq_true (show im (((w.l.e k).l.c (ixC (w.l.e k).l 1)).v1+((w.l.e k).l.c (ixC (w.l.e k).l 2)).v1)=((w.l.e k).l.c (ixC (w.l.e k).l 1)).v1+((w.l.e k).l.c (ixC (w.l.e k).l 2)).v1 from Decidable.of_not_not h1)];rfl
     have hBE:ak s (w.l.e k)=ig (w.l.e k):=by unfold ak;rw[hb1,hb2,hb3]
     refine Ai (show I64 ((k:Int)+1) by unfold I64;omega) ?_
     refine⟨k+1,[(5,105)],[.bB 4],(by show w.l.n-(k+1)<w.l.n-k;omega),(by show k+1≤w.l.n;omega),?_⟩
     repeat' (first|(refine Ai ?_ ?_)|(intro _)|exact rfl)
     ·refine aC (α:=List SV) (p:=fun i y=>aH (vqL 5 [(5,105)] (List.set [SV.v (Value.int IntKind.i64 (ak s (w.l.e i)).iD),SV.e] 1 SV.e) (y.set 1 SV.e))) ?_ ?_ _ ‹_›
      ·show aH (vqL 5 [(5,105)] ([SV.v (Value.int IntKind.i64 (ak s (w.l.e k)).iD),SV.e].set 1 SV.e) _)
       rw[hBE];exact rfl
      ·exact fun i _=>rfl
     ·refine aC (α:=Nat×(Nat→List SV)) (p:=fun i y=>(ak s (w.l.e i)).l.n=y.1) ?_ ?_ _ ‹_›
      ·show (ak s (w.l.e k)).l.n=_
       first|(rw[hBE];done)|(rw[hBE];exact rfl)
      ·exact fun i _=>rfl
     ·refine aC (α:=Nat×(Nat→List SV)) (p:=fun i y=>∀j,j<y.1→aH (vqL 5 [(5,105)] ((ak s (w.l.e i)).l.c j).cells (y.2 j))) ?_ ?_ _ ‹_› _ ‹_›
      ·show ∀j,j<_→aH (vqL 5 [(5,105)] ((ak s (w.l.e k)).l.c j).cells _)
       rw[hBE]
       intro j hj
       by_cases j1:j=ixK (fun j=>((w.l.e k).l.c j).cells) (w.l.e k).l.n 1
       ·subst j1
        have e1:(ig (w.l.e k)).l.c (ixK (fun j=>((w.l.e k).l.c j).cells) (w.l.e k).l.n 1)=_:=fly_1 (e:=w.l.e k)
        rw[e1]
        simp only[b11,b12,b21,b22]
        exact⟨rfl,rfl,rfl,rfl,rfl⟩
       by_cases j2:j=ixK (fun j=>((w.l.e k).l.c j).cells) (w.l.e k).l.n 2
       ·subst j2
        have e2:(ig (w.l.e k)).l.c (ixK (fun j=>((w.l.e k).l.c j).cells) (w.l.e k).l.n 2)=_:=fly_2 (e:=w.l.e k) d12.symm
        rw[e2]
        simp only[b11,b12,b21,b22]
        exact⟨rfl,g0,g1,rfl,rfl⟩
       have eo:(ig (w.l.e k)).l.c j=_:=fly_o (e:=w.l.e k) j1 j2
       rw[eo]
       simp only[gA j1,gA j2]
       exact⟨rfl,rfl,rfl,rfl,rfl⟩
      ·exact fun i _ j _=>⟨rfl,rfl,rfl,rfl,rfl⟩
   ·have h0:=of_decide_eq_false h0
    simp only[b11,b12,b21,b22,cond_true,cond_false] at h0
    have g0:lx ((w.l.e k).l.c (ixC (w.l.e k).l 1)).v0 ((w.l.e k).l.c (ixC (w.l.e k).l 2)).v0=((w.l.e k).l.c (ixC (w.l.e k).l 2)).v0:=by unfold lx;rw[decide_eq_true (show im (((w.l.e k).l.c (ixC (w.l.e k).l 1)).v0+((w.l.e k).l.c (ixC (w.l.e k).l 2)).v0)=((w.l.e k).l.c (ixC (w.l.e k).l 1)).v0+((w.l.e k).l.c (ixC (w.l.e k).l 2)).v0 from Decidable.of_not_not h0)];rfl
    refine Ai (by first|exact lq ⟨p3,p4⟩ ⟨v3,v4⟩|(simp only[b11,b12,b21,b22,cond_true,cond_false];exact lq ⟨p3,p4⟩ ⟨v3,v4⟩)) ?_
    refine Ai ?_ ?_
    ·repeat' (first|(refine Ai ?_ ?_)|(intro _)|exact rfl|exact trivial)
    refine Ai (fun h1=>?_) (fun h1=>?_)
    ·have h1:=Od h1
     simp only[b11,b12,b21,b22,cond_true,cond_false] at h1
     have g1:lx ((w.l.e k).l.c (ixC (w.l.e k).l 1)).v1 ((w.l.e k).l.c (ixC (w.l.e k).l 2)).v1=0:=by unfold lx;rw[decide_eq_false (show ¬(im (((w.l.e k).l.c (ixC (w.l.e k).l 1)).v1+((w.l.e k).l.c (ixC (w.l.e k).l 2)).v1)=((w.l.e k).l.c (ixC (w.l.e k).l 1)).v1+((w.l.e k).l.c (ixC (w.l.e k).l 2)).v1) from h1)];rfl
     refine Ai ?_ ?_
     ·repeat' (first|(refine Ai ?_ ?_)|(intro _)|exact rfl|exact trivial)
     have hBE:ak s (w.l.e k)=ig (w.l.e k):=by unfold ak;rw[hb1,hb2,hb3]
     refine Ai (show I64 ((k:Int)+1) by unfold I64;omega) ?_
     refine⟨k+1,[(5,105)],[.bB 4],(by show w.l.n-(k+1)<w.l.n-k;omega),(by show k+1≤w.l.n;omega),?_⟩
     repeat' (first|(refine Ai ?_ ?_)|(intro _)|exact rfl)
     ·refine aC (α:=List SV) (p:=fun i y=>aH (vqL 5 [(5,105)] (List.set [SV.v (Value.int IntKind.i64 (ak s (w.l.e i)).iD),SV.e] 1 SV.e) (y.set 1 SV.e))) ?_ ?_ _ ‹_›
      ·show aH (vqL 5 [(5,105)] ([SV.v (Value.int IntKind.i64 (ak s (w.l.e k)).iD),SV.e].set 1 SV.e) _)
       rw[hBE];exact rfl
      ·exact fun i _=>rfl
     ·refine aC (α:=Nat×(Nat→List SV)) (p:=fun i y=>(ak s (w.l.e i)).l.n=y.1) ?_ ?_ _ ‹_›
      ·show (ak s (w.l.e k)).l.n=_
       first|(rw[hBE];done)|(rw[hBE];exact rfl)
      ·exact fun i _=>rfl
     ·refine aC (α:=Nat×(Nat→List SV)) (p:=fun i y=>∀j,j<y.1→aH (vqL 5 [(5,105)] ((ak s (w.l.e i)).l.c j).cells (y.2 j))) ?_ ?_ _ ‹_› _ ‹_›
      ·show ∀j,j<_→aH (vqL 5 [(5,105)] ((ak s (w.l.e k)).l.c j).cells _)
       rw[hBE]
       intro j hj
       by_cases j1:j=ixK (fun j=>((w.l.e k).l.c j).cells) (w.l.e k).l.n 1
       ·subst j1
        have e1:(ig (w.l.e k)).l.c (ixK (fun j=>((w.l.e k).l.c j).cells) (w.l.e k).l.n 1)=_:=fly_1 (e:=w.l.e k)
        rw[e1]
        simp only[b11,b12,b21,b22]
        exact⟨rfl,rfl,rfl,rfl,rfl⟩
       by_cases j2:j=ixK (fun j=>((w.l.e k).l.c j).cells) (w.l.e k).l.n 2
       ·subst j2
        have e2:(ig (w.l.e k)).l.c (ixK (fun j=>((w.l.e k).l.c j).cells) (w.l.e k).l.n 2)=_:=fly_2 (e:=w.l.e k) d12.symm
        rw[e2]
        simp only[b11,b12,b21,b22]
        exact⟨rfl,g0,g1,rfl,rfl⟩
       have eo:(ig (w.l.e k)).l.c j=_:=fly_o (e:=w.l.e k) j1 j2
       rw[eo]
       simp only[gA j1,gA j2]
       exact⟨rfl,rfl,rfl,rfl,rfl⟩
      ·exact fun i _ j _=>⟨rfl,rfl,rfl,rfl,rfl⟩
    ·have h1:=of_decide_eq_false h1
     simp only[b11,b12,b21,b22,cond_true,cond_false] at h1
     have g1:lx ((w.l.e k).l.c (ixC (w.l.e k).l 1)).v1 ((w.l.e k).l.c (ixC (w.l.e k).l 2)).v1=((w.l.e k).l.c (ixC (w.l.e k).l 2)).v1:=by unfold lx;rw[decide_eq_true (show im (((w.l.e k).l.c (ixC (w.l.e k).l 1)).v1+((w.l.e k).l.c (ixC (w.l.e k).l 2)).v1)=((w.l.e k).l.c (ixC (w.l.e k).l 1)).v1+((w.l.e k).l.c (ixC (w.l.e k).l 2)).v1 from Decidable.of_not_not h1)];rfl
     have hBE:ak s (w.l.e k)=ig (w.l.e k):=by unfold ak;rw[hb1,hb2,hb3]
     refine Ai (show I64 ((k:Int)+1) by unfold I64;omega) ?_
     refine⟨k+1,[(5,105)],[.bB 4],(by show w.l.n-(k+1)<w.l.n-k;omega),(by show k+1≤w.l.n;omega),?_⟩
     repeat' (first|(refine Ai ?_ ?_)|(intro _)|exact rfl)
     ·refine aC (α:=List SV) (p:=fun i y=>aH (vqL 5 [(5,105)] (List.set [SV.v (Value.int IntKind.i64 (ak s (w.l.e i)).iD),SV.e] 1 SV.e) (y.set 1 SV.e))) ?_ ?_ _ ‹_›
      ·show aH (vqL 5 [(5,105)] ([SV.v (Value.int IntKind.i64 (ak s (w.l.e k)).iD),SV.e].set 1 SV.e) _)
       rw[hBE];exact rfl
      ·exact fun i _=>rfl
     ·refine aC (α:=Nat×(Nat→List SV)) (p:=fun i y=>(ak s (w.l.e i)).l.n=y.1) ?_ ?_ _ ‹_›
      ·show (ak s (w.l.e k)).l.n=_
       first|(rw[hBE];done)|(rw[hBE];exact rfl)
      ·exact fun i _=>rfl
     ·refine aC (α:=Nat×(Nat→List SV)) (p:=fun i y=>∀j,j<y.1→aH (vqL 5 [(5,105)] ((ak s (w.l.e i)).l.c j).cells (y.2 j))) ?_ ?_ _ ‹_› _ ‹_›
      ·show ∀j,j<_→aH (vqL 5 [(5,105)] ((ak s (w.l.e k)).l.c j).cells _)
       rw[hBE]
       intro j hj
       by_cases j1:j=ixK (fun j=>((w.l.e k).l.c j).cells) (w.l.e k).l.n 1
       ·subst j1
        have e1:(ig (w.l.e k)).l.c (ixK (fun j=>((w.l.e k).l.c j).cells) (w.l.e k).l.n 1)=_:=fly_1 (e:=w.l.e k)
        rw[e1]
        simp only[b11,b12,b21,b22]
        exact⟨rfl,rfl,rfl,rfl,rfl⟩
       by_cases j2:j=ixK (fun j=>((w.l.e k).l.c j).cells) (w.l.e k).l.n 2
       ·subst j2
        have e2:(ig (w.l.e k)).l.c (ixK (fun j=>((w.l.e k).l.c j).cells) (w.l.e k).l.n 2)=_:=fly_2 (e:=w.l.e k) d12.symm
        rw[e2]
        simp only[b11,b12,b21,b22]
        exact⟨rfl,g0,g1,rfl,rfl⟩
       have eo:(ig (w.l.e k)).l.c j=_:=fly_o (e:=w.l.e k) j1 j2
       rw[eo]
       simp only[gA j1,gA j2]
       exact⟨rfl,rfl,rfl,rfl,rfl⟩
      ·exact fun i _ j _=>⟨rfl,rfl,rfl,rfl,rfl⟩
  ·refine Ai ?_ ?_
   ·refine Ai ⟨fun _ _=>trivial,hle⟩ ?_
    refine⟨(),[],[],trivial,trivial,?_⟩
    repeat' (first|(refine Ai ?_ ?_)|(intro _)|exact rfl)
   refine fun(_:Unit) _=>?_
   refine Ai ⟨hfit,?_⟩ ?_
   ·repeat' (first|(refine Ai ?_ ?_)|(intro _)|exact rfl)
   refine Ai ⟨fun j _=>⟨_,rfl⟩,hbig,hb1.symm⟩ ?_
   refine Ai ⟨fun j _=>⟨_,rfl⟩,hbig,hb2.symm⟩ ?_
   refine Ai ⟨fun _ _=>trivial,hbig⟩ ?_
   refine Ai (fun hc=>absurd (show (!(bJ (iU (w.l.e k))).2)=true from hc) (by rw[ef,hbf];decide)) (fun hc=>?_)
   obtain⟨k1,f1,i1⟩:=gq hR hb1
   have b11:Nat.beq (ixK (fun j=>((w.l.e k).l.c j).cells) (w.l.e k).l.n 1) (ixK (fun j=>((w.l.e k).l.c j).cells) (w.l.e k).l.n 1)=true:=Nat.beq_refl _
   have hB0:ak s (w.l.e k)=(bif decide (0<s.bodies.n)&&decide ((s.bodies.e 0).iD=(w.l.e k).iD) then jD (w.l.e k) (s.bodies.e 0) else w.l.e k):=by unfold ak;rw[hb1,hb2,hb3]
   obtain⟨k2,f2,i2⟩:=gq hR hb2
   have d12:ixK (fun j=>((w.l.e k).l.c j).cells) (w.l.e k).l.n 1≠ixK (fun j=>((w.l.e k).l.c j).cells) (w.l.e k).l.n 2:=fun h=>by
    have h:ixC (w.l.e k).l 1=ixC (w.l.e k).l 2:=h
    rw[h,k2] at k1;exact absurd k1 (by decide)
   have b22:Nat.beq (ixK (fun j=>((w.l.e k).l.c j).cells) (w.l.e k).l.n 2) (ixK (fun j=>((w.l.e k).l.c j).cells) (w.l.e k).l.n 2)=true:=Nat.beq_refl _
   have b12:Nat.beq (ixK (fun j=>((w.l.e k).l.c j).cells) (w.l.e k).l.n 1) (ixK (fun j=>((w.l.e k).l.c j).cells) (w.l.e k).l.n 2)=false:=gA d12
   have b21:Nat.beq (ixK (fun j=>((w.l.e k).l.c j).cells) (w.l.e k).l.n 2) (ixK (fun j=>((w.l.e k).l.c j).cells) (w.l.e k).l.n 1)=false:=gA d12.symm
   refine Ai (fun hn0=>?_) (fun hn0=>?_)
   ·have hn0:(0:Int)<s.bodies.n:=Od hn0
    have hB:0≤Int.ofNat 0∧Int.ofNat 0<(s.bodies.n:Int):=⟨by decide,hn0⟩
    refine Ai hB ?_
    refine Ai (fun he=>?_) (fun he=>?_)
    ·refine Ai hB ?_
     refine Ai hB ?_
     refine Ai ?_ ?_
     ·repeat' (first|(refine Ai ?_ ?_)|(intro _)|exact rfl|exact trivial)
     refine Ai ?_ ?_
     ·repeat' (first|(refine Ai ?_ ?_)|(intro _)|exact rfl|exact trivial)
     refine Ai (fun hx=>?_) (fun hx=>?_)
     ·have hx:(!(bJ (iU (w.l.e k))).1.fixed)=true:=hx
      rw[ef] at hx
      have hx:(bJ (w.l.e k)).1.fixed=false:=by simpa using hx
      refine Ai hB ?_
      refine Ai hB ?_
      refine Ai ?_ ?_
      ·repeat' (first|(refine Ai ?_ ?_)|(intro _)|exact rfl|exact trivial)
      refine Ai ?_ ?_
      ·repeat' (first|(refine Ai ?_ ?_)|(intro _)|exact rfl|exact trivial)
      have hBE:ak s (w.l.e k)=jD (w.l.e k) (s.bodies.e 0):=by rw[hB0,decide_eq_true (by omega:0<s.bodies.n),decide_eq_true (show (s.bodies.e 0).iD=(w.l.e k).iD from Od he)];rfl
      refine Ai (show I64 ((k:Int)+1) by unfold I64;omega) ?_
      refine⟨k+1,[(5,121)],[.bB 4],(by show w.l.n-(k+1)<w.l.n-k;omega),(by show k+1≤w.l.n;omega),?_⟩
      repeat' (first|(refine Ai ?_ ?_)|(intro _)|exact rfl)
      ·refine aC (α:=List SV) (p:=fun i y=>aH (vqL 5 [(5,121)] (List.set [SV.v (Value.int IntKind.i64 (ak s (w.l.e i)).iD),SV.e] 1 SV.e) (y.set 1 SV.e))) ?_ ?_ _ ‹_›
       ·show aH (vqL 5 [(5,121)] ([SV.v (Value.int IntKind.i64 (ak s (w.l.e k)).iD),SV.e].set 1 SV.e) _)
        rw[hBE];exact rfl
       ·exact fun i _=>rfl
      ·refine aC (α:=Nat×(Nat→List SV)) (p:=fun i y=>(ak s (w.l.e i)).l.n=y.1) ?_ ?_ _ ‹_›
       ·show (ak s (w.l.e k)).l.n=_
        first|(rw[hBE];done)|(rw[hBE];exact rfl)
       ·exact fun i _=>rfl
      ·refine aC (α:=Nat×(Nat→List SV)) (p:=fun i y=>∀j,j<y.1→aH (vqL 5 [(5,121)] ((ak s (w.l.e i)).l.c j).cells (y.2 j))) ?_ ?_ _ ‹_› _ ‹_›
       ·show ∀j,j<_→aH (vqL 5 [(5,121)] ((ak s (w.l.e k)).l.c j).cells _)
        rw[hBE]
        intro j hj
        by_cases j1:j=ixK (fun j=>((w.l.e k).l.c j).cells) (w.l.e k).l.n 1
        ·subst j1
         have e1:(jD (w.l.e k) (s.bodies.e 0)).l.c (ixK (fun j=>((w.l.e k).l.c j).cells) (w.l.e k).l.n 1)=_:=put_1 (e:=w.l.e k)
         rw[e1]
         simp only[b11,b12,b21,b22]
         exact⟨rfl,rfl,rfl,rfl,rfl⟩
        by_cases j2:j=ixK (fun j=>((w.l.e k).l.c j).cells) (w.l.e k).l.n 2
        ·subst j2
         have e2:(jD (w.l.e k) (s.bodies.e 0)).l.c (ixK (fun j=>((w.l.e k).l.c j).cells) (w.l.e k).l.n 2)=_:=put_2 (e:=w.l.e k) d12.symm hx
         rw[e2]
         simp only[b11,b12,b21,b22]
         exact⟨rfl,rfl,rfl,rfl,rfl⟩
        have eo:(jD (w.l.e k) (s.bodies.e 0)).l.c j=_:=put_o (e:=w.l.e k) j1 (.inr j2)
        rw[eo]
        simp only[gA j1,gA j2]
        exact⟨rfl,rfl,rfl,rfl,rfl⟩
       ·exact fun i _ j _=>⟨rfl,rfl,rfl,rfl,rfl⟩
     ·have hx:(!(bJ (iU (w.l.e k))).1.fixed)=false:=hx
      rw[ef] at hx
      have hx:(bJ (w.l.e k)).1.fixed=true:=by simpa using hx
      have hBE:ak s (w.l.e k)=jD (w.l.e k) (s.bodies.e 0):=by rw[hB0,decide_eq_true (by omega:0<s.bodies.n),decide_eq_true (show (s.bodies.e 0).iD=(w.l.e k).iD from Od he)];rfl
      refine Ai (show I64 ((k:Int)+1) by unfold I64;omega) ?_
      refine⟨k+1,[(5,121)],[.bB 4],(by show w.l.n-(k+1)<w.l.n-k;omega),(by show k+1≤w.l.n;omega),?_⟩
      repeat' (first|(refine Ai ?_ ?_)|(intro _)|exact rfl)
      ·refine aC (α:=List SV) (p:=fun i y=>aH (vqL 5 [(5,121)] (List.set [SV.v (Value.int IntKind.i64 (ak s (w.l.e i)).iD),SV.e] 1 SV.e) (y.set 1 SV.e))) ?_ ?_ _ ‹_›
       ·show aH (vqL 5 [(5,121)] ([SV.v (Value.int IntKind.i64 (ak s (w.l.e k)).iD),SV.e].set 1 SV.e) _)
        rw[hBE];exact rfl
       ·exact fun i _=>rfl
      ·refine aC (α:=Nat×(Nat→List SV)) (p:=fun i y=>(ak s (w.l.e i)).l.n=y.1) ?_ ?_ _ ‹_›
       ·show (ak s (w.l.e k)).l.n=_
        first|(rw[hBE];done)|(rw[hBE];exact rfl)
       ·exact fun i _=>rfl
      ·refine aC (α:=Nat×(Nat→List SV)) (p:=fun i y=>∀j,j<y.1→aH (vqL 5 [(5,121)] ((ak s (w.l.e i)).l.c j).cells (y.2 j))) ?_ ?_ _ ‹_› _ ‹_›
       ·show ∀j,j<_→aH (vqL 5 [(5,121)] ((ak s (w.l.e k)).l.c j).cells _)
        rw[hBE]
        intro j hj
        by_cases j1:j=ixK (fun j=>((w.l.e k).l.c j).cells) (w.l.e k).l.n 1
        ·subst j1
         have e1:(jD (w.l.e k) (s.bodies.e 0)).l.c (ixK (fun j=>((w.l.e k).l.c j).cells) (w.l.e k).l.n 1)=_:=put_1 (e:=w.l.e k)
         rw[e1]
         simp only[b11,b12,b21,b22]
         exact⟨rfl,rfl,rfl,rfl,rfl⟩
        have eo:(jD (w.l.e k) (s.bodies.e 0)).l.c j=_:=put_o (e:=w.l.e k) j1 (.inl hx)
        rw[eo]
        simp only[gA j1]
        exact⟨rfl,rfl,rfl,rfl,rfl⟩
       ·exact fun i _ j _=>⟨rfl,rfl,rfl,rfl,rfl⟩
    ·refine Ai (fun h1=>absurd (show ((0:Int)+1)<s.bodies.n from Od h1) (by omega)) (fun _=>?_)
     have hBE:ak s (w.l.e k)=w.l.e k:=by rw[hB0,decide_eq_false (show ¬(s.bodies.e 0).iD=(w.l.e k).iD from of_decide_eq_false he),Bool.and_false];rfl
     refine Ai (show I64 ((k:Int)+1) by unfold I64;omega) ?_
     refine⟨k+1,[(5,121)],[.bB 4],(by show w.l.n-(k+1)<w.l.n-k;omega),(by show k+1≤w.l.n;omega),?_⟩
     repeat' (first|(refine Ai ?_ ?_)|(intro _)|exact rfl)
     ·refine aC (α:=List SV) (p:=fun i y=>aH (vqL 5 [(5,121)] (List.set [SV.v (Value.int IntKind.i64 (ak s (w.l.e i)).iD),SV.e] 1 SV.e) (y.set 1 SV.e))) ?_ ?_ _ ‹_›
      ·show aH (vqL 5 [(5,121)] ([SV.v (Value.int IntKind.i64 (ak s (w.l.e k)).iD),SV.e].set 1 SV.e) _)
       rw[hBE];exact rfl
      ·exact fun i _=>rfl
     ·refine aC (α:=Nat×(Nat→List SV)) (p:=fun i y=>(ak s (w.l.e i)).l.n=y.1) ?_ ?_ _ ‹_›
      ·show (ak s (w.l.e k)).l.n=_
       first|(rw[hBE];done)|(rw[hBE];exact rfl)
      ·exact fun i _=>rfl
     ·refine aC (α:=Nat×(Nat→List SV)) (p:=fun i y=>∀j,j<y.1→aH (vqL 5 [(5,121)] ((ak s (w.l.e i)).l.c j).cells (y.2 j))) ?_ ?_ _ ‹_› _ ‹_›
      ·show ∀j,j<_→aH (vqL 5 [(5,121)] ((ak s (w.l.e k)).l.c j).cells _)
       rw[hBE];exact fun j _=>⟨rfl,rfl,rfl,rfl,rfl⟩
      ·exact fun i _ j _=>⟨rfl,rfl,rfl,rfl,rfl⟩
   ·have hn0:¬(0:Int)<s.bodies.n:=of_decide_eq_false hn0
    have hBE:ak s (w.l.e k)=w.l.e k:=by rw[hB0,decide_eq_false (by omega:¬0<s.bodies.n)];rfl
    refine Ai (show I64 ((k:Int)+1) by unfold I64;omega) ?_
    refine⟨k+1,[(5,121)],[.bB 4],(by show w.l.n-(k+1)<w.l.n-k;omega),(by show k+1≤w.l.n;omega),?_⟩
    repeat' (first|(refine Ai ?_ ?_)|(intro _)|exact rfl)
    ·refine aC (α:=List SV) (p:=fun i y=>aH (vqL 5 [(5,121)] (List.set [SV.v (Value.int IntKind.i64 (ak s (w.l.e i)).iD),SV.e] 1 SV.e) (y.set 1 SV.e))) ?_ ?_ _ ‹_›
     ·show aH (vqL 5 [(5,121)] ([SV.v (Value.int IntKind.i64 (ak s (w.l.e k)).iD),SV.e].set 1 SV.e) _)
      rw[hBE];exact rfl
     ·exact fun i _=>rfl
    ·refine aC (α:=Nat×(Nat→List SV)) (p:=fun i y=>(ak s (w.l.e i)).l.n=y.1) ?_ ?_ _ ‹_›
     ·show (ak s (w.l.e k)).l.n=_
      first|(rw[hBE];done)|(rw[hBE];exact rfl)
     ·exact fun i _=>rfl
    ·refine aC (α:=Nat×(Nat→List SV)) (p:=fun i y=>∀j,j<y.1→aH (vqL 5 [(5,121)] ((ak s (w.l.e i)).l.c j).cells (y.2 j))) ?_ ?_ _ ‹_› _ ‹_›
     ·show ∀j,j<_→aH (vqL 5 [(5,121)] ((ak s (w.l.e k)).l.c j).cells _)
      rw[hBE];exact fun j _=>⟨rfl,rfl,rfl,rfl,rfl⟩
     ·exact fun i _ j _=>⟨rfl,rfl,rfl,rfl,rfl⟩
 ·have hb:¬(k:Int)<w.l.n:=of_decide_eq_false hb
  obtain rfl:k=w.l.n:=by omega
  repeat' (first|(refine Ai ?_ ?_)|(intro _)|exact rfl)
  all_goals first|(show (_:Int)=_;rw[Nat.zero_add];done)|(show (_:Nat)=_;rw[Nat.zero_add];done)|(show (_:Nat)=_;rw[Nat.zero_add];rfl)
noncomputable def conBack:Con cx:=ah 82 Tryz.call82 (aV cP oz) _ _ (fun _=>⟨[14,16],[6],[3],3⟩) [14,16] (fun _=>rfl) follows Tryz.func82 (by kernel_rfl) Back_walk
end Go.Proofs.YtgigkennhdolpaaGreatDoor
