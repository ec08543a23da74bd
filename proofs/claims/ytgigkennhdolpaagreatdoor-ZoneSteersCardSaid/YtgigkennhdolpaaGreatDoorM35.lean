/- zone.Steer. -/
import Derived.Test.YtgigkennhdolpaaGreatDoorM19
import Derived.Test.YtgigkennhdolpaaGreatDoorM34
namespace Go.Proofs.YtgigkennhdolpaaGreatDoor
open Go.RowKit
set_option maxRecDepth 8000
set_option maxHeartbeats 2000000
def copC(w:Wor)(b:Nat)(H0:bd):Cut:=⟨Nat,fun k=>k≤w.l.n,fun k=>⟨[sl 2 (.p (b+1) 0),sl 3 (.p (b+2) 0),sl 10 w.l.sv,sl 11 (i64 w.l.n),sl 12 (i64 k)],
 (b+1,.lay zeroW 28)::(b+2,.lay [.v (.int .i64 w.tick),.g (b+3) (b+4) 2 0 k] 28)::(b+3,nstE w.l k (b+4))::H0,b+5,0,[],[]⟩,fun k=>w.l.n-k⟩
def o4(c:Int):Bool:=decide (c<1)||decide (8<c)
theorem Steer1_walk:∀a,aK ((fun _=>[]) a)→aX (C:=cx) [] [] 0 aw Tryz.f55 ((bM rdInp).enc a) fun v H _=>ai ((fun a=>.v (.bool (o4 a.client))) a) H v:=by
 intro a _
 exact rfl
noncomputable def conSteer1:Con cx:=ah 55 Tryz.call55 (bM rdInp) _ _ (fun _=>aw) [] (fun _=>rfl) follows Tryz.func55 (by kernel_rfl) Steer1_walk
noncomputable def inHasI:FnI cx:=⟨91,Tryz.call91,Tryz.f91,Tryz.func91,[],[],[2],0,by kernel_rfl⟩
def idxHasI(l:bw):Cut:=⟨Nat,fun k=>k≤l.n∧bc (fun i=>o4 (l.e i).client) 0 l.n=bc (fun i=>o4 (l.e i).client) k (l.n-k),
 fun k=>⟨[sl 0 l.sv,sl 1 (.v (.func (.func 55) #[] #[])),sl 7 (i64 l.n),sl 8 (i64 k)],[],0,0,[],[]⟩,fun k=>l.n-k⟩
theorem HasI_walk:∀a,aK ((fun a=>[(a.1.n:Int)≤cJ,a.2=(.v (.func (.func 55) #[] #[]))]) a)→aX (C:=cx) [conSteer1] [inHasI] 1 aw Tryz.f54 ((aV iQ rdX).enc a) fun v H _=>ai ((fun a=>.v (.bool (bc (fun i=>o4 (a.1.e i).client) 0 a.1.n))) a) H v:=by
 intro⟨l,x⟩ ⟨hn,hx⟩
 replace hx:x=.v (.func (.func 55) #[] #[]):=hx
 subst hx
 replace hn:(l.n:Int)≤cJ:=hn
 have hm:(l.n:Int)≤9223372036854775807:=hn
 refine Exists.intro (idxHasI l) ?_
 refine Ai ?_ ?_
 ·refine⟨(0:Nat),[],[],trivial,⟨Nat.zero_le _,rfl⟩,?_⟩
  repeat' (first|(refine Ai ?_ ?_)|(intro _)|exact rfl)
 refine fun(k:Nat) (hk:k≤l.n∧bc (fun i=>o4 (l.e i).client) 0 l.n=bc (fun i=>o4 (l.e i).client) k (l.n-k))=>?_
 obtain⟨k1,k2⟩:=hk
 refine Ai (fun hb=>?_) (fun hb=>?_)
 ·have hb:(k:Int)<l.n:=Od hb
  have e:=dB (g:=(fun i=>o4 (l.e i).client)) (k:=k) (n:=l.n) (by omega)
  refine Ai ⟨by omega,by omega⟩ ?_
  refine Ai (fun hc=>?_) (fun hc=>?_)
  ·have hc:o4 (l.e k).client=true:=hc
   simp only[hc] at e
   refine Eq.trans (a:=bc (fun i=>o4 (l.e i).client) 0 l.n) (b:=decide (0≤(k:Int))) ?_ rfl
   rw[k2,e,decide_eq_true (by omega)]
  ·have hc:o4 (l.e k).client=false:=hc
   simp only[hc] at e
   refine Ai (by unfold I64;omega:I64 ((k:Int)+1)) ?_
   refine⟨k+1,[],[],(by show l.n-(k+1)<l.n-k;omega),⟨by omega,by rw[k2,e]⟩,?_⟩
   repeat' (first|(refine Ai ?_ ?_)|(intro _)|exact rfl)
 ·have hb:¬(k:Int)<l.n:=of_decide_eq_false hb
  have e:bc (fun i=>o4 (l.e i).client) 0 l.n=false:=by rw[k2,show l.n-k=0 by omega];rfl
  exact e
noncomputable def conHasI:Con cx:=ah 54 Tryz.call54 (aV iQ rdX) _ _ (fun _=>aw) [] (fun _=>rfl) follows Tryz.func54 (by kernel_rfl) HasI_walk
def cq(l:bw):Nat→Int→Nat
 | 0,_=>0
 | k+1,q=>bif decide ((l.e k).client=q)&&(decide (cq l k q=0)||decide ((l.e (cq l k q-1)).seq≤(l.e k).seq)) then k+1 else cq l k q
theorem mP{l:bw}{q:Int} : ∀{k:Nat},cq l k q≤k
 | 0=>Nat.le_refl _
 | k+1=>by
  unfold cq
  have:=mP (l:=l) (q:=q) (k:=k)
  cases (decide ((l.e k).client=q)&&(decide (cq l k q=0)||decide ((l.e (cq l k q-1)).seq≤(l.e k).seq))) with
  | true=>exact Nat.le_refl _
  | false=>exact Nat.le_succ_of_le this
def latH(l:bw)(k:Nat)(q:Int):Bool:=Nat.blt 0 (cq l k q)
def latG(l:bw)(k:Nat)(q:Int):List SV:=[.v (.int .i64 (cq l k q))]
def eY(l:bw)(k:Nat)(q:Int):Int:=bif latH l k q then(cq l k q:Int) else 0
theorem latV_eq{l:bw}{k:Nat}{q:Int} : eY l k q=cq l k q:=by
 unfold eY latH
 cases h:cq l k q with
 | zero=>rfl
 | succ m=>rfl
theorem latI_put{l:bw}{k:Nat}(h:(decide (eY l k (l.e k).client=0)||decide ((l.e (eY l k (l.e k).client-1).toNat).seq≤(l.e k).seq))=true)(j:Int):cq l (k+1) j=bif decide (j=(l.e k).client) then k+1 else cq l k j:=by
 rw[latV_eq,show ((cq l k (l.e k).client:Int)-1).toNat=cq l k (l.e k).client-1 by omega,show decide ((cq l k (l.e k).client:Int)=0)=decide (cq l k (l.e k).client=0) from decide_eq_decide.2 (by omega)] at h
 rw[cq]
 by_cases hj:j=(l.e k).client
 ·subst hj;rw[h,decide_eq_true rfl];rfl
 ·rw[decide_eq_false hj,decide_eq_false (Ne.symm hj)];rfl
theorem latI_not{l:bw}{k:Nat}(h:(decide (eY l k (l.e k).client=0)||decide ((l.e (eY l k (l.e k).client-1).toNat).seq≤(l.e k).seq))=false)(j:Int):cq l (k+1) j=cq l k j:=by
 rw[latV_eq,show ((cq l k (l.e k).client:Int)-1).toNat=cq l k (l.e k).client-1 by omega,show decide ((cq l k (l.e k).client:Int)=0)=decide (cq l k (l.e k).client=0) from decide_eq_decide.2 (by omega)] at h
 rw[cq]
 by_cases hj:j=(l.e k).client
 ·subst hj;rw[h,Bool.and_false];rfl
 ·rw[decide_eq_false (Ne.symm hj)];rfl
theorem latH_put{l:bw}{k:Nat}(h:(decide (eY l k (l.e k).client=0)||decide ((l.e (eY l k (l.e k).client-1).toNat).seq≤(l.e k).seq))=true)(j:Int):latH l (k+1) j=(decide (j=(l.e k).client)||latH l k j):=by
 unfold latH
 rw[latI_put h]
 cases decide (j=(l.e k).client)<;>rfl
def setV(e:Ent)(v:Df.Vec):Ent:=⟨e.iD,⟨e.l.n,fun j=>bif Nat.beq j (ixC e.l 2) then⟨(e.l.c (ixC e.l 2)).kind,v.x,v.y,(e.l.c (ixC e.l 2)).v2,(e.l.c (ixC e.l 2)).v3⟩ else e.l.c j⟩⟩
def mvI(l:bw)(q:Int):Df.Vec:=Df.lim ⟨(l.e (cq l l.n q-1)).moveX,(l.e (cq l l.n q-1)).moveY⟩ 64
def aR(l:bw)(e:Ent):Ent:=match dP e.l 4,dP e.l 2 with
 | true,true=>bif Nat.blt 0 (cq l l.n (e.l.c (ixC e.l 4)).v0) then setV e (mvI l (e.l.c (ixC e.l 4)).v0) else e
 | _,_=>e
def j7(w:Wor)(l:bw):Bool:=!w.valid||bc (fun i=>o4 (l.e i).client) 0 l.n
def bz(w:Wor)(l:bw):Wor×Int:=match j7 w l with
 | true=>(⟨0,⟨0,fun _=>Ent.no⟩⟩,2)
 | false=>(⟨w.tick,⟨w.l.n,fun i=>aR l (w.l.e i)⟩⟩,0)
def wkS(w:Wor)(l:bw)(k:Nat):Ens:=⟨w.l.n,fun i=>bif Nat.blt i k then aR l (w.l.e i) else w.l.e i⟩
theorem wkS_at{w:Wor}{l:bw}{k:Nat} : (wkS w l k).e k=w.l.e k:=by
 show (bif Nat.blt k k then _ else w.l.e k)=_
 rw[show Nat.blt k k=false from by cases e:Nat.blt k k;rfl;exact absurd (Nat.le_of_ble_eq_true e) (by omega)];rfl
theorem g9{w:Wor}{l:bw}{k i:Nat}(h:i<k):(wkS w l k).e i=aR l (w.l.e i):=by
 show (bif Nat.blt i k then _ else w.l.e i)=_
 rw[show Nat.blt i k=true from Nat.ble_eq_true_of_le h];rfl
theorem lX{w:Wor}{l:bw}{k i:Nat}(h:i≠k):(wkS w l (k+1)).e i=(wkS w l k).e i:=by
 show (bif Nat.blt i (k+1) then _ else _)=(bif Nat.blt i k then _ else _)
 rw[show Nat.blt i (k+1)=Nat.blt i k from by
  cases e:Nat.blt i k with
  | true=>exact Nat.ble_eq_true_of_le (by have:=Nat.le_of_ble_eq_true e;omega)
  | false=>
   cases e':Nat.blt i (k+1) with
   | false=>rfl
   | true=>have h1:=Nat.le_of_ble_eq_true e';rw[show Nat.blt i k=true from Nat.ble_eq_true_of_le (by omega)] at e;cases e]
theorem bb1{A A0:Bool}{x y x' z:Int}(h0:A0=true):(bif A then x else z)=bif A then(bif A0 then x else y) else(bif A then x' else z):=by subst h0;cases A<;>rfl
theorem bb2{A:Bool}{x x' z:Int} : (bif A then x else z)=bif A then x else(bif A then x' else z):=by cases A<;>rfl
theorem wkS_id{w:Wor}{l:bw}{k i:Nat}(h:∀e,(aR l e).iD=e.iD):((wkS w l (k+1)).e i).iD=((wkS w l k).e i).iD:=by
 by_cases hi:i=k
 ·subst hi;rw[g9 (by omega),wkS_at,h]
 ·rw[lX hi]
theorem wkS_n{w:Wor}{l:bw}{k i:Nat}(h:∀e,(aR l e).l.n=e.l.n):((wkS w l (k+1)).e i).l.n=((wkS w l k).e i).l.n:=by
 by_cases hi:i=k
 ·subst hi;rw[g9 (by omega),wkS_at,h]
 ·rw[lX hi]
theorem fV{l:bw}(e:Ent):(aR l e).iD=e.iD:=by
 unfold aR
 split
 ·cases Nat.blt 0 (cq l l.n (e.l.c (ixC e.l 4)).v0)<;>rfl
 ·rfl
theorem eN{l:bw}(e:Ent):(aR l e).l.n=e.l.n:=by
 unfold aR
 split
 ·cases Nat.blt 0 (cq l l.n (e.l.c (ixC e.l 4)).v0)<;>rfl
 ·rfl
theorem wkS_st{w:Wor}{l:bw}{k:Nat}{v:Df.Vec}(h:aR l (w.l.e k)=setV (w.l.e k) v)(i j:Nat):((wkS w l (k+1)).e i).l.c j=bif andQ (Nat.beq i k) (Nat.beq j (ixC (w.l.e k).l 2)) then⟨((w.l.e k).l.c (ixC (w.l.e k).l 2)).kind,v.x,v.y,((w.l.e k).l.c (ixC (w.l.e k).l 2)).v2,((w.l.e k).l.c (ixC (w.l.e k).l 2)).v3⟩ else((wkS w l k).e i).l.c j:=by
 by_cases hi:i=k
 ·subst hi
  rw[g9 (by omega),wkS_at,h,Nat.beq_refl]
  rfl
 ·rw[lX hi,gA hi]
  rfl
def code2(b4 b2:Bool):Nat:=match b4,b2 with
 | false,false=>0
 | false,true=>16
 | true,false=>32
 | true,true=>48
def selS(nm:Nat)(q:Int):Bool:=match (nm-10)/16,q with
 | 1,.ofNat 2=>true
 | 2,.ofNat 4=>true
 | 3,.ofNat 2=>true
 | 3,.ofNat 4=>true
 | _,_=>false
def steH(w:Wor)(l:bw)(k:Nat):bd:=[(0,.lay w.cells 28),(1,.lay zeroW 28),(2,.mp .i64 false (latH l k) (latG l k))]
def steA(w:Wor)(l:bw):Cut:=⟨Nat,fun k=>k≤l.n,fun k=>⟨[sl 1 l.sv,sl 2 (.p 0 0),sl 4 (.p 1 0),sl 6 (.m 2),sl 26 l.sv,sl 27 (i64 l.n),sl 28 (i64 k)],steH w l k,3,0,[],[]⟩,fun k=>l.n-k⟩
def steB(w:Wor)(l:bw):Cut:=⟨Nat,fun k=>k≤w.l.n,fun k=>⟨[sl 1 l.sv,sl 4 (.p 1 0),sl 6 (.m 2),sl 10 (.p 8 0),sl 59 (.g 6 7 2 0 w.l.n),sl 60 (i64 w.l.n),sl 61 (i64 k)],
 (8,.lay [.v (.int .i64 w.tick),.g 6 7 2 0 w.l.n] 28)::(6,nstE (wkS w l k) w.l.n 7)::steH w l l.n,9,0,[],[]⟩,fun k=>w.l.n-k⟩
def steD(w:Wor)(l:bw)(k:Nat)(b4 b2:Bool):Cut:=⟨Unit,fun _=>k<w.l.n,fun _=>⟨[sl 1 l.sv,sl 4 (.p 1 0),sl 6 (.m 2),sl 10 (.p 8 0),sl 59 (.g 6 7 2 0 w.l.n),sl 60 (i64 w.l.n),sl 61 (i64 k)],
 (8,.lay [.v (.int .i64 w.tick),.g 6 7 2 0 w.l.n] 28)::(6,nstE (wkS w l k) w.l.n 7)::steH w l l.n,9+code2 b4 b2,0,[],[]⟩,fun _=>0⟩
noncomputable def inCopied:FnI cx:=⟨56,Tryz.call56,Tryz.f56,Tryz.func56,[],[],[3],0,by kernel_rfl⟩
set_option maxHeartbeats 4000000 in
theorem Steer_walk:∀a,aK ((fun a=>[a.1.l.Sm,(a.2.n:Int)≤cJ,∀i,i<a.2.n→InR (a.2.e i).moveX∧InR (a.2.e i).moveY]) a)→aX (C:=cx) [je,conHasI,n7,conFirB selS,Df.conLimit] [inCopied] 1 ⟨[20],[14],[5,13],0⟩ Tryz.f21 ((aV cP iQ).enc a) fun v H _=>ai ((fun a=>.tup [(bz a.1 a.2).1.sv,.v (.int .i64 (bz a.1 a.2).2)]) a) H v:=by
 intro⟨w,l⟩ ⟨hs,hn,hm⟩
 replace hs:w.l.Sm:=hs
 replace hn:(l.n:Int)≤9223372036854775807:=hn
 replace hm:∀i,i<l.n→InR (l.e i).moveX∧InR (l.e i).moveY:=hm
 refine Ai ⟨by repeat' (first|exact trivial|exact rfl|refine Ai ?_ ?_|intro _),hs⟩ ?_
 refine Ai (fun _=>⟨fun _ _=>trivial,hn,rfl⟩) ?_
 refine Ai (fun hc=>?_) (fun hc=>?_)
 ·have hc:j7 w l=true:=hc
  have e:bz w l=(⟨0,⟨0,fun _=>Ent.no⟩⟩,2):=by unfold bz;rw[hc]
  simp only[e]
  repeat' (first|(refine Ai ?_ ?_)|(intro _)|exact rfl)
  all_goals exact absurd ‹_<0› (Nat.not_lt_zero _)
 have hc:j7 w l=false:=hc
 have e:bz w l=(⟨w.tick,⟨w.l.n,fun i=>aR l (w.l.e i)⟩⟩,0):=by unfold bz;rw[hc]
 simp only[e]
 have hv:w.valid=true:=by
  unfold j7 at hc
  simpa using (Bool.or_eq_false_iff.1 hc).1
 have hV:=Wor.dq.1 hv
 have hlen:=hV.len
 have hsm:w.l.n≤1000∧∀i,i<w.l.n→(w.l.e i).l.n≤1000:=⟨by omega,fun i hi=>by have:=(hV.right i hi).len;omega⟩
 refine Exists.intro (steA w l) ?_
 refine Ai ?_ ?_
 ·refine⟨(0:Nat),[],[],trivial,Nat.zero_le _,?_⟩
  repeat' (first|(refine Ai ?_ ?_)|(intro _)|exact rfl)
  all_goals exact(Bool.false_ne_true ‹_›).elim
 refine fun(k:Nat) (hk:k≤l.n)=>?_
 refine Ai (fun hb=>?_) (fun hb=>?_)
 ·have hb:(k:Int)<l.n:=Od hb
  refine Ai ⟨by omega,by omega⟩ ?_
  refine Ai (by repeat' (first|exact trivial|exact rfl|refine Ai ?_ ?_|intro _)) ?_
  have hV':eY l k (l.e k).client=cq l k (l.e k).client:=latV_eq
  have hle:=mP (l:=l) (q:=(l.e k).client) (k:=k)
  have o1:I64 ((k:Int)+1):=by unfold I64;omega
  refine Ai (fun hi=>by
   have hi:decide (eY l k (l.e k).client=0)=false:=hi
   have:=of_decide_eq_false hi
   show I64 (eY l k (l.e k).client-1)
   rw[hV'] at this ⊢;unfold I64;omega) ?_
  refine Ai (fun hi=>by
   have hi:decide (eY l k (l.e k).client=0)=false:=hi
   have:=of_decide_eq_false hi
   show 0≤eY l k (l.e k).client-1∧eY l k (l.e k).client-1<(l.n:Int)
   rw[hV'] at this ⊢;omega) ?_
  refine Ai (fun hc=>?_) (fun hc=>?_)
  ·have hc:(decide (eY l k (l.e k).client=0)||decide ((l.e (eY l k (l.e k).client-1).toNat).seq≤(l.e k).seq))=true:=hc
   refine Ai o1 ?_
   refine Ai (by repeat' (first|exact trivial|exact rfl|refine Ai ?_ ?_|intro _)) ?_
   refine Ai o1 ?_
   refine⟨k+1,[],[],(by show l.n-(k+1)<l.n-k;omega),(by show k+1≤l.n;omega),?_⟩
   repeat' (first|(refine Ai ?_ ?_)|(intro _)|exact rfl)
   ·exact latH_put hc _
   ·refine(congrArg Int.ofNat (latI_put hc _)).trans ?_
    exact bY Int.ofNat
  ·have hc:(decide (eY l k (l.e k).client=0)||decide ((l.e (eY l k (l.e k).client-1).toNat).seq≤(l.e k).seq))=false:=hc
   refine Ai o1 ?_
   refine⟨k+1,[],[],(by show l.n-(k+1)<l.n-k;omega),(by show k+1≤l.n;omega),?_⟩
   repeat' (first|(refine Ai ?_ ?_)|(intro _)|exact rfl)
   ·exact congrArg (Nat.blt 0) (latI_not hc _)
   ·exact congrArg Int.ofNat (latI_not hc _)
 ·have hb:¬(k:Int)<l.n:=of_decide_eq_false hb
  obtain rfl:k=l.n:=by omega
  refine Exists.intro (copC w 3 (steH w l l.n)) ?_
  refine Ai ?_ ?_
  ·refine⟨(0:Nat),[],[.cellN 5 1 2 1 5 46 42],trivial,Nat.zero_le _,?_⟩
   repeat' (first|(refine Ai ?_ ?_)|(intro _)|exact rfl)
   all_goals exact absurd ‹_<0› (Nat.not_lt_zero _)
  refine fun(k:Nat) (hk:k≤w.l.n)=>?_
  refine Ai (fun hb=>?_) (fun hb=>?_)
  ·have hb:(k:Int)<w.l.n:=Od hb
   refine Ai ⟨by omega,by omega⟩ ?_
   refine Ai ⟨fun _ _=>trivial,(by have:=hsm.2 k (by omega);(show (w.l.e k).l.n≤1000);omega)⟩ ?_
   have hfit:iz (k+1) 32:=⟨Nat.le_trans (by have:=hsm.1;omega:k+1≤1001) (by decide),by have:=hsm.1;omega⟩
   refine Ai ⟨hfit,?_⟩ ?_
   ·repeat' (first|(refine Ai ?_ ?_)|(intro _)|exact rfl)
   refine Ai (by have:=hsm.1;unfold I64;omega:I64 ((k:Int)+1)) ?_
   refine⟨k+1,[(7,11)],[.bB 6],(by show w.l.n-(k+1)<w.l.n-k;omega),(by omega:k+1≤w.l.n),?_⟩
   repeat' (first|(refine Ai ?_ ?_)|(intro _)|exact rfl)
   ·refine aC (α:=List SV) (p:=fun i y=>aH (vqL 8 [(7,11)] (List.set [SV.v (Value.int IntKind.i64 (w.l.e i).iD),SV.e] 1 SV.e) (y.set 1 SV.e))) ?_ ?_ _ ‹_›
    ·exact rfl
    ·exact fun i _=>rfl
   ·refine aC (α:=Nat×(Nat→List SV)) (p:=fun i y=>(w.l.e i).l.n=y.1) ?_ ?_ _ ‹_›
    ·exact rfl
    ·exact fun i _=>rfl
   ·refine aC (α:=Nat×(Nat→List SV)) (p:=fun i y=>∀j,j<y.1→aH (vqL 8 [(7,11)] ((w.l.e i).l.c j).cells (y.2 j))) ?_ ?_ _ ‹_› _ ‹_›
    ·exact fun j _=>⟨rfl,rfl,rfl,rfl,rfl⟩
    ·exact fun i _ j _=>⟨rfl,rfl,rfl,rfl,rfl⟩
  have hb:¬(k:Int)<w.l.n:=of_decide_eq_false hb
  obtain rfl:k=w.l.n:=by omega
  refine Exists.intro (steB w l) ?_
  refine Ai ?_ ?_
  ·refine⟨(0:Nat),[],[],trivial,Nat.zero_le _,?_⟩
   repeat' (first|(refine Ai ?_ ?_)|(intro _)|exact rfl)
  refine fun(k:Nat) (hk:k≤w.l.n)=>?_
  generalize hb4:dP (w.l.e k).l 4=b4
  generalize hb2:dP (w.l.e k).l 2=b2
  have hek:(wkS w l k).e k=w.l.e k:=wkS_at
  have he0:(wkS w l k).e (0+k)=w.l.e k:=by rw[Nat.zero_add];exact wkS_at
  have hs1:∀(b4 b2:Bool),dP (w.l.e k).l 4=b4→dP (w.l.e k).l 2=b2→b4=decide (ixK (fun j=>(((wkS w l k).e (0+k)).l.c j).cells) ((wkS w l k).e (0+k)).l.n 4<((wkS w l k).e (0+k)).l.n)∧b2=decide (ixK (fun j=>(((wkS w l k).e (0+k)).l.c j).cells) ((wkS w l k).e (0+k)).l.n 2<((wkS w l k).e (0+k)).l.n):=fun b4 b2 h4 h2=>by
   rw[he0]
   exact Ai h4.symm h2.symm
  obtain⟨s4,s2⟩:=hs1 _ _ hb4 hb2
  refine Exists.intro (steD w l k b4 b2) ?_
  cases b4<;>cases b2
  ·refine Ai ?_ ?_
   ·refine Ai (fun hb=>?_) (fun hb=>?_)
    ·have hb:(k:Int)<w.l.n:=Od hb
     refine⟨(),[],[],trivial,(by show k<w.l.n;omega),?_⟩
     repeat' (first|(refine Ai ?_ ?_)|(intro _)|exact rfl)
    ·have hb:¬(k:Int)<w.l.n:=of_decide_eq_false hb
     obtain rfl:k=w.l.n:=by omega
     have hs:∀i,i<w.l.n→(wkS w l w.l.n).e (0+i)=aR l (w.l.e i):=fun i hi=>by rw[Nat.zero_add];exact g9 hi
     repeat' (first|(refine Ai ?_ ?_)|(intro _)|exact rfl)
     all_goals first|exact(congrArg Ent.iD (hs _ ‹_›)).symm|exact(congrArg (fun e:Ent=>e.l.n) (hs _ ‹_›)).symm|exact(congrArg (fun e:Ent=>(e.l.c _).kind) (hs _ ‹_<w.l.n›)).symm|exact(congrArg (fun e:Ent=>(e.l.c _).v0) (hs _ ‹_<w.l.n›)).symm|exact(congrArg (fun e:Ent=>(e.l.c _).v1) (hs _ ‹_<w.l.n›)).symm|exact(congrArg (fun e:Ent=>(e.l.c _).v2) (hs _ ‹_<w.l.n›)).symm|exact(congrArg (fun e:Ent=>(e.l.c _).v3) (hs _ ‹_<w.l.n›)).symm
   refine fun(_:Unit) (hkn:k<w.l.n)=>?_
   have hR:=hV.right k hkn
   have hbig:(((wkS w l k).e (0+k)).l.n:Int)≤cJ:=by
    rw[he0];exact Int.le_trans (by have:=hsm.2 k hkn;omega:((w.l.e k).l.n:Int)≤1000) (by decide)
   have o1:I64 ((k:Int)+1):=by unfold I64;omega
   have hk0:0+k<w.l.n:=by omega
   refine Ai ⟨by omega,by omega⟩ ?_
   refine Ai ⟨hk0,fun j _=>⟨_,rfl⟩,hbig,s4⟩ ?_
   refine Ai ⟨hk0,fun j _=>⟨_,rfl⟩,hbig,s2⟩ ?_
   have hBE:aR l (w.l.e k)=w.l.e k:=by unfold aR;rw[hb4,hb2]
   refine Ai o1 ?_
   refine⟨k+1,[],[],(by show w.l.n-(k+1)<w.l.n-k;omega),(by show k+1≤w.l.n;omega),?_⟩
   have hs:∀i,(wkS w l (k+1)).e i=(wkS w l k).e i:=fun i=>by
    by_cases hi:i=k
    ·subst hi;rw[g9 (by omega),hBE,hek]
    ·exact lX hi
   repeat' (first|(refine Ai ?_ ?_)|(intro _)|exact rfl)
   all_goals first|exact congrArg (fun e:Ent=>e.iD) (hs _)|exact congrArg (fun e:Ent=>e.l.n) (hs _)|exact congrArg (fun e:Ent=>(e.l.c _).kind) (hs _)|exact congrArg (fun e:Ent=>(e.l.c _).v0) (hs _)|exact congrArg (fun e:Ent=>(e.l.c _).v1) (hs _)|exact congrArg (fun e:Ent=>(e.l.c _).v2) (hs _)|exact congrArg (fun e:Ent=>(e.l.c _).v3) (hs _)
  ·refine Ai ?_ ?_
   ·refine Ai (fun hb=>?_) (fun hb=>?_)
    ·have hb:(k:Int)<w.l.n:=Od hb
     refine⟨(),[],[],trivial,(by show k<w.l.n;omega),?_⟩
     repeat' (first|(refine Ai ?_ ?_)|(intro _)|exact rfl)
    ·have hb:¬(k:Int)<w.l.n:=of_decide_eq_false hb
     obtain rfl:k=w.l.n:=by omega
     have hs:∀i,i<w.l.n→(wkS w l w.l.n).e (0+i)=aR l (w.l.e i):=fun i hi=>by rw[Nat.zero_add];exact g9 hi
     repeat' (first|(refine Ai ?_ ?_)|(intro _)|exact rfl)
     all_goals first|exact(congrArg Ent.iD (hs _ ‹_›)).symm|exact(congrArg (fun e:Ent=>e.l.n) (hs _ ‹_›)).symm|exact(congrArg (fun e:Ent=>(e.l.c _).kind) (hs _ ‹_<w.l.n›)).symm|exact(congrArg (fun e:Ent=>(e.l.c _).v0) (hs _ ‹_<w.l.n›)).symm|exact(congrArg (fun e:Ent=>(e.l.c _).v1) (hs _ ‹_<w.l.n›)).symm|exact(congrArg (fun e:Ent=>(e.l.c _).v2) (hs _ ‹_<w.l.n›)).symm|exact(congrArg (fun e:Ent=>(e.l.c _).v3) (hs _ ‹_<w.l.n›)).symm
   refine fun(_:Unit) (hkn:k<w.l.n)=>?_
   have hR:=hV.right k hkn
   have hbig:(((wkS w l k).e (0+k)).l.n:Int)≤cJ:=by
    rw[he0];exact Int.le_trans (by have:=hsm.2 k hkn;omega:((w.l.e k).l.n:Int)≤1000) (by decide)
   have o1:I64 ((k:Int)+1):=by unfold I64;omega
   have hk0:0+k<w.l.n:=by omega
   refine Ai ⟨by omega,by omega⟩ ?_
   refine Ai ⟨hk0,fun j _=>⟨_,rfl⟩,hbig,s4⟩ ?_
   refine Ai ⟨hk0,fun j _=>⟨_,rfl⟩,hbig,s2⟩ ?_
   have hBE:aR l (w.l.e k)=w.l.e k:=by unfold aR;rw[hb4,hb2]
   refine Ai o1 ?_
   refine⟨k+1,[],[],(by show w.l.n-(k+1)<w.l.n-k;omega),(by show k+1≤w.l.n;omega),?_⟩
   have hs:∀i,(wkS w l (k+1)).e i=(wkS w l k).e i:=fun i=>by
    by_cases hi:i=k
    ·subst hi;rw[g9 (by omega),hBE,hek]
    ·exact lX hi
   repeat' (first|(refine Ai ?_ ?_)|(intro _)|exact rfl)
   all_goals first|exact congrArg (fun e:Ent=>e.iD) (hs _)|exact congrArg (fun e:Ent=>e.l.n) (hs _)|exact congrArg (fun e:Ent=>(e.l.c _).kind) (hs _)|exact congrArg (fun e:Ent=>(e.l.c _).v0) (hs _)|exact congrArg (fun e:Ent=>(e.l.c _).v1) (hs _)|exact congrArg (fun e:Ent=>(e.l.c _).v2) (hs _)|exact congrArg (fun e:Ent=>(e.l.c _).v3) (hs _)
  ·refine Ai ?_ ?_
   ·refine Ai (fun hb=>?_) (fun hb=>?_)
    ·have hb:(k:Int)<w.l.n:=Od hb
     refine⟨(),[],[],trivial,(by show k<w.l.n;omega),?_⟩
     repeat' (first|(refine Ai ?_ ?_)|(intro _)|exact rfl)
    ·have hb:¬(k:Int)<w.l.n:=of_decide_eq_false hb
     obtain rfl:k=w.l.n:=by omega
     have hs:∀i,i<w.l.n→(wkS w l w.l.n).e (0+i)=aR l (w.l.e i):=fun i hi=>by rw[Nat.zero_add];exact g9 hi
     repeat' (first|(refine Ai ?_ ?_)|(intro _)|exact rfl)
     all_goals first|exact(congrArg Ent.iD (hs _ ‹_›)).symm|exact(congrArg (fun e:Ent=>e.l.n) (hs _ ‹_›)).symm|exact(congrArg (fun e:Ent=>(e.l.c _).kind) (hs _ ‹_<w.l.n›)).symm|exact(congrArg (fun e:Ent=>(e.l.c _).v0) (hs _ ‹_<w.l.n›)).symm|exact(congrArg (fun e:Ent=>(e.l.c _).v1) (hs _ ‹_<w.l.n›)).symm|exact(congrArg (fun e:Ent=>(e.l.c _).v2) (hs _ ‹_<w.l.n›)).symm|exact(congrArg (fun e:Ent=>(e.l.c _).v3) (hs _ ‹_<w.l.n›)).symm
   refine fun(_:Unit) (hkn:k<w.l.n)=>?_
   have hR:=hV.right k hkn
   have hbig:(((wkS w l k).e (0+k)).l.n:Int)≤cJ:=by
    rw[he0];exact Int.le_trans (by have:=hsm.2 k hkn;omega:((w.l.e k).l.n:Int)≤1000) (by decide)
   have o1:I64 ((k:Int)+1):=by unfold I64;omega
   have hk0:0+k<w.l.n:=by omega
   refine Ai ⟨by omega,by omega⟩ ?_
   refine Ai ⟨hk0,fun j _=>⟨_,rfl⟩,hbig,s4⟩ ?_
   refine Ai ⟨hk0,fun j _=>⟨_,rfl⟩,hbig,s2⟩ ?_
   have hBE:aR l (w.l.e k)=w.l.e k:=by unfold aR;rw[hb4,hb2]
   refine Ai o1 ?_
   refine⟨k+1,[],[],(by show w.l.n-(k+1)<w.l.n-k;omega),(by show k+1≤w.l.n;omega),?_⟩
   have hs:∀i,(wkS w l (k+1)).e i=(wkS w l k).e i:=fun i=>by
    by_cases hi:i=k
    ·subst hi;rw[g9 (by omega),hBE,hek]
    ·exact lX hi
   repeat' (first|(refine Ai ?_ ?_)|(intro _)|exact rfl)
   all_goals first|exact congrArg (fun e:Ent=>e.iD) (hs _)|exact congrArg (fun e:Ent=>e.l.n) (hs _)|exact congrArg (fun e:Ent=>(e.l.c _).kind) (hs _)|exact congrArg (fun e:Ent=>(e.l.c _).v0) (hs _)|exact congrArg (fun e:Ent=>(e.l.c _).v1) (hs _)|exact congrArg (fun e:Ent=>(e.l.c _).v2) (hs _)|exact congrArg (fun e:Ent=>(e.l.c _).v3) (hs _)
  ·refine Ai ?_ ?_
   ·refine Ai (fun hb=>?_) (fun hb=>?_)
    ·have hb:(k:Int)<w.l.n:=Od hb
     refine⟨(),[],[],trivial,(by show k<w.l.n;omega),?_⟩
     repeat' (first|(refine Ai ?_ ?_)|(intro _)|exact rfl)
    ·have hb:¬(k:Int)<w.l.n:=of_decide_eq_false hb
     obtain rfl:k=w.l.n:=by omega
     have hs:∀i,i<w.l.n→(wkS w l w.l.n).e (0+i)=aR l (w.l.e i):=fun i hi=>by rw[Nat.zero_add];exact g9 hi
     repeat' (first|(refine Ai ?_ ?_)|(intro _)|exact rfl)
     all_goals first|exact(congrArg Ent.iD (hs _ ‹_›)).symm|exact(congrArg (fun e:Ent=>e.l.n) (hs _ ‹_›)).symm|exact(congrArg (fun e:Ent=>(e.l.c _).kind) (hs _ ‹_<w.l.n›)).symm|exact(congrArg (fun e:Ent=>(e.l.c _).v0) (hs _ ‹_<w.l.n›)).symm|exact(congrArg (fun e:Ent=>(e.l.c _).v1) (hs _ ‹_<w.l.n›)).symm|exact(congrArg (fun e:Ent=>(e.l.c _).v2) (hs _ ‹_<w.l.n›)).symm|exact(congrArg (fun e:Ent=>(e.l.c _).v3) (hs _ ‹_<w.l.n›)).symm
   refine fun(_:Unit) (hkn:k<w.l.n)=>?_
   have hR:=hV.right k hkn
   have hbig:(((wkS w l k).e (0+k)).l.n:Int)≤cJ:=by
    rw[he0];exact Int.le_trans (by have:=hsm.2 k hkn;omega:((w.l.e k).l.n:Int)≤1000) (by decide)
   have o1:I64 ((k:Int)+1):=by unfold I64;omega
   have hk0:0+k<w.l.n:=by omega
   refine Ai ⟨by omega,by omega⟩ ?_
   refine Ai ⟨hk0,fun j _=>⟨_,rfl⟩,hbig,s4⟩ ?_
   refine Ai ⟨hk0,fun j _=>⟨_,rfl⟩,hbig,s2⟩ ?_
   have hQ:(((wkS w l k).e (0+k)).l.c (ixK (fun j=>(((wkS w l k).e (0+k)).l.c j).cells) ((wkS w l k).e (0+k)).l.n 4)).v0=((w.l.e k).l.c (ixC (w.l.e k).l 4)).v0:=by rw[he0];rfl
   have hBE:aR l (w.l.e k)=bif Nat.blt 0 (cq l l.n ((w.l.e k).l.c (ixC (w.l.e k).l 4)).v0) then setV (w.l.e k) (mvI l ((w.l.e k).l.c (ixC (w.l.e k).l 4)).v0) else w.l.e k:=by unfold aR;rw[hb4,hb2]
   have hVQ:eY l l.n (((wkS w l k).e (0+k)).l.c (ixK (fun j=>(((wkS w l k).e (0+k)).l.c j).cells) ((wkS w l k).e (0+k)).l.n 4)).v0=cq l l.n ((w.l.e k).l.c (ixC (w.l.e k).l 4)).v0:=by rw[hQ];exact latV_eq
   have hle:=mP (l:=l) (q:=((w.l.e k).l.c (ixC (w.l.e k).l 4)).v0) (k:=l.n)
   refine Ai (by repeat' (first|exact trivial|exact rfl|refine Ai ?_ ?_|intro _)) ?_
   refine Ai (fun hc=>?_) (fun hc=>?_)
   ·have hc:decide (0<eY l l.n (((wkS w l k).e (0+k)).l.c (ixK (fun j=>(((wkS w l k).e (0+k)).l.c j).cells) ((wkS w l k).e (0+k)).l.n 4)).v0)=true:=hc
    have hc:=Od hc
    rw[hVQ] at hc
    have h1:I64 (eY l l.n (((wkS w l k).e (0+k)).l.c (ixK (fun j=>(((wkS w l k).e (0+k)).l.c j).cells) ((wkS w l k).e (0+k)).l.n 4)).v0-1):=by rw[hVQ];unfold I64;omega
    have h2:0≤eY l l.n (((wkS w l k).e (0+k)).l.c (ixK (fun j=>(((wkS w l k).e (0+k)).l.c j).cells) ((wkS w l k).e (0+k)).l.n 4)).v0-1∧eY l l.n (((wkS w l k).e (0+k)).l.c (ixK (fun j=>(((wkS w l k).e (0+k)).l.c j).cells) ((wkS w l k).e (0+k)).l.n 4)).v0-1<(l.n:Int):=by rw[hVQ];omega
    have h3:=hm (eY l l.n (((wkS w l k).e (0+k)).l.c (ixK (fun j=>(((wkS w l k).e (0+k)).l.c j).cells) ((wkS w l k).e (0+k)).l.n 4)).v0-1).toNat (by omega)
    refine Ai h1 ?_
    refine Ai h2 ?_
    refine Ai ⟨⟨h3.1,h3.2⟩,(by decide:(1:Int)≤64∧(64:Int)≤65536)⟩ ?_
    refine Ai (by repeat' (first|exact trivial|exact rfl|refine Ai ?_ ?_|intro _)) ?_
    refine Ai (by repeat' (first|exact trivial|exact rfl|refine Ai ?_ ?_|intro _)) ?_
    refine Ai o1 ?_
    refine⟨k+1,[],[],(by show w.l.n-(k+1)<w.l.n-k;omega),(by show k+1≤w.l.n;omega),?_⟩
    have hBt:aR l (w.l.e k)=setV (w.l.e k) (mvI l ((w.l.e k).l.c (ixC (w.l.e k).l 4)).v0):=by
     rw[hBE,show Nat.blt 0 (cq l l.n ((w.l.e k).l.c (ixC (w.l.e k).l 4)).v0)=true from Nat.ble_eq_true_of_le (by omega)];rfl
    have hL:mvI l ((w.l.e k).l.c (ixC (w.l.e k).l 4)).v0=Df.lim ⟨(l.e (eY l l.n (((wkS w l k).e (0+k)).l.c (ixK (fun j=>(((wkS w l k).e (0+k)).l.c j).cells) ((wkS w l k).e (0+k)).l.n 4)).v0-1).toNat).moveX,(l.e (eY l l.n (((wkS w l k).e (0+k)).l.c (ixK (fun j=>(((wkS w l k).e (0+k)).l.c j).cells) ((wkS w l k).e (0+k)).l.n 4)).v0-1).toNat).moveY⟩ 64:=by
     unfold mvI
     rw[hVQ,show ((cq l l.n ((w.l.e k).l.c (ixC (w.l.e k).l 4)).v0:Int)-1).toNat=cq l l.n ((w.l.e k).l.c (ixC (w.l.e k).l 4)).v0-1 by omega]
    have st:∀i j,((wkS w l (k+1)).e i).l.c j=bif andQ (Nat.beq i (0+k)) (Nat.beq j (ixK (fun j=>(((wkS w l k).e (0+k)).l.c j).cells) ((wkS w l k).e (0+k)).l.n 2)) then⟨(((wkS w l k).e (0+k)).l.c (ixK (fun j=>(((wkS w l k).e (0+k)).l.c j).cells) ((wkS w l k).e (0+k)).l.n 2)).kind,(Df.lim ⟨(l.e (eY l l.n (((wkS w l k).e (0+k)).l.c (ixK (fun j=>(((wkS w l k).e (0+k)).l.c j).cells) ((wkS w l k).e (0+k)).l.n 4)).v0-1).toNat).moveX,(l.e (eY l l.n (((wkS w l k).e (0+k)).l.c (ixK (fun j=>(((wkS w l k).e (0+k)).l.c j).cells) ((wkS w l k).e (0+k)).l.n 4)).v0-1).toNat).moveY⟩ 64).x,(Df.lim ⟨(l.e (eY l l.n (((wkS w l k).e (0+k)).l.c (ixK (fun j=>(((wkS w l k).e (0+k)).l.c j).cells) ((wkS w l k).e (0+k)).l.n 4)).v0-1).toNat).moveX,(l.e (eY l l.n (((wkS w l k).e (0+k)).l.c (ixK (fun j=>(((wkS w l k).e (0+k)).l.c j).cells) ((wkS w l k).e (0+k)).l.n 4)).v0-1).toNat).moveY⟩ 64).y,(((wkS w l k).e (0+k)).l.c (ixK (fun j=>(((wkS w l k).e (0+k)).l.c j).cells) ((wkS w l k).e (0+k)).l.n 2)).v2,(((wkS w l k).e (0+k)).l.c (ixK (fun j=>(((wkS w l k).e (0+k)).l.c j).cells) ((wkS w l k).e (0+k)).l.n 2)).v3⟩ else((wkS w l k).e i).l.c j:=by
     intro i j
     have:=wkS_st hBt i j
     rw[hL,he0] at this
     rw[he0,Nat.zero_add k]
     exact this
    have hA:andQ (Nat.beq (0+k) (0+k)) (Nat.beq (ixK (fun j=>(((wkS w l k).e (0+k)).l.c j).cells) ((wkS w l k).e (0+k)).l.n 2) (ixK (fun j=>(((wkS w l k).e (0+k)).l.c j).cells) ((wkS w l k).e (0+k)).l.n 2))=true:=by rw[Nat.beq_refl,Nat.beq_refl];rfl
    repeat' (first|(refine Ai ?_ ?_)|(intro _)|exact rfl)
    ·exact wkS_id fV
    ·exact wkS_n eN
    ·exact((congrArg aJ.kind (st _ _)).trans (bY aJ.kind)).trans (bb1 hA)
    ·exact((congrArg aJ.v0 (st _ _)).trans (bY aJ.v0)).trans (bb1 hA)
    ·exact((congrArg aJ.v1 (st _ _)).trans (bY aJ.v1)).trans bb2
    ·exact((congrArg aJ.v2 (st _ _)).trans (bY aJ.v2)).trans (bb1 hA)
    ·exact((congrArg aJ.v3 (st _ _)).trans (bY aJ.v3)).trans (bb1 hA)
   ·have hc:decide (0<eY l l.n (((wkS w l k).e (0+k)).l.c (ixK (fun j=>(((wkS w l k).e (0+k)).l.c j).cells) ((wkS w l k).e (0+k)).l.n 4)).v0)=false:=hc
    have hc:=of_decide_eq_false hc
    rw[hVQ] at hc
    rw[show cq l l.n ((w.l.e k).l.c (ixC (w.l.e k).l 4)).v0=0 by omega] at hBE
    have hBE:aR l (w.l.e k)=w.l.e k:=hBE
    refine Ai o1 ?_
    refine⟨k+1,[],[],(by show w.l.n-(k+1)<w.l.n-k;omega),(by show k+1≤w.l.n;omega),?_⟩
    have hs:∀i,(wkS w l (k+1)).e i=(wkS w l k).e i:=fun i=>by
     by_cases hi:i=k
     ·subst hi;rw[g9 (by omega),hBE,hek]
     ·exact lX hi
    repeat' (first|(refine Ai ?_ ?_)|(intro _)|exact rfl)
    all_goals first|exact congrArg (fun e:Ent=>e.iD) (hs _)|exact congrArg (fun e:Ent=>e.l.n) (hs _)|exact congrArg (fun e:Ent=>(e.l.c _).kind) (hs _)|exact congrArg (fun e:Ent=>(e.l.c _).v0) (hs _)|exact congrArg (fun e:Ent=>(e.l.c _).v1) (hs _)|exact congrArg (fun e:Ent=>(e.l.c _).v2) (hs _)|exact congrArg (fun e:Ent=>(e.l.c _).v3) (hs _)
end Go.Proofs.YtgigkennhdolpaaGreatDoor
