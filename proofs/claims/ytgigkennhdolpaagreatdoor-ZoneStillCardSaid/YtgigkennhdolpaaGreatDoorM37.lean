/- zone.Steer.. -/
import Derived.Test.YtgigkennhdolpaaGreatDoorM18
import Derived.Test.YtgigkennhdolpaaGreatDoorM29
namespace Go.Proofs.YtgigkennhdolpaaGreatDoor
open Go.RowKit
set_option maxRecDepth 8000
set_option maxHeartbeats 2000000
def S9(w:U9)(b:Nat)(H0:bc):Cut:=⟨Nat,λk=>k<=w.l.n,λk=>⟨[sl 2 (.p (b+1) 0),sl 3 (.p (b+2) 0),sl 10 w.l.sv,sl 11 (i64 w.l.n),sl 12 (i64 k)],
 (b+1,.lay uB 28)::(b+2,.lay [.v (.int .i64 w.tick),.g (b+3) (b+4) 2 0 k] 28)::(b+3,yo w.l k (b+4))::H0,b+5,0,[],[]⟩,λk=>w.l.n-k⟩
def qO(c:Int):Bool:=decide (c<1)||decide (8<c)
theorem Am:∀a,aA ((λ_=>[]) a)->aH (C:=cx) [] [] 0 ai Tryz.f55 ((bs OU).enc a) λv H _=>af ((λa=>.v (.bool (qO a.client))) a) H v:=by intro a _;exact rfl
noncomputable def FX:UW cx:=ae 55 Tryz.call55 (bs OU) _ _ (λ_=>ai) [] (λ_=>rfl) follows Tryz.func55 (by kernel_rfl) Am
noncomputable def Qo:Wl cx:=⟨91,Tryz.call91,Tryz.f91,Tryz.func91,[],[],[2],0,by kernel_rfl⟩
def M9(l:cm):Cut:=⟨Nat,λk=>k<=l.n∧bQ (λi=>qO (l.e i).client) 0 l.n=bQ (λi=>qO (l.e i).client) k (l.n-k),
 λk=>⟨[sl 0 l.sv,sl 1 (.v (.func (.func 55) #[] #[])),sl 7 (i64 l.n),sl 8 (i64 k)],[],0,0,[],[]⟩,λk=>l.n-k⟩
theorem Hc:∀a,aA ((λa=>[(a.1.n:Int)<=cB,a.2=(.v (.func (.func 55) #[] #[]))]) a)->aH (C:=cx) [FX] [Qo] 1 ai Tryz.f54 ((aD jO Vy).enc a) λv H _=>af ((λa=>.v (.bool (bQ (λi=>qO (a.1.e i).client) 0 a.1.n))) a) H v:=by
 intro⟨l,x⟩ ⟨hn,hx⟩;replace hx:x=.v (.func (.func 55) #[] #[]):=hx;subst hx;replace hn:(l.n:Int)<=cB:=hn;have hm:(l.n:Int)<=9223372036854775807:=hn;refine T' (M9 l) ?_;refine Ai ?_ ?_
 ·refine⟨(0:Nat),[],[],trivial,⟨Up _,rfl⟩,?_⟩;repeat' (first|refine Ai ?_ ?_|intro _|exact rfl)
 refine fun(k:Nat) (hk:k<=l.n∧bQ (λi=>qO (l.e i).client) 0 l.n=bQ (λi=>qO (l.e i).client) k (l.n-k))=>?_;obtain⟨k1,k2⟩:=hk;refine Ai (λhb=>?_) (λhb=>?_)
 ·have hb:(k:Int)<l.n:=Od hb;have e:=eE (g:=(λi=>qO (l.e i).client)) (k:=k) (n:=l.n) (by omega);refine Ai ⟨by omega,by omega⟩ ?_;refine Ai (λhc=>?_) (λhc=>?_);have hc:qO (l.e k).client=true:=hc;simp only[hc] at e;refine UR (a:=bQ (λi=>qO (l.e i).client) 0 l.n) (b:=decide (0<=(k:Int))) ?_ rfl;rw[k2,e,UB (by omega)];have hc:qO (l.e k).client=false:=hc;simp only[hc] at e;refine Ai (by unfold U1;omega:U1 ((k:Int)+1)) ?_;refine⟨k+1,[],[],(by show l.n-(k+1)<l.n-k;omega),⟨by omega,by rw[k2,e]⟩,?_⟩;repeat' (first|refine Ai ?_ ?_|intro _|exact rfl)
 have hb:¬(k:Int)<l.n:=Uy hb;have e:bQ (λi=>qO (l.e i).client) 0 l.n=false:=by rw[k2,show l.n-k=0 by omega];rfl
 exact e
noncomputable def N6:UW cx:=ae 54 Tryz.call54 (aD jO Vy) _ _ (λ_=>ai) [] (λ_=>rfl) follows Tryz.func54 (by kernel_rfl) Hc
def eN(l:cm):Nat->Int->Nat
 | 0,_=>0
 | k+1,q=>bif decide ((l.e k).client=q)&&(decide (eN l k q=0)||decide ((l.e (eN l k q-1)).seq<=(l.e k).seq)) then k+1 else eN l k q
theorem wK{l:cm}{q:Int} : ∀{k:Nat},eN l k q<=k
 | 0=>I' _
 | k+1=>by
  unfold eN;have:=wK (l:=l) (q:=q) (k:=k);cases (decide ((l.e k).client=q)&&(decide (eN l k q=0)||decide ((l.e (eN l k q-1)).seq<=(l.e k).seq))) with
  | true=>exact I' _
  | false=>exact Nat.le_succ_of_le this
def Fv(l:cm)(k:Nat)(q:Int):Bool:=Nat.blt 0 (eN l k q)
def T2(l:cm)(k:Nat)(q:Int):List SV:=[.v (.int .i64 (eN l k q))]
def gg(l:cm)(k:Nat)(q:Int):Int:=bif Fv l k q then(eN l k q:Int) else 0
theorem rv{l:cm}{k:Nat}{q:Int} : gg l k q=eN l k q:=by
 unfold gg Fv;cases h:eN l k q with
 | zero=>rfl
 | succ m=>rfl
theorem yM{l:cm}{k:Nat}(h:(decide (gg l k (l.e k).client=0)||decide ((l.e (gg l k (l.e k).client-1).toNat).seq<=(l.e k).seq))=true)(j:Int):eN l (k+1) j=bif decide (j=(l.e k).client) then k+1 else eN l k j:=by rw[rv,show ((eN l k (l.e k).client:Int)-1).toNat=eN l k (l.e k).client-1 by omega,show decide ((eN l k (l.e k).client:Int)=0)=decide (eN l k (l.e k).client=0) from decide_eq_decide.2 (by omega)] at h;rw[eN];by_cases hj:j=(l.e k).client;subst hj;rw[h,UB rfl];rfl;rw[UA hj,UA (Ne.symm hj)];rfl
theorem yN{l:cm}{k:Nat}(h:(decide (gg l k (l.e k).client=0)||decide ((l.e (gg l k (l.e k).client-1).toNat).seq<=(l.e k).seq))=false)(j:Int):eN l (k+1) j=eN l k j:=by rw[rv,show ((eN l k (l.e k).client:Int)-1).toNat=eN l k (l.e k).client-1 by omega,show decide ((eN l k (l.e k).client:Int)=0)=decide (eN l k (l.e k).client=0) from decide_eq_decide.2 (by omega)] at h;rw[eN];by_cases hj:j=(l.e k).client;subst hj;rw[h,Bool.and_false];rfl;rw[UA (Ne.symm hj)];rfl
theorem Ji{l:cm}{k:Nat}(h:(decide (gg l k (l.e k).client=0)||decide ((l.e (gg l k (l.e k).client-1).toNat).seq<=(l.e k).seq))=true)(j:Int):Fv l (k+1) j=(decide (j=(l.e k).client)||Fv l k j):=by unfold Fv;rw[yM h];cases decide (j=(l.e k).client)<;>rfl
def L1(e:UZ)(v:Df.Vec):UZ:=⟨e.iD,⟨e.l.n,λj=>bif Nat.beq j (U0 e.l 2) then⟨(e.l.c (U0 e.l 2)).kind,v.x,v.y,(e.l.c (U0 e.l 2)).v2,(e.l.c (U0 e.l 2)).v3⟩ else e.l.c j⟩⟩
def mvI(l:cm)(q:Int):Df.Vec:=Df.lim ⟨(l.e (eN l l.n q-1)).moveX,(l.e (eN l l.n q-1)).moveY⟩ 64
def cP(l:cm)(e:UZ):UZ:=match eF e.l 4,eF e.l 2 with
 | true,true=>bif Nat.blt 0 (eN l l.n (e.l.c (U0 e.l 4)).v0) then L1 e (mvI l (e.l.c (U0 e.l 4)).v0) else e
 | _,_=>e
def pf(w:U9)(l:cm):Bool:=!w.valid||bQ (λi=>qO (l.e i).client) 0 l.n
def bT(w:U9)(l:cm):U9×Int:=match pf w l with
 | true=>(⟨0,⟨0,λ_=>UZ.no⟩⟩,2)
 | false=>(⟨w.tick,⟨w.l.n,λi=>cP l (w.l.e i)⟩⟩,0)
def Vp(w:U9)(l:cm)(k:Nat):V3:=⟨w.l.n,λi=>bif Nat.blt i k then cP l (w.l.e i) else w.l.e i⟩
theorem rO{w:U9}{l:cm}{k:Nat} : (Vp w l k).e k=w.l.e k:=by show (bif Nat.blt k k then _ else w.l.e k)=_;rw[show Nat.blt k k=false from by cases e:Nat.blt k k;rfl;exact Uw (L' e) (by omega)];rfl
theorem iZ{w:U9}{l:cm}{k i:Nat}(h:i<k):(Vp w l k).e i=cP l (w.l.e i):=by show (bif Nat.blt i k then _ else w.l.e i)=_;rw[show Nat.blt i k=true from Nat.ble_eq_true_of_le h];rfl
theorem np{w:U9}{l:cm}{k i:Nat}(h:i≠k):(Vp w l (k+1)).e i=(Vp w l k).e i:=by
 show (bif Nat.blt i (k+1) then _ else _)=(bif Nat.blt i k then _ else _)
 rw[show Nat.blt i (k+1)=Nat.blt i k from by
  cases e:Nat.blt i k with
  | true=>exact Nat.ble_eq_true_of_le (by have:=L' e;omega)
  | false=>
   cases e':Nat.blt i (k+1) with
   | false=>rfl
   | true=>have h1:=L' e';rw[show Nat.blt i k=true from Nat.ble_eq_true_of_le (by omega)] at e;cases e]
theorem bb1{A A0:Bool}{x y x' z:Int}(h0:A0=true):(bif A then x else z)=bif A then(bif A0 then x else y) else(bif A then x' else z):=by subst h0;cases A<;>rfl
theorem bb2{A:Bool}{x x' z:Int} : (bif A then x else z)=bif A then x else(bif A then x' else z):=by cases A<;>rfl
theorem Pr{w:U9}{l:cm}{k i:Nat}(h:∀e,(cP l e).iD=e.iD):((Vp w l (k+1)).e i).iD=((Vp w l k).e i).iD:=by by_cases hi:i=k;subst hi;rw[iZ (by omega),rO,h];rw[np hi]
theorem RV{w:U9}{l:cm}{k i:Nat}(h:∀e,(cP l e).l.n=e.l.n):((Vp w l (k+1)).e i).l.n=((Vp w l k).e i).l.n:=by by_cases hi:i=k;subst hi;rw[iZ (by omega),rO,h];rw[np hi]
theorem EY{l:cm}(e:UZ):(cP l e).iD=e.iD:=by unfold cP;split;cases Nat.blt 0 (eN l l.n (e.l.c (U0 e.l 4)).v0)<;>rfl;rfl
theorem HV{l:cm}(e:UZ):(cP l e).l.n=e.l.n:=by unfold cP;split;cases Nat.blt 0 (eN l l.n (e.l.c (U0 e.l 4)).v0)<;>rfl;rfl
theorem Pq{w:U9}{l:cm}{k:Nat}{v:Df.Vec}(h:cP l (w.l.e k)=L1 (w.l.e k) v)(i j:Nat):((Vp w l (k+1)).e i).l.c j=bif lh (Nat.beq i k) (Nat.beq j (U0 (w.l.e k).l 2)) then⟨((w.l.e k).l.c (U0 (w.l.e k).l 2)).kind,v.x,v.y,((w.l.e k).l.c (U0 (w.l.e k).l 2)).v2,((w.l.e k).l.c (U0 (w.l.e k).l 2)).v3⟩ else((Vp w l k).e i).l.c j:=by by_cases hi:i=k;subst hi;rw[iZ (by omega),rO,h,UN];rfl;rw[np hi,ga hi];rfl
def Te(b4 b2:Bool):Nat:=match b4,b2 with
 | false,false=>0
 | false,true=>16
 | true,false=>32
 | true,true=>48
def TT(nm:Nat)(q:Int):Bool:=match (nm-10)/16,q with
 | 1,.ofNat 2=>true
 | 2,.ofNat 4=>true
 | 3,.ofNat 2=>true
 | 3,.ofNat 4=>true
 | _,_=>false
def LX(w:U9)(l:cm)(k:Nat):bc:=[(0,.lay w.cells 28),(1,.lay uB 28),(2,.mp .i64 false (Fv l k) (T2 l k))]
def TP(w:U9)(l:cm):Cut:=⟨Nat,λk=>k<=l.n,λk=>⟨[sl 1 l.sv,sl 2 (.p 0 0),sl 4 (.p 1 0),sl 6 (.m 2),sl 26 l.sv,sl 27 (i64 l.n),sl 28 (i64 k)],LX w l k,3,0,[],[]⟩,λk=>l.n-k⟩
def TO(w:U9)(l:cm):Cut:=⟨Nat,λk=>k<=w.l.n,λk=>⟨[sl 1 l.sv,sl 4 (.p 1 0),sl 6 (.m 2),sl 10 (.p 8 0),sl 59 (.g 6 7 2 0 w.l.n),sl 60 (i64 w.l.n),sl 61 (i64 k)],
 (8,.lay [.v (.int .i64 w.tick),.g 6 7 2 0 w.l.n] 28)::(6,yo (Vp w l k) w.l.n 7)::LX w l l.n,9,0,[],[]⟩,λk=>w.l.n-k⟩
def TN(w:U9)(l:cm)(k:Nat)(b4 b2:Bool):Cut:=⟨Unit,λ_=>k<w.l.n,λ_=>⟨[sl 1 l.sv,sl 4 (.p 1 0),sl 6 (.m 2),sl 10 (.p 8 0),sl 59 (.g 6 7 2 0 w.l.n),sl 60 (i64 w.l.n),sl 61 (i64 k)],
 (8,.lay [.v (.int .i64 w.tick),.g 6 7 2 0 w.l.n] 28)::(6,yo (Vp w l k) w.l.n 7)::LX w l l.n,9+Te b4 b2,0,[],[]⟩,λ_=>0⟩
noncomputable def Jr:Wl cx:=⟨56,Tryz.call56,Tryz.f56,Tryz.func56,[],[],[3],0,by kernel_rfl⟩
set_option maxHeartbeats 4000000 in
theorem B8:∀a,aA ((λa=>[a.1.l.Sm,(a.2.n:Int)<=cB,∀i,i<a.2.n->UU (a.2.e i).moveX∧UU (a.2.e i).moveY]) a)->aH (C:=cx) [pZ,N6,p9,Oe TT,Df.Ku] [Jr] 1 ⟨[20],[14],[5,13],0⟩ Tryz.f21 ((aD cY jO).enc a) λv H _=>af ((λa=>.tup [(bT a.1 a.2).1.sv,.v (.int .i64 (bT a.1 a.2).2)]) a) H v:=by
 intro⟨w,l⟩ ⟨hs,hn,hm⟩;replace hs:w.l.Sm:=hs;replace hn:(l.n:Int)<=9223372036854775807:=hn;replace hm:∀i,i<l.n->UU (l.e i).moveX∧UU (l.e i).moveY:=hm;refine Ai ⟨by repeat' (first|exact trivial|exact rfl|refine Ai ?_ ?_|intro _),hs⟩ ?_;refine Ai (λ_=>⟨λ_ _=>trivial,hn,rfl⟩) ?_;refine Ai (λhc=>?_) (λhc=>?_)
 ·have hc:pf w l=true:=hc;have e:bT w l=(⟨0,⟨0,λ_=>UZ.no⟩⟩,2):=(by unfold bT;rw[hc]);simp only[e];repeat' (first|refine Ai ?_ ?_|intro _|exact rfl)
  all_goals exact Uw ‹_<0› (F' _)
 have hc:pf w l=false:=hc;have e:bT w l=(⟨w.tick,⟨w.l.n,λi=>cP l (w.l.e i)⟩⟩,0):=by unfold bT;rw[hc]
 simp only[e];have hv:w.valid=true:=by unfold pf at hc;simpa using (UH.1 hc).1
 have hV:=U9.gq.1 hv;have hlen:=hV.len;have Yf:w.l.n<=1000∧∀i,i<w.l.n->(w.l.e i).l.n<=1000:=⟨by omega,λi hi=>by have:=(hV.right i hi).len;omega⟩
 refine T' (TP w l) ?_;refine Ai ?_ ?_
 ·refine⟨(0:Nat),[],[],trivial,Up _,?_⟩;repeat' (first|refine Ai ?_ ?_|intro _|exact rfl)
  all_goals exact(Bool.false_ne_true ‹_›).elim
 refine fun(k:Nat) (hk:k<=l.n)=>?_;refine Ai (λhb=>?_) (λhb=>?_)
 ·have hb:(k:Int)<l.n:=Od hb;refine Ai ⟨by omega,by omega⟩ ?_;refine Ai (by repeat' (first|exact trivial|exact rfl|refine Ai ?_ ?_|intro _)) ?_;have hV':gg l k (l.e k).client=eN l k (l.e k).client:=rv;have hle:=wK (l:=l) (q:=(l.e k).client) (k:=k);have o1:U1 ((k:Int)+1):=(by unfold U1;omega);refine Ai (λhi=>by have hi:decide (gg l k (l.e k).client=0)=false:=hi;have:=Uy hi;show U1 (gg l k (l.e k).client-1);rw[hV'] at this ⊢;unfold U1;omega) ?_;refine Ai (λhi=>by
   have hi:decide (gg l k (l.e k).client=0)=false:=hi;have:=Uy hi;show 0<=gg l k (l.e k).client-1∧gg l k (l.e k).client-1<(l.n:Int)
   rw[hV'] at this ⊢;omega) ?_
  refine Ai (λhc=>?_) (λhc=>?_)
  ·have hc:(decide (gg l k (l.e k).client=0)||decide ((l.e (gg l k (l.e k).client-1).toNat).seq<=(l.e k).seq))=true:=hc;refine Ai o1 ?_;refine Ai (by repeat' (first|exact trivial|exact rfl|refine Ai ?_ ?_|intro _)) ?_;refine Ai o1 ?_;refine⟨k+1,[],[],(by show l.n-(k+1)<l.n-k;omega),(by show k+1<=l.n;omega),?_⟩;repeat' (first|refine Ai ?_ ?_|intro _|exact rfl)
   exact Ji hc _;refine(Uv Int.ofNat (yM hc _)).trans ?_;exact bp Int.ofNat
  have hc:(decide (gg l k (l.e k).client=0)||decide ((l.e (gg l k (l.e k).client-1).toNat).seq<=(l.e k).seq))=false:=hc;refine Ai o1 ?_;refine⟨k+1,[],[],(by show l.n-(k+1)<l.n-k;omega),(by show k+1<=l.n;omega),?_⟩;repeat' (first|refine Ai ?_ ?_|intro _|exact rfl)
  exact Uv (Nat.blt 0) (yN hc _);exact Uv Int.ofNat (yN hc _)
 have hb:¬(k:Int)<l.n:=Uy hb;obtain rfl:k=l.n:=by omega
 refine T' (S9 w 3 (LX w l l.n)) ?_;refine Ai ?_ ?_
 ·refine⟨(0:Nat),[],[.cellN 5 1 2 1 5 46 42],trivial,Up _,?_⟩;repeat' (first|refine Ai ?_ ?_|intro _|exact rfl)
  all_goals exact Uw ‹_<0› (F' _)
 refine fun(k:Nat) (hk:k<=w.l.n)=>?_;refine Ai (λhb=>?_) (λhb=>?_)
 ·have hb:(k:Int)<w.l.n:=Od hb;refine Ai ⟨by omega,by omega⟩ ?_;refine Ai ⟨λ_ _=>trivial,(by have:=Yf.2 k (by omega);(show (w.l.e k).l.n<=1000);omega)⟩ ?_;have Vv:gQ (k+1) 32:=⟨Nat.le_trans (by have:=Yf.1;omega:k+1<=1001) (by decide),by have:=Yf.1;omega⟩
  refine Ai ⟨Vv,?_⟩ ?_
  ·repeat' (first|refine Ai ?_ ?_|intro _|exact rfl)
  refine Ai (by have:=Yf.1;unfold U1;omega:U1 ((k:Int)+1)) ?_;refine⟨k+1,[(7,11)],[.bE 6],(by show w.l.n-(k+1)<w.l.n-k;omega),(by omega:k+1<=w.l.n),?_⟩;repeat' (first|refine Ai ?_ ?_|intro _|exact rfl)
  refine aG (α:=List SV) (p:=λi y=>aO (Vu 8 [(7,11)] (List.set [SV.v (Value.int IntKind.i64 (w.l.e i).iD),SV.e] 1 SV.e) (y.set 1 SV.e))) ?_ ?_ _ ‹_›;exact rfl;exact λi _=>rfl;refine aG (α:=Nat×(Nat->List SV)) (p:=λi y=>(w.l.e i).l.n=y.1) ?_ ?_ _ ‹_›;exact rfl;exact λi _=>rfl;refine aG (α:=Nat×(Nat->List SV)) (p:=λi y=>∀j,j<y.1->aO (Vu 8 [(7,11)] ((w.l.e i).l.c j).cells (y.2 j))) ?_ ?_ _ ‹_› _ ‹_›
  ·exact λj _=>⟨rfl,rfl,rfl,rfl,rfl⟩
  ·exact λi _ j _=>⟨rfl,rfl,rfl,rfl,rfl⟩
 have hb:¬(k:Int)<w.l.n:=Uy hb;obtain rfl:k=w.l.n:=by omega
 refine T' (TO w l) ?_;refine Ai ?_ ?_
 ·refine⟨(0:Nat),[],[],trivial,Up _,?_⟩;repeat' (first|refine Ai ?_ ?_|intro _|exact rfl)
 refine fun(k:Nat) (hk:k<=w.l.n)=>?_;generalize hb4:eF (w.l.e k).l 4=b4;generalize Vz:eF (w.l.e k).l 2=b2;have hek:(Vp w l k).e k=w.l.e k:=rO;have he0:(Vp w l k).e (0+k)=w.l.e k:=by rw[B'];exact rO
 have YQ:∀(b4 b2:Bool),eF (w.l.e k).l 4=b4->eF (w.l.e k).l 2=b2->b4=decide (Vn (λj=>(((Vp w l k).e (0+k)).l.c j).cells) ((Vp w l k).e (0+k)).l.n 4<((Vp w l k).e (0+k)).l.n)∧b2=decide (Vn (λj=>(((Vp w l k).e (0+k)).l.c j).cells) ((Vp w l k).e (0+k)).l.n 2<((Vp w l k).e (0+k)).l.n):=λb4 b2 h4 h2=>by rw[he0];exact Ai h4.symm h2.symm
 obtain⟨s4,s2⟩:=YQ _ _ hb4 Vz;refine T' (TN w l k b4 b2) ?_;cases b4<;>cases b2
 ·refine Ai ?_ ?_
  ·refine Ai (λhb=>?_) (λhb=>?_)
   ·have hb:(k:Int)<w.l.n:=Od hb;refine⟨(),[],[],trivial,(by show k<w.l.n;omega),?_⟩;repeat' (first|refine Ai ?_ ?_|intro _|exact rfl)
   have hb:¬(k:Int)<w.l.n:=Uy hb;obtain rfl:k=w.l.n:=(by omega);have hs:∀i,i<w.l.n->(Vp w l w.l.n).e (0+i)=cP l (w.l.e i):=λi hi=>(by rw[B'];exact iZ hi);repeat' (first|refine Ai ?_ ?_|intro _|exact rfl)
   all_goals first|exact(Uv UZ.iD (hs _ ‹_›)).symm|exact(Uv (λe:UZ=>e.l.n) (hs _ ‹_›)).symm|exact(Uv (λe:UZ=>(e.l.c _).kind) (hs _ ‹_<w.l.n›)).symm|exact(Uv (λe:UZ=>(e.l.c _).v0) (hs _ ‹_<w.l.n›)).symm|exact(Uv (λe:UZ=>(e.l.c _).v1) (hs _ ‹_<w.l.n›)).symm|exact(Uv (λe:UZ=>(e.l.c _).v2) (hs _ ‹_<w.l.n›)).symm|exact(Uv (λe:UZ=>(e.l.c _).v3) (hs _ ‹_<w.l.n›)).symm
  refine fun(_:Unit) (Wp:k<w.l.n)=>?_;have hR:=hV.right k Wp;have Vt:(((Vp w l k).e (0+k)).l.n:Int)<=cB:=(by rw[he0];exact Int.le_trans (by have:=Yf.2 k Wp;omega:((w.l.e k).l.n:Int)<=1000) (by decide));have o1:U1 ((k:Int)+1):=(by unfold U1;omega);have X':0+k<w.l.n:=(by omega);refine Ai ⟨by omega,by omega⟩ ?_;refine Ai ⟨X',λj _=>⟨_,rfl⟩,Vt,s4⟩ ?_;refine Ai ⟨X',λj _=>⟨_,rfl⟩,Vt,s2⟩ ?_;have VB:cP l (w.l.e k)=w.l.e k:=(by unfold cP;rw[hb4,Vz]);refine Ai o1 ?_;refine⟨k+1,[],[],(by show w.l.n-(k+1)<w.l.n-k;omega),(by show k+1<=w.l.n;omega),?_⟩;have hs:∀i,(Vp w l (k+1)).e i=(Vp w l k).e i:=λi=>by by_cases hi:i=k;subst hi;rw[iZ (by omega),VB,hek];exact np hi
  (repeat' (first|refine Ai ?_ ?_|intro _|exact rfl));all_goals first|exact Uv (λe:UZ=>e.iD) (hs _)|exact Uv (λe:UZ=>e.l.n) (hs _)|exact Uv (λe:UZ=>(e.l.c _).kind) (hs _)|exact Uv (λe:UZ=>(e.l.c _).v0) (hs _)|exact Uv (λe:UZ=>(e.l.c _).v1) (hs _)|exact Uv (λe:UZ=>(e.l.c _).v2) (hs _)|exact Uv (λe:UZ=>(e.l.c _).v3) (hs _)
 ·refine Ai ?_ ?_
  ·refine Ai (λhb=>?_) (λhb=>?_)
   ·have hb:(k:Int)<w.l.n:=Od hb;refine⟨(),[],[],trivial,(by show k<w.l.n;omega),?_⟩;repeat' (first|refine Ai ?_ ?_|intro _|exact rfl)
   have hb:¬(k:Int)<w.l.n:=Uy hb;obtain rfl:k=w.l.n:=(by omega);have hs:∀i,i<w.l.n->(Vp w l w.l.n).e (0+i)=cP l (w.l.e i):=λi hi=>(by rw[B'];exact iZ hi);repeat' (first|refine Ai ?_ ?_|intro _|exact rfl)
   all_goals first|exact(Uv UZ.iD (hs _ ‹_›)).symm|exact(Uv (λe:UZ=>e.l.n) (hs _ ‹_›)).symm|exact(Uv (λe:UZ=>(e.l.c _).kind) (hs _ ‹_<w.l.n›)).symm|exact(Uv (λe:UZ=>(e.l.c _).v0) (hs _ ‹_<w.l.n›)).symm|exact(Uv (λe:UZ=>(e.l.c _).v1) (hs _ ‹_<w.l.n›)).symm|exact(Uv (λe:UZ=>(e.l.c _).v2) (hs _ ‹_<w.l.n›)).symm|exact(Uv (λe:UZ=>(e.l.c _).v3) (hs _ ‹_<w.l.n›)).symm
  refine fun(_:Unit) (Wp:k<w.l.n)=>?_;have hR:=hV.right k Wp;have Vt:(((Vp w l k).e (0+k)).l.n:Int)<=cB:=(by rw[he0];exact Int.le_trans (by have:=Yf.2 k Wp;omega:((w.l.e k).l.n:Int)<=1000) (by decide));have o1:U1 ((k:Int)+1):=(by unfold U1;omega);have X':0+k<w.l.n:=(by omega);refine Ai ⟨by omega,by omega⟩ ?_;refine Ai ⟨X',λj _=>⟨_,rfl⟩,Vt,s4⟩ ?_;refine Ai ⟨X',λj _=>⟨_,rfl⟩,Vt,s2⟩ ?_;have VB:cP l (w.l.e k)=w.l.e k:=(by unfold cP;rw[hb4,Vz]);refine Ai o1 ?_;refine⟨k+1,[],[],(by show w.l.n-(k+1)<w.l.n-k;omega),(by show k+1<=w.l.n;omega),?_⟩;have hs:∀i,(Vp w l (k+1)).e i=(Vp w l k).e i:=λi=>by by_cases hi:i=k;subst hi;rw[iZ (by omega),VB,hek];exact np hi
  (repeat' (first|refine Ai ?_ ?_|intro _|exact rfl));all_goals first|exact Uv (λe:UZ=>e.iD) (hs _)|exact Uv (λe:UZ=>e.l.n) (hs _)|exact Uv (λe:UZ=>(e.l.c _).kind) (hs _)|exact Uv (λe:UZ=>(e.l.c _).v0) (hs _)|exact Uv (λe:UZ=>(e.l.c _).v1) (hs _)|exact Uv (λe:UZ=>(e.l.c _).v2) (hs _)|exact Uv (λe:UZ=>(e.l.c _).v3) (hs _)
 ·refine Ai ?_ ?_
  ·refine Ai (λhb=>?_) (λhb=>?_)
   ·have hb:(k:Int)<w.l.n:=Od hb;refine⟨(),[],[],trivial,(by show k<w.l.n;omega),?_⟩;repeat' (first|refine Ai ?_ ?_|intro _|exact rfl)
   have hb:¬(k:Int)<w.l.n:=Uy hb;obtain rfl:k=w.l.n:=(by omega);have hs:∀i,i<w.l.n->(Vp w l w.l.n).e (0+i)=cP l (w.l.e i):=λi hi=>(by rw[B'];exact iZ hi);repeat' (first|refine Ai ?_ ?_|intro _|exact rfl)
   all_goals first|exact(Uv UZ.iD (hs _ ‹_›)).symm|exact(Uv (λe:UZ=>e.l.n) (hs _ ‹_›)).symm|exact(Uv (λe:UZ=>(e.l.c _).kind) (hs _ ‹_<w.l.n›)).symm|exact(Uv (λe:UZ=>(e.l.c _).v0) (hs _ ‹_<w.l.n›)).symm|exact(Uv (λe:UZ=>(e.l.c _).v1) (hs _ ‹_<w.l.n›)).symm|exact(Uv (λe:UZ=>(e.l.c _).v2) (hs _ ‹_<w.l.n›)).symm|exact(Uv (λe:UZ=>(e.l.c _).v3) (hs _ ‹_<w.l.n›)).symm
  refine fun(_:Unit) (Wp:k<w.l.n)=>?_;have hR:=hV.right k Wp;have Vt:(((Vp w l k).e (0+k)).l.n:Int)<=cB:=(by rw[he0];exact Int.le_trans (by have:=Yf.2 k Wp;omega:((w.l.e k).l.n:Int)<=1000) (by decide));have o1:U1 ((k:Int)+1):=(by unfold U1;omega);have X':0+k<w.l.n:=(by omega);refine Ai ⟨by omega,by omega⟩ ?_;refine Ai ⟨X',λj _=>⟨_,rfl⟩,Vt,s4⟩ ?_;refine Ai ⟨X',λj _=>⟨_,rfl⟩,Vt,s2⟩ ?_;have VB:cP l (w.l.e k)=w.l.e k:=(by unfold cP;rw[hb4,Vz]);refine Ai o1 ?_;refine⟨k+1,[],[],(by show w.l.n-(k+1)<w.l.n-k;omega),(by show k+1<=w.l.n;omega),?_⟩;have hs:∀i,(Vp w l (k+1)).e i=(Vp w l k).e i:=λi=>by by_cases hi:i=k;subst hi;rw[iZ (by omega),VB,hek];exact np hi
  (repeat' (first|refine Ai ?_ ?_|intro _|exact rfl));all_goals first|exact Uv (λe:UZ=>e.iD) (hs _)|exact Uv (λe:UZ=>e.l.n) (hs _)|exact Uv (λe:UZ=>(e.l.c _).kind) (hs _)|exact Uv (λe:UZ=>(e.l.c _).v0) (hs _)|exact Uv (λe:UZ=>(e.l.c _).v1) (hs _)|exact Uv (λe:UZ=>(e.l.c _).v2) (hs _)|exact Uv (λe:UZ=>(e.l.c _).v3) (hs _)
 refine Ai ?_ ?_
 ·refine Ai (λhb=>?_) (λhb=>?_)
  ·have hb:(k:Int)<w.l.n:=Od hb;refine⟨(),[],[],trivial,(by show k<w.l.n;omega),?_⟩;repeat' (first|refine Ai ?_ ?_|intro _|exact rfl)
  have hb:¬(k:Int)<w.l.n:=Uy hb;obtain rfl:k=w.l.n:=(by omega);have hs:∀i,i<w.l.n->(Vp w l w.l.n).e (0+i)=cP l (w.l.e i):=λi hi=>(by rw[B'];exact iZ hi);repeat' (first|refine Ai ?_ ?_|intro _|exact rfl)
  all_goals first|exact(Uv UZ.iD (hs _ ‹_›)).symm|exact(Uv (λe:UZ=>e.l.n) (hs _ ‹_›)).symm|exact(Uv (λe:UZ=>(e.l.c _).kind) (hs _ ‹_<w.l.n›)).symm|exact(Uv (λe:UZ=>(e.l.c _).v0) (hs _ ‹_<w.l.n›)).symm|exact(Uv (λe:UZ=>(e.l.c _).v1) (hs _ ‹_<w.l.n›)).symm|exact(Uv (λe:UZ=>(e.l.c _).v2) (hs _ ‹_<w.l.n›)).symm|exact(Uv (λe:UZ=>(e.l.c _).v3) (hs _ ‹_<w.l.n›)).symm
 refine fun(_:Unit) (Wp:k<w.l.n)=>?_;have hR:=hV.right k Wp;have Vt:(((Vp w l k).e (0+k)).l.n:Int)<=cB:=by rw[he0];exact Int.le_trans (by have:=Yf.2 k Wp;omega:((w.l.e k).l.n:Int)<=1000) (by decide)
 have o1:U1 ((k:Int)+1):=by unfold U1;omega
 have X':0+k<w.l.n:=by omega
 refine Ai ⟨by omega,by omega⟩ ?_;refine Ai ⟨X',λj _=>⟨_,rfl⟩,Vt,s4⟩ ?_;refine Ai ⟨X',λj _=>⟨_,rfl⟩,Vt,s2⟩ ?_;have hQ:(((Vp w l k).e (0+k)).l.c (Vn (λj=>(((Vp w l k).e (0+k)).l.c j).cells) ((Vp w l k).e (0+k)).l.n 4)).v0=((w.l.e k).l.c (U0 (w.l.e k).l 4)).v0:=by rw[he0];rfl
 have VB:cP l (w.l.e k)=bif Nat.blt 0 (eN l l.n ((w.l.e k).l.c (U0 (w.l.e k).l 4)).v0) then L1 (w.l.e k) (mvI l ((w.l.e k).l.c (U0 (w.l.e k).l 4)).v0) else w.l.e k:=by unfold cP;rw[hb4,Vz]
 have hVQ:gg l l.n (((Vp w l k).e (0+k)).l.c (Vn (λj=>(((Vp w l k).e (0+k)).l.c j).cells) ((Vp w l k).e (0+k)).l.n 4)).v0=eN l l.n ((w.l.e k).l.c (U0 (w.l.e k).l 4)).v0:=by rw[hQ];exact rv
 have hle:=wK (l:=l) (q:=((w.l.e k).l.c (U0 (w.l.e k).l 4)).v0) (k:=l.n);refine Ai (by repeat' (first|exact trivial|exact rfl|refine Ai ?_ ?_|intro _)) ?_;refine Ai (λhc=>?_) (λhc=>?_)
 ·have hc:decide (0<gg l l.n (((Vp w l k).e (0+k)).l.c (Vn (λj=>(((Vp w l k).e (0+k)).l.c j).cells) ((Vp w l k).e (0+k)).l.n 4)).v0)=true:=hc;have hc:=Od hc;rw[hVQ] at hc;have h1:U1 (gg l l.n (((Vp w l k).e (0+k)).l.c (Vn (λj=>(((Vp w l k).e (0+k)).l.c j).cells) ((Vp w l k).e (0+k)).l.n 4)).v0-1):=(by rw[hVQ];unfold U1;omega);have h2:0<=gg l l.n (((Vp w l k).e (0+k)).l.c (Vn (λj=>(((Vp w l k).e (0+k)).l.c j).cells) ((Vp w l k).e (0+k)).l.n 4)).v0-1∧gg l l.n (((Vp w l k).e (0+k)).l.c (Vn (λj=>(((Vp w l k).e (0+k)).l.c j).cells) ((Vp w l k).e (0+k)).l.n 4)).v0-1<(l.n:Int):=(by rw[hVQ];omega);have h3:=hm (gg l l.n (((Vp w l k).e (0+k)).l.c (Vn (λj=>(((Vp w l k).e (0+k)).l.c j).cells) ((Vp w l k).e (0+k)).l.n 4)).v0-1).toNat (by omega);refine Ai h1 ?_;refine Ai h2 ?_;refine Ai ⟨⟨h3.1,h3.2⟩,(by decide:(1:Int)<=64∧(64:Int)<=65536)⟩ ?_;refine Ai (by repeat' (first|exact trivial|exact rfl|refine Ai ?_ ?_|intro _)) ?_;refine Ai (by repeat' (first|exact trivial|exact rfl|refine Ai ?_ ?_|intro _)) ?_;refine Ai o1 ?_;refine⟨k+1,[],[],(by show w.l.n-(k+1)<w.l.n-k;omega),(by show k+1<=w.l.n;omega),?_⟩;have hBt:cP l (w.l.e k)=L1 (w.l.e k) (mvI l ((w.l.e k).l.c (U0 (w.l.e k).l 4)).v0):=(by rw[VB,show Nat.blt 0 (eN l l.n ((w.l.e k).l.c (U0 (w.l.e k).l 4)).v0)=true from Nat.ble_eq_true_of_le (by omega)];rfl);have hL:mvI l ((w.l.e k).l.c (U0 (w.l.e k).l 4)).v0=Df.lim ⟨(l.e (gg l l.n (((Vp w l k).e (0+k)).l.c (Vn (λj=>(((Vp w l k).e (0+k)).l.c j).cells) ((Vp w l k).e (0+k)).l.n 4)).v0-1).toNat).moveX,(l.e (gg l l.n (((Vp w l k).e (0+k)).l.c (Vn (λj=>(((Vp w l k).e (0+k)).l.c j).cells) ((Vp w l k).e (0+k)).l.n 4)).v0-1).toNat).moveY⟩ 64:=(by unfold mvI;rw[hVQ,show ((eN l l.n ((w.l.e k).l.c (U0 (w.l.e k).l 4)).v0:Int)-1).toNat=eN l l.n ((w.l.e k).l.c (U0 (w.l.e k).l 4)).v0-1 by omega]);have st:∀i j,((Vp w l (k+1)).e i).l.c j=bif lh (Nat.beq i (0+k)) (Nat.beq j (Vn (λj=>(((Vp w l k).e (0+k)).l.c j).cells) ((Vp w l k).e (0+k)).l.n 2)) then⟨(((Vp w l k).e (0+k)).l.c (Vn (λj=>(((Vp w l k).e (0+k)).l.c j).cells) ((Vp w l k).e (0+k)).l.n 2)).kind,(Df.lim ⟨(l.e (gg l l.n (((Vp w l k).e (0+k)).l.c (Vn (λj=>(((Vp w l k).e (0+k)).l.c j).cells) ((Vp w l k).e (0+k)).l.n 4)).v0-1).toNat).moveX,(l.e (gg l l.n (((Vp w l k).e (0+k)).l.c (Vn (λj=>(((Vp w l k).e (0+k)).l.c j).cells) ((Vp w l k).e (0+k)).l.n 4)).v0-1).toNat).moveY⟩ 64).x,(Df.lim ⟨(l.e (gg l l.n (((Vp w l k).e (0+k)).l.c (Vn (λj=>(((Vp w l k).e (0+k)).l.c j).cells) ((Vp w l k).e (0+k)).l.n 4)).v0-1).toNat).moveX,(l.e (gg l l.n (((Vp w l k).e (0+k)).l.c (Vn (λj=>(((Vp w l k).e (0+k)).l.c j).cells) ((Vp w l k).e (0+k)).l.n 4)).v0-1).toNat).moveY⟩ 64).y,(((Vp w l k).e (0+k)).l.c (Vn (λj=>(((Vp w l k).e (0+k)).l.c j).cells) ((Vp w l k).e (0+k)).l.n 2)).v2,(((Vp w l k).e (0+k)).l.c (Vn (λj=>(((Vp w l k).e (0+k)).l.c j).cells) ((Vp w l k).e (0+k)).l.n 2)).v3⟩ else((Vp w l k).e i).l.c j:=(by intro i j;have:=Pq hBt i j;rw[hL,he0] at this;rw[he0,B' k];exact this);have hA:lh (Nat.beq (0+k) (0+k)) (Nat.beq (Vn (λj=>(((Vp w l k).e (0+k)).l.c j).cells) ((Vp w l k).e (0+k)).l.n 2) (Vn (λj=>(((Vp w l k).e (0+k)).l.c j).cells) ((Vp w l k).e (0+k)).l.n 2))=true:=(by rw[UN,UN];rfl);repeat' (first|refine Ai ?_ ?_|intro _|exact rfl)
  exact Pr EY;exact RV HV;exact((Uv aR.kind (st _ _)).trans (bp aR.kind)).trans (bb1 hA);exact((Uv aR.v0 (st _ _)).trans (bp aR.v0)).trans (bb1 hA);exact((Uv aR.v1 (st _ _)).trans (bp aR.v1)).trans bb2;exact((Uv aR.v2 (st _ _)).trans (bp aR.v2)).trans (bb1 hA);exact((Uv aR.v3 (st _ _)).trans (bp aR.v3)).trans (bb1 hA)
 have hc:decide (0<gg l l.n (((Vp w l k).e (0+k)).l.c (Vn (λj=>(((Vp w l k).e (0+k)).l.c j).cells) ((Vp w l k).e (0+k)).l.n 4)).v0)=false:=hc;have hc:=Uy hc;rw[hVQ] at hc;rw[show eN l l.n ((w.l.e k).l.c (U0 (w.l.e k).l 4)).v0=0 by omega] at VB;have VB:cP l (w.l.e k)=w.l.e k:=VB;refine Ai o1 ?_;refine⟨k+1,[],[],(by show w.l.n-(k+1)<w.l.n-k;omega),(by show k+1<=w.l.n;omega),?_⟩;have hs:∀i,(Vp w l (k+1)).e i=(Vp w l k).e i:=λi=>by by_cases hi:i=k;subst hi;rw[iZ (by omega),VB,hek];exact np hi
 repeat' (first|refine Ai ?_ ?_|intro _|exact rfl)
 all_goals first|exact Uv (λe:UZ=>e.iD) (hs _)|exact Uv (λe:UZ=>e.l.n) (hs _)|exact Uv (λe:UZ=>(e.l.c _).kind) (hs _)|exact Uv (λe:UZ=>(e.l.c _).v0) (hs _)|exact Uv (λe:UZ=>(e.l.c _).v1) (hs _)|exact Uv (λe:UZ=>(e.l.c _).v2) (hs _)|exact Uv (λe:UZ=>(e.l.c _).v3) (hs _)
set_option maxRecDepth 8000
set_option maxHeartbeats 2000000
theorem al1{p:Nat->Prop}(h0:p 0):∀i,i<1->p i:=λi hi=>by
 match i,hi with
 | 0,_=>exact h0
def atF(f:X2)(i:Nat):Int:=bif Nat.blt i f.n then f.g i else 0
def Tc(q:Int)(f:X2):aR:=⟨q,atF f 0,atF f 1,atF f 2,atF f 3⟩
theorem al2{p:Nat->Prop}(h0:p 0)(h1:p 1):∀i,i<2->p i:=λi hi=>by
 match i,hi with
 | 0,_=>exact h0
 | 1,_=>exact h1
theorem AD:∀a,aA ((λ_=>[]) a)->aH (C:=cx) [] [] 0 ai Tryz.f75 ((aD (Vm .u8) (rdF .i64)).enc a) λv H _=>af ((λa=>(Tc a.1 a.2).sv) a) H v:=by
 intro⟨q,f⟩ _;repeat' (first|refine Ai ?_ ?_|intro _|exact rfl|exact trivial)
 all_goals skip
noncomputable def Gg:UW cx:=ae 75 Tryz.call75 (aD (Vm .u8) (rdF .i64)) _ _ (λ_=>ai) [] (λ_=>rfl) follows Tryz.func75 (by kernel_rfl) AD
def exE:Nat->UZ
 | 0=>⟨1,⟨4,λj=>match j with|0=>⟨1,10,10,0,0⟩|1=>⟨2,0,0,0,0⟩|2=>⟨3,1,1,0,0⟩|_=>⟨4,2,0,0,0⟩⟩⟩
 | _=>⟨2,⟨2,λj=>match j with|0=>⟨1,95,50,0,0⟩|_=>⟨2,3,0,0,0⟩⟩⟩
def exW:U9:=⟨0,⟨2,exE⟩⟩
def RE(w:U9):SV:=.agg [.v (.int .i64 0),.v (.int .i64 0),.v (.int .i64 99),.v (.int .i64 99),.v (.int .i64 w.tick),w.l.sv,.v (.slice none 0 0),.v (.slice none 0 0),.v (.int .u64 0),.v (.int .i64 0),.v (.slice none 0 0),.v (.int .i64 0),.v (.int .i64 0)]
theorem al4{p:Nat->Prop}(h0:p 0)(h1:p 1)(h2:p 2)(h3:p 3):∀i,i<4->p i:=λi hi=>by
 match i,hi with
 | 0,_=>exact h0
 | 1,_=>exact h1
 | 2,_=>exact h2
 | 3,_=>exact h3
theorem tY:∀a,aA ((λ_=>[]) a)->aH (C:=cx) [Gg] [] 0 ai Tryz.f37 ((Iq).enc a) λv H _=>af ((λ_=>RE exW) a) H v:=by
 intro _ _;refine Ai (al2 trivial trivial) ?_;refine Ai (al2 trivial trivial) ?_;refine Ai (al1 trivial) ?_;refine Ai (al2 trivial trivial) ?_;refine Ai (al1 trivial) ?_;repeat' (first|refine Ai ?_ ?_|exact rfl|exact trivial|(refine al2 ?_ ?_)|(refine al3 ?_ ?_ ?_)|(refine al4 ?_ ?_ ?_ ?_))
 all_goals trace_state
noncomputable def xh:UW cx:=ae 37 Tryz.call37 (Iq) _ _ (λ_=>ai) [] (λ_=>rfl) follows Tryz.func37 (by kernel_rfl) tY
def eqC(a b:aR):Bool:=decide (a.kind=b.kind)&&(decide (a.v0=b.v0)&&(decide (a.v1=b.v1)&&(decide (a.v2=b.v2)&&decide (a.v3=b.v3))))
def gu(a b:UZ):Bool:=!(decide (¬a.iD=b.iD)||decide (¬(a.l.n:Int)=b.l.n))&&!bQ (λi=>!eqC (a.l.c i) (b.l.c i)) 0 a.l.n
def PG(a b:UZ):Cut:=⟨Nat,λk=>k<=a.l.n∧bQ (λi=>!eqC (a.l.c i) (b.l.c i)) 0 a.l.n=bQ (λi=>!eqC (a.l.c i) (b.l.c i)) k (a.l.n-k),
 λk=>⟨[sl 2 (.p 0 0),sl 3 (.p 1 0),sl 22 (i64 a.l.n),sl 23 (i64 k)],[(0,.lay a.cells 42),(1,.lay b.cells 42)],2,0,[],[]⟩,λk=>a.l.n-k⟩
theorem Cf:∀a,aA ((λa=>[(a.1.l.n:Int)<=cB]) a)->aH (C:=cx) [] [] 0 ⟨[],[],[4],0⟩ Tryz.f24 ((aD jw jw).enc a) λv H _=>af ((λa=>.v (.bool (gu a.1 a.2))) a) H v:=by
 intro⟨a,b⟩ hp;replace hp:(a.l.n:Int)<=9223372036854775807:=hp;refine Ai (λhx=>?_) (λhx=>?_);have hx:(decide (¬a.iD=b.iD)||decide (¬(a.l.n:Int)=b.l.n))=true:=hx;have e:gu a b=false:=(by unfold gu;rw[hx];rfl);simp only[e];exact rfl;have hx:(decide (¬a.iD=b.iD)||decide (¬(a.l.n:Int)=b.l.n))=false:=hx;have hn:(a.l.n:Int)=b.l.n:=by simp at hx;omega
 refine T' (PG a b) ?_;refine Ai ?_ ?_
 ·refine⟨(0:Nat),[],[],trivial,⟨Up _,rfl⟩,?_⟩;repeat' (first|refine Ai ?_ ?_|intro _|exact rfl)
 refine fun(k:Nat) (hk:k<=a.l.n∧bQ (λi=>!eqC (a.l.c i) (b.l.c i)) 0 (a.l.n)=bQ (λi=>!eqC (a.l.c i) (b.l.c i)) k (a.l.n-k))=>?_;obtain⟨k1,k2⟩:=hk;refine Ai (λhb=>?_) (λhb=>?_)
 ·have hb:(k:Int)<a.l.n:=Od hb;have e:=eE (g:=(λi=>!eqC (a.l.c i) (b.l.c i))) (k:=k) (n:=a.l.n) (by omega);refine Ai ⟨by omega,by omega⟩ ?_;refine Ai ⟨by omega,by omega⟩ ?_;refine Ai (λhc=>?_) (λhc=>?_);have hc:(λi=>!eqC (a.l.c i) (b.l.c i)) k=true:=hc;simp only[hc] at e;have e0:bQ (λi=>!eqC (a.l.c i) (b.l.c i)) 0 (a.l.n)=true:=(by rw[k2,e]);have e1:gu a b=false:=(by unfold gu;rw[e0];simp);simp only[e1];exact rfl;have hc:(λi=>!eqC (a.l.c i) (b.l.c i)) k=false:=hc;simp only[hc] at e;refine Ai (by unfold U1;omega:U1 ((k:Int)+1)) ?_;refine⟨k+1,[],[],(by show a.l.n-(k+1)<a.l.n-k;omega),⟨by omega,by rw[k2,e]⟩,?_⟩;repeat' (first|refine Ai ?_ ?_|intro _|exact rfl)
 have hb:¬(k:Int)<a.l.n:=Uy hb;have e0:bQ (λi=>!eqC (a.l.c i) (b.l.c i)) 0 (a.l.n)=false:=by rw[k2,show a.l.n-k=0 by omega];rfl
 have e1:gu a b=true:=by unfold gu;rw[e0,hx];rfl
 simp only[e1];exact rfl
noncomputable def Kl:UW cx:=ae 24 Tryz.call24 (aD jw jw) _ _ (λ_=>⟨[],[],[4],0⟩) [] (λ_=>rfl) follows Tryz.func24 (by kernel_rfl) Cf
def lK(a b:U9):Bool:=!(decide (¬a.tick=b.tick)||decide (¬(a.l.n:Int)=b.l.n))&&!bQ (λi=>!gu (a.l.e i) (b.l.e i)) 0 a.l.n
def PF(a b:U9):Cut:=⟨Nat,λk=>k<=a.l.n∧bQ (λi=>!gu (a.l.e i) (b.l.e i)) 0 a.l.n=bQ (λi=>!gu (a.l.e i) (b.l.e i)) k (a.l.n-k),
 λk=>⟨[sl 2 (.p 0 0),sl 3 (.p 1 0),sl 22 (i64 a.l.n),sl 23 (i64 k)],[(0,.lay a.cells 28),(1,.lay b.cells 28)],2,0,[],[]⟩,λk=>a.l.n-k⟩
theorem Ce:∀a,aA ((λa=>[(a.1.l.n:Int)<=cB,∀i,i<a.1.l.n->((a.1.l.e i).l.n:Int)<=cB]) a)->aH (C:=cx) [Kl] [] 0 ⟨[],[],[4],0⟩ Tryz.f22 ((aD cY cY).enc a) λv H _=>af ((λa=>.v (.bool (lK a.1 a.2))) a) H v:=by
 intro⟨a,b⟩ hp;obtain⟨hp,hq⟩:(a.l.n:Int)<=9223372036854775807∧∀i,i<a.l.n->((a.l.e i).l.n:Int)<=cB:=hp;refine Ai (λhx=>?_) (λhx=>?_);have hx:(decide (¬a.tick=b.tick)||decide (¬(a.l.n:Int)=b.l.n))=true:=hx;have e:lK a b=false:=(by unfold lK;rw[hx];rfl);simp only[e];exact rfl;have hx:(decide (¬a.tick=b.tick)||decide (¬(a.l.n:Int)=b.l.n))=false:=hx;have hn:(a.l.n:Int)=b.l.n:=by simp at hx;omega
 refine T' (PF a b) ?_;refine Ai ?_ ?_
 ·refine⟨(0:Nat),[],[],trivial,⟨Up _,rfl⟩,?_⟩;repeat' (first|refine Ai ?_ ?_|intro _|exact rfl)
 refine fun(k:Nat) (hk:k<=a.l.n∧bQ (λi=>!gu (a.l.e i) (b.l.e i)) 0 (a.l.n)=bQ (λi=>!gu (a.l.e i) (b.l.e i)) k (a.l.n-k))=>?_;obtain⟨k1,k2⟩:=hk;refine Ai (λhb=>?_) (λhb=>?_)
 ·have hb:(k:Int)<a.l.n:=Od hb;have e:=eE (g:=(λi=>!gu (a.l.e i) (b.l.e i))) (k:=k) (n:=a.l.n) (by omega);refine Ai ⟨by omega,by omega⟩ ?_;refine Ai ⟨by omega,by omega⟩ ?_;refine Ai ⟨λ_ _=>trivial,λ_ _=>trivial,hq k (by omega)⟩ ?_;refine Ai (λhc=>?_) (λhc=>?_);have hc:(λi=>!gu (a.l.e i) (b.l.e i)) k=true:=hc;simp only[hc] at e;have e0:bQ (λi=>!gu (a.l.e i) (b.l.e i)) 0 (a.l.n)=true:=(by rw[k2,e]);have e1:lK a b=false:=(by unfold lK;rw[e0];simp);simp only[e1];exact rfl;have hc:(λi=>!gu (a.l.e i) (b.l.e i)) k=false:=hc;simp only[hc] at e;refine Ai (by unfold U1;omega:U1 ((k:Int)+1)) ?_;refine⟨k+1,[],[],(by show a.l.n-(k+1)<a.l.n-k;omega),⟨by omega,by rw[k2,e]⟩,?_⟩;repeat' (first|refine Ai ?_ ?_|intro _|exact rfl)
 have hb:¬(k:Int)<a.l.n:=Uy hb;have e0:bQ (λi=>!gu (a.l.e i) (b.l.e i)) 0 (a.l.n)=false:=by rw[k2,show a.l.n-k=0 by omega];rfl
 have e1:lK a b=true:=by unfold lK;rw[e0,hx];rfl
 simp only[e1];exact rfl
noncomputable def Kk:UW cx:=ae 22 Tryz.call22 (aD cY cY) _ _ (λ_=>⟨[],[],[4],0⟩) [] (λ_=>rfl) follows Tryz.func22 (by kernel_rfl) Ce
end Go.Proofs.YtgigkennhdolpaaGreatDoor
