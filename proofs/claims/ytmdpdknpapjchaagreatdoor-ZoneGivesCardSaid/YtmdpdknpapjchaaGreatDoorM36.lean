/- step.Back of any scene.. -/
import Derived.Test.YtmdpdknpapjchaaGreatDoorM35
set_option linter.all false
namespace Go.Proofs.YtmdpdknpapjchaaGreatDoor
open Go.RowKit
variable {s:ZU}
def dR(s:ZU)(q:Int):Int:=YO (λi=>decide ((s.bodies.e i).iD=q)) s.bodies.n
theorem Gd{q:Int}(h:¬dR s q<0):0<=dR s q∧dR s q<s.bodies.n:=by refine⟨by omega,?_⟩;unfold dR YO at h ⊢;split;rename_i hd;have:=Od hd;omega;rename_i hd;rw[hd] at h;exact P' (show ((-1:Int))<0 by decide) h
def aj(s:ZU)(e:XO):XO:=match iu e.l 1,iu e.l 2,iu e.l 3 with
 | true,_,true=>bif decide (dR s e.iD<0) then e else lx e (s.bodies.e (dR s e.iD).toNat)
 | true,true,false=>jE e
 | _,_,_=>e
def gO(s:ZU)(w:XU):XU:=⟨w.tick,⟨w.l.n,λi=>aj s (w.l.e i)⟩⟩
theorem backEG_keep(s:ZU)(e:XO):(aj s e).iD=e.iD∧(aj s e).l.n=e.l.n:=by unfold aj;cases iu e.l 1<;>cases iu e.l 2<;>cases iu e.l 3<;>first|exact⟨rfl,rfl⟩|(cases decide (dR s e.iD<0)<;>exact⟨rfl,rfl⟩)
section
variable {w:XU}{k nm:Nat}{σ:List (Nat×Nat)}
theorem finA{y:SV} : ∀i,i<k+1->aT (Yv nm σ (List.set [SV.v (Value.int IntKind.i64 (aj s (w.l.e i)).iD),SV.e] 1 SV.e) ((CI k [SV.v (Value.int IntKind.i64 (w.l.e k).iD),y] (λi=>[SV.v (Value.int IntKind.i64 (aj s (w.l.e i)).iD),SV.e]) i).set 1 SV.e)):=
 aP (α:=List SV) (p:=λi y=>aT (Yv nm σ (List.set [SV.v (Value.int IntKind.i64 (aj s (w.l.e i)).iD),SV.e] 1 SV.e) (y.set 1 SV.e))) (by rw[(backEG_keep s (w.l.e k)).1];exact rfl) λi _=>rfl
theorem finB{y:Nat->List SV} : ∀i,i<k+1->(aj s (w.l.e i)).l.n=(CI k ((w.l.e k).l.n,y) (λi=>((aj s (w.l.e i)).l.n,λj=>((aj s (w.l.e i)).l.c j).cells)) i).1:=
 aP (α:=Nat×(Nat->List SV)) (p:=λi y=>(aj s (w.l.e i)).l.n=y.1) (backEG_keep s (w.l.e k)).2 λi _=>rfl
theorem finC{y:Nat×(Nat->List SV)}(h:∀j,j<y.1->aT (Yv nm σ ((aj s (w.l.e k)).l.c j).cells (y.2 j))):∀i,i<k+1->∀j,j<(CI k y (λi=>((aj s (w.l.e i)).l.n,λj=>((aj s (w.l.e i)).l.c j).cells)) i).1->aT (Yv nm σ ((aj s (w.l.e i)).l.c j).cells ((CI k y (λi=>((aj s (w.l.e i)).l.n,λj=>((aj s (w.l.e i)).l.c j).cells)) i).2 j)):=
 aP (α:=Nat×(Nat->List SV)) (p:=λi y=>∀j,j<y.1->aT (Yv nm σ ((aj s (w.l.e i)).l.c j).cells (y.2 j))) h λi _ j _=>⟨rfl,rfl,rfl,rfl,rfl⟩
end
def WY(w:XU)(s:ZU):Cut:=⟨Nat,λk=>k<=w.l.n,λk=>⟨[sl 3 (.p 1 0),sl 4 (.p 2 0),sl 5 (.p 3 0),sl 17 w.l.sv,sl 18 (i64 w.l.n),sl 19 (i64 k)],
 [(1,.lay s.cells 149),(2,.lay vZ 28),(3,.lay [.v (.int .i64 w.tick),.g 4 5 2 0 k] 28),(4,G5 (gO s w).l k 5)],6,0,[],[]⟩,λk=>w.l.n-k⟩
def WX(w:XU)(s:ZU)(k:Nat)(b1 b2 b3:Bool):Cut:=⟨Unit,λ_=>True,λ_=>⟨[sl 3 (.p 1 0),sl 4 (.p 2 0),sl 5 (.p 3 0),sl 7 (.p 6 0),sl 17 w.l.sv,sl 18 (i64 w.l.n),sl 19 (i64 k)],
 [(1,.lay s.cells 149),(2,.lay vZ 28),(3,.lay [.v (.int .i64 w.tick),.g 4 5 2 0 k] 28),(4,G5 (gO s w).l k 5),(6,.lay [.v (.int .i64 (w.l.e k).iD),.g 7 7 5 0 (w.l.e k).l.n] 39),(7,.lst 7 5 (w.l.e k).l.n (λj=>((w.l.e k).l.c j).cells) 52)],8+VM b1 b2 b3,0,[],[]⟩,λ_=>0⟩
set_option maxHeartbeats 4000000 in
set_option maxRecDepth 8000 in
theorem D6:∀a,aD ((λa=>[a.1.valid=true,a.1.l.Sm,a.2.bodies.n<=1000]) a)->aJ (C:=cx) [qJ,FM,Qc Wu,Mg] [Td] 1 ⟨[14,16],[6],[3],3⟩ Tryz.f80 ((aH cI q9).enc a) λv H _=>ae ((λa=>(gO a.2 a.1).sv) a) H v:=by
 intro⟨w,s⟩ ⟨hv,hs,hn⟩;replace hv:w.valid=true:=hv;replace hs:w.l.Sm:=hs;replace hn:s.bodies.n<=1000:=hn;have hV:=XU.cA.1 hv;have hlen:=hV.len;refine F8 (WY w s) ?_;refine Ai ?_ ?_
 ·refine⟨(0:Nat),[],[.cellN 3 1 2 1 5 52 39],trivial,F9 _,?_⟩;repeat' first|apply Ai|exact rfl|intro
  all_goals exact P' ‹_<0› (F1 _)
 refine fun(k:Nat) (hk:k<=w.l.n)=>?_;refine Ai (λhb=>?_) (λhb=>?_)
 ·have hb:(k:Int)<w.l.n:=Od hb;have hkn:k<w.l.n:=(by omega);have hR:=hV.right k hkn;have hle:(w.l.e k).l.n<=1000:=(by have:=hR.len;omega);refine Ai ⟨by omega,by omega⟩ ?_;generalize YB:iu (w.l.e k).l 1=b1;generalize Yi:iu (w.l.e k).l 2=b2;generalize ZA:iu (w.l.e k).l 3=b3;have hbf:(bL (w.l.e k)).2=(b1&&b3):=(by unfold bL;rw[jG,jG,YB,ZA];cases (b1&&b3)<;>rfl);have Ys:((w.l.e k).l.n:Int)<=cp:=Int.le_trans (by omega:((w.l.e k).l.n:Int)<=1000) (by decide);have Yo:gQ (k+1) 32:=⟨Nat.le_trans (by omega:k+1<=1001) (by decide),by omega⟩
  have o1:XT ((k:Int)+1):=(by unfold XT;omega);have m1:w.l.n-(k+1)<w.l.n-k:=(by omega);have m2:k+1<=w.l.n:=(by omega);refine F8 (WX w s k b1 b2 b3) ?_;cases b1<;>cases b2<;>cases b3;all_goals refine Ai ?_ ?_
  all_goals first
   | (refine Ai ⟨λ_ _=>trivial,hle⟩ ?_
      refine⟨(),[],[],trivial,trivial,?_⟩;repeat' first|apply Ai|exact rfl|intro
      done)
   | skip
  (all_goals refine fun(_:Unit) _=>?_);all_goals refine Ai ⟨Yo,(by repeat' (first|apply Ai|exact rfl|intro))⟩ ?_
  (all_goals refine Ai ⟨λj _=>⟨_,rfl⟩,Ys,YB.symm⟩ ?_);all_goals refine Ai ⟨λj _=>⟨_,rfl⟩,Ys,Yi.symm⟩ ?_
  all_goals refine Ai ⟨λ_ _=>trivial,Ys⟩ ?_
  ·skip
   have Yy:aj s (w.l.e k)=w.l.e k:=(by unfold aj;rw[YB,Yi,ZA]);refine Ai (λhc=>?_) (λhc=>P' (show (!(bL (jr (w.l.e k))).2)=false from hc) (by rw[fj,hbf];decide));refine Ai (λ_=>⟨λj _=>⟨_,rfl⟩,Ys,ZA.symm⟩) ?_;refine Ai o1 ?_;refine⟨k+1,[(5,9)],[.bP 4],m1,m2,?_⟩;repeat' first|apply Ai|exact rfl|intro
   exact finA _ ‹_›;exact finB _ ‹_›;refine finC ?_ _ ‹_› _ ‹_›
   ·skip
    rw[Yy];exact λj _=>⟨rfl,rfl,rfl,rfl,rfl⟩
  ·skip
   have Yy:aj s (w.l.e k)=w.l.e k:=(by unfold aj;rw[YB,Yi,ZA]);refine Ai (λhc=>?_) (λhc=>P' (show (!(bL (jr (w.l.e k))).2)=false from hc) (by rw[fj,hbf];decide));refine Ai (λ_=>⟨λj _=>⟨_,rfl⟩,Ys,ZA.symm⟩) ?_;refine Ai o1 ?_;refine⟨k+1,[(5,25)],[.bP 4],m1,m2,?_⟩;repeat' first|apply Ai|exact rfl|intro
   exact finA _ ‹_›;exact finB _ ‹_›;refine finC ?_ _ ‹_› _ ‹_›
   ·skip
    rw[Yy];exact λj _=>⟨rfl,rfl,rfl,rfl,rfl⟩
  ·skip
   have Yy:aj s (w.l.e k)=w.l.e k:=(by unfold aj;rw[YB,Yi,ZA]);refine Ai (λhc=>?_) (λhc=>P' (show (!(bL (jr (w.l.e k))).2)=false from hc) (by rw[fj,hbf];decide));refine Ai (λ_=>⟨λj _=>⟨_,rfl⟩,Ys,ZA.symm⟩) ?_;refine Ai o1 ?_;refine⟨k+1,[(5,41)],[.bP 4],m1,m2,?_⟩;repeat' first|apply Ai|exact rfl|intro
   exact finA _ ‹_›;exact finB _ ‹_›;refine finC ?_ _ ‹_› _ ‹_›
   ·skip
    rw[Yy];exact λj _=>⟨rfl,rfl,rfl,rfl,rfl⟩
  ·skip
   have Yy:aj s (w.l.e k)=w.l.e k:=(by unfold aj;rw[YB,Yi,ZA]);refine Ai (λhc=>?_) (λhc=>P' (show (!(bL (jr (w.l.e k))).2)=false from hc) (by rw[fj,hbf];decide));refine Ai (λ_=>⟨λj _=>⟨_,rfl⟩,Ys,ZA.symm⟩) ?_;refine Ai o1 ?_;refine⟨k+1,[(5,57)],[.bP 4],m1,m2,?_⟩;repeat' first|apply Ai|exact rfl|intro
   exact finA _ ‹_›;exact finB _ ‹_›;refine finC ?_ _ ‹_› _ ‹_›
   ·skip
    rw[Yy];exact λj _=>⟨rfl,rfl,rfl,rfl,rfl⟩
  ·skip
   have Yy:aj s (w.l.e k)=w.l.e k:=(by unfold aj;rw[YB,Yi,ZA]);refine Ai (λhc=>?_) (λhc=>P' (show (!(bL (jr (w.l.e k))).2)=false from hc) (by rw[fj,hbf];decide));refine Ai (λ_=>⟨λj _=>⟨_,rfl⟩,Ys,ZA.symm⟩) ?_;refine Ai o1 ?_;refine⟨k+1,[(5,73)],[.bP 4],m1,m2,?_⟩;repeat' first|apply Ai|exact rfl|intro
   exact finA _ ‹_›;exact finB _ ‹_›;refine finC ?_ _ ‹_› _ ‹_›
   ·skip
    rw[Yy];exact λj _=>⟨rfl,rfl,rfl,rfl,rfl⟩
  ·skip
   refine Ai (λhc=>P' (show (!(bL (jr (w.l.e k))).2)=true from hc) (by rw[fj,hbf];decide)) (λhc=>?_);obtain⟨k1,f1,i1⟩:=iA hR YB;have XS:Nat.beq (Yh (λj=>((w.l.e k).l.c j).cells) (w.l.e k).l.n 1) (Yh (λj=>((w.l.e k).l.c j).cells) (w.l.e k).l.n 1)=true:=Xv _;have hB0:aj s (w.l.e k)=(bif decide ((dR s (w.l.e k).iD)<0) then w.l.e k else lx (w.l.e k) (s.bodies.e (dR s (w.l.e k).iD).toNat)):=(by unfold aj;rw[YB,Yi,ZA]);refine Ai ⟨λ_ _=>trivial,hn,⟨jr (w.l.e k),rfl⟩⟩ ?_;refine Ai (λhe=>?_) (λhe=>?_)
   ·have he:(dR s (w.l.e k).iD)<0:=Od he;have Yy:aj s (w.l.e k)=w.l.e k:=(by rw[hB0,Xj he];rfl);refine Ai o1 ?_;refine⟨k+1,[(5,89)],[.bP 4],m1,m2,?_⟩;repeat' first|apply Ai|exact rfl|intro
    exact finA _ ‹_›;exact finB _ ‹_›;refine finC ?_ _ ‹_› _ ‹_›
    ·skip
     rw[Yy];exact λj _=>⟨rfl,rfl,rfl,rfl,rfl⟩
   have he:¬(dR s (w.l.e k).iD)<0:=Xg he;have hB:0<=(dR s (w.l.e k).iD)∧(dR s (w.l.e k).iD)<(s.bodies.n:Int):=Gd he;refine Ai hB ?_;refine Ai hB ?_;refine Ai ?_ ?_
   ·repeat' (first|apply Ai|exact rfl|exact trivial|intro)
   refine Ai ?_ ?_
   ·repeat' (first|apply Ai|exact rfl|exact trivial|intro)
   have hx:=Tm YB Yi ZA;refine Ai (λZy=>P' (show (!(bL (jr (w.l.e k))).1.fixed)=true from Zy) (by rw[fj,hx];decide)) (λ_=>?_);have Yy:aj s (w.l.e k)=lx (w.l.e k) (s.bodies.e (dR s (w.l.e k).iD).toNat):=(by rw[hB0,Xi he];rfl);refine Ai o1 ?_;refine⟨k+1,[(5,89)],[.bP 4],m1,m2,?_⟩;repeat' first|apply Ai|exact rfl|intro
   exact finA _ ‹_›;exact finB _ ‹_›;refine finC ?_ _ ‹_› _ ‹_›
   ·skip
    rw[Yy];intro j hj;by_cases j1:j=Yh (λj=>((w.l.e k).l.c j).cells) (w.l.e k).l.n 1;subst j1;have e1:(lx (w.l.e k) (s.bodies.e (dR s (w.l.e k).iD).toNat)).l.c (Yh (λj=>((w.l.e k).l.c j).cells) (w.l.e k).l.n 1)=_:=JL (e:=w.l.e k);rw[e1];simp only[XS];exact⟨rfl,rfl,rfl,rfl,rfl⟩;have eo:(lx (w.l.e k) (s.bodies.e (dR s (w.l.e k).iD).toNat)).l.c j=_:=JK (e:=w.l.e k) j1 (.inl hx);rw[eo];simp only[iV j1];exact⟨rfl,rfl,rfl,rfl,rfl⟩
  ·skip
   refine Ai (λhc=>?_) (λhc=>P' (show (!(bL (jr (w.l.e k))).2)=false from hc) (by rw[fj,hbf];decide));refine Ai (λ_=>⟨λj _=>⟨_,rfl⟩,Ys,ZA.symm⟩) ?_;obtain⟨k1,f1,i1⟩:=iA hR YB;obtain⟨k2,f2,i2⟩:=iA hR Yi;obtain⟨p1,p2,p3,p4,-⟩:=f1.2.2.1 k1;obtain⟨v1,v2,v3,v4,-⟩:=f2.2.2.2.1 k2;have d12:Yh (λj=>((w.l.e k).l.c j).cells) (w.l.e k).l.n 1≠Yh (λj=>((w.l.e k).l.c j).cells) (w.l.e k).l.n 2:=λh=>(by have h:X1 (w.l.e k).l 1=X1 (w.l.e k).l 2:=h;rw[h,k2] at k1;exact P' k1 (by decide));have XS:Nat.beq (Yh (λj=>((w.l.e k).l.c j).cells) (w.l.e k).l.n 1) (Yh (λj=>((w.l.e k).l.c j).cells) (w.l.e k).l.n 1)=true:=Xv _;have b22:Nat.beq (Yh (λj=>((w.l.e k).l.c j).cells) (w.l.e k).l.n 2) (Yh (λj=>((w.l.e k).l.c j).cells) (w.l.e k).l.n 2)=true:=Xv _;have b12:Nat.beq (Yh (λj=>((w.l.e k).l.c j).cells) (w.l.e k).l.n 1) (Yh (λj=>((w.l.e k).l.c j).cells) (w.l.e k).l.n 2)=false:=iV d12;have b21:Nat.beq (Yh (λj=>((w.l.e k).l.c j).cells) (w.l.e k).l.n 2) (Yh (λj=>((w.l.e k).l.c j).cells) (w.l.e k).l.n 1)=false:=iV d12.symm;refine Ai (λhc=>P' (show (decide (min ((w.l.e k).l.c (X1 (w.l.e k).l 1)).v0 ((w.l.e k).l.c (X1 (w.l.e k).l 2)).v0 < -1099511627776)||decide (1099511627776<max ((w.l.e k).l.c (X1 (w.l.e k).l 1)).v0 ((w.l.e k).l.c (X1 (w.l.e k).l 2)).v0))=true from hc) (by rw[Rt ⟨p1,p2⟩ ⟨v1,v2⟩];exact Bool.false_ne_true)) (λ_=>?_);refine Ai (λhc=>P' (show (decide (min ((w.l.e k).l.c (X1 (w.l.e k).l 1)).v1 ((w.l.e k).l.c (X1 (w.l.e k).l 2)).v1 < -1099511627776)||decide (1099511627776<max ((w.l.e k).l.c (X1 (w.l.e k).l 1)).v1 ((w.l.e k).l.c (X1 (w.l.e k).l 2)).v1))=true from hc) (by rw[Rt ⟨p3,p4⟩ ⟨v3,v4⟩];exact Bool.false_ne_true)) (λ_=>?_);refine Ai (by first|exact nD ⟨p1,p2⟩ ⟨v1,v2⟩|(simp only[XS,b12,b21,b22,cond_true,cond_false];exact nD ⟨p1,p2⟩ ⟨v1,v2⟩)) ?_;refine Ai ?_ ?_
   ·repeat' (first|apply Ai|exact rfl|exact trivial|intro)
   refine Ai (λh0=>?_) (λh0=>?_)
   ·have h0:=Od h0;simp only[XS,b12,b21,b22,cond_true,cond_false] at h0;have g0:nG ((w.l.e k).l.c (X1 (w.l.e k).l 1)).v0 ((w.l.e k).l.c (X1 (w.l.e k).l 2)).v0=0:=(by unfold nG;rw[Xi (show ¬(jH (((w.l.e k).l.c (X1 (w.l.e k).l 1)).v0+((w.l.e k).l.c (X1 (w.l.e k).l 2)).v0)=((w.l.e k).l.c (X1 (w.l.e k).l 1)).v0+((w.l.e k).l.c (X1 (w.l.e k).l 2)).v0) from h0)];rfl);refine Ai ?_ ?_
    ·repeat' (first|apply Ai|exact rfl|exact trivial|intro)
    refine Ai (by first|exact nD ⟨p3,p4⟩ ⟨v3,v4⟩|(simp only[XS,b12,b21,b22,cond_true,cond_false];exact nD ⟨p3,p4⟩ ⟨v3,v4⟩)) ?_;refine Ai ?_ ?_
    ·repeat' (first|apply Ai|exact rfl|exact trivial|intro)
    refine Ai (λh1=>?_) (λh1=>?_)
    ·have h1:=Od h1;simp only[XS,b12,b21,b22,cond_true,cond_false] at h1;have g1:nG ((w.l.e k).l.c (X1 (w.l.e k).l 1)).v1 ((w.l.e k).l.c (X1 (w.l.e k).l 2)).v1=0:=(by unfold nG;rw[Xi (show ¬(jH (((w.l.e k).l.c (X1 (w.l.e k).l 1)).v1+((w.l.e k).l.c (X1 (w.l.e k).l 2)).v1)=((w.l.e k).l.c (X1 (w.l.e k).l 1)).v1+((w.l.e k).l.c (X1 (w.l.e k).l 2)).v1) from h1)];rfl);refine Ai ?_ ?_
     ·repeat' (first|apply Ai|exact rfl|exact trivial|intro)
     have Yy:aj s (w.l.e k)=jE (w.l.e k):=(by unfold aj;rw[YB,Yi,ZA]);refine Ai o1 ?_;refine⟨k+1,[(5,105)],[.bP 4],m1,m2,?_⟩;repeat' first|apply Ai|exact rfl|intro
     exact finA _ ‹_›;exact finB _ ‹_›;refine finC ?_ _ ‹_› _ ‹_›
     ·skip
      rw[Yy];intro j hj;by_cases j1:j=Yh (λj=>((w.l.e k).l.c j).cells) (w.l.e k).l.n 1;subst j1;have e1:(jE (w.l.e k)).l.c (Yh (λj=>((w.l.e k).l.c j).cells) (w.l.e k).l.n 1)=_:=Fj (e:=w.l.e k);rw[e1];simp only[XS,b12,b21,b22];exact⟨rfl,rfl,rfl,rfl,rfl⟩;by_cases j2:j=Yh (λj=>((w.l.e k).l.c j).cells) (w.l.e k).l.n 2;subst j2;have e2:(jE (w.l.e k)).l.c (Yh (λj=>((w.l.e k).l.c j).cells) (w.l.e k).l.n 2)=_:=Fi (e:=w.l.e k) d12.symm;rw[e2];simp only[XS,b12,b21,b22];exact⟨rfl,g0,g1,rfl,rfl⟩;have eo:(jE (w.l.e k)).l.c j=_:=Fh (e:=w.l.e k) j1 j2;rw[eo];simp only[iV j1,iV j2];exact⟨rfl,rfl,rfl,rfl,rfl⟩
    have h1:=Xg h1;simp only[XS,b12,b21,b22,cond_true,cond_false] at h1;have g1:nG ((w.l.e k).l.c (X1 (w.l.e k).l 1)).v1 ((w.l.e k).l.c (X1 (w.l.e k).l 2)).v1=((w.l.e k).l.c (X1 (w.l.e k).l 2)).v1:=(by unfold nG;rw[Xj (show jH (((w.l.e k).l.c (X1 (w.l.e k).l 1)).v1+((w.l.e k).l.c (X1 (w.l.e k).l 2)).v1)=((w.l.e k).l.c (X1 (w.l.e k).l 1)).v1+((w.l.e k).l.c (X1 (w.l.e k).l 2)).v1 from Decidable.of_not_not h1)];rfl);have Yy:aj s (w.l.e k)=jE (w.l.e k):=(by unfold aj;rw[YB,Yi,ZA]);refine Ai o1 ?_;refine⟨k+1,[(5,105)],[.bP 4],m1,m2,?_⟩;repeat' first|apply Ai|exact rfl|intro
    exact finA _ ‹_›;exact finB _ ‹_›;refine finC ?_ _ ‹_› _ ‹_›
    ·skip
     rw[Yy];intro j hj;by_cases j1:j=Yh (λj=>((w.l.e k).l.c j).cells) (w.l.e k).l.n 1;subst j1;have e1:(jE (w.l.e k)).l.c (Yh (λj=>((w.l.e k).l.c j).cells) (w.l.e k).l.n 1)=_:=Fj (e:=w.l.e k);rw[e1];simp only[XS,b12,b21,b22];exact⟨rfl,rfl,rfl,rfl,rfl⟩;by_cases j2:j=Yh (λj=>((w.l.e k).l.c j).cells) (w.l.e k).l.n 2;subst j2;have e2:(jE (w.l.e k)).l.c (Yh (λj=>((w.l.e k).l.c j).cells) (w.l.e k).l.n 2)=_:=Fi (e:=w.l.e k) d12.symm;rw[e2];simp only[XS,b12,b21,b22];exact⟨rfl,g0,g1,rfl,rfl⟩;have eo:(jE (w.l.e k)).l.c j=_:=Fh (e:=w.l.e k) j1 j2;rw[eo];simp only[iV j1,iV j2];exact⟨rfl,rfl,rfl,rfl,rfl⟩
   have h0:=Xg h0;simp only[XS,b12,b21,b22,cond_true,cond_false] at h0;have g0:nG ((w.l.e k).l.c (X1 (w.l.e k).l 1)).v0 ((w.l.e k).l.c (X1 (w.l.e k).l 2)).v0=((w.l.e k).l.c (X1 (w.l.e k).l 2)).v0:=(by unfold nG;rw[Xj (show jH (((w.l.e k).l.c (X1 (w.l.e k).l 1)).v0+((w.l.e k).l.c (X1 (w.l.e k).l 2)).v0)=((w.l.e k).l.c (X1 (w.l.e k).l 1)).v0+((w.l.e k).l.c (X1 (w.l.e k).l 2)).v0 from Decidable.of_not_not h0)];rfl);refine Ai (by first|exact nD ⟨p3,p4⟩ ⟨v3,v4⟩|(simp only[XS,b12,b21,b22,cond_true,cond_false];exact nD ⟨p3,p4⟩ ⟨v3,v4⟩)) ?_;refine Ai ?_ ?_
   ·repeat' (first|apply Ai|exact rfl|exact trivial|intro)
   refine Ai (λh1=>?_) (λh1=>?_)
   ·have h1:=Od h1;simp only[XS,b12,b21,b22,cond_true,cond_false] at h1;have g1:nG ((w.l.e k).l.c (X1 (w.l.e k).l 1)).v1 ((w.l.e k).l.c (X1 (w.l.e k).l 2)).v1=0:=(by unfold nG;rw[Xi (show ¬(jH (((w.l.e k).l.c (X1 (w.l.e k).l 1)).v1+((w.l.e k).l.c (X1 (w.l.e k).l 2)).v1)=((w.l.e k).l.c (X1 (w.l.e k).l 1)).v1+((w.l.e k).l.c (X1 (w.l.e k).l 2)).v1) from h1)];rfl);refine Ai ?_ ?_
    ·repeat' (first|apply Ai|exact rfl|exact trivial|intro)
    have Yy:aj s (w.l.e k)=jE (w.l.e k):=(by unfold aj;rw[YB,Yi,ZA]);refine Ai o1 ?_;refine⟨k+1,[(5,105)],[.bP 4],m1,m2,?_⟩;repeat' first|apply Ai|exact rfl|intro
    exact finA _ ‹_›;exact finB _ ‹_›;refine finC ?_ _ ‹_› _ ‹_›
    ·skip
     rw[Yy];intro j hj;by_cases j1:j=Yh (λj=>((w.l.e k).l.c j).cells) (w.l.e k).l.n 1;subst j1;have e1:(jE (w.l.e k)).l.c (Yh (λj=>((w.l.e k).l.c j).cells) (w.l.e k).l.n 1)=_:=Fj (e:=w.l.e k);rw[e1];simp only[XS,b12,b21,b22];exact⟨rfl,rfl,rfl,rfl,rfl⟩;by_cases j2:j=Yh (λj=>((w.l.e k).l.c j).cells) (w.l.e k).l.n 2;subst j2;have e2:(jE (w.l.e k)).l.c (Yh (λj=>((w.l.e k).l.c j).cells) (w.l.e k).l.n 2)=_:=Fi (e:=w.l.e k) d12.symm;rw[e2];simp only[XS,b12,b21,b22];exact⟨rfl,g0,g1,rfl,rfl⟩;have eo:(jE (w.l.e k)).l.c j=_:=Fh (e:=w.l.e k) j1 j2;rw[eo];simp only[iV j1,iV j2];exact⟨rfl,rfl,rfl,rfl,rfl⟩
   have h1:=Xg h1;simp only[XS,b12,b21,b22,cond_true,cond_false] at h1;have g1:nG ((w.l.e k).l.c (X1 (w.l.e k).l 1)).v1 ((w.l.e k).l.c (X1 (w.l.e k).l 2)).v1=((w.l.e k).l.c (X1 (w.l.e k).l 2)).v1:=(by unfold nG;rw[Xj (show jH (((w.l.e k).l.c (X1 (w.l.e k).l 1)).v1+((w.l.e k).l.c (X1 (w.l.e k).l 2)).v1)=((w.l.e k).l.c (X1 (w.l.e k).l 1)).v1+((w.l.e k).l.c (X1 (w.l.e k).l 2)).v1 from Decidable.of_not_not h1)];rfl);have Yy:aj s (w.l.e k)=jE (w.l.e k):=(by unfold aj;rw[YB,Yi,ZA]);refine Ai o1 ?_;refine⟨k+1,[(5,105)],[.bP 4],m1,m2,?_⟩;repeat' first|apply Ai|exact rfl|intro
   exact finA _ ‹_›;exact finB _ ‹_›;refine finC ?_ _ ‹_› _ ‹_›
   ·skip
    rw[Yy];intro j hj;by_cases j1:j=Yh (λj=>((w.l.e k).l.c j).cells) (w.l.e k).l.n 1;subst j1;have e1:(jE (w.l.e k)).l.c (Yh (λj=>((w.l.e k).l.c j).cells) (w.l.e k).l.n 1)=_:=Fj (e:=w.l.e k);rw[e1];simp only[XS,b12,b21,b22];exact⟨rfl,rfl,rfl,rfl,rfl⟩;by_cases j2:j=Yh (λj=>((w.l.e k).l.c j).cells) (w.l.e k).l.n 2;subst j2;have e2:(jE (w.l.e k)).l.c (Yh (λj=>((w.l.e k).l.c j).cells) (w.l.e k).l.n 2)=_:=Fi (e:=w.l.e k) d12.symm;rw[e2];simp only[XS,b12,b21,b22];exact⟨rfl,g0,g1,rfl,rfl⟩;have eo:(jE (w.l.e k)).l.c j=_:=Fh (e:=w.l.e k) j1 j2;rw[eo];simp only[iV j1,iV j2];exact⟨rfl,rfl,rfl,rfl,rfl⟩
  ·skip
   refine Ai (λhc=>P' (show (!(bL (jr (w.l.e k))).2)=true from hc) (by rw[fj,hbf];decide)) (λhc=>?_);obtain⟨k1,f1,i1⟩:=iA hR YB;have XS:Nat.beq (Yh (λj=>((w.l.e k).l.c j).cells) (w.l.e k).l.n 1) (Yh (λj=>((w.l.e k).l.c j).cells) (w.l.e k).l.n 1)=true:=Xv _;have hB0:aj s (w.l.e k)=(bif decide ((dR s (w.l.e k).iD)<0) then w.l.e k else lx (w.l.e k) (s.bodies.e (dR s (w.l.e k).iD).toNat)):=(by unfold aj;rw[YB,Yi,ZA]);obtain⟨k2,f2,i2⟩:=iA hR Yi;have d12:Yh (λj=>((w.l.e k).l.c j).cells) (w.l.e k).l.n 1≠Yh (λj=>((w.l.e k).l.c j).cells) (w.l.e k).l.n 2:=λh=>(by have h:X1 (w.l.e k).l 1=X1 (w.l.e k).l 2:=h;rw[h,k2] at k1;exact P' k1 (by decide));have b22:Nat.beq (Yh (λj=>((w.l.e k).l.c j).cells) (w.l.e k).l.n 2) (Yh (λj=>((w.l.e k).l.c j).cells) (w.l.e k).l.n 2)=true:=Xv _;have b12:Nat.beq (Yh (λj=>((w.l.e k).l.c j).cells) (w.l.e k).l.n 1) (Yh (λj=>((w.l.e k).l.c j).cells) (w.l.e k).l.n 2)=false:=iV d12;have b21:Nat.beq (Yh (λj=>((w.l.e k).l.c j).cells) (w.l.e k).l.n 2) (Yh (λj=>((w.l.e k).l.c j).cells) (w.l.e k).l.n 1)=false:=iV d12.symm;refine Ai ⟨λ_ _=>trivial,hn,⟨jr (w.l.e k),rfl⟩⟩ ?_;refine Ai (λhe=>?_) (λhe=>?_)
   ·have he:(dR s (w.l.e k).iD)<0:=Od he;have Yy:aj s (w.l.e k)=w.l.e k:=(by rw[hB0,Xj he];rfl);refine Ai o1 ?_;refine⟨k+1,[(5,121)],[.bP 4],m1,m2,?_⟩;repeat' first|apply Ai|exact rfl|intro
    exact finA _ ‹_›;exact finB _ ‹_›;refine finC ?_ _ ‹_› _ ‹_›
    ·skip
     rw[Yy];exact λj _=>⟨rfl,rfl,rfl,rfl,rfl⟩
   have he:¬(dR s (w.l.e k).iD)<0:=Xg he;have hB:0<=(dR s (w.l.e k).iD)∧(dR s (w.l.e k).iD)<(s.bodies.n:Int):=Gd he;refine Ai hB ?_;refine Ai hB ?_;refine Ai ?_ ?_
   ·repeat' (first|apply Ai|exact rfl|exact trivial|intro)
   refine Ai ?_ ?_
   ·repeat' (first|apply Ai|exact rfl|exact trivial|intro)
   refine Ai (λhx=>?_) (λhx=>?_)
   ·have hx:(!(bL (jr (w.l.e k))).1.fixed)=true:=hx;rw[fj] at hx;have hx:(bL (w.l.e k)).1.fixed=false:=(by simpa using hx);refine Ai hB ?_;refine Ai hB ?_;refine Ai ?_ ?_
    ·repeat' (first|apply Ai|exact rfl|exact trivial|intro)
    refine Ai ?_ ?_
    ·repeat' (first|apply Ai|exact rfl|exact trivial|intro)
    have Yy:aj s (w.l.e k)=lx (w.l.e k) (s.bodies.e (dR s (w.l.e k).iD).toNat):=(by rw[hB0,Xi he];rfl);refine Ai o1 ?_;refine⟨k+1,[(5,121)],[.bP 4],m1,m2,?_⟩;repeat' first|apply Ai|exact rfl|intro
    exact finA _ ‹_›;exact finB _ ‹_›;refine finC ?_ _ ‹_› _ ‹_›
    ·skip
     rw[Yy];intro j hj;by_cases j1:j=Yh (λj=>((w.l.e k).l.c j).cells) (w.l.e k).l.n 1;subst j1;have e1:(lx (w.l.e k) (s.bodies.e (dR s (w.l.e k).iD).toNat)).l.c (Yh (λj=>((w.l.e k).l.c j).cells) (w.l.e k).l.n 1)=_:=JL (e:=w.l.e k);rw[e1];simp only[XS,b12,b21,b22];exact⟨rfl,rfl,rfl,rfl,rfl⟩;by_cases j2:j=Yh (λj=>((w.l.e k).l.c j).cells) (w.l.e k).l.n 2;subst j2;have e2:(lx (w.l.e k) (s.bodies.e (dR s (w.l.e k).iD).toNat)).l.c (Yh (λj=>((w.l.e k).l.c j).cells) (w.l.e k).l.n 2)=_:=UO (e:=w.l.e k) d12.symm hx;rw[e2];simp only[XS,b12,b21,b22];exact⟨rfl,rfl,rfl,rfl,rfl⟩;have eo:(lx (w.l.e k) (s.bodies.e (dR s (w.l.e k).iD).toNat)).l.c j=_:=JK (e:=w.l.e k) j1 (.inr j2);rw[eo];simp only[iV j1,iV j2];exact⟨rfl,rfl,rfl,rfl,rfl⟩
   have hx:(!(bL (jr (w.l.e k))).1.fixed)=false:=hx;rw[fj] at hx;have hx:(bL (w.l.e k)).1.fixed=true:=(by simpa using hx);have Yy:aj s (w.l.e k)=lx (w.l.e k) (s.bodies.e (dR s (w.l.e k).iD).toNat):=(by rw[hB0,Xi he];rfl);refine Ai o1 ?_;refine⟨k+1,[(5,121)],[.bP 4],m1,m2,?_⟩;repeat' first|apply Ai|exact rfl|intro
   exact finA _ ‹_›;exact finB _ ‹_›;refine finC ?_ _ ‹_› _ ‹_›
   ·skip
    rw[Yy];intro j hj;by_cases j1:j=Yh (λj=>((w.l.e k).l.c j).cells) (w.l.e k).l.n 1;subst j1;have e1:(lx (w.l.e k) (s.bodies.e (dR s (w.l.e k).iD).toNat)).l.c (Yh (λj=>((w.l.e k).l.c j).cells) (w.l.e k).l.n 1)=_:=JL (e:=w.l.e k);rw[e1];simp only[XS,b12,b21,b22];exact⟨rfl,rfl,rfl,rfl,rfl⟩;have eo:(lx (w.l.e k) (s.bodies.e (dR s (w.l.e k).iD).toNat)).l.c j=_:=JK (e:=w.l.e k) j1 (.inl hx);rw[eo];simp only[iV j1];exact⟨rfl,rfl,rfl,rfl,rfl⟩
 have hb:¬(k:Int)<w.l.n:=Xg hb;obtain rfl:k=w.l.n:=by omega
 repeat' first|apply Ai|exact rfl|intro
 all_goals first|(show (_:Int)=_;rw[B'];done)|(show (_:Nat)=_;rw[B'];done)|(show (_:Nat)=_;rw[B'];rfl)
noncomputable def Mo:XR cx:=af 80 Tryz.call80 (aH cI q9) _ _ (λ_=>⟨[14,16],[6],[3],3⟩) [14,16] (λ_=>rfl) follows Tryz.func80 (by kernel_rfl) D6
end Go.Proofs.YtmdpdknpapjchaaGreatDoor
