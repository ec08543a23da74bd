/- step.Back of any scene.. -/
import Derived.Test.YtgigkennhdolpaaGreatDoorM34
namespace Go.Proofs.YtgigkennhdolpaaGreatDoor
open Go.RowKit
def dE(s:WY)(q:Int):Int:=VM (λi=>decide ((s.bodies.e i).iD=q)) s.bodies.n
theorem D7{s:WY}{q:Int}(h:¬dE s q<0):0<=dE s q∧dE s q<s.bodies.n:=by refine⟨by omega,?_⟩;unfold dE VM at h ⊢;split;rename_i hd;have:=Od hd;omega;rename_i hd;rw[hd] at h;exact Up (show ((-1:Int))<0 by decide) h
def ah(s:WY)(e:U3):U3:=match jx e.l 1,jx e.l 2,jx e.l 3 with
 | true,_,true=>bif decide (dE s e.iD<0) then e else kE e (s.bodies.e (dE s e.iD).toNat)
 | true,true,false=>iT e
 | _,_,_=>e
def gh(s:WY)(w:U8):U8:=⟨w.tick,⟨w.l.n,λi=>ah s (w.l.e i)⟩⟩
def T8(w:U8)(s:WY):Cut:=⟨Nat,λk=>k<=w.l.n,λk=>⟨[sl 3 (.p 1 0),sl 4 (.p 2 0),sl 5 (.p 3 0),sl 17 w.l.sv,sl 18 (i64 w.l.n),sl 19 (i64 k)],
 [(1,.lay s.cells 161),(2,.lay uq 28),(3,.lay [.v (.int .i64 w.tick),.g 4 5 2 0 k] 28),(4,yd (gh s w).l k 5)],6,0,[],[]⟩,λk=>w.l.n-k⟩
def T7(w:U8)(s:WY)(k:Nat)(b1 b2 b3:Bool):Cut:=⟨Unit,λ_=>True,λ_=>⟨[sl 3 (.p 1 0),sl 4 (.p 2 0),sl 5 (.p 3 0),sl 7 (.p 6 0),sl 17 w.l.sv,sl 18 (i64 w.l.n),sl 19 (i64 k)],
 [(1,.lay s.cells 161),(2,.lay uq 28),(3,.lay [.v (.int .i64 w.tick),.g 4 5 2 0 k] 28),(4,yd (gh s w).l k 5),(6,.lay [.v (.int .i64 (w.l.e k).iD),.g 7 7 5 0 (w.l.e k).l.n] 42),(7,.lst 7 5 (w.l.e k).l.n (λj=>((w.l.e k).l.c j).cells) 46)],8+S5 b1 b2 b3,0,[],[]⟩,λ_=>0⟩
set_option maxHeartbeats 4000000 in
set_option maxRecDepth 8000 in
theorem B5:∀a,aH ((λa=>[a.1.valid=true,a.1.l.Sm,a.2.bodies.n<=1000]) a)->aM (C:=cx) [pM,DM,Nf TJ,JS] [Qa] 1 ⟨[14,16],[6],[3],3⟩ Tryz.f82 ((aL c8 p9).enc a) λv H _=>ae ((λa=>(gh a.2 a.1).sv) a) H v:=by
 intro⟨w,s⟩ ⟨hv,hs,hn⟩;replace hv:w.valid=true:=hv;replace hs:w.l.Sm:=hs;replace hn:s.bodies.n<=1000:=hn;have hV:=U8.ew.1 hv;have hlen:=hV.len;refine Uh (T8 w s) ?_;refine Ai ?_ ?_
 ·refine⟨(0:Nat),[],[.cellN 3 1 2 1 5 46 42],trivial,Ui _,?_⟩;repeat' (first|refine Ai ?_ ?_|intro _|exact rfl)
  all_goals exact Up ‹_<0› (F' _)
 refine fun(k:Nat) (hk:k<=w.l.n)=>?_;refine Ai (λhb=>?_) (λhb=>?_)
 ·have hb:(k:Int)<w.l.n:=Od hb;have XM:k<w.l.n:=(by omega);have hR:=hV.right k XM;have hle:(w.l.e k).l.n<=1000:=(by have:=hR.len;omega);refine Ai ⟨by omega,by omega⟩ ?_;generalize VD:jx (w.l.e k).l 1=b1;generalize Vi:jx (w.l.e k).l 2=b2;generalize WA:jx (w.l.e k).l 3=b3;have hbf:(bI (w.l.e k)).2=(b1&&b3):=(by unfold bI;rw[iV,iV,VD,WA];cases (b1&&b3)<;>rfl);have Vp:((w.l.e k).l.n:Int)<=bY:=Int.le_trans (by omega:((w.l.e k).l.n:Int)<=1000) (by decide);have Vn:dW (k+1) 32:=⟨Nat.le_trans (by omega:k+1<=1001) (by decide),by omega⟩
  refine Uh (T7 w s k b1 b2 b3) ?_;cases b1<;>cases b2<;>cases b3
  ·refine Ai ?_ ?_
   ·refine Ai ⟨λ_ _=>trivial,hle⟩ ?_;refine⟨(),[],[],trivial,trivial,?_⟩;repeat' (first|refine Ai ?_ ?_|intro _|exact rfl)
   refine fun(_:Unit) _=>?_;refine Ai ⟨Vn,?_⟩ ?_
   ·repeat' (first|refine Ai ?_ ?_|intro _|exact rfl)
   refine Ai ⟨λj _=>⟨_,rfl⟩,Vp,VD.symm⟩ ?_;refine Ai ⟨λj _=>⟨_,rfl⟩,Vp,Vi.symm⟩ ?_;refine Ai ⟨λ_ _=>trivial,Vp⟩ ?_;have Vt:ah s (w.l.e k)=w.l.e k:=(by unfold ah;rw[VD,Vi,WA]);refine Ai (λhc=>?_) (λhc=>Up (show (!(bI (iN (w.l.e k))).2)=false from hc) (by rw[eP,hbf];decide));refine Ai (λ_=>⟨λj _=>⟨_,rfl⟩,Vp,WA.symm⟩) ?_;refine Ai (show UP ((k:Int)+1) by unfold UP;omega) ?_;refine⟨k+1,[(5,9)],[.bq 4],(by show w.l.n-(k+1)<w.l.n-k;omega),(by show k+1<=w.l.n;omega),?_⟩;repeat' (first|refine Ai ?_ ?_|intro _|exact rfl)
   refine az (α:=List SV) (p:=λi y=>aI (Vl 5 [(5,9)] (List.set [SV.v (Value.int IntKind.i64 (ah s (w.l.e i)).iD),SV.e] 1 SV.e) (y.set 1 SV.e))) ?_ ?_ _ ‹_›;show aI (Vl 5 [(5,9)] ([SV.v (Value.int IntKind.i64 (ah s (w.l.e k)).iD),SV.e].set 1 SV.e) _);rw[Vt];exact rfl;exact λi _=>rfl
   ·refine az (α:=Nat×(Nat->List SV)) (p:=λi y=>(ah s (w.l.e i)).l.n=y.1) ?_ ?_ _ ‹_›
    ·show (ah s (w.l.e k)).l.n=_;first|(rw[Vt];done)|(rw[Vt];exact rfl)
    exact λi _=>rfl
   refine az (α:=Nat×(Nat->List SV)) (p:=λi y=>∀j,j<y.1->aI (Vl 5 [(5,9)] ((ah s (w.l.e i)).l.c j).cells (y.2 j))) ?_ ?_ _ ‹_› _ ‹_›
   ·show ∀j,j<_->aI (Vl 5 [(5,9)] ((ah s (w.l.e k)).l.c j).cells _);rw[Vt];exact λj _=>⟨rfl,rfl,rfl,rfl,rfl⟩
   ·exact λi _ j _=>⟨rfl,rfl,rfl,rfl,rfl⟩
  ·refine Ai ?_ ?_
   ·refine Ai ⟨λ_ _=>trivial,hle⟩ ?_;refine⟨(),[],[],trivial,trivial,?_⟩;repeat' (first|refine Ai ?_ ?_|intro _|exact rfl)
   refine fun(_:Unit) _=>?_;refine Ai ⟨Vn,?_⟩ ?_
   ·repeat' (first|refine Ai ?_ ?_|intro _|exact rfl)
   refine Ai ⟨λj _=>⟨_,rfl⟩,Vp,VD.symm⟩ ?_;refine Ai ⟨λj _=>⟨_,rfl⟩,Vp,Vi.symm⟩ ?_;refine Ai ⟨λ_ _=>trivial,Vp⟩ ?_;have Vt:ah s (w.l.e k)=w.l.e k:=(by unfold ah;rw[VD,Vi,WA]);refine Ai (λhc=>?_) (λhc=>Up (show (!(bI (iN (w.l.e k))).2)=false from hc) (by rw[eP,hbf];decide));refine Ai (λ_=>⟨λj _=>⟨_,rfl⟩,Vp,WA.symm⟩) ?_;refine Ai (show UP ((k:Int)+1) by unfold UP;omega) ?_;refine⟨k+1,[(5,25)],[.bq 4],(by show w.l.n-(k+1)<w.l.n-k;omega),(by show k+1<=w.l.n;omega),?_⟩;repeat' (first|refine Ai ?_ ?_|intro _|exact rfl)
   refine az (α:=List SV) (p:=λi y=>aI (Vl 5 [(5,25)] (List.set [SV.v (Value.int IntKind.i64 (ah s (w.l.e i)).iD),SV.e] 1 SV.e) (y.set 1 SV.e))) ?_ ?_ _ ‹_›;show aI (Vl 5 [(5,25)] ([SV.v (Value.int IntKind.i64 (ah s (w.l.e k)).iD),SV.e].set 1 SV.e) _);rw[Vt];exact rfl;exact λi _=>rfl
   ·refine az (α:=Nat×(Nat->List SV)) (p:=λi y=>(ah s (w.l.e i)).l.n=y.1) ?_ ?_ _ ‹_›
    ·show (ah s (w.l.e k)).l.n=_;first|(rw[Vt];done)|(rw[Vt];exact rfl)
    exact λi _=>rfl
   refine az (α:=Nat×(Nat->List SV)) (p:=λi y=>∀j,j<y.1->aI (Vl 5 [(5,25)] ((ah s (w.l.e i)).l.c j).cells (y.2 j))) ?_ ?_ _ ‹_› _ ‹_›
   ·show ∀j,j<_->aI (Vl 5 [(5,25)] ((ah s (w.l.e k)).l.c j).cells _);rw[Vt];exact λj _=>⟨rfl,rfl,rfl,rfl,rfl⟩
   ·exact λi _ j _=>⟨rfl,rfl,rfl,rfl,rfl⟩
  ·refine Ai ?_ ?_
   ·refine Ai ⟨λ_ _=>trivial,hle⟩ ?_;refine⟨(),[],[],trivial,trivial,?_⟩;repeat' (first|refine Ai ?_ ?_|intro _|exact rfl)
   refine fun(_:Unit) _=>?_;refine Ai ⟨Vn,?_⟩ ?_
   ·repeat' (first|refine Ai ?_ ?_|intro _|exact rfl)
   refine Ai ⟨λj _=>⟨_,rfl⟩,Vp,VD.symm⟩ ?_;refine Ai ⟨λj _=>⟨_,rfl⟩,Vp,Vi.symm⟩ ?_;refine Ai ⟨λ_ _=>trivial,Vp⟩ ?_;have Vt:ah s (w.l.e k)=w.l.e k:=(by unfold ah;rw[VD,Vi,WA]);refine Ai (λhc=>?_) (λhc=>Up (show (!(bI (iN (w.l.e k))).2)=false from hc) (by rw[eP,hbf];decide));refine Ai (λ_=>⟨λj _=>⟨_,rfl⟩,Vp,WA.symm⟩) ?_;refine Ai (show UP ((k:Int)+1) by unfold UP;omega) ?_;refine⟨k+1,[(5,41)],[.bq 4],(by show w.l.n-(k+1)<w.l.n-k;omega),(by show k+1<=w.l.n;omega),?_⟩;repeat' (first|refine Ai ?_ ?_|intro _|exact rfl)
   refine az (α:=List SV) (p:=λi y=>aI (Vl 5 [(5,41)] (List.set [SV.v (Value.int IntKind.i64 (ah s (w.l.e i)).iD),SV.e] 1 SV.e) (y.set 1 SV.e))) ?_ ?_ _ ‹_›;show aI (Vl 5 [(5,41)] ([SV.v (Value.int IntKind.i64 (ah s (w.l.e k)).iD),SV.e].set 1 SV.e) _);rw[Vt];exact rfl;exact λi _=>rfl
   ·refine az (α:=Nat×(Nat->List SV)) (p:=λi y=>(ah s (w.l.e i)).l.n=y.1) ?_ ?_ _ ‹_›
    ·show (ah s (w.l.e k)).l.n=_;first|(rw[Vt];done)|(rw[Vt];exact rfl)
    exact λi _=>rfl
   refine az (α:=Nat×(Nat->List SV)) (p:=λi y=>∀j,j<y.1->aI (Vl 5 [(5,41)] ((ah s (w.l.e i)).l.c j).cells (y.2 j))) ?_ ?_ _ ‹_› _ ‹_›
   ·show ∀j,j<_->aI (Vl 5 [(5,41)] ((ah s (w.l.e k)).l.c j).cells _);rw[Vt];exact λj _=>⟨rfl,rfl,rfl,rfl,rfl⟩
   ·exact λi _ j _=>⟨rfl,rfl,rfl,rfl,rfl⟩
  ·refine Ai ?_ ?_
   ·refine Ai ⟨λ_ _=>trivial,hle⟩ ?_;refine⟨(),[],[],trivial,trivial,?_⟩;repeat' (first|refine Ai ?_ ?_|intro _|exact rfl)
   refine fun(_:Unit) _=>?_;refine Ai ⟨Vn,?_⟩ ?_
   ·repeat' (first|refine Ai ?_ ?_|intro _|exact rfl)
   refine Ai ⟨λj _=>⟨_,rfl⟩,Vp,VD.symm⟩ ?_;refine Ai ⟨λj _=>⟨_,rfl⟩,Vp,Vi.symm⟩ ?_;refine Ai ⟨λ_ _=>trivial,Vp⟩ ?_;have Vt:ah s (w.l.e k)=w.l.e k:=(by unfold ah;rw[VD,Vi,WA]);refine Ai (λhc=>?_) (λhc=>Up (show (!(bI (iN (w.l.e k))).2)=false from hc) (by rw[eP,hbf];decide));refine Ai (λ_=>⟨λj _=>⟨_,rfl⟩,Vp,WA.symm⟩) ?_;refine Ai (show UP ((k:Int)+1) by unfold UP;omega) ?_;refine⟨k+1,[(5,57)],[.bq 4],(by show w.l.n-(k+1)<w.l.n-k;omega),(by show k+1<=w.l.n;omega),?_⟩;repeat' (first|refine Ai ?_ ?_|intro _|exact rfl)
   refine az (α:=List SV) (p:=λi y=>aI (Vl 5 [(5,57)] (List.set [SV.v (Value.int IntKind.i64 (ah s (w.l.e i)).iD),SV.e] 1 SV.e) (y.set 1 SV.e))) ?_ ?_ _ ‹_›;show aI (Vl 5 [(5,57)] ([SV.v (Value.int IntKind.i64 (ah s (w.l.e k)).iD),SV.e].set 1 SV.e) _);rw[Vt];exact rfl;exact λi _=>rfl
   ·refine az (α:=Nat×(Nat->List SV)) (p:=λi y=>(ah s (w.l.e i)).l.n=y.1) ?_ ?_ _ ‹_›
    ·show (ah s (w.l.e k)).l.n=_;first|(rw[Vt];done)|(rw[Vt];exact rfl)
    exact λi _=>rfl
   refine az (α:=Nat×(Nat->List SV)) (p:=λi y=>∀j,j<y.1->aI (Vl 5 [(5,57)] ((ah s (w.l.e i)).l.c j).cells (y.2 j))) ?_ ?_ _ ‹_› _ ‹_›
   ·show ∀j,j<_->aI (Vl 5 [(5,57)] ((ah s (w.l.e k)).l.c j).cells _);rw[Vt];exact λj _=>⟨rfl,rfl,rfl,rfl,rfl⟩
   ·exact λi _ j _=>⟨rfl,rfl,rfl,rfl,rfl⟩
  ·refine Ai ?_ ?_
   ·refine Ai ⟨λ_ _=>trivial,hle⟩ ?_;refine⟨(),[],[],trivial,trivial,?_⟩;repeat' (first|refine Ai ?_ ?_|intro _|exact rfl)
   refine fun(_:Unit) _=>?_;refine Ai ⟨Vn,?_⟩ ?_
   ·repeat' (first|refine Ai ?_ ?_|intro _|exact rfl)
   refine Ai ⟨λj _=>⟨_,rfl⟩,Vp,VD.symm⟩ ?_;refine Ai ⟨λj _=>⟨_,rfl⟩,Vp,Vi.symm⟩ ?_;refine Ai ⟨λ_ _=>trivial,Vp⟩ ?_;have Vt:ah s (w.l.e k)=w.l.e k:=(by unfold ah;rw[VD,Vi,WA]);refine Ai (λhc=>?_) (λhc=>Up (show (!(bI (iN (w.l.e k))).2)=false from hc) (by rw[eP,hbf];decide));refine Ai (λ_=>⟨λj _=>⟨_,rfl⟩,Vp,WA.symm⟩) ?_;refine Ai (show UP ((k:Int)+1) by unfold UP;omega) ?_;refine⟨k+1,[(5,73)],[.bq 4],(by show w.l.n-(k+1)<w.l.n-k;omega),(by show k+1<=w.l.n;omega),?_⟩;repeat' (first|refine Ai ?_ ?_|intro _|exact rfl)
   refine az (α:=List SV) (p:=λi y=>aI (Vl 5 [(5,73)] (List.set [SV.v (Value.int IntKind.i64 (ah s (w.l.e i)).iD),SV.e] 1 SV.e) (y.set 1 SV.e))) ?_ ?_ _ ‹_›;show aI (Vl 5 [(5,73)] ([SV.v (Value.int IntKind.i64 (ah s (w.l.e k)).iD),SV.e].set 1 SV.e) _);rw[Vt];exact rfl;exact λi _=>rfl
   ·refine az (α:=Nat×(Nat->List SV)) (p:=λi y=>(ah s (w.l.e i)).l.n=y.1) ?_ ?_ _ ‹_›
    ·show (ah s (w.l.e k)).l.n=_;first|(rw[Vt];done)|(rw[Vt];exact rfl)
    exact λi _=>rfl
   refine az (α:=Nat×(Nat->List SV)) (p:=λi y=>∀j,j<y.1->aI (Vl 5 [(5,73)] ((ah s (w.l.e i)).l.c j).cells (y.2 j))) ?_ ?_ _ ‹_› _ ‹_›
   ·show ∀j,j<_->aI (Vl 5 [(5,73)] ((ah s (w.l.e k)).l.c j).cells _);rw[Vt];exact λj _=>⟨rfl,rfl,rfl,rfl,rfl⟩
   ·exact λi _ j _=>⟨rfl,rfl,rfl,rfl,rfl⟩
  ·refine Ai ?_ ?_
   ·refine Ai ⟨λ_ _=>trivial,hle⟩ ?_;refine⟨(),[],[],trivial,trivial,?_⟩;repeat' (first|refine Ai ?_ ?_|intro _|exact rfl)
   refine fun(_:Unit) _=>?_;refine Ai ⟨Vn,?_⟩ ?_
   ·repeat' (first|refine Ai ?_ ?_|intro _|exact rfl)
   refine Ai ⟨λj _=>⟨_,rfl⟩,Vp,VD.symm⟩ ?_;refine Ai ⟨λj _=>⟨_,rfl⟩,Vp,Vi.symm⟩ ?_;refine Ai ⟨λ_ _=>trivial,Vp⟩ ?_;refine Ai (λhc=>Up (show (!(bI (iN (w.l.e k))).2)=true from hc) (by rw[eP,hbf];decide)) (λhc=>?_);obtain⟨k1,f1,i1⟩:=gP hR VD;have UN:Nat.beq (Vh (λj=>((w.l.e k).l.c j).cells) (w.l.e k).l.n 1) (Vh (λj=>((w.l.e k).l.c j).cells) (w.l.e k).l.n 1)=true:=UG _;have hB0:ah s (w.l.e k)=(bif decide ((dE s (w.l.e k).iD)<0) then w.l.e k else kE (w.l.e k) (s.bodies.e (dE s (w.l.e k).iD).toNat)):=(by unfold ah;rw[VD,Vi,WA]);refine Ai ⟨λ_ _=>trivial,hn,⟨iN (w.l.e k),rfl⟩⟩ ?_;refine Ai (λhe=>?_) (λhe=>?_)
   ·have he:(dE s (w.l.e k).iD)<0:=Od he;have Vt:ah s (w.l.e k)=w.l.e k:=(by rw[hB0,Uu he];rfl);refine Ai (show UP ((k:Int)+1) by unfold UP;omega) ?_;refine⟨k+1,[(5,89)],[.bq 4],(by show w.l.n-(k+1)<w.l.n-k;omega),(by show k+1<=w.l.n;omega),?_⟩;repeat' (first|refine Ai ?_ ?_|intro _|exact rfl)
    refine az (α:=List SV) (p:=λi y=>aI (Vl 5 [(5,89)] (List.set [SV.v (Value.int IntKind.i64 (ah s (w.l.e i)).iD),SV.e] 1 SV.e) (y.set 1 SV.e))) ?_ ?_ _ ‹_›;show aI (Vl 5 [(5,89)] ([SV.v (Value.int IntKind.i64 (ah s (w.l.e k)).iD),SV.e].set 1 SV.e) _);rw[Vt];exact rfl;exact λi _=>rfl
    ·refine az (α:=Nat×(Nat->List SV)) (p:=λi y=>(ah s (w.l.e i)).l.n=y.1) ?_ ?_ _ ‹_›
     ·show (ah s (w.l.e k)).l.n=_;first|(rw[Vt];done)|(rw[Vt];exact rfl)
     exact λi _=>rfl
    refine az (α:=Nat×(Nat->List SV)) (p:=λi y=>∀j,j<y.1->aI (Vl 5 [(5,89)] ((ah s (w.l.e i)).l.c j).cells (y.2 j))) ?_ ?_ _ ‹_› _ ‹_›
    ·show ∀j,j<_->aI (Vl 5 [(5,89)] ((ah s (w.l.e k)).l.c j).cells _);rw[Vt];exact λj _=>⟨rfl,rfl,rfl,rfl,rfl⟩
    ·exact λi _ j _=>⟨rfl,rfl,rfl,rfl,rfl⟩
   have he:¬(dE s (w.l.e k).iD)<0:=Ur he;have hB:0<=(dE s (w.l.e k).iD)∧(dE s (w.l.e k).iD)<(s.bodies.n:Int):=D7 he;refine Ai hB ?_;refine Ai hB ?_;refine Ai ?_ ?_
   ·repeat' (first|refine Ai ?_ ?_|intro _|exact rfl|exact trivial)
   refine Ai ?_ ?_
   ·repeat' (first|refine Ai ?_ ?_|intro _|exact rfl|exact trivial)
   have hx:=Qi VD Vi WA;refine Ai (λWz=>Up (show (!(bI (iN (w.l.e k))).1.fixed)=true from Wz) (by rw[eP,hx];decide)) (λ_=>?_);have Vt:ah s (w.l.e k)=kE (w.l.e k) (s.bodies.e (dE s (w.l.e k).iD).toNat):=(by rw[hB0,Ut he];rfl);refine Ai (show UP ((k:Int)+1) by unfold UP;omega) ?_;refine⟨k+1,[(5,89)],[.bq 4],(by show w.l.n-(k+1)<w.l.n-k;omega),(by show k+1<=w.l.n;omega),?_⟩;repeat' (first|refine Ai ?_ ?_|intro _|exact rfl)
   refine az (α:=List SV) (p:=λi y=>aI (Vl 5 [(5,89)] (List.set [SV.v (Value.int IntKind.i64 (ah s (w.l.e i)).iD),SV.e] 1 SV.e) (y.set 1 SV.e))) ?_ ?_ _ ‹_›;show aI (Vl 5 [(5,89)] ([SV.v (Value.int IntKind.i64 (ah s (w.l.e k)).iD),SV.e].set 1 SV.e) _);rw[Vt];exact rfl;exact λi _=>rfl
   ·refine az (α:=Nat×(Nat->List SV)) (p:=λi y=>(ah s (w.l.e i)).l.n=y.1) ?_ ?_ _ ‹_›
    ·show (ah s (w.l.e k)).l.n=_;first|(rw[Vt];done)|(rw[Vt];exact rfl)
    exact λi _=>rfl
   refine az (α:=Nat×(Nat->List SV)) (p:=λi y=>∀j,j<y.1->aI (Vl 5 [(5,89)] ((ah s (w.l.e i)).l.c j).cells (y.2 j))) ?_ ?_ _ ‹_› _ ‹_›;show ∀j,j<_->aI (Vl 5 [(5,89)] ((ah s (w.l.e k)).l.c j).cells _);rw[Vt];intro j hj;by_cases j1:j=Vh (λj=>((w.l.e k).l.c j).cells) (w.l.e k).l.n 1;subst j1;have e1:(kE (w.l.e k) (s.bodies.e (dE s (w.l.e k).iD).toNat)).l.c (Vh (λj=>((w.l.e k).l.c j).cells) (w.l.e k).l.n 1)=_:=HO (e:=w.l.e k);rw[e1];simp only[UN];exact⟨rfl,rfl,rfl,rfl,rfl⟩;have eo:(kE (w.l.e k) (s.bodies.e (dE s (w.l.e k).iD).toNat)).l.c j=_:=HN (e:=w.l.e k) j1 (.inl hx);rw[eo];simp only[ij j1];exact⟨rfl,rfl,rfl,rfl,rfl⟩
   ·exact λi _ j _=>⟨rfl,rfl,rfl,rfl,rfl⟩
  ·refine Ai ?_ ?_
   ·refine Ai ⟨λ_ _=>trivial,hle⟩ ?_;refine⟨(),[],[],trivial,trivial,?_⟩;repeat' (first|refine Ai ?_ ?_|intro _|exact rfl)
   refine fun(_:Unit) _=>?_;refine Ai ⟨Vn,?_⟩ ?_
   ·repeat' (first|refine Ai ?_ ?_|intro _|exact rfl)
   refine Ai ⟨λj _=>⟨_,rfl⟩,Vp,VD.symm⟩ ?_;refine Ai ⟨λj _=>⟨_,rfl⟩,Vp,Vi.symm⟩ ?_;refine Ai ⟨λ_ _=>trivial,Vp⟩ ?_;refine Ai (λhc=>?_) (λhc=>Up (show (!(bI (iN (w.l.e k))).2)=false from hc) (by rw[eP,hbf];decide));refine Ai (λ_=>⟨λj _=>⟨_,rfl⟩,Vp,WA.symm⟩) ?_;obtain⟨k1,f1,i1⟩:=gP hR VD;obtain⟨k2,f2,i2⟩:=gP hR Vi;obtain⟨p1,p2,p3,p4,-⟩:=f1.2.2.1 k1;obtain⟨v1,v2,v3,v4,-⟩:=f2.2.2.2.1 k2;have d12:Vh (λj=>((w.l.e k).l.c j).cells) (w.l.e k).l.n 1≠Vh (λj=>((w.l.e k).l.c j).cells) (w.l.e k).l.n 2:=λh=>(by have h:UW (w.l.e k).l 1=UW (w.l.e k).l 2:=h;rw[h,k2] at k1;exact Up k1 (by decide));have UN:Nat.beq (Vh (λj=>((w.l.e k).l.c j).cells) (w.l.e k).l.n 1) (Vh (λj=>((w.l.e k).l.c j).cells) (w.l.e k).l.n 1)=true:=UG _;have Yk:Nat.beq (Vh (λj=>((w.l.e k).l.c j).cells) (w.l.e k).l.n 2) (Vh (λj=>((w.l.e k).l.c j).cells) (w.l.e k).l.n 2)=true:=UG _;have Ym:Nat.beq (Vh (λj=>((w.l.e k).l.c j).cells) (w.l.e k).l.n 1) (Vh (λj=>((w.l.e k).l.c j).cells) (w.l.e k).l.n 2)=false:=ij d12;have Yl:Nat.beq (Vh (λj=>((w.l.e k).l.c j).cells) (w.l.e k).l.n 2) (Vh (λj=>((w.l.e k).l.c j).cells) (w.l.e k).l.n 1)=false:=ij d12.symm;refine Ai (λhc=>Up (show (decide (min ((w.l.e k).l.c (UW (w.l.e k).l 1)).v0 ((w.l.e k).l.c (UW (w.l.e k).l 2)).v0 < -1099511627776)||decide (1099511627776<max ((w.l.e k).l.c (UW (w.l.e k).l 1)).v0 ((w.l.e k).l.c (UW (w.l.e k).l 2)).v0))=true from hc) (by rw[OG ⟨p1,p2⟩ ⟨v1,v2⟩];exact Bool.false_ne_true)) (λ_=>?_);refine Ai (λhc=>Up (show (decide (min ((w.l.e k).l.c (UW (w.l.e k).l 1)).v1 ((w.l.e k).l.c (UW (w.l.e k).l 2)).v1 < -1099511627776)||decide (1099511627776<max ((w.l.e k).l.c (UW (w.l.e k).l 1)).v1 ((w.l.e k).l.c (UW (w.l.e k).l 2)).v1))=true from hc) (by rw[OG ⟨p3,p4⟩ ⟨v3,v4⟩];exact Bool.false_ne_true)) (λ_=>?_);refine Ai (by first|exact mH ⟨p1,p2⟩ ⟨v1,v2⟩|(simp only[UN,Ym,Yl,Yk,cond_true,cond_false];exact mH ⟨p1,p2⟩ ⟨v1,v2⟩)) ?_;refine Ai ?_ ?_
   ·repeat' (first|refine Ai ?_ ?_|intro _|exact rfl|exact trivial)
   refine Ai (λh0=>?_) (λh0=>?_)
   ·have h0:=Od h0;simp only[UN,Ym,Yl,Yk,cond_true,cond_false] at h0;have g0:mK ((w.l.e k).l.c (UW (w.l.e k).l 1)).v0 ((w.l.e k).l.c (UW (w.l.e k).l 2)).v0=0:=(by unfold mK;rw[Ut (show ¬(iW (((w.l.e k).l.c (UW (w.l.e k).l 1)).v0+((w.l.e k).l.c (UW (w.l.e k).l 2)).v0)=((w.l.e k).l.c (UW (w.l.e k).l 1)).v0+((w.l.e k).l.c (UW (w.l.e k).l 2)).v0) from h0)];rfl);refine Ai ?_ ?_
    ·repeat' (first|refine Ai ?_ ?_|intro _|exact rfl|exact trivial)
    refine Ai (by first|exact mH ⟨p3,p4⟩ ⟨v3,v4⟩|(simp only[UN,Ym,Yl,Yk,cond_true,cond_false];exact mH ⟨p3,p4⟩ ⟨v3,v4⟩)) ?_;refine Ai ?_ ?_
    ·repeat' (first|refine Ai ?_ ?_|intro _|exact rfl|exact trivial)
    refine Ai (λh1=>?_) (λh1=>?_)
    ·have h1:=Od h1;simp only[UN,Ym,Yl,Yk,cond_true,cond_false] at h1;have g1:mK ((w.l.e k).l.c (UW (w.l.e k).l 1)).v1 ((w.l.e k).l.c (UW (w.l.e k).l 2)).v1=0:=(by unfold mK;rw[Ut (show ¬(iW (((w.l.e k).l.c (UW (w.l.e k).l 1)).v1+((w.l.e k).l.c (UW (w.l.e k).l 2)).v1)=((w.l.e k).l.c (UW (w.l.e k).l 1)).v1+((w.l.e k).l.c (UW (w.l.e k).l 2)).v1) from h1)];rfl);refine Ai ?_ ?_
     ·repeat' (first|refine Ai ?_ ?_|intro _|exact rfl|exact trivial)
     have Vt:ah s (w.l.e k)=iT (w.l.e k):=(by unfold ah;rw[VD,Vi,WA]);refine Ai (show UP ((k:Int)+1) by unfold UP;omega) ?_;refine⟨k+1,[(5,105)],[.bq 4],(by show w.l.n-(k+1)<w.l.n-k;omega),(by show k+1<=w.l.n;omega),?_⟩;repeat' (first|refine Ai ?_ ?_|intro _|exact rfl)
     refine az (α:=List SV) (p:=λi y=>aI (Vl 5 [(5,105)] (List.set [SV.v (Value.int IntKind.i64 (ah s (w.l.e i)).iD),SV.e] 1 SV.e) (y.set 1 SV.e))) ?_ ?_ _ ‹_›;show aI (Vl 5 [(5,105)] ([SV.v (Value.int IntKind.i64 (ah s (w.l.e k)).iD),SV.e].set 1 SV.e) _);rw[Vt];exact rfl;exact λi _=>rfl
     ·refine az (α:=Nat×(Nat->List SV)) (p:=λi y=>(ah s (w.l.e i)).l.n=y.1) ?_ ?_ _ ‹_›
      ·show (ah s (w.l.e k)).l.n=_;first|(rw[Vt];done)|(rw[Vt];exact rfl)
      exact λi _=>rfl
     refine az (α:=Nat×(Nat->List SV)) (p:=λi y=>∀j,j<y.1->aI (Vl 5 [(5,105)] ((ah s (w.l.e i)).l.c j).cells (y.2 j))) ?_ ?_ _ ‹_› _ ‹_›;show ∀j,j<_->aI (Vl 5 [(5,105)] ((ah s (w.l.e k)).l.c j).cells _);rw[Vt];intro j hj;by_cases j1:j=Vh (λj=>((w.l.e k).l.c j).cells) (w.l.e k).l.n 1;subst j1;have e1:(iT (w.l.e k)).l.c (Vh (λj=>((w.l.e k).l.c j).cells) (w.l.e k).l.n 1)=_:=Dh (e:=w.l.e k);rw[e1];simp only[UN,Ym,Yl,Yk];exact⟨rfl,rfl,rfl,rfl,rfl⟩;by_cases j2:j=Vh (λj=>((w.l.e k).l.c j).cells) (w.l.e k).l.n 2;subst j2;have e2:(iT (w.l.e k)).l.c (Vh (λj=>((w.l.e k).l.c j).cells) (w.l.e k).l.n 2)=_:=Dg (e:=w.l.e k) d12.symm;rw[e2];simp only[UN,Ym,Yl,Yk];exact⟨rfl,g0,g1,rfl,rfl⟩;have eo:(iT (w.l.e k)).l.c j=_:=De (e:=w.l.e k) j1 j2;rw[eo];simp only[ij j1,ij j2];exact⟨rfl,rfl,rfl,rfl,rfl⟩
     ·exact λi _ j _=>⟨rfl,rfl,rfl,rfl,rfl⟩
    have h1:=Ur h1;simp only[UN,Ym,Yl,Yk,cond_true,cond_false] at h1;have g1:mK ((w.l.e k).l.c (UW (w.l.e k).l 1)).v1 ((w.l.e k).l.c (UW (w.l.e k).l 2)).v1=((w.l.e k).l.c (UW (w.l.e k).l 2)).v1:=(by unfold mK;rw[Uu (show iW (((w.l.e k).l.c (UW (w.l.e k).l 1)).v1+((w.l.e k).l.c (UW (w.l.e k).l 2)).v1)=((w.l.e k).l.c (UW (w.l.e k).l 1)).v1+((w.l.e k).l.c (UW (w.l.e k).l 2)).v1 from Decidable.of_not_not h1)];rfl);have Vt:ah s (w.l.e k)=iT (w.l.e k):=(by unfold ah;rw[VD,Vi,WA]);refine Ai (show UP ((k:Int)+1) by unfold UP;omega) ?_;refine⟨k+1,[(5,105)],[.bq 4],(by show w.l.n-(k+1)<w.l.n-k;omega),(by show k+1<=w.l.n;omega),?_⟩;repeat' (first|refine Ai ?_ ?_|intro _|exact rfl)
    refine az (α:=List SV) (p:=λi y=>aI (Vl 5 [(5,105)] (List.set [SV.v (Value.int IntKind.i64 (ah s (w.l.e i)).iD),SV.e] 1 SV.e) (y.set 1 SV.e))) ?_ ?_ _ ‹_›;show aI (Vl 5 [(5,105)] ([SV.v (Value.int IntKind.i64 (ah s (w.l.e k)).iD),SV.e].set 1 SV.e) _);rw[Vt];exact rfl;exact λi _=>rfl
    ·refine az (α:=Nat×(Nat->List SV)) (p:=λi y=>(ah s (w.l.e i)).l.n=y.1) ?_ ?_ _ ‹_›
     ·show (ah s (w.l.e k)).l.n=_;first|(rw[Vt];done)|(rw[Vt];exact rfl)
     exact λi _=>rfl
    refine az (α:=Nat×(Nat->List SV)) (p:=λi y=>∀j,j<y.1->aI (Vl 5 [(5,105)] ((ah s (w.l.e i)).l.c j).cells (y.2 j))) ?_ ?_ _ ‹_› _ ‹_›;show ∀j,j<_->aI (Vl 5 [(5,105)] ((ah s (w.l.e k)).l.c j).cells _);rw[Vt];intro j hj;by_cases j1:j=Vh (λj=>((w.l.e k).l.c j).cells) (w.l.e k).l.n 1;subst j1;have e1:(iT (w.l.e k)).l.c (Vh (λj=>((w.l.e k).l.c j).cells) (w.l.e k).l.n 1)=_:=Dh (e:=w.l.e k);rw[e1];simp only[UN,Ym,Yl,Yk];exact⟨rfl,rfl,rfl,rfl,rfl⟩;by_cases j2:j=Vh (λj=>((w.l.e k).l.c j).cells) (w.l.e k).l.n 2;subst j2;have e2:(iT (w.l.e k)).l.c (Vh (λj=>((w.l.e k).l.c j).cells) (w.l.e k).l.n 2)=_:=Dg (e:=w.l.e k) d12.symm;rw[e2];simp only[UN,Ym,Yl,Yk];exact⟨rfl,g0,g1,rfl,rfl⟩;have eo:(iT (w.l.e k)).l.c j=_:=De (e:=w.l.e k) j1 j2;rw[eo];simp only[ij j1,ij j2];exact⟨rfl,rfl,rfl,rfl,rfl⟩
    ·exact λi _ j _=>⟨rfl,rfl,rfl,rfl,rfl⟩
   have h0:=Ur h0;simp only[UN,Ym,Yl,Yk,cond_true,cond_false] at h0;have g0:mK ((w.l.e k).l.c (UW (w.l.e k).l 1)).v0 ((w.l.e k).l.c (UW (w.l.e k).l 2)).v0=((w.l.e k).l.c (UW (w.l.e k).l 2)).v0:=(by unfold mK;rw[Uu (show iW (((w.l.e k).l.c (UW (w.l.e k).l 1)).v0+((w.l.e k).l.c (UW (w.l.e k).l 2)).v0)=((w.l.e k).l.c (UW (w.l.e k).l 1)).v0+((w.l.e k).l.c (UW (w.l.e k).l 2)).v0 from Decidable.of_not_not h0)];rfl);refine Ai (by first|exact mH ⟨p3,p4⟩ ⟨v3,v4⟩|(simp only[UN,Ym,Yl,Yk,cond_true,cond_false];exact mH ⟨p3,p4⟩ ⟨v3,v4⟩)) ?_;refine Ai ?_ ?_
   ·repeat' (first|refine Ai ?_ ?_|intro _|exact rfl|exact trivial)
   refine Ai (λh1=>?_) (λh1=>?_)
   ·have h1:=Od h1;simp only[UN,Ym,Yl,Yk,cond_true,cond_false] at h1;have g1:mK ((w.l.e k).l.c (UW (w.l.e k).l 1)).v1 ((w.l.e k).l.c (UW (w.l.e k).l 2)).v1=0:=(by unfold mK;rw[Ut (show ¬(iW (((w.l.e k).l.c (UW (w.l.e k).l 1)).v1+((w.l.e k).l.c (UW (w.l.e k).l 2)).v1)=((w.l.e k).l.c (UW (w.l.e k).l 1)).v1+((w.l.e k).l.c (UW (w.l.e k).l 2)).v1) from h1)];rfl);refine Ai ?_ ?_
    ·repeat' (first|refine Ai ?_ ?_|intro _|exact rfl|exact trivial)
    have Vt:ah s (w.l.e k)=iT (w.l.e k):=(by unfold ah;rw[VD,Vi,WA]);refine Ai (show UP ((k:Int)+1) by unfold UP;omega) ?_;refine⟨k+1,[(5,105)],[.bq 4],(by show w.l.n-(k+1)<w.l.n-k;omega),(by show k+1<=w.l.n;omega),?_⟩;repeat' (first|refine Ai ?_ ?_|intro _|exact rfl)
    refine az (α:=List SV) (p:=λi y=>aI (Vl 5 [(5,105)] (List.set [SV.v (Value.int IntKind.i64 (ah s (w.l.e i)).iD),SV.e] 1 SV.e) (y.set 1 SV.e))) ?_ ?_ _ ‹_›;show aI (Vl 5 [(5,105)] ([SV.v (Value.int IntKind.i64 (ah s (w.l.e k)).iD),SV.e].set 1 SV.e) _);rw[Vt];exact rfl;exact λi _=>rfl
    ·refine az (α:=Nat×(Nat->List SV)) (p:=λi y=>(ah s (w.l.e i)).l.n=y.1) ?_ ?_ _ ‹_›
     ·show (ah s (w.l.e k)).l.n=_;first|(rw[Vt];done)|(rw[Vt];exact rfl)
     exact λi _=>rfl
    refine az (α:=Nat×(Nat->List SV)) (p:=λi y=>∀j,j<y.1->aI (Vl 5 [(5,105)] ((ah s (w.l.e i)).l.c j).cells (y.2 j))) ?_ ?_ _ ‹_› _ ‹_›;show ∀j,j<_->aI (Vl 5 [(5,105)] ((ah s (w.l.e k)).l.c j).cells _);rw[Vt];intro j hj;by_cases j1:j=Vh (λj=>((w.l.e k).l.c j).cells) (w.l.e k).l.n 1;subst j1;have e1:(iT (w.l.e k)).l.c (Vh (λj=>((w.l.e k).l.c j).cells) (w.l.e k).l.n 1)=_:=Dh (e:=w.l.e k);rw[e1];simp only[UN,Ym,Yl,Yk];exact⟨rfl,rfl,rfl,rfl,rfl⟩;by_cases j2:j=Vh (λj=>((w.l.e k).l.c j).cells) (w.l.e k).l.n 2;subst j2;have e2:(iT (w.l.e k)).l.c (Vh (λj=>((w.l.e k).l.c j).cells) (w.l.e k).l.n 2)=_:=Dg (e:=w.l.e k) d12.symm;rw[e2];simp only[UN,Ym,Yl,Yk];exact⟨rfl,g0,g1,rfl,rfl⟩;have eo:(iT (w.l.e k)).l.c j=_:=De (e:=w.l.e k) j1 j2;rw[eo];simp only[ij j1,ij j2];exact⟨rfl,rfl,rfl,rfl,rfl⟩
    ·exact λi _ j _=>⟨rfl,rfl,rfl,rfl,rfl⟩
   have h1:=Ur h1;simp only[UN,Ym,Yl,Yk,cond_true,cond_false] at h1;have g1:mK ((w.l.e k).l.c (UW (w.l.e k).l 1)).v1 ((w.l.e k).l.c (UW (w.l.e k).l 2)).v1=((w.l.e k).l.c (UW (w.l.e k).l 2)).v1:=(by unfold mK;rw[Uu (show iW (((w.l.e k).l.c (UW (w.l.e k).l 1)).v1+((w.l.e k).l.c (UW (w.l.e k).l 2)).v1)=((w.l.e k).l.c (UW (w.l.e k).l 1)).v1+((w.l.e k).l.c (UW (w.l.e k).l 2)).v1 from Decidable.of_not_not h1)];rfl);have Vt:ah s (w.l.e k)=iT (w.l.e k):=(by unfold ah;rw[VD,Vi,WA]);refine Ai (show UP ((k:Int)+1) by unfold UP;omega) ?_;refine⟨k+1,[(5,105)],[.bq 4],(by show w.l.n-(k+1)<w.l.n-k;omega),(by show k+1<=w.l.n;omega),?_⟩;repeat' (first|refine Ai ?_ ?_|intro _|exact rfl)
   refine az (α:=List SV) (p:=λi y=>aI (Vl 5 [(5,105)] (List.set [SV.v (Value.int IntKind.i64 (ah s (w.l.e i)).iD),SV.e] 1 SV.e) (y.set 1 SV.e))) ?_ ?_ _ ‹_›;show aI (Vl 5 [(5,105)] ([SV.v (Value.int IntKind.i64 (ah s (w.l.e k)).iD),SV.e].set 1 SV.e) _);rw[Vt];exact rfl;exact λi _=>rfl
   ·refine az (α:=Nat×(Nat->List SV)) (p:=λi y=>(ah s (w.l.e i)).l.n=y.1) ?_ ?_ _ ‹_›
    ·show (ah s (w.l.e k)).l.n=_;first|(rw[Vt];done)|(rw[Vt];exact rfl)
    exact λi _=>rfl
   refine az (α:=Nat×(Nat->List SV)) (p:=λi y=>∀j,j<y.1->aI (Vl 5 [(5,105)] ((ah s (w.l.e i)).l.c j).cells (y.2 j))) ?_ ?_ _ ‹_› _ ‹_›;show ∀j,j<_->aI (Vl 5 [(5,105)] ((ah s (w.l.e k)).l.c j).cells _);rw[Vt];intro j hj;by_cases j1:j=Vh (λj=>((w.l.e k).l.c j).cells) (w.l.e k).l.n 1;subst j1;have e1:(iT (w.l.e k)).l.c (Vh (λj=>((w.l.e k).l.c j).cells) (w.l.e k).l.n 1)=_:=Dh (e:=w.l.e k);rw[e1];simp only[UN,Ym,Yl,Yk];exact⟨rfl,rfl,rfl,rfl,rfl⟩;by_cases j2:j=Vh (λj=>((w.l.e k).l.c j).cells) (w.l.e k).l.n 2;subst j2;have e2:(iT (w.l.e k)).l.c (Vh (λj=>((w.l.e k).l.c j).cells) (w.l.e k).l.n 2)=_:=Dg (e:=w.l.e k) d12.symm;rw[e2];simp only[UN,Ym,Yl,Yk];exact⟨rfl,g0,g1,rfl,rfl⟩;have eo:(iT (w.l.e k)).l.c j=_:=De (e:=w.l.e k) j1 j2;rw[eo];simp only[ij j1,ij j2];exact⟨rfl,rfl,rfl,rfl,rfl⟩
   ·exact λi _ j _=>⟨rfl,rfl,rfl,rfl,rfl⟩
  refine Ai ?_ ?_
  ·refine Ai ⟨λ_ _=>trivial,hle⟩ ?_;refine⟨(),[],[],trivial,trivial,?_⟩;repeat' (first|refine Ai ?_ ?_|intro _|exact rfl)
  refine fun(_:Unit) _=>?_;refine Ai ⟨Vn,?_⟩ ?_
  ·repeat' (first|refine Ai ?_ ?_|intro _|exact rfl)
  refine Ai ⟨λj _=>⟨_,rfl⟩,Vp,VD.symm⟩ ?_;refine Ai ⟨λj _=>⟨_,rfl⟩,Vp,Vi.symm⟩ ?_;refine Ai ⟨λ_ _=>trivial,Vp⟩ ?_;refine Ai (λhc=>Up (show (!(bI (iN (w.l.e k))).2)=true from hc) (by rw[eP,hbf];decide)) (λhc=>?_);obtain⟨k1,f1,i1⟩:=gP hR VD;have UN:Nat.beq (Vh (λj=>((w.l.e k).l.c j).cells) (w.l.e k).l.n 1) (Vh (λj=>((w.l.e k).l.c j).cells) (w.l.e k).l.n 1)=true:=UG _;have hB0:ah s (w.l.e k)=(bif decide ((dE s (w.l.e k).iD)<0) then w.l.e k else kE (w.l.e k) (s.bodies.e (dE s (w.l.e k).iD).toNat)):=(by unfold ah;rw[VD,Vi,WA]);obtain⟨k2,f2,i2⟩:=gP hR Vi;have d12:Vh (λj=>((w.l.e k).l.c j).cells) (w.l.e k).l.n 1≠Vh (λj=>((w.l.e k).l.c j).cells) (w.l.e k).l.n 2:=λh=>(by have h:UW (w.l.e k).l 1=UW (w.l.e k).l 2:=h;rw[h,k2] at k1;exact Up k1 (by decide));have Yk:Nat.beq (Vh (λj=>((w.l.e k).l.c j).cells) (w.l.e k).l.n 2) (Vh (λj=>((w.l.e k).l.c j).cells) (w.l.e k).l.n 2)=true:=UG _;have Ym:Nat.beq (Vh (λj=>((w.l.e k).l.c j).cells) (w.l.e k).l.n 1) (Vh (λj=>((w.l.e k).l.c j).cells) (w.l.e k).l.n 2)=false:=ij d12;have Yl:Nat.beq (Vh (λj=>((w.l.e k).l.c j).cells) (w.l.e k).l.n 2) (Vh (λj=>((w.l.e k).l.c j).cells) (w.l.e k).l.n 1)=false:=ij d12.symm;refine Ai ⟨λ_ _=>trivial,hn,⟨iN (w.l.e k),rfl⟩⟩ ?_;refine Ai (λhe=>?_) (λhe=>?_)
  ·have he:(dE s (w.l.e k).iD)<0:=Od he;have Vt:ah s (w.l.e k)=w.l.e k:=(by rw[hB0,Uu he];rfl);refine Ai (show UP ((k:Int)+1) by unfold UP;omega) ?_;refine⟨k+1,[(5,121)],[.bq 4],(by show w.l.n-(k+1)<w.l.n-k;omega),(by show k+1<=w.l.n;omega),?_⟩;repeat' (first|refine Ai ?_ ?_|intro _|exact rfl)
   refine az (α:=List SV) (p:=λi y=>aI (Vl 5 [(5,121)] (List.set [SV.v (Value.int IntKind.i64 (ah s (w.l.e i)).iD),SV.e] 1 SV.e) (y.set 1 SV.e))) ?_ ?_ _ ‹_›;show aI (Vl 5 [(5,121)] ([SV.v (Value.int IntKind.i64 (ah s (w.l.e k)).iD),SV.e].set 1 SV.e) _);rw[Vt];exact rfl;exact λi _=>rfl
   ·refine az (α:=Nat×(Nat->List SV)) (p:=λi y=>(ah s (w.l.e i)).l.n=y.1) ?_ ?_ _ ‹_›
    ·show (ah s (w.l.e k)).l.n=_;first|(rw[Vt];done)|(rw[Vt];exact rfl)
    exact λi _=>rfl
   refine az (α:=Nat×(Nat->List SV)) (p:=λi y=>∀j,j<y.1->aI (Vl 5 [(5,121)] ((ah s (w.l.e i)).l.c j).cells (y.2 j))) ?_ ?_ _ ‹_› _ ‹_›
   ·show ∀j,j<_->aI (Vl 5 [(5,121)] ((ah s (w.l.e k)).l.c j).cells _);rw[Vt];exact λj _=>⟨rfl,rfl,rfl,rfl,rfl⟩
   ·exact λi _ j _=>⟨rfl,rfl,rfl,rfl,rfl⟩
  have he:¬(dE s (w.l.e k).iD)<0:=Ur he;have hB:0<=(dE s (w.l.e k).iD)∧(dE s (w.l.e k).iD)<(s.bodies.n:Int):=D7 he;refine Ai hB ?_;refine Ai hB ?_;refine Ai ?_ ?_
  ·repeat' (first|refine Ai ?_ ?_|intro _|exact rfl|exact trivial)
  refine Ai ?_ ?_
  ·repeat' (first|refine Ai ?_ ?_|intro _|exact rfl|exact trivial)
  refine Ai (λhx=>?_) (λhx=>?_)
  ·have hx:(!(bI (iN (w.l.e k))).1.fixed)=true:=hx;rw[eP] at hx;have hx:(bI (w.l.e k)).1.fixed=false:=(by simpa using hx);refine Ai hB ?_;refine Ai hB ?_;refine Ai ?_ ?_
   ·repeat' (first|refine Ai ?_ ?_|intro _|exact rfl|exact trivial)
   refine Ai ?_ ?_
   ·repeat' (first|refine Ai ?_ ?_|intro _|exact rfl|exact trivial)
   have Vt:ah s (w.l.e k)=kE (w.l.e k) (s.bodies.e (dE s (w.l.e k).iD).toNat):=(by rw[hB0,Ut he];rfl);refine Ai (show UP ((k:Int)+1) by unfold UP;omega) ?_;refine⟨k+1,[(5,121)],[.bq 4],(by show w.l.n-(k+1)<w.l.n-k;omega),(by show k+1<=w.l.n;omega),?_⟩;repeat' (first|refine Ai ?_ ?_|intro _|exact rfl)
   refine az (α:=List SV) (p:=λi y=>aI (Vl 5 [(5,121)] (List.set [SV.v (Value.int IntKind.i64 (ah s (w.l.e i)).iD),SV.e] 1 SV.e) (y.set 1 SV.e))) ?_ ?_ _ ‹_›;show aI (Vl 5 [(5,121)] ([SV.v (Value.int IntKind.i64 (ah s (w.l.e k)).iD),SV.e].set 1 SV.e) _);rw[Vt];exact rfl;exact λi _=>rfl
   ·refine az (α:=Nat×(Nat->List SV)) (p:=λi y=>(ah s (w.l.e i)).l.n=y.1) ?_ ?_ _ ‹_›
    ·show (ah s (w.l.e k)).l.n=_;first|(rw[Vt];done)|(rw[Vt];exact rfl)
    exact λi _=>rfl
   refine az (α:=Nat×(Nat->List SV)) (p:=λi y=>∀j,j<y.1->aI (Vl 5 [(5,121)] ((ah s (w.l.e i)).l.c j).cells (y.2 j))) ?_ ?_ _ ‹_› _ ‹_›;show ∀j,j<_->aI (Vl 5 [(5,121)] ((ah s (w.l.e k)).l.c j).cells _);rw[Vt];intro j hj;by_cases j1:j=Vh (λj=>((w.l.e k).l.c j).cells) (w.l.e k).l.n 1;subst j1;have e1:(kE (w.l.e k) (s.bodies.e (dE s (w.l.e k).iD).toNat)).l.c (Vh (λj=>((w.l.e k).l.c j).cells) (w.l.e k).l.n 1)=_:=HO (e:=w.l.e k);rw[e1];simp only[UN,Ym,Yl,Yk];exact⟨rfl,rfl,rfl,rfl,rfl⟩;by_cases j2:j=Vh (λj=>((w.l.e k).l.c j).cells) (w.l.e k).l.n 2;subst j2;have e2:(kE (w.l.e k) (s.bodies.e (dE s (w.l.e k).iD).toNat)).l.c (Vh (λj=>((w.l.e k).l.c j).cells) (w.l.e k).l.n 2)=_:=RR (e:=w.l.e k) d12.symm hx;rw[e2];simp only[UN,Ym,Yl,Yk];exact⟨rfl,rfl,rfl,rfl,rfl⟩;have eo:(kE (w.l.e k) (s.bodies.e (dE s (w.l.e k).iD).toNat)).l.c j=_:=HN (e:=w.l.e k) j1 (.inr j2);rw[eo];simp only[ij j1,ij j2];exact⟨rfl,rfl,rfl,rfl,rfl⟩
   ·exact λi _ j _=>⟨rfl,rfl,rfl,rfl,rfl⟩
  have hx:(!(bI (iN (w.l.e k))).1.fixed)=false:=hx;rw[eP] at hx;have hx:(bI (w.l.e k)).1.fixed=true:=(by simpa using hx);have Vt:ah s (w.l.e k)=kE (w.l.e k) (s.bodies.e (dE s (w.l.e k).iD).toNat):=(by rw[hB0,Ut he];rfl);refine Ai (show UP ((k:Int)+1) by unfold UP;omega) ?_;refine⟨k+1,[(5,121)],[.bq 4],(by show w.l.n-(k+1)<w.l.n-k;omega),(by show k+1<=w.l.n;omega),?_⟩;repeat' (first|refine Ai ?_ ?_|intro _|exact rfl)
  refine az (α:=List SV) (p:=λi y=>aI (Vl 5 [(5,121)] (List.set [SV.v (Value.int IntKind.i64 (ah s (w.l.e i)).iD),SV.e] 1 SV.e) (y.set 1 SV.e))) ?_ ?_ _ ‹_›;show aI (Vl 5 [(5,121)] ([SV.v (Value.int IntKind.i64 (ah s (w.l.e k)).iD),SV.e].set 1 SV.e) _);rw[Vt];exact rfl;exact λi _=>rfl
  ·refine az (α:=Nat×(Nat->List SV)) (p:=λi y=>(ah s (w.l.e i)).l.n=y.1) ?_ ?_ _ ‹_›
   ·show (ah s (w.l.e k)).l.n=_;first|(rw[Vt];done)|(rw[Vt];exact rfl)
   exact λi _=>rfl
  refine az (α:=Nat×(Nat->List SV)) (p:=λi y=>∀j,j<y.1->aI (Vl 5 [(5,121)] ((ah s (w.l.e i)).l.c j).cells (y.2 j))) ?_ ?_ _ ‹_› _ ‹_›;show ∀j,j<_->aI (Vl 5 [(5,121)] ((ah s (w.l.e k)).l.c j).cells _);rw[Vt];intro j hj;by_cases j1:j=Vh (λj=>((w.l.e k).l.c j).cells) (w.l.e k).l.n 1;subst j1;have e1:(kE (w.l.e k) (s.bodies.e (dE s (w.l.e k).iD).toNat)).l.c (Vh (λj=>((w.l.e k).l.c j).cells) (w.l.e k).l.n 1)=_:=HO (e:=w.l.e k);rw[e1];simp only[UN,Ym,Yl,Yk];exact⟨rfl,rfl,rfl,rfl,rfl⟩;have eo:(kE (w.l.e k) (s.bodies.e (dE s (w.l.e k).iD).toNat)).l.c j=_:=HN (e:=w.l.e k) j1 (.inl hx);rw[eo];simp only[ij j1];exact⟨rfl,rfl,rfl,rfl,rfl⟩
  ·exact λi _ j _=>⟨rfl,rfl,rfl,rfl,rfl⟩
 have hb:¬(k:Int)<w.l.n:=Ur hb;obtain rfl:k=w.l.n:=by omega
 repeat' (first|refine Ai ?_ ?_|intro _|exact rfl)
 all_goals first|(show (_:Int)=_;rw[B'];done)|(show (_:Nat)=_;rw[B'];done)|(show (_:Nat)=_;rw[B'];rfl)
noncomputable def J0:UO cx:=ai 82 Tryz.call82 (aL c8 p9) _ _ (λ_=>⟨[14,16],[6],[3],3⟩) [14,16] (λ_=>rfl) follows Tryz.func82 (by kernel_rfl) B5
end Go.Proofs.YtgigkennhdolpaaGreatDoor
