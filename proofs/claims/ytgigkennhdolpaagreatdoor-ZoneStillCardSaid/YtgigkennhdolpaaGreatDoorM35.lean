/- step.Back of any scene.. -/
import Derived.Test.YtgigkennhdolpaaGreatDoorM29
import Derived.Test.YtgigkennhdolpaaGreatDoorM34
namespace Go.Proofs.YtgigkennhdolpaaGreatDoor
open Go.RowKit
def dA(s:VT)(q:Int):Int:=VO (λi=>decide ((s.bodies.e i).iD=q)) s.bodies.n
theorem Ez{s:VT}{q:Int}(h:¬dA s q<0):0<=dA s q∧dA s q<s.bodies.n:=by refine⟨by omega,?_⟩;unfold dA VO at h ⊢;split;rename_i hd;have:=Od hd;omega;rename_i hd;rw[hd] at h;exact Uw (show ((-1:Int))<0 by decide) h
def ak(s:VT)(e:UZ):UZ:=match eF e.l 1,eF e.l 2,eF e.l 3 with
 | true,_,true=>bif decide (dA s e.iD<0) then e else jh e (s.bodies.e (dA s e.iD).toNat)
 | true,true,false=>iC e
 | _,_,_=>e
def gh(s:VT)(w:U9):U9:=⟨w.tick,⟨w.l.n,λi=>ak s (w.l.e i)⟩⟩
def Ug(w:U9)(s:VT):Cut:=⟨Nat,λk=>k<=w.l.n,λk=>⟨[sl 3 (.p 1 0),sl 4 (.p 2 0),sl 5 (.p 3 0),sl 17 w.l.sv,sl 18 (i64 w.l.n),sl 19 (i64 k)],
 [(1,.lay s.cells 161),(2,.lay uB 28),(3,.lay [.v (.int .i64 w.tick),.g 4 5 2 0 k] 28),(4,yo (gh s w).l k 5)],6,0,[],[]⟩,λk=>w.l.n-k⟩
def Uf(w:U9)(s:VT)(k:Nat)(b1 b2 b3:Bool):Cut:=⟨Unit,λ_=>True,λ_=>⟨[sl 3 (.p 1 0),sl 4 (.p 2 0),sl 5 (.p 3 0),sl 7 (.p 6 0),sl 17 w.l.sv,sl 18 (i64 w.l.n),sl 19 (i64 k)],
 [(1,.lay s.cells 161),(2,.lay uB 28),(3,.lay [.v (.int .i64 w.tick),.g 4 5 2 0 k] 28),(4,yo (gh s w).l k 5),(6,.lay [.v (.int .i64 (w.l.e k).iD),.g 7 7 5 0 (w.l.e k).l.n] 42),(7,.lst 7 5 (w.l.e k).l.n (λj=>((w.l.e k).l.c j).cells) 46)],8+Td b1 b2 b3,0,[],[]⟩,λ_=>0⟩
set_option maxHeartbeats 4000000 in
set_option maxRecDepth 8000 in
theorem CJ:∀a,aA ((λa=>[a.1.valid=true,a.1.l.Sm,a.2.bodies.n<=1000]) a)->aH (C:=cx) [p9,xi,Of TU,Ky] [Qr] 1 ⟨[14,16],[6],[3],3⟩ Tryz.f82 ((aD cY lq).enc a) λv H _=>af ((λa=>(gh a.2 a.1).sv) a) H v:=by
 intro⟨w,s⟩ ⟨hv,hs,hn⟩;replace hv:w.valid=true:=hv;replace hs:w.l.Sm:=hs;replace hn:s.bodies.n<=1000:=hn;have hV:=U9.gq.1 hv;have hlen:=hV.len;refine T' (Ug w s) ?_;refine Ai ?_ ?_
 ·refine⟨(0:Nat),[],[.cellN 3 1 2 1 5 46 42],trivial,Up _,?_⟩;repeat' (first|refine Ai ?_ ?_|intro _|exact rfl)
  all_goals exact Uw ‹_<0› (F' _)
 refine fun(k:Nat) (hk:k<=w.l.n)=>?_;refine Ai (λhb=>?_) (λhb=>?_)
 ·have hb:(k:Int)<w.l.n:=Od hb;have Wp:k<w.l.n:=(by omega);have hR:=hV.right k Wp;have hle:(w.l.e k).l.n<=1000:=(by have:=hR.len;omega);refine Ai ⟨by omega,by omega⟩ ?_;generalize VN:eF (w.l.e k).l 1=b1;generalize Vz:eF (w.l.e k).l 2=b2;generalize WM:eF (w.l.e k).l 3=b3;have hbf:(aK (w.l.e k)).2=(b1&&b3):=(by unfold aK;rw[eC,eC,VN,WM];cases (b1&&b3)<;>rfl);have Vt:((w.l.e k).l.n:Int)<=cB:=Int.le_trans (by omega:((w.l.e k).l.n:Int)<=1000) (by decide);have Vv:gQ (k+1) 32:=⟨Nat.le_trans (by omega:k+1<=1001) (by decide),by omega⟩
  refine T' (Uf w s k b1 b2 b3) ?_;cases b1<;>cases b2<;>cases b3
  ·refine Ai ?_ ?_
   ·refine Ai ⟨λ_ _=>trivial,hle⟩ ?_;refine⟨(),[],[],trivial,trivial,?_⟩;repeat' (first|refine Ai ?_ ?_|intro _|exact rfl)
   refine fun(_:Unit) _=>?_;refine Ai ⟨Vv,?_⟩ ?_
   ·repeat' (first|refine Ai ?_ ?_|intro _|exact rfl)
   refine Ai ⟨λj _=>⟨_,rfl⟩,Vt,VN.symm⟩ ?_;refine Ai ⟨λj _=>⟨_,rfl⟩,Vt,Vz.symm⟩ ?_;refine Ai ⟨λ_ _=>trivial,Vt⟩ ?_;have VB:ak s (w.l.e k)=w.l.e k:=(by unfold ak;rw[VN,Vz,WM]);refine Ai (λhc=>?_) (λhc=>Uw (show (!(aK (je (w.l.e k))).2)=false from hc) (by rw[fg,hbf];decide));refine Ai (λ_=>⟨λj _=>⟨_,rfl⟩,Vt,WM.symm⟩) ?_;refine Ai (show U1 ((k:Int)+1) by unfold U1;omega) ?_;refine⟨k+1,[(5,9)],[.bE 4],(by show w.l.n-(k+1)<w.l.n-k;omega),(by show k+1<=w.l.n;omega),?_⟩;repeat' (first|refine Ai ?_ ?_|intro _|exact rfl)
   refine aG (α:=List SV) (p:=λi y=>aO (Vu 5 [(5,9)] (List.set [SV.v (Value.int IntKind.i64 (ak s (w.l.e i)).iD),SV.e] 1 SV.e) (y.set 1 SV.e))) ?_ ?_ _ ‹_›;show aO (Vu 5 [(5,9)] ([SV.v (Value.int IntKind.i64 (ak s (w.l.e k)).iD),SV.e].set 1 SV.e) _);rw[VB];exact rfl;exact λi _=>rfl
   ·refine aG (α:=Nat×(Nat->List SV)) (p:=λi y=>(ak s (w.l.e i)).l.n=y.1) ?_ ?_ _ ‹_›
    ·show (ak s (w.l.e k)).l.n=_;first|(rw[VB];done)|(rw[VB];exact rfl)
    exact λi _=>rfl
   refine aG (α:=Nat×(Nat->List SV)) (p:=λi y=>∀j,j<y.1->aO (Vu 5 [(5,9)] ((ak s (w.l.e i)).l.c j).cells (y.2 j))) ?_ ?_ _ ‹_› _ ‹_›
   ·show ∀j,j<_->aO (Vu 5 [(5,9)] ((ak s (w.l.e k)).l.c j).cells _);rw[VB];exact λj _=>⟨rfl,rfl,rfl,rfl,rfl⟩
   ·exact λi _ j _=>⟨rfl,rfl,rfl,rfl,rfl⟩
  ·refine Ai ?_ ?_
   ·refine Ai ⟨λ_ _=>trivial,hle⟩ ?_;refine⟨(),[],[],trivial,trivial,?_⟩;repeat' (first|refine Ai ?_ ?_|intro _|exact rfl)
   refine fun(_:Unit) _=>?_;refine Ai ⟨Vv,?_⟩ ?_
   ·repeat' (first|refine Ai ?_ ?_|intro _|exact rfl)
   refine Ai ⟨λj _=>⟨_,rfl⟩,Vt,VN.symm⟩ ?_;refine Ai ⟨λj _=>⟨_,rfl⟩,Vt,Vz.symm⟩ ?_;refine Ai ⟨λ_ _=>trivial,Vt⟩ ?_;have VB:ak s (w.l.e k)=w.l.e k:=(by unfold ak;rw[VN,Vz,WM]);refine Ai (λhc=>?_) (λhc=>Uw (show (!(aK (je (w.l.e k))).2)=false from hc) (by rw[fg,hbf];decide));refine Ai (λ_=>⟨λj _=>⟨_,rfl⟩,Vt,WM.symm⟩) ?_;refine Ai (show U1 ((k:Int)+1) by unfold U1;omega) ?_;refine⟨k+1,[(5,25)],[.bE 4],(by show w.l.n-(k+1)<w.l.n-k;omega),(by show k+1<=w.l.n;omega),?_⟩;repeat' (first|refine Ai ?_ ?_|intro _|exact rfl)
   refine aG (α:=List SV) (p:=λi y=>aO (Vu 5 [(5,25)] (List.set [SV.v (Value.int IntKind.i64 (ak s (w.l.e i)).iD),SV.e] 1 SV.e) (y.set 1 SV.e))) ?_ ?_ _ ‹_›;show aO (Vu 5 [(5,25)] ([SV.v (Value.int IntKind.i64 (ak s (w.l.e k)).iD),SV.e].set 1 SV.e) _);rw[VB];exact rfl;exact λi _=>rfl
   ·refine aG (α:=Nat×(Nat->List SV)) (p:=λi y=>(ak s (w.l.e i)).l.n=y.1) ?_ ?_ _ ‹_›
    ·show (ak s (w.l.e k)).l.n=_;first|(rw[VB];done)|(rw[VB];exact rfl)
    exact λi _=>rfl
   refine aG (α:=Nat×(Nat->List SV)) (p:=λi y=>∀j,j<y.1->aO (Vu 5 [(5,25)] ((ak s (w.l.e i)).l.c j).cells (y.2 j))) ?_ ?_ _ ‹_› _ ‹_›
   ·show ∀j,j<_->aO (Vu 5 [(5,25)] ((ak s (w.l.e k)).l.c j).cells _);rw[VB];exact λj _=>⟨rfl,rfl,rfl,rfl,rfl⟩
   ·exact λi _ j _=>⟨rfl,rfl,rfl,rfl,rfl⟩
  ·refine Ai ?_ ?_
   ·refine Ai ⟨λ_ _=>trivial,hle⟩ ?_;refine⟨(),[],[],trivial,trivial,?_⟩;repeat' (first|refine Ai ?_ ?_|intro _|exact rfl)
   refine fun(_:Unit) _=>?_;refine Ai ⟨Vv,?_⟩ ?_
   ·repeat' (first|refine Ai ?_ ?_|intro _|exact rfl)
   refine Ai ⟨λj _=>⟨_,rfl⟩,Vt,VN.symm⟩ ?_;refine Ai ⟨λj _=>⟨_,rfl⟩,Vt,Vz.symm⟩ ?_;refine Ai ⟨λ_ _=>trivial,Vt⟩ ?_;have VB:ak s (w.l.e k)=w.l.e k:=(by unfold ak;rw[VN,Vz,WM]);refine Ai (λhc=>?_) (λhc=>Uw (show (!(aK (je (w.l.e k))).2)=false from hc) (by rw[fg,hbf];decide));refine Ai (λ_=>⟨λj _=>⟨_,rfl⟩,Vt,WM.symm⟩) ?_;refine Ai (show U1 ((k:Int)+1) by unfold U1;omega) ?_;refine⟨k+1,[(5,41)],[.bE 4],(by show w.l.n-(k+1)<w.l.n-k;omega),(by show k+1<=w.l.n;omega),?_⟩;repeat' (first|refine Ai ?_ ?_|intro _|exact rfl)
   refine aG (α:=List SV) (p:=λi y=>aO (Vu 5 [(5,41)] (List.set [SV.v (Value.int IntKind.i64 (ak s (w.l.e i)).iD),SV.e] 1 SV.e) (y.set 1 SV.e))) ?_ ?_ _ ‹_›;show aO (Vu 5 [(5,41)] ([SV.v (Value.int IntKind.i64 (ak s (w.l.e k)).iD),SV.e].set 1 SV.e) _);rw[VB];exact rfl;exact λi _=>rfl
   ·refine aG (α:=Nat×(Nat->List SV)) (p:=λi y=>(ak s (w.l.e i)).l.n=y.1) ?_ ?_ _ ‹_›
    ·show (ak s (w.l.e k)).l.n=_;first|(rw[VB];done)|(rw[VB];exact rfl)
    exact λi _=>rfl
   refine aG (α:=Nat×(Nat->List SV)) (p:=λi y=>∀j,j<y.1->aO (Vu 5 [(5,41)] ((ak s (w.l.e i)).l.c j).cells (y.2 j))) ?_ ?_ _ ‹_› _ ‹_›
   ·show ∀j,j<_->aO (Vu 5 [(5,41)] ((ak s (w.l.e k)).l.c j).cells _);rw[VB];exact λj _=>⟨rfl,rfl,rfl,rfl,rfl⟩
   ·exact λi _ j _=>⟨rfl,rfl,rfl,rfl,rfl⟩
  ·refine Ai ?_ ?_
   ·refine Ai ⟨λ_ _=>trivial,hle⟩ ?_;refine⟨(),[],[],trivial,trivial,?_⟩;repeat' (first|refine Ai ?_ ?_|intro _|exact rfl)
   refine fun(_:Unit) _=>?_;refine Ai ⟨Vv,?_⟩ ?_
   ·repeat' (first|refine Ai ?_ ?_|intro _|exact rfl)
   refine Ai ⟨λj _=>⟨_,rfl⟩,Vt,VN.symm⟩ ?_;refine Ai ⟨λj _=>⟨_,rfl⟩,Vt,Vz.symm⟩ ?_;refine Ai ⟨λ_ _=>trivial,Vt⟩ ?_;have VB:ak s (w.l.e k)=w.l.e k:=(by unfold ak;rw[VN,Vz,WM]);refine Ai (λhc=>?_) (λhc=>Uw (show (!(aK (je (w.l.e k))).2)=false from hc) (by rw[fg,hbf];decide));refine Ai (λ_=>⟨λj _=>⟨_,rfl⟩,Vt,WM.symm⟩) ?_;refine Ai (show U1 ((k:Int)+1) by unfold U1;omega) ?_;refine⟨k+1,[(5,57)],[.bE 4],(by show w.l.n-(k+1)<w.l.n-k;omega),(by show k+1<=w.l.n;omega),?_⟩;repeat' (first|refine Ai ?_ ?_|intro _|exact rfl)
   refine aG (α:=List SV) (p:=λi y=>aO (Vu 5 [(5,57)] (List.set [SV.v (Value.int IntKind.i64 (ak s (w.l.e i)).iD),SV.e] 1 SV.e) (y.set 1 SV.e))) ?_ ?_ _ ‹_›;show aO (Vu 5 [(5,57)] ([SV.v (Value.int IntKind.i64 (ak s (w.l.e k)).iD),SV.e].set 1 SV.e) _);rw[VB];exact rfl;exact λi _=>rfl
   ·refine aG (α:=Nat×(Nat->List SV)) (p:=λi y=>(ak s (w.l.e i)).l.n=y.1) ?_ ?_ _ ‹_›
    ·show (ak s (w.l.e k)).l.n=_;first|(rw[VB];done)|(rw[VB];exact rfl)
    exact λi _=>rfl
   refine aG (α:=Nat×(Nat->List SV)) (p:=λi y=>∀j,j<y.1->aO (Vu 5 [(5,57)] ((ak s (w.l.e i)).l.c j).cells (y.2 j))) ?_ ?_ _ ‹_› _ ‹_›
   ·show ∀j,j<_->aO (Vu 5 [(5,57)] ((ak s (w.l.e k)).l.c j).cells _);rw[VB];exact λj _=>⟨rfl,rfl,rfl,rfl,rfl⟩
   ·exact λi _ j _=>⟨rfl,rfl,rfl,rfl,rfl⟩
  ·refine Ai ?_ ?_
   ·refine Ai ⟨λ_ _=>trivial,hle⟩ ?_;refine⟨(),[],[],trivial,trivial,?_⟩;repeat' (first|refine Ai ?_ ?_|intro _|exact rfl)
   refine fun(_:Unit) _=>?_;refine Ai ⟨Vv,?_⟩ ?_
   ·repeat' (first|refine Ai ?_ ?_|intro _|exact rfl)
   refine Ai ⟨λj _=>⟨_,rfl⟩,Vt,VN.symm⟩ ?_;refine Ai ⟨λj _=>⟨_,rfl⟩,Vt,Vz.symm⟩ ?_;refine Ai ⟨λ_ _=>trivial,Vt⟩ ?_;have VB:ak s (w.l.e k)=w.l.e k:=(by unfold ak;rw[VN,Vz,WM]);refine Ai (λhc=>?_) (λhc=>Uw (show (!(aK (je (w.l.e k))).2)=false from hc) (by rw[fg,hbf];decide));refine Ai (λ_=>⟨λj _=>⟨_,rfl⟩,Vt,WM.symm⟩) ?_;refine Ai (show U1 ((k:Int)+1) by unfold U1;omega) ?_;refine⟨k+1,[(5,73)],[.bE 4],(by show w.l.n-(k+1)<w.l.n-k;omega),(by show k+1<=w.l.n;omega),?_⟩;repeat' (first|refine Ai ?_ ?_|intro _|exact rfl)
   refine aG (α:=List SV) (p:=λi y=>aO (Vu 5 [(5,73)] (List.set [SV.v (Value.int IntKind.i64 (ak s (w.l.e i)).iD),SV.e] 1 SV.e) (y.set 1 SV.e))) ?_ ?_ _ ‹_›;show aO (Vu 5 [(5,73)] ([SV.v (Value.int IntKind.i64 (ak s (w.l.e k)).iD),SV.e].set 1 SV.e) _);rw[VB];exact rfl;exact λi _=>rfl
   ·refine aG (α:=Nat×(Nat->List SV)) (p:=λi y=>(ak s (w.l.e i)).l.n=y.1) ?_ ?_ _ ‹_›
    ·show (ak s (w.l.e k)).l.n=_;first|(rw[VB];done)|(rw[VB];exact rfl)
    exact λi _=>rfl
   refine aG (α:=Nat×(Nat->List SV)) (p:=λi y=>∀j,j<y.1->aO (Vu 5 [(5,73)] ((ak s (w.l.e i)).l.c j).cells (y.2 j))) ?_ ?_ _ ‹_› _ ‹_›
   ·show ∀j,j<_->aO (Vu 5 [(5,73)] ((ak s (w.l.e k)).l.c j).cells _);rw[VB];exact λj _=>⟨rfl,rfl,rfl,rfl,rfl⟩
   ·exact λi _ j _=>⟨rfl,rfl,rfl,rfl,rfl⟩
  ·refine Ai ?_ ?_
   ·refine Ai ⟨λ_ _=>trivial,hle⟩ ?_;refine⟨(),[],[],trivial,trivial,?_⟩;repeat' (first|refine Ai ?_ ?_|intro _|exact rfl)
   refine fun(_:Unit) _=>?_;refine Ai ⟨Vv,?_⟩ ?_
   ·repeat' (first|refine Ai ?_ ?_|intro _|exact rfl)
   refine Ai ⟨λj _=>⟨_,rfl⟩,Vt,VN.symm⟩ ?_;refine Ai ⟨λj _=>⟨_,rfl⟩,Vt,Vz.symm⟩ ?_;refine Ai ⟨λ_ _=>trivial,Vt⟩ ?_;refine Ai (λhc=>Uw (show (!(aK (je (w.l.e k))).2)=true from hc) (by rw[fg,hbf];decide)) (λhc=>?_);obtain⟨k1,f1,i1⟩:=fU hR VN;have UX:Nat.beq (Vn (λj=>((w.l.e k).l.c j).cells) (w.l.e k).l.n 1) (Vn (λj=>((w.l.e k).l.c j).cells) (w.l.e k).l.n 1)=true:=UN _;have hB0:ak s (w.l.e k)=(bif decide ((dA s (w.l.e k).iD)<0) then w.l.e k else jh (w.l.e k) (s.bodies.e (dA s (w.l.e k).iD).toNat)):=(by unfold ak;rw[VN,Vz,WM]);refine Ai ⟨λ_ _=>trivial,hn,⟨je (w.l.e k),rfl⟩⟩ ?_;refine Ai (λhe=>?_) (λhe=>?_)
   ·have he:(dA s (w.l.e k).iD)<0:=Od he;have VB:ak s (w.l.e k)=w.l.e k:=(by rw[hB0,UB he];rfl);refine Ai (show U1 ((k:Int)+1) by unfold U1;omega) ?_;refine⟨k+1,[(5,89)],[.bE 4],(by show w.l.n-(k+1)<w.l.n-k;omega),(by show k+1<=w.l.n;omega),?_⟩;repeat' (first|refine Ai ?_ ?_|intro _|exact rfl)
    refine aG (α:=List SV) (p:=λi y=>aO (Vu 5 [(5,89)] (List.set [SV.v (Value.int IntKind.i64 (ak s (w.l.e i)).iD),SV.e] 1 SV.e) (y.set 1 SV.e))) ?_ ?_ _ ‹_›;show aO (Vu 5 [(5,89)] ([SV.v (Value.int IntKind.i64 (ak s (w.l.e k)).iD),SV.e].set 1 SV.e) _);rw[VB];exact rfl;exact λi _=>rfl
    ·refine aG (α:=Nat×(Nat->List SV)) (p:=λi y=>(ak s (w.l.e i)).l.n=y.1) ?_ ?_ _ ‹_›
     ·show (ak s (w.l.e k)).l.n=_;first|(rw[VB];done)|(rw[VB];exact rfl)
     exact λi _=>rfl
    refine aG (α:=Nat×(Nat->List SV)) (p:=λi y=>∀j,j<y.1->aO (Vu 5 [(5,89)] ((ak s (w.l.e i)).l.c j).cells (y.2 j))) ?_ ?_ _ ‹_› _ ‹_›
    ·show ∀j,j<_->aO (Vu 5 [(5,89)] ((ak s (w.l.e k)).l.c j).cells _);rw[VB];exact λj _=>⟨rfl,rfl,rfl,rfl,rfl⟩
    ·exact λi _ j _=>⟨rfl,rfl,rfl,rfl,rfl⟩
   have he:¬(dA s (w.l.e k).iD)<0:=Uy he;have hB:0<=(dA s (w.l.e k).iD)∧(dA s (w.l.e k).iD)<(s.bodies.n:Int):=Ez he;refine Ai hB ?_;refine Ai hB ?_;refine Ai ?_ ?_
   ·repeat' (first|refine Ai ?_ ?_|intro _|exact rfl|exact trivial)
   refine Ai ?_ ?_
   ·repeat' (first|refine Ai ?_ ?_|intro _|exact rfl|exact trivial)
   have hx:=Qz VN Vz WM;refine Ai (λWJ=>Uw (show (!(aK (je (w.l.e k))).1.fixed)=true from WJ) (by rw[fg,hx];decide)) (λ_=>?_);have VB:ak s (w.l.e k)=jh (w.l.e k) (s.bodies.e (dA s (w.l.e k).iD).toNat):=(by rw[hB0,UA he];rfl);refine Ai (show U1 ((k:Int)+1) by unfold U1;omega) ?_;refine⟨k+1,[(5,89)],[.bE 4],(by show w.l.n-(k+1)<w.l.n-k;omega),(by show k+1<=w.l.n;omega),?_⟩;repeat' (first|refine Ai ?_ ?_|intro _|exact rfl)
   refine aG (α:=List SV) (p:=λi y=>aO (Vu 5 [(5,89)] (List.set [SV.v (Value.int IntKind.i64 (ak s (w.l.e i)).iD),SV.e] 1 SV.e) (y.set 1 SV.e))) ?_ ?_ _ ‹_›;show aO (Vu 5 [(5,89)] ([SV.v (Value.int IntKind.i64 (ak s (w.l.e k)).iD),SV.e].set 1 SV.e) _);rw[VB];exact rfl;exact λi _=>rfl
   ·refine aG (α:=Nat×(Nat->List SV)) (p:=λi y=>(ak s (w.l.e i)).l.n=y.1) ?_ ?_ _ ‹_›
    ·show (ak s (w.l.e k)).l.n=_;first|(rw[VB];done)|(rw[VB];exact rfl)
    exact λi _=>rfl
   refine aG (α:=Nat×(Nat->List SV)) (p:=λi y=>∀j,j<y.1->aO (Vu 5 [(5,89)] ((ak s (w.l.e i)).l.c j).cells (y.2 j))) ?_ ?_ _ ‹_› _ ‹_›;show ∀j,j<_->aO (Vu 5 [(5,89)] ((ak s (w.l.e k)).l.c j).cells _);rw[VB];intro j hj;by_cases j1:j=Vn (λj=>((w.l.e k).l.c j).cells) (w.l.e k).l.n 1;subst j1;have e1:(jh (w.l.e k) (s.bodies.e (dA s (w.l.e k).iD).toNat)).l.c (Vn (λj=>((w.l.e k).l.c j).cells) (w.l.e k).l.n 1)=_:=Dd (e:=w.l.e k);rw[e1];simp only[UX];exact⟨rfl,rfl,rfl,rfl,rfl⟩;have eo:(jh (w.l.e k) (s.bodies.e (dA s (w.l.e k).iD).toNat)).l.c j=_:=yh (e:=w.l.e k) j1 (.inl hx);rw[eo];simp only[ga j1];exact⟨rfl,rfl,rfl,rfl,rfl⟩
   ·exact λi _ j _=>⟨rfl,rfl,rfl,rfl,rfl⟩
  ·refine Ai ?_ ?_
   ·refine Ai ⟨λ_ _=>trivial,hle⟩ ?_;refine⟨(),[],[],trivial,trivial,?_⟩;repeat' (first|refine Ai ?_ ?_|intro _|exact rfl)
   refine fun(_:Unit) _=>?_;refine Ai ⟨Vv,?_⟩ ?_
   ·repeat' (first|refine Ai ?_ ?_|intro _|exact rfl)
   refine Ai ⟨λj _=>⟨_,rfl⟩,Vt,VN.symm⟩ ?_;refine Ai ⟨λj _=>⟨_,rfl⟩,Vt,Vz.symm⟩ ?_;refine Ai ⟨λ_ _=>trivial,Vt⟩ ?_;refine Ai (λhc=>?_) (λhc=>Uw (show (!(aK (je (w.l.e k))).2)=false from hc) (by rw[fg,hbf];decide));refine Ai (λ_=>⟨λj _=>⟨_,rfl⟩,Vt,WM.symm⟩) ?_;obtain⟨k1,f1,i1⟩:=fU hR VN;obtain⟨k2,f2,i2⟩:=fU hR Vz;obtain⟨p1,p2,p3,p4,-⟩:=f1.2.2.1 k1;obtain⟨v1,v2,v3,v4,-⟩:=f2.2.2.2.1 k2;have d12:Vn (λj=>((w.l.e k).l.c j).cells) (w.l.e k).l.n 1≠Vn (λj=>((w.l.e k).l.c j).cells) (w.l.e k).l.n 2:=λh=>(by have h:U0 (w.l.e k).l 1=U0 (w.l.e k).l 2:=h;rw[h,k2] at k1;exact Uw k1 (by decide));have UX:Nat.beq (Vn (λj=>((w.l.e k).l.c j).cells) (w.l.e k).l.n 1) (Vn (λj=>((w.l.e k).l.c j).cells) (w.l.e k).l.n 1)=true:=UN _;have Yo:Nat.beq (Vn (λj=>((w.l.e k).l.c j).cells) (w.l.e k).l.n 2) (Vn (λj=>((w.l.e k).l.c j).cells) (w.l.e k).l.n 2)=true:=UN _;have Yq:Nat.beq (Vn (λj=>((w.l.e k).l.c j).cells) (w.l.e k).l.n 1) (Vn (λj=>((w.l.e k).l.c j).cells) (w.l.e k).l.n 2)=false:=ga d12;have Yp:Nat.beq (Vn (λj=>((w.l.e k).l.c j).cells) (w.l.e k).l.n 2) (Vn (λj=>((w.l.e k).l.c j).cells) (w.l.e k).l.n 1)=false:=ga d12.symm;refine Ai (λhc=>Uw (show (decide (min ((w.l.e k).l.c (U0 (w.l.e k).l 1)).v0 ((w.l.e k).l.c (U0 (w.l.e k).l 2)).v0 < -1099511627776)||decide (1099511627776<max ((w.l.e k).l.c (U0 (w.l.e k).l 1)).v0 ((w.l.e k).l.c (U0 (w.l.e k).l 2)).v0))=true from hc) (by rw[Pg ⟨p1,p2⟩ ⟨v1,v2⟩];exact Bool.false_ne_true)) (λ_=>?_);refine Ai (λhc=>Uw (show (decide (min ((w.l.e k).l.c (U0 (w.l.e k).l 1)).v1 ((w.l.e k).l.c (U0 (w.l.e k).l 2)).v1 < -1099511627776)||decide (1099511627776<max ((w.l.e k).l.c (U0 (w.l.e k).l 1)).v1 ((w.l.e k).l.c (U0 (w.l.e k).l 2)).v1))=true from hc) (by rw[Pg ⟨p3,p4⟩ ⟨v3,v4⟩];exact Bool.false_ne_true)) (λ_=>?_);refine Ai (by first|exact mT ⟨p1,p2⟩ ⟨v1,v2⟩|(simp only[UX,Yq,Yp,Yo,cond_true,cond_false];exact mT ⟨p1,p2⟩ ⟨v1,v2⟩)) ?_;refine Ai ?_ ?_
   ·repeat' (first|refine Ai ?_ ?_|intro _|exact rfl|exact trivial)
   refine Ai (λh0=>?_) (λh0=>?_)
   ·have h0:=Od h0;simp only[UX,Yq,Yp,Yo,cond_true,cond_false] at h0;have g0:lz ((w.l.e k).l.c (U0 (w.l.e k).l 1)).v0 ((w.l.e k).l.c (U0 (w.l.e k).l 2)).v0=0:=(by unfold lz;rw[UA (show ¬(gT (((w.l.e k).l.c (U0 (w.l.e k).l 1)).v0+((w.l.e k).l.c (U0 (w.l.e k).l 2)).v0)=((w.l.e k).l.c (U0 (w.l.e k).l 1)).v0+((w.l.e k).l.c (U0 (w.l.e k).l 2)).v0) from h0)];rfl);refine Ai ?_ ?_
    ·repeat' (first|refine Ai ?_ ?_|intro _|exact rfl|exact trivial)
    refine Ai (by first|exact mT ⟨p3,p4⟩ ⟨v3,v4⟩|(simp only[UX,Yq,Yp,Yo,cond_true,cond_false];exact mT ⟨p3,p4⟩ ⟨v3,v4⟩)) ?_;refine Ai ?_ ?_
    ·repeat' (first|refine Ai ?_ ?_|intro _|exact rfl|exact trivial)
    refine Ai (λh1=>?_) (λh1=>?_)
    ·have h1:=Od h1;simp only[UX,Yq,Yp,Yo,cond_true,cond_false] at h1;have g1:lz ((w.l.e k).l.c (U0 (w.l.e k).l 1)).v1 ((w.l.e k).l.c (U0 (w.l.e k).l 2)).v1=0:=(by unfold lz;rw[UA (show ¬(gT (((w.l.e k).l.c (U0 (w.l.e k).l 1)).v1+((w.l.e k).l.c (U0 (w.l.e k).l 2)).v1)=((w.l.e k).l.c (U0 (w.l.e k).l 1)).v1+((w.l.e k).l.c (U0 (w.l.e k).l 2)).v1) from h1)];rfl);refine Ai ?_ ?_
     ·repeat' (first|refine Ai ?_ ?_|intro _|exact rfl|exact trivial)
     have VB:ak s (w.l.e k)=iC (w.l.e k):=(by unfold ak;rw[VN,Vz,WM]);refine Ai (show U1 ((k:Int)+1) by unfold U1;omega) ?_;refine⟨k+1,[(5,105)],[.bE 4],(by show w.l.n-(k+1)<w.l.n-k;omega),(by show k+1<=w.l.n;omega),?_⟩;repeat' (first|refine Ai ?_ ?_|intro _|exact rfl)
     refine aG (α:=List SV) (p:=λi y=>aO (Vu 5 [(5,105)] (List.set [SV.v (Value.int IntKind.i64 (ak s (w.l.e i)).iD),SV.e] 1 SV.e) (y.set 1 SV.e))) ?_ ?_ _ ‹_›;show aO (Vu 5 [(5,105)] ([SV.v (Value.int IntKind.i64 (ak s (w.l.e k)).iD),SV.e].set 1 SV.e) _);rw[VB];exact rfl;exact λi _=>rfl
     ·refine aG (α:=Nat×(Nat->List SV)) (p:=λi y=>(ak s (w.l.e i)).l.n=y.1) ?_ ?_ _ ‹_›
      ·show (ak s (w.l.e k)).l.n=_;first|(rw[VB];done)|(rw[VB];exact rfl)
      exact λi _=>rfl
     refine aG (α:=Nat×(Nat->List SV)) (p:=λi y=>∀j,j<y.1->aO (Vu 5 [(5,105)] ((ak s (w.l.e i)).l.c j).cells (y.2 j))) ?_ ?_ _ ‹_› _ ‹_›;show ∀j,j<_->aO (Vu 5 [(5,105)] ((ak s (w.l.e k)).l.c j).cells _);rw[VB];intro j hj;by_cases j1:j=Vn (λj=>((w.l.e k).l.c j).cells) (w.l.e k).l.n 1;subst j1;have e1:(iC (w.l.e k)).l.c (Vn (λj=>((w.l.e k).l.c j).cells) (w.l.e k).l.n 1)=_:=y6 (e:=w.l.e k);rw[e1];simp only[UX,Yq,Yp,Yo];exact⟨rfl,rfl,rfl,rfl,rfl⟩;by_cases j2:j=Vn (λj=>((w.l.e k).l.c j).cells) (w.l.e k).l.n 2;subst j2;have e2:(iC (w.l.e k)).l.c (Vn (λj=>((w.l.e k).l.c j).cells) (w.l.e k).l.n 2)=_:=y5 (e:=w.l.e k) d12.symm;rw[e2];simp only[UX,Yq,Yp,Yo];exact⟨rfl,g0,g1,rfl,rfl⟩;have eo:(iC (w.l.e k)).l.c j=_:=yZ (e:=w.l.e k) j1 j2;rw[eo];simp only[ga j1,ga j2];exact⟨rfl,rfl,rfl,rfl,rfl⟩
     ·exact λi _ j _=>⟨rfl,rfl,rfl,rfl,rfl⟩
    have h1:=Uy h1;simp only[UX,Yq,Yp,Yo,cond_true,cond_false] at h1;have g1:lz ((w.l.e k).l.c (U0 (w.l.e k).l 1)).v1 ((w.l.e k).l.c (U0 (w.l.e k).l 2)).v1=((w.l.e k).l.c (U0 (w.l.e k).l 2)).v1:=(by unfold lz;rw[UB (show gT (((w.l.e k).l.c (U0 (w.l.e k).l 1)).v1+((w.l.e k).l.c (U0 (w.l.e k).l 2)).v1)=((w.l.e k).l.c (U0 (w.l.e k).l 1)).v1+((w.l.e k).l.c (U0 (w.l.e k).l 2)).v1 from Decidable.of_not_not h1)];rfl);have VB:ak s (w.l.e k)=iC (w.l.e k):=(by unfold ak;rw[VN,Vz,WM]);refine Ai (show U1 ((k:Int)+1) by unfold U1;omega) ?_;refine⟨k+1,[(5,105)],[.bE 4],(by show w.l.n-(k+1)<w.l.n-k;omega),(by show k+1<=w.l.n;omega),?_⟩;repeat' (first|refine Ai ?_ ?_|intro _|exact rfl)
    refine aG (α:=List SV) (p:=λi y=>aO (Vu 5 [(5,105)] (List.set [SV.v (Value.int IntKind.i64 (ak s (w.l.e i)).iD),SV.e] 1 SV.e) (y.set 1 SV.e))) ?_ ?_ _ ‹_›;show aO (Vu 5 [(5,105)] ([SV.v (Value.int IntKind.i64 (ak s (w.l.e k)).iD),SV.e].set 1 SV.e) _);rw[VB];exact rfl;exact λi _=>rfl
    ·refine aG (α:=Nat×(Nat->List SV)) (p:=λi y=>(ak s (w.l.e i)).l.n=y.1) ?_ ?_ _ ‹_›
     ·show (ak s (w.l.e k)).l.n=_;first|(rw[VB];done)|(rw[VB];exact rfl)
     exact λi _=>rfl
    refine aG (α:=Nat×(Nat->List SV)) (p:=λi y=>∀j,j<y.1->aO (Vu 5 [(5,105)] ((ak s (w.l.e i)).l.c j).cells (y.2 j))) ?_ ?_ _ ‹_› _ ‹_›;show ∀j,j<_->aO (Vu 5 [(5,105)] ((ak s (w.l.e k)).l.c j).cells _);rw[VB];intro j hj;by_cases j1:j=Vn (λj=>((w.l.e k).l.c j).cells) (w.l.e k).l.n 1;subst j1;have e1:(iC (w.l.e k)).l.c (Vn (λj=>((w.l.e k).l.c j).cells) (w.l.e k).l.n 1)=_:=y6 (e:=w.l.e k);rw[e1];simp only[UX,Yq,Yp,Yo];exact⟨rfl,rfl,rfl,rfl,rfl⟩;by_cases j2:j=Vn (λj=>((w.l.e k).l.c j).cells) (w.l.e k).l.n 2;subst j2;have e2:(iC (w.l.e k)).l.c (Vn (λj=>((w.l.e k).l.c j).cells) (w.l.e k).l.n 2)=_:=y5 (e:=w.l.e k) d12.symm;rw[e2];simp only[UX,Yq,Yp,Yo];exact⟨rfl,g0,g1,rfl,rfl⟩;have eo:(iC (w.l.e k)).l.c j=_:=yZ (e:=w.l.e k) j1 j2;rw[eo];simp only[ga j1,ga j2];exact⟨rfl,rfl,rfl,rfl,rfl⟩
    ·exact λi _ j _=>⟨rfl,rfl,rfl,rfl,rfl⟩
   have h0:=Uy h0;simp only[UX,Yq,Yp,Yo,cond_true,cond_false] at h0;have g0:lz ((w.l.e k).l.c (U0 (w.l.e k).l 1)).v0 ((w.l.e k).l.c (U0 (w.l.e k).l 2)).v0=((w.l.e k).l.c (U0 (w.l.e k).l 2)).v0:=(by unfold lz;rw[UB (show gT (((w.l.e k).l.c (U0 (w.l.e k).l 1)).v0+((w.l.e k).l.c (U0 (w.l.e k).l 2)).v0)=((w.l.e k).l.c (U0 (w.l.e k).l 1)).v0+((w.l.e k).l.c (U0 (w.l.e k).l 2)).v0 from Decidable.of_not_not h0)];rfl);refine Ai (by first|exact mT ⟨p3,p4⟩ ⟨v3,v4⟩|(simp only[UX,Yq,Yp,Yo,cond_true,cond_false];exact mT ⟨p3,p4⟩ ⟨v3,v4⟩)) ?_;refine Ai ?_ ?_
   ·repeat' (first|refine Ai ?_ ?_|intro _|exact rfl|exact trivial)
   refine Ai (λh1=>?_) (λh1=>?_)
   ·have h1:=Od h1;simp only[UX,Yq,Yp,Yo,cond_true,cond_false] at h1;have g1:lz ((w.l.e k).l.c (U0 (w.l.e k).l 1)).v1 ((w.l.e k).l.c (U0 (w.l.e k).l 2)).v1=0:=(by unfold lz;rw[UA (show ¬(gT (((w.l.e k).l.c (U0 (w.l.e k).l 1)).v1+((w.l.e k).l.c (U0 (w.l.e k).l 2)).v1)=((w.l.e k).l.c (U0 (w.l.e k).l 1)).v1+((w.l.e k).l.c (U0 (w.l.e k).l 2)).v1) from h1)];rfl);refine Ai ?_ ?_
    ·repeat' (first|refine Ai ?_ ?_|intro _|exact rfl|exact trivial)
    have VB:ak s (w.l.e k)=iC (w.l.e k):=(by unfold ak;rw[VN,Vz,WM]);refine Ai (show U1 ((k:Int)+1) by unfold U1;omega) ?_;refine⟨k+1,[(5,105)],[.bE 4],(by show w.l.n-(k+1)<w.l.n-k;omega),(by show k+1<=w.l.n;omega),?_⟩;repeat' (first|refine Ai ?_ ?_|intro _|exact rfl)
    refine aG (α:=List SV) (p:=λi y=>aO (Vu 5 [(5,105)] (List.set [SV.v (Value.int IntKind.i64 (ak s (w.l.e i)).iD),SV.e] 1 SV.e) (y.set 1 SV.e))) ?_ ?_ _ ‹_›;show aO (Vu 5 [(5,105)] ([SV.v (Value.int IntKind.i64 (ak s (w.l.e k)).iD),SV.e].set 1 SV.e) _);rw[VB];exact rfl;exact λi _=>rfl
    ·refine aG (α:=Nat×(Nat->List SV)) (p:=λi y=>(ak s (w.l.e i)).l.n=y.1) ?_ ?_ _ ‹_›
     ·show (ak s (w.l.e k)).l.n=_;first|(rw[VB];done)|(rw[VB];exact rfl)
     exact λi _=>rfl
    refine aG (α:=Nat×(Nat->List SV)) (p:=λi y=>∀j,j<y.1->aO (Vu 5 [(5,105)] ((ak s (w.l.e i)).l.c j).cells (y.2 j))) ?_ ?_ _ ‹_› _ ‹_›;show ∀j,j<_->aO (Vu 5 [(5,105)] ((ak s (w.l.e k)).l.c j).cells _);rw[VB];intro j hj;by_cases j1:j=Vn (λj=>((w.l.e k).l.c j).cells) (w.l.e k).l.n 1;subst j1;have e1:(iC (w.l.e k)).l.c (Vn (λj=>((w.l.e k).l.c j).cells) (w.l.e k).l.n 1)=_:=y6 (e:=w.l.e k);rw[e1];simp only[UX,Yq,Yp,Yo];exact⟨rfl,rfl,rfl,rfl,rfl⟩;by_cases j2:j=Vn (λj=>((w.l.e k).l.c j).cells) (w.l.e k).l.n 2;subst j2;have e2:(iC (w.l.e k)).l.c (Vn (λj=>((w.l.e k).l.c j).cells) (w.l.e k).l.n 2)=_:=y5 (e:=w.l.e k) d12.symm;rw[e2];simp only[UX,Yq,Yp,Yo];exact⟨rfl,g0,g1,rfl,rfl⟩;have eo:(iC (w.l.e k)).l.c j=_:=yZ (e:=w.l.e k) j1 j2;rw[eo];simp only[ga j1,ga j2];exact⟨rfl,rfl,rfl,rfl,rfl⟩
    ·exact λi _ j _=>⟨rfl,rfl,rfl,rfl,rfl⟩
   have h1:=Uy h1;simp only[UX,Yq,Yp,Yo,cond_true,cond_false] at h1;have g1:lz ((w.l.e k).l.c (U0 (w.l.e k).l 1)).v1 ((w.l.e k).l.c (U0 (w.l.e k).l 2)).v1=((w.l.e k).l.c (U0 (w.l.e k).l 2)).v1:=(by unfold lz;rw[UB (show gT (((w.l.e k).l.c (U0 (w.l.e k).l 1)).v1+((w.l.e k).l.c (U0 (w.l.e k).l 2)).v1)=((w.l.e k).l.c (U0 (w.l.e k).l 1)).v1+((w.l.e k).l.c (U0 (w.l.e k).l 2)).v1 from Decidable.of_not_not h1)];rfl);have VB:ak s (w.l.e k)=iC (w.l.e k):=(by unfold ak;rw[VN,Vz,WM]);refine Ai (show U1 ((k:Int)+1) by unfold U1;omega) ?_;refine⟨k+1,[(5,105)],[.bE 4],(by show w.l.n-(k+1)<w.l.n-k;omega),(by show k+1<=w.l.n;omega),?_⟩;repeat' (first|refine Ai ?_ ?_|intro _|exact rfl)
   refine aG (α:=List SV) (p:=λi y=>aO (Vu 5 [(5,105)] (List.set [SV.v (Value.int IntKind.i64 (ak s (w.l.e i)).iD),SV.e] 1 SV.e) (y.set 1 SV.e))) ?_ ?_ _ ‹_›;show aO (Vu 5 [(5,105)] ([SV.v (Value.int IntKind.i64 (ak s (w.l.e k)).iD),SV.e].set 1 SV.e) _);rw[VB];exact rfl;exact λi _=>rfl
   ·refine aG (α:=Nat×(Nat->List SV)) (p:=λi y=>(ak s (w.l.e i)).l.n=y.1) ?_ ?_ _ ‹_›
    ·show (ak s (w.l.e k)).l.n=_;first|(rw[VB];done)|(rw[VB];exact rfl)
    exact λi _=>rfl
   refine aG (α:=Nat×(Nat->List SV)) (p:=λi y=>∀j,j<y.1->aO (Vu 5 [(5,105)] ((ak s (w.l.e i)).l.c j).cells (y.2 j))) ?_ ?_ _ ‹_› _ ‹_›;show ∀j,j<_->aO (Vu 5 [(5,105)] ((ak s (w.l.e k)).l.c j).cells _);rw[VB];intro j hj;by_cases j1:j=Vn (λj=>((w.l.e k).l.c j).cells) (w.l.e k).l.n 1;subst j1;have e1:(iC (w.l.e k)).l.c (Vn (λj=>((w.l.e k).l.c j).cells) (w.l.e k).l.n 1)=_:=y6 (e:=w.l.e k);rw[e1];simp only[UX,Yq,Yp,Yo];exact⟨rfl,rfl,rfl,rfl,rfl⟩;by_cases j2:j=Vn (λj=>((w.l.e k).l.c j).cells) (w.l.e k).l.n 2;subst j2;have e2:(iC (w.l.e k)).l.c (Vn (λj=>((w.l.e k).l.c j).cells) (w.l.e k).l.n 2)=_:=y5 (e:=w.l.e k) d12.symm;rw[e2];simp only[UX,Yq,Yp,Yo];exact⟨rfl,g0,g1,rfl,rfl⟩;have eo:(iC (w.l.e k)).l.c j=_:=yZ (e:=w.l.e k) j1 j2;rw[eo];simp only[ga j1,ga j2];exact⟨rfl,rfl,rfl,rfl,rfl⟩
   ·exact λi _ j _=>⟨rfl,rfl,rfl,rfl,rfl⟩
  refine Ai ?_ ?_
  ·refine Ai ⟨λ_ _=>trivial,hle⟩ ?_;refine⟨(),[],[],trivial,trivial,?_⟩;repeat' (first|refine Ai ?_ ?_|intro _|exact rfl)
  refine fun(_:Unit) _=>?_;refine Ai ⟨Vv,?_⟩ ?_
  ·repeat' (first|refine Ai ?_ ?_|intro _|exact rfl)
  refine Ai ⟨λj _=>⟨_,rfl⟩,Vt,VN.symm⟩ ?_;refine Ai ⟨λj _=>⟨_,rfl⟩,Vt,Vz.symm⟩ ?_;refine Ai ⟨λ_ _=>trivial,Vt⟩ ?_;refine Ai (λhc=>Uw (show (!(aK (je (w.l.e k))).2)=true from hc) (by rw[fg,hbf];decide)) (λhc=>?_);obtain⟨k1,f1,i1⟩:=fU hR VN;have UX:Nat.beq (Vn (λj=>((w.l.e k).l.c j).cells) (w.l.e k).l.n 1) (Vn (λj=>((w.l.e k).l.c j).cells) (w.l.e k).l.n 1)=true:=UN _;have hB0:ak s (w.l.e k)=(bif decide ((dA s (w.l.e k).iD)<0) then w.l.e k else jh (w.l.e k) (s.bodies.e (dA s (w.l.e k).iD).toNat)):=(by unfold ak;rw[VN,Vz,WM]);obtain⟨k2,f2,i2⟩:=fU hR Vz;have d12:Vn (λj=>((w.l.e k).l.c j).cells) (w.l.e k).l.n 1≠Vn (λj=>((w.l.e k).l.c j).cells) (w.l.e k).l.n 2:=λh=>(by have h:U0 (w.l.e k).l 1=U0 (w.l.e k).l 2:=h;rw[h,k2] at k1;exact Uw k1 (by decide));have Yo:Nat.beq (Vn (λj=>((w.l.e k).l.c j).cells) (w.l.e k).l.n 2) (Vn (λj=>((w.l.e k).l.c j).cells) (w.l.e k).l.n 2)=true:=UN _;have Yq:Nat.beq (Vn (λj=>((w.l.e k).l.c j).cells) (w.l.e k).l.n 1) (Vn (λj=>((w.l.e k).l.c j).cells) (w.l.e k).l.n 2)=false:=ga d12;have Yp:Nat.beq (Vn (λj=>((w.l.e k).l.c j).cells) (w.l.e k).l.n 2) (Vn (λj=>((w.l.e k).l.c j).cells) (w.l.e k).l.n 1)=false:=ga d12.symm;refine Ai ⟨λ_ _=>trivial,hn,⟨je (w.l.e k),rfl⟩⟩ ?_;refine Ai (λhe=>?_) (λhe=>?_)
  ·have he:(dA s (w.l.e k).iD)<0:=Od he;have VB:ak s (w.l.e k)=w.l.e k:=(by rw[hB0,UB he];rfl);refine Ai (show U1 ((k:Int)+1) by unfold U1;omega) ?_;refine⟨k+1,[(5,121)],[.bE 4],(by show w.l.n-(k+1)<w.l.n-k;omega),(by show k+1<=w.l.n;omega),?_⟩;repeat' (first|refine Ai ?_ ?_|intro _|exact rfl)
   refine aG (α:=List SV) (p:=λi y=>aO (Vu 5 [(5,121)] (List.set [SV.v (Value.int IntKind.i64 (ak s (w.l.e i)).iD),SV.e] 1 SV.e) (y.set 1 SV.e))) ?_ ?_ _ ‹_›;show aO (Vu 5 [(5,121)] ([SV.v (Value.int IntKind.i64 (ak s (w.l.e k)).iD),SV.e].set 1 SV.e) _);rw[VB];exact rfl;exact λi _=>rfl
   ·refine aG (α:=Nat×(Nat->List SV)) (p:=λi y=>(ak s (w.l.e i)).l.n=y.1) ?_ ?_ _ ‹_›
    ·show (ak s (w.l.e k)).l.n=_;first|(rw[VB];done)|(rw[VB];exact rfl)
    exact λi _=>rfl
   refine aG (α:=Nat×(Nat->List SV)) (p:=λi y=>∀j,j<y.1->aO (Vu 5 [(5,121)] ((ak s (w.l.e i)).l.c j).cells (y.2 j))) ?_ ?_ _ ‹_› _ ‹_›
   ·show ∀j,j<_->aO (Vu 5 [(5,121)] ((ak s (w.l.e k)).l.c j).cells _);rw[VB];exact λj _=>⟨rfl,rfl,rfl,rfl,rfl⟩
   ·exact λi _ j _=>⟨rfl,rfl,rfl,rfl,rfl⟩
  have he:¬(dA s (w.l.e k).iD)<0:=Uy he;have hB:0<=(dA s (w.l.e k).iD)∧(dA s (w.l.e k).iD)<(s.bodies.n:Int):=Ez he;refine Ai hB ?_;refine Ai hB ?_;refine Ai ?_ ?_
  ·repeat' (first|refine Ai ?_ ?_|intro _|exact rfl|exact trivial)
  refine Ai ?_ ?_
  ·repeat' (first|refine Ai ?_ ?_|intro _|exact rfl|exact trivial)
  refine Ai (λhx=>?_) (λhx=>?_)
  ·have hx:(!(aK (je (w.l.e k))).1.fixed)=true:=hx;rw[fg] at hx;have hx:(aK (w.l.e k)).1.fixed=false:=(by simpa using hx);refine Ai hB ?_;refine Ai hB ?_;refine Ai ?_ ?_
   ·repeat' (first|refine Ai ?_ ?_|intro _|exact rfl|exact trivial)
   refine Ai ?_ ?_
   ·repeat' (first|refine Ai ?_ ?_|intro _|exact rfl|exact trivial)
   have VB:ak s (w.l.e k)=jh (w.l.e k) (s.bodies.e (dA s (w.l.e k).iD).toNat):=(by rw[hB0,UA he];rfl);refine Ai (show U1 ((k:Int)+1) by unfold U1;omega) ?_;refine⟨k+1,[(5,121)],[.bE 4],(by show w.l.n-(k+1)<w.l.n-k;omega),(by show k+1<=w.l.n;omega),?_⟩;repeat' (first|refine Ai ?_ ?_|intro _|exact rfl)
   refine aG (α:=List SV) (p:=λi y=>aO (Vu 5 [(5,121)] (List.set [SV.v (Value.int IntKind.i64 (ak s (w.l.e i)).iD),SV.e] 1 SV.e) (y.set 1 SV.e))) ?_ ?_ _ ‹_›;show aO (Vu 5 [(5,121)] ([SV.v (Value.int IntKind.i64 (ak s (w.l.e k)).iD),SV.e].set 1 SV.e) _);rw[VB];exact rfl;exact λi _=>rfl
   ·refine aG (α:=Nat×(Nat->List SV)) (p:=λi y=>(ak s (w.l.e i)).l.n=y.1) ?_ ?_ _ ‹_›
    ·show (ak s (w.l.e k)).l.n=_;first|(rw[VB];done)|(rw[VB];exact rfl)
    exact λi _=>rfl
   refine aG (α:=Nat×(Nat->List SV)) (p:=λi y=>∀j,j<y.1->aO (Vu 5 [(5,121)] ((ak s (w.l.e i)).l.c j).cells (y.2 j))) ?_ ?_ _ ‹_› _ ‹_›;show ∀j,j<_->aO (Vu 5 [(5,121)] ((ak s (w.l.e k)).l.c j).cells _);rw[VB];intro j hj;by_cases j1:j=Vn (λj=>((w.l.e k).l.c j).cells) (w.l.e k).l.n 1;subst j1;have e1:(jh (w.l.e k) (s.bodies.e (dA s (w.l.e k).iD).toNat)).l.c (Vn (λj=>((w.l.e k).l.c j).cells) (w.l.e k).l.n 1)=_:=Dd (e:=w.l.e k);rw[e1];simp only[UX,Yq,Yp,Yo];exact⟨rfl,rfl,rfl,rfl,rfl⟩;by_cases j2:j=Vn (λj=>((w.l.e k).l.c j).cells) (w.l.e k).l.n 2;subst j2;have e2:(jh (w.l.e k) (s.bodies.e (dA s (w.l.e k).iD).toNat)).l.c (Vn (λj=>((w.l.e k).l.c j).cells) (w.l.e k).l.n 2)=_:=O1 (e:=w.l.e k) d12.symm hx;rw[e2];simp only[UX,Yq,Yp,Yo];exact⟨rfl,rfl,rfl,rfl,rfl⟩;have eo:(jh (w.l.e k) (s.bodies.e (dA s (w.l.e k).iD).toNat)).l.c j=_:=yh (e:=w.l.e k) j1 (.inr j2);rw[eo];simp only[ga j1,ga j2];exact⟨rfl,rfl,rfl,rfl,rfl⟩
   ·exact λi _ j _=>⟨rfl,rfl,rfl,rfl,rfl⟩
  have hx:(!(aK (je (w.l.e k))).1.fixed)=false:=hx;rw[fg] at hx;have hx:(aK (w.l.e k)).1.fixed=true:=(by simpa using hx);have VB:ak s (w.l.e k)=jh (w.l.e k) (s.bodies.e (dA s (w.l.e k).iD).toNat):=(by rw[hB0,UA he];rfl);refine Ai (show U1 ((k:Int)+1) by unfold U1;omega) ?_;refine⟨k+1,[(5,121)],[.bE 4],(by show w.l.n-(k+1)<w.l.n-k;omega),(by show k+1<=w.l.n;omega),?_⟩;repeat' (first|refine Ai ?_ ?_|intro _|exact rfl)
  refine aG (α:=List SV) (p:=λi y=>aO (Vu 5 [(5,121)] (List.set [SV.v (Value.int IntKind.i64 (ak s (w.l.e i)).iD),SV.e] 1 SV.e) (y.set 1 SV.e))) ?_ ?_ _ ‹_›;show aO (Vu 5 [(5,121)] ([SV.v (Value.int IntKind.i64 (ak s (w.l.e k)).iD),SV.e].set 1 SV.e) _);rw[VB];exact rfl;exact λi _=>rfl
  ·refine aG (α:=Nat×(Nat->List SV)) (p:=λi y=>(ak s (w.l.e i)).l.n=y.1) ?_ ?_ _ ‹_›
   ·show (ak s (w.l.e k)).l.n=_;first|(rw[VB];done)|(rw[VB];exact rfl)
   exact λi _=>rfl
  refine aG (α:=Nat×(Nat->List SV)) (p:=λi y=>∀j,j<y.1->aO (Vu 5 [(5,121)] ((ak s (w.l.e i)).l.c j).cells (y.2 j))) ?_ ?_ _ ‹_› _ ‹_›;show ∀j,j<_->aO (Vu 5 [(5,121)] ((ak s (w.l.e k)).l.c j).cells _);rw[VB];intro j hj;by_cases j1:j=Vn (λj=>((w.l.e k).l.c j).cells) (w.l.e k).l.n 1;subst j1;have e1:(jh (w.l.e k) (s.bodies.e (dA s (w.l.e k).iD).toNat)).l.c (Vn (λj=>((w.l.e k).l.c j).cells) (w.l.e k).l.n 1)=_:=Dd (e:=w.l.e k);rw[e1];simp only[UX,Yq,Yp,Yo];exact⟨rfl,rfl,rfl,rfl,rfl⟩;have eo:(jh (w.l.e k) (s.bodies.e (dA s (w.l.e k).iD).toNat)).l.c j=_:=yh (e:=w.l.e k) j1 (.inl hx);rw[eo];simp only[ga j1];exact⟨rfl,rfl,rfl,rfl,rfl⟩
  ·exact λi _ j _=>⟨rfl,rfl,rfl,rfl,rfl⟩
 have hb:¬(k:Int)<w.l.n:=Uy hb;obtain rfl:k=w.l.n:=by omega
 repeat' (first|refine Ai ?_ ?_|intro _|exact rfl)
 all_goals first|(show (_:Int)=_;rw[B'];done)|(show (_:Nat)=_;rw[B'];done)|(show (_:Nat)=_;rw[B'];rfl)
noncomputable def zX:UW cx:=ae 82 Tryz.call82 (aD cY lq) _ _ (λ_=>⟨[14,16],[6],[3],3⟩) [14,16] (λ_=>rfl) follows Tryz.func82 (by kernel_rfl) CJ
end Go.Proofs.YtgigkennhdolpaaGreatDoor
