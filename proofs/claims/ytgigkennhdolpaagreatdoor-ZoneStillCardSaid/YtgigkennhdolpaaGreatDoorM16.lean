/- Structures of the world. -/
import Derived.Test.YtgigkennhdolpaaGreatDoorM15
namespace Go.Proofs.YtgigkennhdolpaaGreatDoor
open Go.RowKit
theorem follows:cx.P.follows .mixedOrders=true:=by kernel_rfl
def sl(t:Nat)(v:SV):Nat×Slot:=(t,⟨0,0,[],v⟩)
def U1(x:Int):Prop:=-9223372036854775808<=x∧x<=9223372036854775807
def i64(n:Int):SV:=.v (.int .i64 n)
structure Vec where
 x:Int
 y:Int
def Vec.cells(b:Vec):List SV:=[.v (.int .i64 b.x),.v (.int .i64 b.y)]
def Vec.sv(b:Vec):SV:=.agg b.cells
def Vec.of(x:SV):Vec:=⟨(VP (x.al)).iv,(VP (Vw (x.al))).iv⟩
def dS:Rd Vec:=⟨.agg [.v (.int .i64 0),.v (.int .i64 0)],Vec.of,Vec.sv,λ_=>rfl⟩
structure Body where
 iD:Int
 posX:Int
 posY:Int
 velX:Int
 velY:Int
 w:Int
 h:Int
 round:Bool
 fixed:Bool
def Body.cells(b:Body):List SV:=[.v (.int .i64 b.iD),.v (.int .i64 b.posX),.v (.int .i64 b.posY),.v (.int .i64 b.velX),.v (.int .i64 b.velY),.v (.int .i64 b.w),.v (.int .i64 b.h),.v (.bool b.round),.v (.bool b.fixed)]
def Body.sv(b:Body):SV:=.agg b.cells
def Body.of(x:SV):Body:=⟨(VP (x.al)).iv,(VP (Vw (x.al))).iv,(VP (Vw (Vw (x.al)))).iv,(VP (Vw (Vw (Vw (x.al))))).iv,(VP (Vw (Vw (Vw (Vw (x.al)))))).iv,(VP (Vw (Vw (Vw (Vw (Vw (x.al))))))).iv,(VP (Vw (Vw (Vw (Vw (Vw (Vw (x.al)))))))).iv,(VP (Vw (Vw (Vw (Vw (Vw (Vw (Vw (x.al))))))))).bv,(VP (Vw (Vw (Vw (Vw (Vw (Vw (Vw (Vw (x.al)))))))))).bv⟩
def bL:Rd Body:=⟨.agg [.v (.int .i64 0),.v (.int .i64 0),.v (.int .i64 0),.v (.int .i64 0),.v (.int .i64 0),.v (.int .i64 0),.v (.int .i64 0),.v (.bool false),.v (.bool false)],Body.of,Body.sv,λ_=>rfl⟩
structure aR where
 kind:Int
 v0:Int
 v1:Int
 v2:Int
 v3:Int
def aR.cells(b:aR):List SV:=[.v (.int .u8 b.kind),.v (.int .i64 b.v0),.v (.int .i64 b.v1),.v (.int .i64 b.v2),.v (.int .i64 b.v3)]
def aR.sv(b:aR):SV:=.agg b.cells
def aR.of(x:SV):aR:=⟨(VP x.al).iv,(VP (Vw x.al)).iv,(VP (Vw (Vw x.al))).iv,(VP (Vw (Vw (Vw x.al)))).iv,(VP (Vw (Vw (Vw (Vw x.al))))).iv⟩
def IJ:List SV:=[.v (.int .u8 0),.v (.int .i64 0),.v (.int .i64 0),.v (.int .i64 0),.v (.int .i64 0)]
def iB:Rd aR:=⟨.agg IJ,aR.of,aR.sv,λ_=>rfl⟩
structure WV where
 n:Nat
 c:Nat->aR
def WV.sv(l:WV):SV:=.rs 5 l.n λi=>(l.c i).cells
def WV.of(x:SV):WV:=⟨x.rn,λi=>aR.of (.agg (x.rf i))⟩
def jx:Rd WV:=⟨.rs 5 0 λ_=>IJ,WV.of,WV.sv,λ_=>rfl⟩
structure UZ where
 iD:Int
 l:WV
def UZ.cells(b:UZ):List SV:=[.v (.int .i64 b.iD),b.l.sv]
def UZ.sv(b:UZ):SV:=.agg b.cells
def UZ.of(x:SV):UZ:=⟨(VP x.al).iv,WV.of (VP (Vw x.al))⟩
def II:List SV:=[.v (.int .i64 0),.rs 5 0 λ_=>IJ]
def jw:Rd UZ:=⟨.agg II,UZ.of,UZ.sv,λ_=>rfl⟩
structure V3 where
 n:Nat
 e:Nat->UZ
def V3.sv(l:V3):SV:=.rs 2 l.n λi=>(l.e i).cells
def V3.of(x:SV):V3:=⟨x.rn,λi=>UZ.of (.agg (x.rf i))⟩
def C8:Rd V3:=⟨.rs 2 0 λ_=>II,V3.of,V3.sv,λ_=>rfl⟩
structure U9 where
 tick:Int
 l:V3
def U9.cells(b:U9):List SV:=[.v (.int .i64 b.tick),b.l.sv]
def U9.sv(b:U9):SV:=.agg b.cells
def U9.of(x:SV):U9:=⟨(VP x.al).iv,V3.of (VP (Vw x.al))⟩
def cY:Rd U9:=⟨.agg [.v (.int .i64 0),.rs 2 0 λ_=>II],U9.of,U9.sv,λ_=>rfl⟩
set_option maxRecDepth 8000
set_option maxHeartbeats 2000000
def gZ(key:Nat->Int):Nat->Nat->Bool
 | _,0=>false
 | k,r+1=>match decide (key k<=key (k-1)) with|true=>true|false=>gZ key (k+1) r
theorem uF{key:Nat->Int}{k n:Nat}(h:k<n):gZ key k (n-k)=match decide (key k<=key (k-1)) with|true=>true|false=>gZ key (k+1) (n-(k+1)):=by rw[show n-k=(n-(k+1))+1 by omega];rfl
theorem CU{key:Nat->Int} : ∀{r k:Nat},gZ key k r=false->∀i,k<=i->i<k+r->key (i-1)<key i
 | 0,k,_,i,h1,h2=>by omega
 | r+1,k,h,i,h1,h2=>by simp only[gZ] at h;split at h;cases h;rename_i hk;have hk:=Uy hk;rcases UK h1 with rfl|h1;omega;exact CU h i h1 (by omega)
theorem CS{key:Nat->Int} : ∀{r k:Nat},(∀i,k<=i->i<k+r->key (i-1)<key i)->gZ key k r=false
 | 0,k,_=>rfl
 | r+1,k,h=>by have:=h k (I' _) (by omega);simp only[gZ,UA (by omega:¬key k<=key (k-1))];exact CS λi h1 h2=>h i (by omega) (by omega)
def Yr(key:Nat->Int)(n:Nat):Prop:=∀i j,i<j->j<n->key i<key j
theorem pL{key:Nat->Int}{n:Nat}(h:gZ key 1 (n-1)=false):Yr key n:=by
 have step:∀i,0<i->i<n->key (i-1)<key i:=λi h1 h2=>CU h i h1 (by omega);intro i j XS hj
 induction j with
 | zero=>omega
 | succ j ih=>
  have:=step (j+1) (by omega) hj;simp only[Nat.add_sub_cancel] at this;by_cases e:i=j;subst e;exact this;exact Int.lt_trans (ih (by omega) (by omega)) this
theorem rQ{key:Nat->Int}{n:Nat}(h:Yr key n):gZ key 1 (n-1)=false:=CS λi h1 h2=>h (i-1) i (by omega) (by omega)
def bQ(g:Nat->Bool):Nat->Nat->Bool
 | _,0=>false
 | k,r+1=>match g k with|true=>true|false=>bQ g (k+1) r
theorem eE{g:Nat->Bool}{k n:Nat}(h:k<n):bQ g k (n-k)=match g k with|true=>true|false=>bQ g (k+1) (n-(k+1)):=by rw[show n-k=(n-(k+1))+1 by omega];rfl
theorem iR{g:Nat->Bool} : ∀{r k:Nat},bQ g k r=false->∀i,k<=i->i<k+r->g i=false
 | 0,k,_,i,h1,h2=>by omega
 | r+1,k,h,i,h1,h2=>by simp only[bQ] at h;split at h;cases h;rename_i hk;rcases UK h1 with rfl|h1;exact hk;exact iR h i h1 (by omega)
theorem oU{g:Nat->Bool} : ∀{r k:Nat},(∀i,k<=i->i<k+r->g i=false)->bQ g k r=false
 | 0,k,_=>rfl
 | r+1,k,h=>by simp only[bQ,h k (I' _) (by omega)];exact oU λi h1 h2=>h i (by omega) (by omega)
def cB:Int:=9223372036854775807
theorem G2:∀a,aA ((λ_=>[]) a)->aH (C:=cx) [] [] 0 ai Tryz.f53 ((bs iB).enc a) λv H _=>af ((λa=>.v (.int .u8 a.kind)) a) H v:=by intro a _;repeat' (first|refine Ai ?_ ?_|intro _|exact rfl)
noncomputable def NV:UW cx:=ae 53 Tryz.call53 (bs iB) _ _ (λ_=>ai) [] (λ_=>rfl) follows Tryz.func53 (by kernel_rfl) G2
theorem OL:∀a,aA ((λ_=>[]) a)->aH (C:=cx) [] [] 0 ai Tryz.f60 ((bs jw).enc a) λv H _=>af ((λa=>.v (.int .i64 a.iD)) a) H v:=by intro a _;repeat' (first|refine Ai ?_ ?_|intro _|exact rfl)
noncomputable def Tb:UW cx:=ae 60 Tryz.call60 (bs jw) _ _ (λ_=>ai) [] (λ_=>rfl) follows Tryz.func60 (by kernel_rfl) OL
def Mf(l:WV):Cut:=⟨Nat,λk=>1<=k∧(k<=l.n∨k=1)∧gZ (λi=>(l.c i).kind) 1 (l.n-1)=gZ (λi=>(l.c i).kind) k (l.n-k),
 λk=>⟨[sl 0 l.sv,sl 1 (.v (.func (.func 53) #[] #[])),sl 5 (i64 k)],[],0,0,[],[]⟩,λk=>l.n-k⟩
theorem GO:∀a,aA ((λa=>[(a.1.n:Int)<=cB,a.2=(.v (.func (.func 53) #[] #[]))]) a)->aH (C:=cx) [NV] [] 0 ⟨[],[],[2],0⟩ Tryz.f97 ((aD jx Vy).enc a) λv H _=>af ((λa=>.v (.bool (!gZ (λi=>(a.1.c i).kind) 1 (a.1.n-1)))) a) H v:=by
 intro⟨l,x⟩ ⟨hn,hx⟩;replace hn:(l.n:Int)<=9223372036854775807:=hn;replace hx:x=.v (.func (.func 53) #[] #[]):=hx;subst hx;refine T' (Mf l) ?_;refine Ai ?_ ?_
 ·refine⟨(1:Nat),[],[],trivial,⟨I' _,.inr rfl,rfl⟩,?_⟩;repeat' (first|refine Ai ?_ ?_|intro _|exact rfl)
 refine fun(k:Nat) (hk:1<=k∧(k<=l.n∨k=1)∧gZ (λi=>(l.c i).kind) 1 (l.n-1)=gZ (λi=>(l.c i).kind) k (l.n-k))=>?_;obtain⟨k0,k1,k2⟩:=hk;refine Ai (λhb=>?_) (λhb=>?_)
 ·have hb:(k:Int)<l.n:=Od hb;have e:=uF (key:=(λi=>(l.c i).kind)) (k:=k) (n:=l.n) (by omega);have ek:((k:Int)-1).toNat=k-1:=(by omega);refine Ai (by unfold U1;omega:U1 ((k:Int)-1)) ?_;refine Ai ⟨by omega,by omega⟩ ?_;refine Ai ⟨by omega,by omega⟩ ?_;refine Ai (λhc=>?_) (λhc=>?_);have hc:decide ((l.c k).kind<=(l.c ((k:Int)-1).toNat).kind)=true:=hc;rw[ek] at hc;simp only[hc] at e;refine UR (a:=!gZ (λi=>(l.c i).kind) 1 (l.n-1)) (b:=false) ?_ rfl;rw[k2,e];rfl;have hc:decide ((l.c k).kind<=(l.c ((k:Int)-1).toNat).kind)=false:=hc;rw[ek] at hc;simp only[hc] at e;refine Ai (by unfold U1;omega:U1 ((k:Int)+1)) ?_;refine⟨k+1,[],[],(by show l.n-(k+1)<l.n-k;omega),⟨by omega,by omega,by rw[k2,e]⟩,?_⟩;repeat' (first|refine Ai ?_ ?_|intro _|exact rfl)
 have hb:¬(k:Int)<l.n:=Uy hb;have e:gZ (λi=>(l.c i).kind) 1 (l.n-1)=false:=by rw[k2,show l.n-k=0 by omega];rfl
 refine UR (a:=!gZ (λi=>(l.c i).kind) 1 (l.n-1)) (b:=true) ?_ rfl;rw[e];rfl
noncomputable def NO:UW cx:=ae 97 Tryz.call97 (aD jx Vy) _ _ (λ_=>⟨[],[],[2],0⟩) [] (λ_=>rfl) follows Tryz.func97 (by kernel_rfl) GO
def Me(l:V3):Cut:=⟨Nat,λk=>1<=k∧(k<=l.n∨k=1)∧gZ (λi=>(l.e i).iD) 1 (l.n-1)=gZ (λi=>(l.e i).iD) k (l.n-k),
 λk=>⟨[sl 0 l.sv,sl 1 (.v (.func (.func 60) #[] #[])),sl 5 (i64 k)],[],0,0,[],[]⟩,λk=>l.n-k⟩
theorem GN:∀a,aA ((λa=>[(a.1.n:Int)<=cB,a.2=(.v (.func (.func 60) #[] #[]))]) a)->aH (C:=cx) [Tb] [] 0 ⟨[],[],[2],0⟩ Tryz.f59 ((aD C8 Vy).enc a) λv H _=>af ((λa=>.v (.bool (!gZ (λi=>(a.1.e i).iD) 1 (a.1.n-1)))) a) H v:=by
 intro⟨l,x⟩ ⟨hn,hx⟩;replace hn:(l.n:Int)<=9223372036854775807:=hn;replace hx:x=.v (.func (.func 60) #[] #[]):=hx;subst hx;refine T' (Me l) ?_;refine Ai ?_ ?_
 ·refine⟨(1:Nat),[],[],trivial,⟨I' _,.inr rfl,rfl⟩,?_⟩;repeat' (first|refine Ai ?_ ?_|intro _|exact rfl)
 refine fun(k:Nat) (hk:1<=k∧(k<=l.n∨k=1)∧gZ (λi=>(l.e i).iD) 1 (l.n-1)=gZ (λi=>(l.e i).iD) k (l.n-k))=>?_;obtain⟨k0,k1,k2⟩:=hk;refine Ai (λhb=>?_) (λhb=>?_)
 ·have hb:(k:Int)<l.n:=Od hb;have e:=uF (key:=(λi=>(l.e i).iD)) (k:=k) (n:=l.n) (by omega);have ek:((k:Int)-1).toNat=k-1:=(by omega);refine Ai (by unfold U1;omega:U1 ((k:Int)-1)) ?_;refine Ai ⟨by omega,by omega⟩ ?_;refine Ai (λ_ _=>trivial) ?_;refine Ai ⟨by omega,by omega⟩ ?_;refine Ai (λ_ _=>trivial) ?_;refine Ai (λhc=>?_) (λhc=>?_);have hc:decide ((l.e k).iD<=(l.e ((k:Int)-1).toNat).iD)=true:=hc;rw[ek] at hc;simp only[hc] at e;refine UR (a:=!gZ (λi=>(l.e i).iD) 1 (l.n-1)) (b:=false) ?_ rfl;rw[k2,e];rfl;have hc:decide ((l.e k).iD<=(l.e ((k:Int)-1).toNat).iD)=false:=hc;rw[ek] at hc;simp only[hc] at e;refine Ai (by unfold U1;omega:U1 ((k:Int)+1)) ?_;refine⟨k+1,[],[],(by show l.n-(k+1)<l.n-k;omega),⟨by omega,by omega,by rw[k2,e]⟩,?_⟩;repeat' (first|refine Ai ?_ ?_|intro _|exact rfl)
 have hb:¬(k:Int)<l.n:=Uy hb;have e:gZ (λi=>(l.e i).iD) 1 (l.n-1)=false:=by rw[k2,show l.n-k=0 by omega];rfl
 refine UR (a:=!gZ (λi=>(l.e i).iD) 1 (l.n-1)) (b:=true) ?_ rfl;rw[e];rfl
noncomputable def NN:UW cx:=ae 59 Tryz.call59 (aD C8 Vy) _ _ (λ_=>⟨[],[],[2],0⟩) [] (λ_=>rfl) follows Tryz.func59 (by kernel_rfl) GN
def aR.F1(c:aR):Prop:=c.kind=1->-1048576<=c.v0∧c.v0<=1048576∧-1048576<=c.v1∧c.v1<=1048576∧0<=c.v2∧c.v2<=0∧0<=c.v3∧c.v3<=0
instance (c:aR):Decidable c.F1:=by unfold aR.F1;infer_instance
def aR.F2(c:aR):Prop:=c.kind=2->-4096<=c.v0∧c.v0<=4096∧-4096<=c.v1∧c.v1<=4096∧0<=c.v2∧c.v2<=0∧0<=c.v3∧c.v3<=0
instance (c:aR):Decidable c.F2:=by unfold aR.F2;infer_instance
def aR.F3(c:aR):Prop:=c.kind=3->1<=c.v0∧c.v0<=16384∧1<=c.v1∧c.v1<=16384∧0<=c.v2∧c.v2<=1∧0<=c.v3∧c.v3<=1
instance (c:aR):Decidable c.F3:=by unfold aR.F3;infer_instance
def aR.F4(c:aR):Prop:=c.kind=4->1<=c.v0∧c.v0<=8∧0<=c.v1∧c.v1<=0∧0<=c.v2∧c.v2<=0∧0<=c.v3∧c.v3<=0
instance (c:aR):Decidable c.F4:=by unfold aR.F4;infer_instance
def aR.F5(c:aR):Prop:=c.kind=5->0<=c.v0∧c.v0<=510∧0<=c.v1∧c.v1<=0∧0<=c.v2∧c.v2<=0∧0<=c.v3∧c.v3<=0
instance (c:aR):Decidable c.F5:=by unfold aR.F5;infer_instance
def aR.F6(c:aR):Prop:=c.kind=6->0<=c.v0∧c.v0<=15∧0<=c.v1∧c.v1<=0∧0<=c.v2∧c.v2<=0∧0<=c.v3∧c.v3<=0
instance (c:aR):Decidable c.F6:=by unfold aR.F6;infer_instance
def aR.F7(c:aR):Prop:=c.kind=7->-2147483648<=c.v0∧c.v0<=2147483647∧-2147483648<=c.v1∧c.v1<=2147483647∧-2147483648<=c.v2∧c.v2<=2147483647∧-2147483648<=c.v3∧c.v3<=2147483647
instance (c:aR):Decidable c.F7:=by unfold aR.F7;infer_instance
def aR.F8(c:aR):Prop:=c.kind=8->0<=c.v0∧c.v0<=1048576∧0<=c.v1∧c.v1<=1048576∧0<=c.v2∧c.v2<=0∧0<=c.v3∧c.v3<=0
instance (c:aR):Decidable c.F8:=by unfold aR.F8;infer_instance
def aR.F9(c:aR):Prop:=c.kind=9->0<=c.v0∧c.v0<=2147483647∧0<=c.v1∧c.v1<=2147483647∧0<=c.v2∧c.v2<=2147483647∧0<=c.v3∧c.v3<=2147483647
instance (c:aR):Decidable c.F9:=by unfold aR.F9;infer_instance
def aR.F10(c:aR):Prop:=c.kind=10->-2147483648<=c.v0∧c.v0<=2147483647∧-2147483648<=c.v1∧c.v1<=2147483647∧-2147483648<=c.v2∧c.v2<=2147483647∧-2147483648<=c.v3∧c.v3<=2147483647
instance (c:aR):Decidable c.F10:=by unfold aR.F10;infer_instance
def aR.Fits(c:aR):Prop:=1<=c.kind∧c.kind<=10∧c.F1∧c.F2∧c.F3∧c.F4∧c.F5∧c.F6∧c.F7∧c.F8∧c.F9∧c.F10∧(c.kind=3->c.v2=0∨c.v0=c.v1)∧(c.kind=5->c.v0%2=0)
instance (c:aR):Decidable c.Fits:=by unfold aR.Fits;infer_instance
def aR.fits(c:aR):Bool:=decide c.Fits
theorem aV{c:aR}(h:¬c.Fits):c.fits=false:=UA h
theorem fq{c:aR}(h:c.Fits):c.fits=true:=UB h
end Go.Proofs.YtgigkennhdolpaaGreatDoor
