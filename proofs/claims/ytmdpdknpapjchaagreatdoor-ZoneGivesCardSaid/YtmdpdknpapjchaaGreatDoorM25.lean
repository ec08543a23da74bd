/- store: keys, rising. -/
import Derived.Test.YtmdpdknpapjchaaGreatDoorM22
set_option linter.all false
namespace Go.Proofs.YtmdpdknpapjchaaGreatDoor
open Go.RowKit
set_option maxRecDepth 8000
set_option maxHeartbeats 2000000
variable {hi lo v:Int}{k n:Nat}{key:Nat->Int}{c:aZ}
def g5(key:Nat->Int):Nat->Nat->Bool
 | _,0=>false
 | k,r+1=>match decide (key k<=key (k-1)) with|true=>true|false=>g5 key (k+1) r
theorem wb(h:k<n):g5 key k (n-k)=match decide (key k<=key (k-1)) with|true=>true|false=>g5 key (k+1) (n-(k+1)):=by rw[show n-k=(n-(k+1))+1 by omega];rfl
theorem Eh{key:Nat->Int} : ∀{r k:Nat},g5 key k r=false->∀i,k<=i->i<k+r->key (i-1)<key i
 | 0,k,_,i,h1,h2=>by omega
 | r+1,k,h,i,h1,h2=>by simp only[g5] at h;split at h;cases h;rename_i hk;have hk:=Xg hk;rcases Xs h1 with rfl|h1;omega;exact Eh h i h1 (by omega)
theorem Eg{key:Nat->Int} : ∀{r k:Nat},(∀i,k<=i->i<k+r->key (i-1)<key i)->g5 key k r=false
 | 0,k,_=>rfl
 | r+1,k,h=>by have:=h k (F2 _) (by omega);simp only[g5,Xi (by omega:¬key k<=key (k-1))];exact Eg λi h1 h2=>h i (by omega) (by omega)
def Inc(key:Nat->Int)(n:Nat):Prop:=∀i j,i<j->j<n->key i<key j
theorem qo(h:g5 key 1 (n-1)=false):Inc key n:=by
 have step:∀i,0<i->i<n->key (i-1)<key i:=λi h1 h2=>Eh h i h1 (by omega);intro i j hij hj
 induction j with
 | zero=>omega
 | succ j ih=>
  have:=step (j+1) (by omega) hj;simp only[Nat.add_sub_cancel] at this;by_cases e:i=j;subst e;exact this;exact Int.lt_trans (ih (by omega) (by omega)) this
theorem ta(h:Inc key n):g5 key 1 (n-1)=false:=Eg λi h1 h2=>h (i-1) i (by omega) (by omega)
def bQ(g:Nat->Bool):Nat->Nat->Bool
 | _,0=>false
 | k,r+1=>match g k with|true=>true|false=>bQ g (k+1) r
theorem eA{g:Nat->Bool}(h:k<n):bQ g k (n-k)=match g k with|true=>true|false=>bQ g (k+1) (n-(k+1)):=by rw[show n-k=(n-(k+1))+1 by omega];rfl
theorem ja{g:Nat->Bool} : ∀{r k:Nat},bQ g k r=false->∀i,k<=i->i<k+r->g i=false
 | 0,k,_,i,h1,h2=>by omega
 | r+1,k,h,i,h1,h2=>by simp only[bQ] at h;split at h;cases h;rename_i hk;rcases Xs h1 with rfl|h1;exact hk;exact ja h i h1 (by omega)
theorem pH{g:Nat->Bool} : ∀{r k:Nat},(∀i,k<=i->i<k+r->g i=false)->bQ g k r=false
 | 0,k,_=>rfl
 | r+1,k,h=>by simp only[bQ,h k (F2 _) (by omega)];exact pH λi h1 h2=>h i (by omega) (by omega)
def cp:Int:=9223372036854775807
theorem Ir:∀a,aD ((λ_=>[]) a)->aJ (C:=cx) [] [] 0 ak Tryz.f33 ((bh gE).enc a) λv H _=>ae ((λa=>.v (.int .u8 a.kind)) a) H v:=by intro a _;repeat' (first|apply Ai|exact rfl|intro)
noncomputable def FK:XR cx:=af 33 Tryz.call33 (bh gE) _ _ (λ_=>ak) [] (λ_=>rfl) follows Tryz.func33 (by kernel_rfl) Ir
theorem QQ:∀a,aD ((λ_=>[]) a)->aJ (C:=cx) [] [] 0 ak Tryz.f36 ((bh eE).enc a) λv H _=>ae ((λa=>.v (.int .i64 a.iD)) a) H v:=by intro a _;repeat' (first|apply Ai|exact rfl|intro)
noncomputable def Mi:XR cx:=af 36 Tryz.call36 (bh eE) _ _ (λ_=>ak) [] (λ_=>rfl) follows Tryz.func36 (by kernel_rfl) QQ
def N8(l:Zp):Cut:=⟨Nat,λk=>1<=k∧(k<=l.n∨k=1)∧g5 (λi=>(l.c i).kind) 1 (l.n-1)=g5 (λi=>(l.c i).kind) k (l.n-k),
 λk=>⟨[sl 0 l.sv,sl 1 (.v (.func (.func 33) #[] #[])),sl 5 (i64 k)],[],0,0,[],[]⟩,λk=>l.n-k⟩
theorem Ih:∀a,aD ((λa=>[(a.1.n:Int)<=cp,a.2=(.v (.func (.func 33) #[] #[]))]) a)->aJ (C:=cx) [FK] [] 0 ⟨[],[],[2],0⟩ Tryz.f48 ((aH gU YS).enc a) λv H _=>ae ((λa=>.v (.bool (!g5 (λi=>(a.1.c i).kind) 1 (a.1.n-1)))) a) H v:=by
 intro⟨l,x⟩ ⟨hn,hx⟩;replace hn:(l.n:Int)<=9223372036854775807:=hn;replace hx:x=.v (.func (.func 33) #[] #[]):=hx;subst hx;refine F8 (N8 l) ?_;refine Ai ?_ ?_
 ·refine⟨(1:Nat),[],[],trivial,⟨F2 _,.inr rfl,rfl⟩,?_⟩;repeat' (first|apply Ai|exact rfl|intro)
 refine fun(k:Nat) (hk:1<=k∧(k<=l.n∨k=1)∧g5 (λi=>(l.c i).kind) 1 (l.n-1)=g5 (λi=>(l.c i).kind) k (l.n-k))=>?_;obtain⟨k0,k1,k2⟩:=hk;refine Ai (λhb=>?_) (λhb=>?_)
 ·have hb:(k:Int)<l.n:=Od hb;have e:=wb (key:=(λi=>(l.c i).kind)) (k:=k) (n:=l.n) (by omega);have ek:((k:Int)-1).toNat=k-1:=(by omega);refine Ai (by unfold XT;omega:XT ((k:Int)-1)) ?_;refine Ai ⟨by omega,by omega⟩ ?_;refine Ai ⟨by omega,by omega⟩ ?_;refine Ai (λhc=>?_) (λhc=>?_);have hc:decide ((l.c k).kind<=(l.c ((k:Int)-1).toNat).kind)=true:=hc;rw[ek] at hc;simp only[hc] at e;refine XA (a:=!g5 (λi=>(l.c i).kind) 1 (l.n-1)) (b:=false) ?_ rfl;rw[k2,e];rfl;have hc:decide ((l.c k).kind<=(l.c ((k:Int)-1).toNat).kind)=false:=hc;rw[ek] at hc;simp only[hc] at e;refine Ai (by unfold XT;omega:XT ((k:Int)+1)) ?_;refine⟨k+1,[],[],(by show l.n-(k+1)<l.n-k;omega),⟨by omega,by omega,by rw[k2,e]⟩,?_⟩;repeat' (first|apply Ai|exact rfl|intro)
 have hb:¬(k:Int)<l.n:=Xg hb;have e:g5 (λi=>(l.c i).kind) 1 (l.n-1)=false:=by rw[k2,show l.n-k=0 by omega];rfl
 refine XA (a:=!g5 (λi=>(l.c i).kind) 1 (l.n-1)) (b:=true) ?_ rfl;rw[e];rfl
noncomputable def PX:XR cx:=af 48 Tryz.call48 (aH gU YS) _ _ (λ_=>⟨[],[],[2],0⟩) [] (λ_=>rfl) follows Tryz.func48 (by kernel_rfl) Ih
def N7(l:ZJ):Cut:=⟨Nat,λk=>1<=k∧(k<=l.n∨k=1)∧g5 (λi=>(l.e i).iD) 1 (l.n-1)=g5 (λi=>(l.e i).iD) k (l.n-k),
 λk=>⟨[sl 0 l.sv,sl 1 (.v (.func (.func 36) #[] #[])),sl 5 (i64 k)],[],0,0,[],[]⟩,λk=>l.n-k⟩
theorem Ig:∀a,aD ((λa=>[(a.1.n:Int)<=cp,a.2=(.v (.func (.func 36) #[] #[]))]) a)->aJ (C:=cx) [Mi] [] 0 ⟨[],[],[2],0⟩ Tryz.f35 ((aH rh YS).enc a) λv H _=>ae ((λa=>.v (.bool (!g5 (λi=>(a.1.e i).iD) 1 (a.1.n-1)))) a) H v:=by
 intro⟨l,x⟩ ⟨hn,hx⟩;replace hn:(l.n:Int)<=9223372036854775807:=hn;replace hx:x=.v (.func (.func 36) #[] #[]):=hx;subst hx;refine F8 (N7 l) ?_;refine Ai ?_ ?_
 ·refine⟨(1:Nat),[],[],trivial,⟨F2 _,.inr rfl,rfl⟩,?_⟩;repeat' (first|apply Ai|exact rfl|intro)
 refine fun(k:Nat) (hk:1<=k∧(k<=l.n∨k=1)∧g5 (λi=>(l.e i).iD) 1 (l.n-1)=g5 (λi=>(l.e i).iD) k (l.n-k))=>?_;obtain⟨k0,k1,k2⟩:=hk;refine Ai (λhb=>?_) (λhb=>?_)
 ·have hb:(k:Int)<l.n:=Od hb;have e:=wb (key:=(λi=>(l.e i).iD)) (k:=k) (n:=l.n) (by omega);have ek:((k:Int)-1).toNat=k-1:=(by omega);refine Ai (by unfold XT;omega:XT ((k:Int)-1)) ?_;refine Ai ⟨by omega,by omega⟩ ?_;refine Ai (λ_ _=>trivial) ?_;refine Ai ⟨by omega,by omega⟩ ?_;refine Ai (λ_ _=>trivial) ?_;refine Ai (λhc=>?_) (λhc=>?_);have hc:decide ((l.e k).iD<=(l.e ((k:Int)-1).toNat).iD)=true:=hc;rw[ek] at hc;simp only[hc] at e;refine XA (a:=!g5 (λi=>(l.e i).iD) 1 (l.n-1)) (b:=false) ?_ rfl;rw[k2,e];rfl;have hc:decide ((l.e k).iD<=(l.e ((k:Int)-1).toNat).iD)=false:=hc;rw[ek] at hc;simp only[hc] at e;refine Ai (by unfold XT;omega:XT ((k:Int)+1)) ?_;refine⟨k+1,[],[],(by show l.n-(k+1)<l.n-k;omega),⟨by omega,by omega,by rw[k2,e]⟩,?_⟩;repeat' (first|apply Ai|exact rfl|intro)
 have hb:¬(k:Int)<l.n:=Xg hb;have e:g5 (λi=>(l.e i).iD) 1 (l.n-1)=false:=by rw[k2,show l.n-k=0 by omega];rfl
 refine XA (a:=!g5 (λi=>(l.e i).iD) 1 (l.n-1)) (b:=true) ?_ rfl;rw[e];rfl
noncomputable def PW:XR cx:=af 35 Tryz.call35 (aH rh YS) _ _ (λ_=>⟨[],[],[2],0⟩) [] (λ_=>rfl) follows Tryz.func35 (by kernel_rfl) Ig
def aZ.Rg(c:aZ)(k a b d e f g h i:Int):Prop:=c.kind=k->a<=c.v0∧c.v0<=b∧d<=c.v1∧c.v1<=e∧f<=c.v2∧c.v2<=g∧h<=c.v3∧c.v3<=i
instance (c:aZ) (k a b d e f g h i:Int):Decidable (c.Rg k a b d e f g h i):=by unfold aZ.Rg;infer_instance
def aZ.Fits(c:aZ):Prop:=1<=c.kind∧c.kind<=10∧c.Rg 1 (-1048576) 1048576 (-1048576) 1048576 0 0 0 0∧c.Rg 2 (-4096) 4096 (-4096) 4096 0 0 0 0∧c.Rg 3 1 16384 1 16384 0 1 0 1∧c.Rg 4 1 8 0 0 0 0 0 0∧c.Rg 5 0 510 0 0 0 0 0 0∧c.Rg 6 0 15 0 0 0 0 0 0∧c.Rg 7 (-2147483648) 2147483647 (-2147483648) 2147483647 (-2147483648) 2147483647 (-2147483648) 2147483647∧c.Rg 8 0 1048576 0 1048576 0 0 0 0∧c.Rg 9 0 2147483647 0 2147483647 0 2147483647 0 2147483647∧c.Rg 10 (-2147483648) 2147483647 (-2147483648) 2147483647 (-2147483648) 2147483647 (-2147483648) 2147483647∧(c.kind=3->c.v2=0∨c.v0=c.v1)∧(c.kind=5->c.v0%2=0)
instance (c:aZ):Decidable c.Fits:=by unfold aZ.Fits;infer_instance
def aZ.fits(c:aZ):Bool:=decide c.Fits
theorem ba(h:¬c.Fits):c.fits=false:=Xi h
theorem fy(h:c.Fits):c.fits=true:=Xj h
theorem dZ{p:Prop}(h:false=true):p:=by cases h
theorem Ra{p:Prop}(h:true=false):p:=by cases h
def rgQ(v lo hi:Int):Bool:=decide (v<lo)||decide (hi<v)
theorem rgQ_yes(h:rgQ v lo hi=true):v<lo∨hi<v:=by simpa[rgQ] using h
theorem rgQ_no(h:rgQ v lo hi=false):lo<=v∧v<=hi:=by simpa[rgQ] using h
set_option maxHeartbeats 2000000 in
set_option maxRecDepth 8000 in
theorem IF:∀a,aD ((λa=>[0<=a.kind∧a.kind<=255]) a)->aJ (C:=cx) [] [] 0 ⟨[],[],[],5⟩ Tryz.f51 ((bh gE).enc a) λv H _=>ae ((λa=>.v (.bool a.fits)) a) H v:=by
 intro⟨kind,v0,v1,v2,v3⟩ hk;replace hk:0<=kind∧kind<=255:=hk;by_cases hb:kind<1∨10<kind;refine Ai (λ_=>?_) (λhc=>?_);refine XA (ba (c:=⟨kind,v0,v1,v2,v3⟩) λh=>?_) rfl;have h1:1<=kind:=h.1;have h2:kind<=10:=h.2.1;omega;have hc:(decide (kind<1)||decide (10<kind))=false:=hc;simp only[Xp,Xh] at hc;omega;have hk:kind=1∨kind=2∨kind=3∨kind=4∨kind=5∨kind=6∨kind=7∨kind=8∨kind=9∨kind=10:=by omega
 clear hb;rcases hk with rfl|rfl|rfl|rfl|rfl|rfl|rfl|rfl|rfl|rfl;refine Ai (λq=>dZ q) (λ_=>?_);refine Ai (fun(q:rgQ v0 (-1048576) 1048576=true)=>XA (ba λhF=>?_) rfl) (fun(q0:rgQ v0 (-1048576) 1048576=false)=>?_);rotate_left;refine Ai (fun(q:rgQ v1 (-1048576) 1048576=true)=>XA (ba λhF=>?_) rfl) (fun(q1:rgQ v1 (-1048576) 1048576=false)=>?_);rotate_left;refine Ai (fun(q:rgQ v2 0 0=true)=>XA (ba λhF=>?_) rfl) (fun(q2:rgQ v2 0 0=false)=>?_);rotate_left;refine Ai (fun(q:rgQ v3 0 0=true)=>XA (ba λhF=>?_) rfl) (fun(q3:rgQ v3 0 0=false)=>?_);rotate_left
 rotate_left
 refine Ai (λq=>dZ q) (λ_=>?_);refine Ai (fun(q:rgQ v0 (-4096) 4096=true)=>XA (ba λhF=>?_) rfl) (fun(q0:rgQ v0 (-4096) 4096=false)=>?_);rotate_left;refine Ai (fun(q:rgQ v1 (-4096) 4096=true)=>XA (ba λhF=>?_) rfl) (fun(q1:rgQ v1 (-4096) 4096=false)=>?_);rotate_left;refine Ai (fun(q:rgQ v2 0 0=true)=>XA (ba λhF=>?_) rfl) (fun(q2:rgQ v2 0 0=false)=>?_);rotate_left;refine Ai (fun(q:rgQ v3 0 0=true)=>XA (ba λhF=>?_) rfl) (fun(q3:rgQ v3 0 0=false)=>?_);rotate_left
 rotate_left
 refine Ai (λq=>dZ q) (λ_=>?_);refine Ai (fun(q:rgQ v0 1 16384=true)=>XA (ba λhF=>?_) rfl) (fun(q0:rgQ v0 1 16384=false)=>?_);rotate_left;refine Ai (fun(q:rgQ v1 1 16384=true)=>XA (ba λhF=>?_) rfl) (fun(q1:rgQ v1 1 16384=false)=>?_);rotate_left;refine Ai (fun(q:rgQ v2 0 1=true)=>XA (ba λhF=>?_) rfl) (fun(q2:rgQ v2 0 1=false)=>?_);rotate_left;refine Ai (fun(q:rgQ v3 0 1=true)=>XA (ba λhF=>?_) rfl) (fun(q3:rgQ v3 0 1=false)=>?_);rotate_left
 rotate_left
 refine Ai (λq=>dZ q) (λ_=>?_);refine Ai (fun(q:rgQ v0 1 8=true)=>XA (ba λhF=>?_) rfl) (fun(q0:rgQ v0 1 8=false)=>?_);rotate_left;refine Ai (fun(q:rgQ v1 0 0=true)=>XA (ba λhF=>?_) rfl) (fun(q1:rgQ v1 0 0=false)=>?_);rotate_left;refine Ai (fun(q:rgQ v2 0 0=true)=>XA (ba λhF=>?_) rfl) (fun(q2:rgQ v2 0 0=false)=>?_);rotate_left;refine Ai (fun(q:rgQ v3 0 0=true)=>XA (ba λhF=>?_) rfl) (fun(q3:rgQ v3 0 0=false)=>?_);rotate_left
 rotate_left
 refine Ai (λq=>dZ q) (λ_=>?_);refine Ai (fun(q:rgQ v0 0 510=true)=>XA (ba λhF=>?_) rfl) (fun(q0:rgQ v0 0 510=false)=>?_);rotate_left;refine Ai (fun(q:rgQ v1 0 0=true)=>XA (ba λhF=>?_) rfl) (fun(q1:rgQ v1 0 0=false)=>?_);rotate_left;refine Ai (fun(q:rgQ v2 0 0=true)=>XA (ba λhF=>?_) rfl) (fun(q2:rgQ v2 0 0=false)=>?_);rotate_left;refine Ai (fun(q:rgQ v3 0 0=true)=>XA (ba λhF=>?_) rfl) (fun(q3:rgQ v3 0 0=false)=>?_);rotate_left
 rotate_left
 refine Ai (λq=>dZ q) (λ_=>?_);refine Ai (fun(q:rgQ v0 0 15=true)=>XA (ba λhF=>?_) rfl) (fun(q0:rgQ v0 0 15=false)=>?_);rotate_left;refine Ai (fun(q:rgQ v1 0 0=true)=>XA (ba λhF=>?_) rfl) (fun(q1:rgQ v1 0 0=false)=>?_);rotate_left;refine Ai (fun(q:rgQ v2 0 0=true)=>XA (ba λhF=>?_) rfl) (fun(q2:rgQ v2 0 0=false)=>?_);rotate_left;refine Ai (fun(q:rgQ v3 0 0=true)=>XA (ba λhF=>?_) rfl) (fun(q3:rgQ v3 0 0=false)=>?_);rotate_left
 rotate_left
 refine Ai (λq=>dZ q) (λ_=>?_);refine Ai (fun(q:rgQ v0 (-2147483648) 2147483647=true)=>XA (ba λhF=>?_) rfl) (fun(q0:rgQ v0 (-2147483648) 2147483647=false)=>?_);rotate_left;refine Ai (fun(q:rgQ v1 (-2147483648) 2147483647=true)=>XA (ba λhF=>?_) rfl) (fun(q1:rgQ v1 (-2147483648) 2147483647=false)=>?_);rotate_left;refine Ai (fun(q:rgQ v2 (-2147483648) 2147483647=true)=>XA (ba λhF=>?_) rfl) (fun(q2:rgQ v2 (-2147483648) 2147483647=false)=>?_);rotate_left;refine Ai (fun(q:rgQ v3 (-2147483648) 2147483647=true)=>XA (ba λhF=>?_) rfl) (fun(q3:rgQ v3 (-2147483648) 2147483647=false)=>?_);rotate_left
 rotate_left
 refine Ai (λq=>dZ q) (λ_=>?_);refine Ai (fun(q:rgQ v0 0 1048576=true)=>XA (ba λhF=>?_) rfl) (fun(q0:rgQ v0 0 1048576=false)=>?_);rotate_left;refine Ai (fun(q:rgQ v1 0 1048576=true)=>XA (ba λhF=>?_) rfl) (fun(q1:rgQ v1 0 1048576=false)=>?_);rotate_left;refine Ai (fun(q:rgQ v2 0 0=true)=>XA (ba λhF=>?_) rfl) (fun(q2:rgQ v2 0 0=false)=>?_);rotate_left;refine Ai (fun(q:rgQ v3 0 0=true)=>XA (ba λhF=>?_) rfl) (fun(q3:rgQ v3 0 0=false)=>?_);rotate_left
 rotate_left
 refine Ai (λq=>dZ q) (λ_=>?_);refine Ai (fun(q:rgQ v0 0 2147483647=true)=>XA (ba λhF=>?_) rfl) (fun(q0:rgQ v0 0 2147483647=false)=>?_);rotate_left;refine Ai (fun(q:rgQ v1 0 2147483647=true)=>XA (ba λhF=>?_) rfl) (fun(q1:rgQ v1 0 2147483647=false)=>?_);rotate_left;refine Ai (fun(q:rgQ v2 0 2147483647=true)=>XA (ba λhF=>?_) rfl) (fun(q2:rgQ v2 0 2147483647=false)=>?_);rotate_left;refine Ai (fun(q:rgQ v3 0 2147483647=true)=>XA (ba λhF=>?_) rfl) (fun(q3:rgQ v3 0 2147483647=false)=>?_);rotate_left
 rotate_left
 refine Ai (λq=>dZ q) (λ_=>?_);refine Ai (fun(q:rgQ v0 (-2147483648) 2147483647=true)=>XA (ba λhF=>?_) rfl) (fun(q0:rgQ v0 (-2147483648) 2147483647=false)=>?_);rotate_left;refine Ai (fun(q:rgQ v1 (-2147483648) 2147483647=true)=>XA (ba λhF=>?_) rfl) (fun(q1:rgQ v1 (-2147483648) 2147483647=false)=>?_);rotate_left;refine Ai (fun(q:rgQ v2 (-2147483648) 2147483647=true)=>XA (ba λhF=>?_) rfl) (fun(q2:rgQ v2 (-2147483648) 2147483647=false)=>?_);rotate_left;refine Ai (fun(q:rgQ v3 (-2147483648) 2147483647=true)=>XA (ba λhF=>?_) rfl) (fun(q3:rgQ v3 (-2147483648) 2147483647=false)=>?_);rotate_left
 rotate_left
 all_goals first
  | (have:=rgQ_yes q;simp[aZ.Fits,aZ.Rg] at hF;omega)
  | (have:=rgQ_no q0;have:=rgQ_no q1;have:=rgQ_no q2;have:=rgQ_no q3;refine Ai (λq=>dZ q) λ_=>Ai (λq=>dZ q) λ_=>?_;refine XA (fy ?_) rfl;simp[aZ.Fits,aZ.Rg];omega)
  | (have:=rgQ_no q0;have:=rgQ_no q1;have:=rgQ_no q2;have:=rgQ_no q3;refine Ai (λ_=>?_) λq=>Ra q;refine XA (b:=decide (v2=0)||decide (v0=v1)) ?_ rfl;rw[Bool.eq_iff_iff];simp[aZ.fits,aZ.Fits,aZ.Rg];omega)
  | (have:=rgQ_no q0;have:=rgQ_no q1;have:=rgQ_no q2;have:=rgQ_no q3;refine Ai (λq=>dZ q) λ_=>Ai (λ_=>?_) λq=>Ra q;refine XA (b:=decide (v0.tmod 2=0)) ?_ rfl;rw[Bool.eq_iff_iff,Int.tmod_eq_emod_of_nonneg (by omega)];simp[aZ.fits,aZ.Fits,aZ.Rg];omega)
noncomputable def Qa:XR cx:=af 51 Tryz.call51 (bh gE) _ _ (λ_=>⟨[],[],[],5⟩) [] (λ_=>rfl) follows Tryz.func51 (by kernel_rfl) IF
end Go.Proofs.YtmdpdknpapjchaaGreatDoor
