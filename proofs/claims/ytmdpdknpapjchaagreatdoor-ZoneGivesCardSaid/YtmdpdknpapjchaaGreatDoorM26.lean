/- store: ContainsFunc. -/
import Derived.Test.YtmdpdknpapjchaaGreatDoorM25
import Derived.Test.YtmdpdknpapjchaaGreatDoorM23
set_option linter.all false
namespace Go.Proofs.YtmdpdknpapjchaaGreatDoor
section
open Go.RowKit
set_option maxRecDepth 8000
set_option maxHeartbeats 2000000
def Zp.Sm(l:Zp):Prop:=(l.n:Int)<=cp∧∀i,i<l.n->0<=(l.c i).kind∧(l.c i).kind<=255
def ZJ.Sm(l:ZJ):Prop:=(l.n:Int)<=cp∧∀i,i<l.n->(l.e i).l.Sm
def Zp.inc(l:Zp):Bool:=!g5 (λi=>(l.c i).kind) 1 (l.n-1)
def ZJ.inc(l:ZJ):Bool:=!g5 (λi=>(l.e i).iD) 1 (l.n-1)
theorem BS:∀a,aD ((λa=>[0<=a.kind∧a.kind<=255]) a)->aJ (C:=cx) [Qa] [] 0 ak Tryz.f50 ((bh gE).enc a) λv H _=>ae ((λa=>.v (.bool (!a.fits))) a) H v:=by intro c hk;refine Ai hk ?_;exact rfl
noncomputable def HH:XR cx:=af 50 Tryz.call50 (bh gE) _ _ (λ_=>ak) [] (λ_=>rfl) follows Tryz.func50 (by kernel_rfl) BS
noncomputable def Tc:Y0 cx:=⟨52,Tryz.call52,Tryz.f52,Tryz.func52,[],[],[2],0,by kernel_rfl⟩
def Ph(l:Zp):Cut:=⟨Nat,λk=>k<=l.n∧bQ (λi=>!(l.c i).fits) 0 l.n=bQ (λi=>!(l.c i).fits) k (l.n-k),
 λk=>⟨[sl 0 l.sv,sl 1 (.v (.func (.func 50) #[] #[])),sl 7 (i64 l.n),sl 8 (i64 k)],[],0,0,[],[]⟩,λk=>l.n-k⟩
theorem ID:∀a,aD ((λa=>[a.1.Sm,a.2=(.v (.func (.func 50) #[] #[]))]) a)->aJ (C:=cx) [HH] [Tc] 1 ak Tryz.f49 ((aH gU YS).enc a) λv H _=>ae ((λa=>.v (.bool (bQ (λi=>!(a.1.c i).fits) 0 a.1.n))) a) H v:=by
 intro⟨l,x⟩ ⟨hn,hx⟩;replace hx:x=.v (.func (.func 50) #[] #[]):=hx;subst hx;replace hn:l.Sm:=hn;have hm:(l.n:Int)<=9223372036854775807:=hn.1;refine F8 (Ph l) ?_;refine Ai ?_ ?_
 ·refine⟨(0:Nat),[],[],trivial,⟨F9 _,rfl⟩,?_⟩;repeat' (first|apply Ai|exact rfl|intro)
 refine fun(k:Nat) (hk:k<=l.n∧bQ (λi=>!(l.c i).fits) 0 l.n=bQ (λi=>!(l.c i).fits) k (l.n-k))=>?_;obtain⟨k1,k2⟩:=hk;refine Ai (λhb=>?_) (λhb=>?_)
 ·have hb:(k:Int)<l.n:=Od hb;have e:=eA (g:=(λi=>!(l.c i).fits)) (k:=k) (n:=l.n) (by omega);refine Ai ⟨by omega,by omega⟩ ?_;refine Ai (hn.2 k (by omega)) ?_;refine Ai (λhc=>?_) (λhc=>?_);have hc:(!(l.c k).fits)=true:=hc;simp only[hc] at e;refine XA (a:=bQ (λi=>!(l.c i).fits) 0 l.n) (b:=decide (0<=(k:Int))) ?_ rfl;rw[k2,e,Xj (by omega)];have hc:(!(l.c k).fits)=false:=hc;simp only[hc] at e;refine Ai (by unfold XT;omega:XT ((k:Int)+1)) ?_;refine⟨k+1,[],[],(by show l.n-(k+1)<l.n-k;omega),⟨by omega,by rw[k2,e]⟩,?_⟩;repeat' (first|apply Ai|exact rfl|intro)
 have hb:¬(k:Int)<l.n:=Xg hb;have e:bQ (λi=>!(l.c i).fits) 0 l.n=false:=by rw[k2,show l.n-k=0 by omega];rfl
 exact e
noncomputable def P8:XR cx:=af 49 Tryz.call49 (aH gU YS) _ _ (λ_=>ak) [] (λ_=>rfl) follows Tryz.func49 (by kernel_rfl) ID
def XO.right(e:XO):Bool:=decide (1<=e.iD)&&decide (e.iD<=65536)&&e.l.inc&&!bQ (λi=>!(e.l.c i).fits) 0 e.l.n
theorem DM:∀a,aD ((λa=>[a.l.Sm]) a)->aJ (C:=cx) [PX,P8] [] 0 ak Tryz.f23 ((bh eE).enc a) λv H _=>ae ((λa=>.v (.bool a.right)) a) H v:=by intro a hm;replace hm:a.l.Sm:=hm;refine Ai (λ_=>⟨λ_ _=>trivial,hm.1,rfl⟩) ?_;refine Ai (λ_=>⟨λ_ _=>trivial,hm,rfl⟩) ?_;exact rfl
noncomputable def mU:XR cx:=af 23 Tryz.call23 (bh eE) _ _ (λ_=>ak) [] (λ_=>rfl) follows Tryz.func23 (by kernel_rfl) DM
theorem BN:∀a,aD ((λa=>[a.l.Sm]) a)->aJ (C:=cx) [mU] [] 0 ak Tryz.f38 ((bh eE).enc a) λv H _=>ae ((λa=>.v (.bool (!a.right))) a) H v:=by intro a hm;refine Ai ⟨λ_ _=>trivial,hm⟩ ?_;exact rfl
noncomputable def HC:XR cx:=af 38 Tryz.call38 (bh eE) _ _ (λ_=>ak) [] (λ_=>rfl) follows Tryz.func38 (by kernel_rfl) BN
noncomputable def Tb:Y0 cx:=⟨67,Tryz.call67,Tryz.f67,Tryz.func67,[],[],[2],0,by kernel_rfl⟩
def Pg(l:ZJ):Cut:=⟨Nat,λk=>k<=l.n∧bQ (λi=>!(l.e i).right) 0 l.n=bQ (λi=>!(l.e i).right) k (l.n-k),
 λk=>⟨[sl 0 l.sv,sl 1 (.v (.func (.func 38) #[] #[])),sl 7 (i64 l.n),sl 8 (i64 k)],[],0,0,[],[]⟩,λk=>l.n-k⟩
theorem IC:∀a,aD ((λa=>[a.1.Sm,a.2=(.v (.func (.func 38) #[] #[]))]) a)->aJ (C:=cx) [HC] [Tb] 1 ak Tryz.f37 ((aH rh YS).enc a) λv H _=>ae ((λa=>.v (.bool (bQ (λi=>!(a.1.e i).right) 0 a.1.n))) a) H v:=by
 intro⟨l,x⟩ ⟨hn,hx⟩;replace hx:x=.v (.func (.func 38) #[] #[]):=hx;subst hx;replace hn:l.Sm:=hn;have hm:(l.n:Int)<=9223372036854775807:=hn.1;refine F8 (Pg l) ?_;refine Ai ?_ ?_
 ·refine⟨(0:Nat),[],[],trivial,⟨F9 _,rfl⟩,?_⟩;repeat' (first|apply Ai|exact rfl|intro)
 refine fun(k:Nat) (hk:k<=l.n∧bQ (λi=>!(l.e i).right) 0 l.n=bQ (λi=>!(l.e i).right) k (l.n-k))=>?_;obtain⟨k1,k2⟩:=hk;refine Ai (λhb=>?_) (λhb=>?_)
 ·have hb:(k:Int)<l.n:=Od hb;have e:=eA (g:=(λi=>!(l.e i).right)) (k:=k) (n:=l.n) (by omega);refine Ai ⟨by omega,by omega⟩ ?_;refine Ai (⟨λ_ _=>trivial,hn.2 k (by omega)⟩) ?_;refine Ai (λhc=>?_) (λhc=>?_);have hc:(!(l.e k).right)=true:=hc;simp only[hc] at e;refine XA (a:=bQ (λi=>!(l.e i).right) 0 l.n) (b:=decide (0<=(k:Int))) ?_ rfl;rw[k2,e,Xj (by omega)];have hc:(!(l.e k).right)=false:=hc;simp only[hc] at e;refine Ai (by unfold XT;omega:XT ((k:Int)+1)) ?_;refine⟨k+1,[],[],(by show l.n-(k+1)<l.n-k;omega),⟨by omega,by rw[k2,e]⟩,?_⟩;repeat' (first|apply Ai|exact rfl|intro)
 have hb:¬(k:Int)<l.n:=Xg hb;have e:bQ (λi=>!(l.e i).right) 0 l.n=false:=by rw[k2,show l.n-k=0 by omega];rfl
 exact e
noncomputable def P7:XR cx:=af 37 Tryz.call37 (aH rh YS) _ _ (λ_=>ak) [] (λ_=>rfl) follows Tryz.func37 (by kernel_rfl) IC
def XU.valid(w:XU):Bool:=decide (0<=w.tick)&&decide (w.tick<=1073741824)&&decide ((w.l.n:Int)<=64)&&w.l.inc&&!bQ (λi=>!(w.l.e i).right) 0 w.l.n
theorem BM:∀a,aD ((λa=>[a.l.Sm]) a)->aJ (C:=cx) [PW,P7] [] 0 ak Tryz.f17 ((bh cI).enc a) λv H _=>ae ((λa=>.v (.bool a.valid)) a) H v:=by intro a hm;replace hm:a.l.Sm:=hm;refine Ai (λ_=>⟨λ_ _ _ _=>trivial,hm.1,rfl⟩) ?_;refine Ai (λ_=>⟨λ_ _ _ _=>trivial,hm,rfl⟩) ?_;exact rfl
noncomputable def gl:XR cx:=af 17 Tryz.call17 (bh cI) _ _ (λ_=>ak) [] (λ_=>rfl) follows Tryz.func17 (by kernel_rfl) BM
end
section
def kM(x y:Int):Int:=if x<y then -1 else if y<x then 1 else 0
end
section
open Go.RowKit
variable {a b q:Int}{i k n:Nat}{g:Nat->Bool}{key:Nat->Int}{e:XO}{w:XU}
theorem wu(n:Int):IntKind.u64.wrap n=n%18446744073709551616:=rfl
theorem p32:(2:Int)^min (Int.toNat 32) IntKind.u64.bits=4294967296:=rfl
theorem VE(a:Int):a.fdiv 4294967296=a/4294967296:=Int.fdiv_eq_ediv_of_nonneg a (by omega)
theorem ve{A:Nat}(h:A<18446744073709551616)(hi:i<64):eS .and .u64 (A:Int) ((2^i-1:Nat):Int)=((A%2^i:Nat):Int):=by
 have hp:2^i-1<18446744073709551616:=by have:2^i<2^64:=Nat.pow_lt_pow_right (by omega) hi;omega
 unfold eS;have e1:(BitVec.ofInt 64 (A:Int)).toNat=A:=by rw[BitVec.ofInt_natCast,BitVec.toNat_ofNat,Nat.mod_eq_of_lt (by omega)]
 have e2:(BitVec.ofInt 64 ((2^i-1:Nat):Int)).toNat=2^i-1:=by rw[BitVec.ofInt_natCast,BitVec.toNat_ofNat,Nat.mod_eq_of_lt (by omega)]
 have e3:(BitVec.ofInt 64 (A:Int) &&& BitVec.ofInt 64 ((2^i-1:Nat):Int)).toNat=A%2^i:=by rw[BitVec.toNat_and,e1,e2,Nat.and_two_pow_sub_one_eq_mod]
 show IntKind.u64.wrap ((BitVec.ofInt 64 (A:Int) &&& BitVec.ofInt 64 ((2^i-1:Nat):Int)).toNat:Int)=_;rw[e3,wu];have:=Nat.mod_le A (2^i);omega
theorem BG(h0:0<=a)(h:a<18446744073709551616):eS .and .u64 a 4294967295=a%4294967296:=by obtain⟨A,rfl⟩:=Int.eq_ofNat_of_zero_le h0;have:=ve (A:=A) (i:=32) (by omega) (by omega);simpa using this
def Mc:XR cx:=af (Γ:=[]) (Fs:=[]) (d:=0) 118 Tryz.call118 (bh (Yp .i64)) (λ_=>[]) (λn=>.bl false) (λ_=>ak) [] (λ_=>rfl) follows Tryz.func118 (by kernel_rfl)
 λn _=>by show (_:Bool)=_;simp
set_option maxHeartbeats 2000000 in
set_option maxRecDepth 8000 in
theorem Ni:∀a,aD ((λ_=>[]) a)->aJ (C:=cx) [Mc] [] 0 ak Tryz.f86 (((aH (Yp .i64) (Yp .i64))).enc a) λv H _=>ae ((λa=>.v (.int .i64 (kM a.1 a.2))) a) H v:=by
 intro⟨x,y⟩ _;repeat' (first|refine Ai ?_ ?_|(intro _))
 all_goals (simp only[bh,aH,eC,Yp,YQ,Yz,SV.iv,cH,U',Xh] at *)
 all_goals (refine XA (a:=kM x y) ?_ rfl;unfold kM;split<;>(try split)<;>first|rfl|omega)
noncomputable def TQ:XR cx:=af 86 Tryz.call86 (aH (Yp .i64) (Yp .i64)) _ _ (λ_=>ak) [] (λ_=>rfl) follows Tryz.func86 (by kernel_rfl) Ni
set_option maxRecDepth 8000
set_option maxHeartbeats 2000000
def rz:Int:=4611686018427387903
def lbN(key:Nat->Int)(q:Int):Nat->Nat->Nat
 | k,0=>k
 | k,r+1=>match decide (key k<q) with|true=>lbN key q (k+1) r|false=>k
theorem KA{key:Nat->Int}{q:Int}{i:Nat} : ∀{r k:Nat},k<=i->i<=k+r->(∀j,k<=j->j<i->key j<q)->(i=k+r∨¬key i<q)->lbN key q k r=i
 | 0,k,h1,h2,_,_=>by show k=i;omega
 | r+1,k,h1,h2,h3,h4=>by rcases Xs h1 with rfl|h1;rcases h4 with h4|h4;omega;simp only[lbN,Xi h4];simp only[lbN,Xj (h3 k (F2 _) h1)];exact KA (by omega) (by omega) (λj h5 h6=>h3 j (by omega) h6) (by first|(rcases h4 with h4|h4;exact Or.inl (by omega);exact Or.inr h4))
def fI(key:Nat->Int)(n:Nat)(q:Int):Nat:=lbN key q 0 n
def gP(key:Nat->Int)(n:Nat)(q:Int):Bool:=decide (((fI key n q:Nat):Int)<n)&&decide (key (fI key n q)=q)
theorem sD(h1:i<=n)(h2:∀j,j<i->key j<q)(h3:∀j,i<=j->j<n->q<=key j):fI key n q=i:=
 KA (F9 _) (by omega) (λj _ h=>h2 j h) (by
  by_cases e:i=n;left;omega
  ·right;have:=h3 i (F2 _) (by omega);omega)
theorem Ky{key:Nat->Int}{q:Int} : ∀{r k:Nat},k<=lbN key q k r∧lbN key q k r<=k+r
 | 0,k=>⟨F2 _,F2 _⟩
 | r+1,k=>by simp only[lbN];split;have:=Ky (key:=key) (q:=q) (r:=r) (k:=k+1);omega;omega
theorem EU : fI key n q<=n:=by have:=Ky (key:=key) (q:=q) (r:=n) (k:=0);unfold fI;omega
theorem jC : gP key n q=true↔fI key n q<n∧key (fI key n q)=q:=by simp only[gP,I',U'];omega
theorem p1':(2:Int)^min (Int.toNat 1) IntKind.u64.bits=2:=rfl
theorem wi'{n:Int}(h : -9223372036854775808<=n∧n<=9223372036854775807):IntKind.i64.wrap n=n:=Yd.wrap h
theorem half(i j:Nat)(h:(i:Int)+j<=9223372036854775807):IntKind.i64.wrap ((IntKind.u64.wrap ((i:Int)+j)).fdiv (2^min (Int.toNat 1) IntKind.u64.bits))=(((i+j)/2:Nat):Int):=by rw[wu,p1',Int.emod_eq_of_lt (by omega) (by omega),Int.fdiv_eq_ediv_of_nonneg _ (by omega),wi' (by omega)];omega
noncomputable def P0:XR cx:=af (Γ:=[]) (Fs:=[]) (d:=0) 87 Tryz.call87 (bh (Yp .u8)) (λ_=>[]) (λn=>.bl false) (λ_=>ak) [] (λ_=>rfl) follows Tryz.func87 (by kernel_rfl)
 λn _=>by show (_:Bool)=_;simp
theorem IL:∀a,aD ((λ_=>[]) a)->aJ (C:=cx) [P0] [] 0 ak Tryz.f66 (((aH (Yp .u8) (Yp .u8))).enc a) λv H _=>ae ((λa=>.v (.int .i64 (kM a.1 a.2))) a) H v:=by
 intro⟨x,y⟩ _;repeat' (first|refine Ai ?_ ?_|(intro _))
 all_goals (simp only[bh,aH,eC,Yp,YQ,Yz,SV.iv,cH,U',Xh] at *)
 all_goals (refine XA (a:=kM x y) ?_ rfl;unfold kM;split<;>(try split)<;>first|rfl|omega)
noncomputable def Qh:XR cx:=af 66 Tryz.call66 ((aH (Yp .u8) (Yp .u8))) _ _ (λ_=>ak) [] (λ_=>rfl) follows Tryz.func66 (by kernel_rfl) IL
theorem Bv(h:kM a b<0):a<b:=by unfold kM at h;split at h<;>(try split at h)<;>omega
theorem Bw(h:¬kM a b<0):b<=a:=by unfold kM at h;split at h<;>(try split at h)<;>omega
theorem By : kM a b=0↔a=b:=by unfold kM;split<;>(try split)<;>omega
theorem It:∀a,aD ((λa=>[a.2.2=.rp [.v (.func (.func 33) #[] #[])] 0]) a)->aJ (C:=cx) [FK,Qh] [] 0 ak Tryz.f65 ((eC gE (Yp .u8) YS).enc a) λv H _=>ae ((λa=>.v (.int .i64 (kM a.1.kind a.2.1))) a) H v:=by intro⟨c,q,x⟩ hx;replace hx:x=.rp [.v (.func (.func 33) #[] #[])] 0:=hx;subst hx;exact rfl
noncomputable def P3:XR cx:=af 65 Tryz.call65 (eC gE (Yp .u8) YS) _ _ (λ_=>ak) [] (λ_=>rfl) follows Tryz.func65 (by kernel_rfl) It
def bsC(l:Zp)(q:Int):Cut:=⟨Nat×Nat,λx=>x.1<=x.2∧x.2<=l.n∧(∀t,t<x.1->(λi=>(l.c i).kind) t<q)∧(∀t,x.2<=t->t<l.n->q<=(λi=>(l.c i).kind) t),
 λx=>⟨[sl 0 l.sv,sl 1 (.v (.int .u8 q)),sl 2 (.f (.func 65) [] [.rp [.v (.func (.func 33) #[] #[])] 0]),sl 8 (i64 l.n),sl 9 (i64 x.1),sl 10 (i64 x.2)],[],0,0,[],[]⟩,λx=>x.2-x.1⟩
theorem No:∀a,aD ((λa=>[(a.1.n:Int)<=rz,Inc (λi=>(a.1.c i).kind) a.1.n,a.2.2=(.f (.func 65) [] [.rp [.v (.func (.func 33) #[] #[])] 0])]) a)->aJ (C:=cx) [P3] [] 0 ⟨[],[],[3],0⟩ Tryz.f64 ((eC gU (Yp .u8) YS).enc a) λv H _=>ae ((λa=>.tup [i64 (fI (λi=>(a.1.c i).kind) a.1.n a.2.1),.v (.bool (gP (λi=>(a.1.c i).kind) a.1.n a.2.1))]) a) H v:=by
 intro⟨l,q,x⟩ ⟨hn,hs,hx⟩;replace hx:x=(.f (.func 65) [] [.rp [.v (.func (.func 33) #[] #[])] 0]):=hx;replace hn:(l.n:Int)<=4611686018427387903:=hn;replace hs:Inc (λi=>(l.c i).kind) l.n:=hs;subst hx;refine F8 (bsC l q) ?_;refine Ai ?_ ?_
 ·refine⟨((0:Nat),l.n),[],[],trivial,⟨F9 _,F2 _,λt h=>P' h (F1 _),λt h1 h2=>P' h2 (Nat.not_lt.2 h1)⟩,?_⟩;repeat' (first|apply Ai|exact rfl|intro)
 refine fun(x:Nat×Nat) (hx:x.1<=x.2∧x.2<=l.n∧(∀t,t<x.1->(λi=>(l.c i).kind) t<q)∧(∀t,x.2<=t->t<l.n->q<=(λi=>(l.c i).kind) t))=>?_;obtain⟨i,j⟩:=x;obtain⟨x1,x2,x3,x4⟩:i<=j∧j<=l.n∧(∀t,t<i->(λi=>(l.c i).kind) t<q)∧(∀t,j<=t->t<l.n->q<=(λi=>(l.c i).kind) t):=hx;refine Ai (λhb=>?_) (λhb=>?_)
 ·have hb:(i:Int)<j:=Od hb;refine Ai (by unfold XT;omega:XT ((i:Int)+j)) ?_;have hh:=half i j (by omega);obtain⟨h,hd⟩:∃h,h=(i+j)/2:=⟨_,rfl⟩
  rw[<-hd] at hh;refine Ai (show 0<=_∧_<((l.n:Nat):Int) by rw[hh];omega) ?_;refine Ai rfl ?_;refine Ai (λhc=>?_) (λhc=>?_)
  ·have hc:decide (kM ((λi=>(l.c i).kind) (IntKind.i64.wrap ((IntKind.u64.wrap ((i:Int)+j)).fdiv (2^min (Int.toNat 1) IntKind.u64.bits))).toNat) q<0)=true:=hc;rw[hh] at hc;have hc:(λi=>(l.c i).kind) h<q:=Bv (Od hc);have h64:XT ((h:Int)+1):=(by unfold XT;omega);refine Ai (show XT (_+1) by rw[hh];exact h64) ?_;refine⟨(h+1,j),[],[],(by show j-(h+1)<j-i;omega),⟨(by omega:h+1<=j),x2,λt ht=>?_,x4⟩,?_⟩;rcases Xs (Nat.le_of_lt_succ ht) with rfl|ht;exact hc;exact Int.lt_trans (hs t h ht (by omega)) hc
   (repeat' (first|apply Ai|exact rfl|intro));all_goals (show ((h+1:Nat):Int)=_+1;rw[hh];rfl)
  have hc:decide (kM ((λi=>(l.c i).kind) (IntKind.i64.wrap ((IntKind.u64.wrap ((i:Int)+j)).fdiv (2^min (Int.toNat 1) IntKind.u64.bits))).toNat) q<0)=false:=hc;rw[hh] at hc;have hc:q<=(λi=>(l.c i).kind) h:=Bw (Xg hc);refine⟨(i,h),[],[],(by show h-i<j-i;omega),⟨(by omega:i<=h),(by omega:h<=l.n),x3,λt h1 h2=>?_⟩,?_⟩;rcases Xs h1 with rfl|h1;exact hc;exact Int.le_trans hc (Int.le_of_lt (hs h t h1 h2))
  (repeat' (first|apply Ai|exact rfl|intro));all_goals exact hh.symm
 have hb:¬(i:Int)<j:=Xg hb;have e:fI (λi=>(l.c i).kind) l.n q=i:=sD (by omega) x3 (λt h1 h2=>x4 t (by omega) h2);refine Ai (λhc=>?_) ?_;have hc:(i:Int)<l.n:=Od hc;exact⟨by omega,hc⟩;refine Ai (λhc=>?_) ?_;exact rfl;refine Ai (O' (λk:Nat=>(k:Int)) e) ?_;refine XA (a:=gP (λi=>(l.c i).kind) l.n q) (b:=decide ((i:Int)<l.n)&&decide (kM ((λi=>(l.c i).kind) i) q=0)) ?_ rfl;unfold gP;rw[e]
 congr 1
 exact decide_eq_decide.2 (By (a:=(λi=>(l.c i).kind) i) (b:=q)).symm
noncomputable def TU:XR cx:=af 64 Tryz.call64 (eC gU (Yp .u8) YS) _ _ (λ_=>⟨[],[],[3],0⟩) [] (λ_=>rfl) follows Tryz.func64 (by kernel_rfl) No
theorem M4:∀a,aD ((λa=>[(a.1.n:Int)<=rz,Inc (λi=>(a.1.c i).kind) a.1.n,a.2.2=(.v (.func (.func 33) #[] #[]))]) a)->aJ (C:=cx) [TU] [] 0 ak Tryz.f32 ((eC gU (Yp .u8) YS).enc a) λv H _=>ae ((λa=>.tup [i64 (fI (λi=>(a.1.c i).kind) a.1.n a.2.1),.v (.bool (gP (λi=>(a.1.c i).kind) a.1.n a.2.1))]) a) H v:=by intro⟨l,q,x⟩ ⟨hn,hs,hx⟩;replace hx:x=.v (.func (.func 33) #[] #[]):=hx;subst hx;refine Ai ⟨λ_ _=>trivial,hn,hs,rfl⟩ ?_;repeat' (first|apply Ai|exact rfl|intro)
noncomputable def TH:XR cx:=af 32 Tryz.call32 (eC gU (Yp .u8) YS) _ _ (λ_=>ak) [] (λ_=>rfl) follows Tryz.func32 (by kernel_rfl) M4
theorem Is:∀a,aD ((λa=>[a.2.2=.rp [.v (.func (.func 36) #[] #[])] 0]) a)->aJ (C:=cx) [Mi,TQ] [] 0 ak Tryz.f85 ((eC eE (Yp .i64) YS).enc a) λv H _=>ae ((λa=>.v (.int .i64 (kM a.1.iD a.2.1))) a) H v:=by intro⟨c,q,x⟩ hx;replace hx:x=.rp [.v (.func (.func 36) #[] #[])] 0:=hx;subst hx;refine Ai (λ_ _=>trivial) ?_;exact rfl
noncomputable def P2:XR cx:=af 85 Tryz.call85 (eC eE (Yp .i64) YS) _ _ (λ_=>ak) [] (λ_=>rfl) follows Tryz.func85 (by kernel_rfl) Is
def bsE(l:ZJ)(q:Int):Cut:=⟨Nat×Nat,λx=>x.1<=x.2∧x.2<=l.n∧(∀t,t<x.1->(λi=>(l.e i).iD) t<q)∧(∀t,x.2<=t->t<l.n->q<=(λi=>(l.e i).iD) t),
 λx=>⟨[sl 0 l.sv,sl 1 (.v (.int .i64 q)),sl 2 (.f (.func 85) [] [.rp [.v (.func (.func 36) #[] #[])] 0]),sl 8 (i64 l.n),sl 9 (i64 x.1),sl 10 (i64 x.2)],[],0,0,[],[]⟩,λx=>x.2-x.1⟩
theorem Nn:∀a,aD ((λa=>[(a.1.n:Int)<=rz,Inc (λi=>(a.1.e i).iD) a.1.n,a.2.2=(.f (.func 85) [] [.rp [.v (.func (.func 36) #[] #[])] 0])]) a)->aJ (C:=cx) [P2] [] 0 ⟨[],[],[3],0⟩ Tryz.f84 ((eC rh (Yp .i64) YS).enc a) λv H _=>ae ((λa=>.tup [i64 (fI (λi=>(a.1.e i).iD) a.1.n a.2.1),.v (.bool (gP (λi=>(a.1.e i).iD) a.1.n a.2.1))]) a) H v:=by
 intro⟨l,q,x⟩ ⟨hn,hs,hx⟩;replace hx:x=(.f (.func 85) [] [.rp [.v (.func (.func 36) #[] #[])] 0]):=hx;replace hn:(l.n:Int)<=4611686018427387903:=hn;replace hs:Inc (λi=>(l.e i).iD) l.n:=hs;subst hx;refine F8 (bsE l q) ?_;refine Ai ?_ ?_
 ·refine⟨((0:Nat),l.n),[],[],trivial,⟨F9 _,F2 _,λt h=>P' h (F1 _),λt h1 h2=>P' h2 (Nat.not_lt.2 h1)⟩,?_⟩;repeat' (first|apply Ai|exact rfl|intro)
 refine fun(x:Nat×Nat) (hx:x.1<=x.2∧x.2<=l.n∧(∀t,t<x.1->(λi=>(l.e i).iD) t<q)∧(∀t,x.2<=t->t<l.n->q<=(λi=>(l.e i).iD) t))=>?_;obtain⟨i,j⟩:=x;obtain⟨x1,x2,x3,x4⟩:i<=j∧j<=l.n∧(∀t,t<i->(λi=>(l.e i).iD) t<q)∧(∀t,j<=t->t<l.n->q<=(λi=>(l.e i).iD) t):=hx;refine Ai (λhb=>?_) (λhb=>?_)
 ·have hb:(i:Int)<j:=Od hb;refine Ai (by unfold XT;omega:XT ((i:Int)+j)) ?_;have hh:=half i j (by omega);obtain⟨h,hd⟩:∃h,h=(i+j)/2:=⟨_,rfl⟩
  rw[<-hd] at hh;refine Ai (show 0<=_∧_<((l.n:Nat):Int) by rw[hh];omega) ?_;refine Ai ⟨λ_ _=>trivial,rfl⟩ ?_;refine Ai (λhc=>?_) (λhc=>?_)
  ·have hc:decide (kM ((λi=>(l.e i).iD) (IntKind.i64.wrap ((IntKind.u64.wrap ((i:Int)+j)).fdiv (2^min (Int.toNat 1) IntKind.u64.bits))).toNat) q<0)=true:=hc;rw[hh] at hc;have hc:(λi=>(l.e i).iD) h<q:=Bv (Od hc);have h64:XT ((h:Int)+1):=(by unfold XT;omega);refine Ai (show XT (_+1) by rw[hh];exact h64) ?_;refine⟨(h+1,j),[],[],(by show j-(h+1)<j-i;omega),⟨(by omega:h+1<=j),x2,λt ht=>?_,x4⟩,?_⟩;rcases Xs (Nat.le_of_lt_succ ht) with rfl|ht;exact hc;exact Int.lt_trans (hs t h ht (by omega)) hc
   (repeat' (first|apply Ai|exact rfl|intro));all_goals (show ((h+1:Nat):Int)=_+1;rw[hh];rfl)
  have hc:decide (kM ((λi=>(l.e i).iD) (IntKind.i64.wrap ((IntKind.u64.wrap ((i:Int)+j)).fdiv (2^min (Int.toNat 1) IntKind.u64.bits))).toNat) q<0)=false:=hc;rw[hh] at hc;have hc:q<=(λi=>(l.e i).iD) h:=Bw (Xg hc);refine⟨(i,h),[],[],(by show h-i<j-i;omega),⟨(by omega:i<=h),(by omega:h<=l.n),x3,λt h1 h2=>?_⟩,?_⟩;rcases Xs h1 with rfl|h1;exact hc;exact Int.le_trans hc (Int.le_of_lt (hs h t h1 h2))
  (repeat' (first|apply Ai|exact rfl|intro));all_goals exact hh.symm
 have hb:¬(i:Int)<j:=Xg hb;have e:fI (λi=>(l.e i).iD) l.n q=i:=sD (by omega) x3 (λt h1 h2=>x4 t (by omega) h2);refine Ai (λhc=>?_) ?_;have hc:(i:Int)<l.n:=Od hc;exact⟨by omega,hc⟩;refine Ai (λhc=>?_) ?_;exact⟨λ_ _=>trivial,rfl⟩;refine Ai (O' (λk:Nat=>(k:Int)) e) ?_;refine XA (a:=gP (λi=>(l.e i).iD) l.n q) (b:=decide ((i:Int)<l.n)&&decide (kM ((λi=>(l.e i).iD) i) q=0)) ?_ rfl;unfold gP;rw[e]
 congr 1
 exact decide_eq_decide.2 (By (a:=(λi=>(l.e i).iD) i) (b:=q)).symm
noncomputable def TT:XR cx:=af 84 Tryz.call84 (eC rh (Yp .i64) YS) _ _ (λ_=>⟨[],[],[3],0⟩) [] (λ_=>rfl) follows Tryz.func84 (by kernel_rfl) Nn
theorem M3:∀a,aD ((λa=>[(a.1.n:Int)<=rz,Inc (λi=>(a.1.e i).iD) a.1.n,a.2.2=(.v (.func (.func 36) #[] #[]))]) a)->aJ (C:=cx) [TT] [] 0 ak Tryz.f63 ((eC rh (Yp .i64) YS).enc a) λv H _=>ae ((λa=>.tup [i64 (fI (λi=>(a.1.e i).iD) a.1.n a.2.1),.v (.bool (gP (λi=>(a.1.e i).iD) a.1.n a.2.1))]) a) H v:=by intro⟨l,q,x⟩ ⟨hn,hs,hx⟩;replace hx:x=.v (.func (.func 36) #[] #[]):=hx;subst hx;refine Ai ⟨λ_ _ _ _=>trivial,hn,hs,rfl⟩ ?_;repeat' (first|apply Ai|exact rfl|intro)
noncomputable def TG:XR cx:=af 63 Tryz.call63 (eC rh (Yp .i64) YS) _ _ (λ_=>ak) [] (λ_=>rfl) follows Tryz.func63 (by kernel_rfl) M3
set_option maxRecDepth 8000
set_option maxHeartbeats 2000000
theorem Zp.qo{l:Zp}(h:l.inc=true):Inc (λi=>(l.c i).kind) l.n:=Go.Proofs.YtmdpdknpapjchaaGreatDoor.qo (by simpa[Zp.inc] using h)
theorem ZJ.qo{l:ZJ}(h:l.inc=true):Inc (λi=>(l.e i).iD) l.n:=Go.Proofs.YtmdpdknpapjchaaGreatDoor.qo (by simpa[ZJ.inc] using h)
structure XO.pK (e:XO):Prop where
 lo:1<=e.iD
 hi:e.iD<=65536
 inc:Inc (λi=>(e.l.c i).kind) e.l.n
 fits:∀i,i<e.l.n->(e.l.c i).Fits
theorem XO.g7 : e.right=true↔e.pK:=by constructor;intro h;simp only[XO.right,I',U',Bool.not_eq_true'] at h;obtain⟨⟨⟨h1,h2⟩,h3⟩,h4⟩:=h;exact⟨h1,h2,Zp.qo h3,λi hi=>by have:=ja h4 i (F9 _) (by omega);simpa[aZ.fits] using this⟩;intro h;simp only[XO.right,I',U',Bool.not_eq_true'];exact⟨⟨⟨h.lo,h.hi⟩,by simp[Zp.inc,ta h.inc]⟩,pH λi _ hi=>by simp[fy (h.fits i (by omega))]⟩
structure XU.Valid (w:XU):Prop where
 lo:0<=w.tick
 hi:w.tick<=1073741824
 len:(w.l.n:Int)<=64
 inc:Inc (λi=>(w.l.e i).iD) w.l.n
 right:∀i,i<w.l.n->(w.l.e i).pK
theorem XU.cA : w.valid=true↔w.Valid:=by constructor;intro h;simp only[XU.valid,I',U',Bool.not_eq_true'] at h;obtain⟨⟨⟨⟨h1,h2⟩,h3⟩,h4⟩,h5⟩:=h;exact⟨h1,h2,h3,ZJ.qo h4,λi hi=>by have:=ja h5 i (F9 _) (by omega);exact XO.g7.1 (by simpa using this)⟩;intro h;simp only[XU.valid,I',U',Bool.not_eq_true'];exact⟨⟨⟨⟨h.lo,h.hi⟩,h.len⟩,by simp[ZJ.inc,ta h.inc]⟩,pH λi _ hi=>by simp[XO.g7.2 (h.right i (by omega))]⟩
theorem S7(h:Inc key n)(hb:∀i,i<n->b<=key i):∀i,i<n->b+i<=key i:=λi=>by
 induction i with
 | zero=>intro hi;have:=hb 0 hi;simpa using this
 | succ i ih=>
  intro hi;have h1:=ih (by omega);have h2:=h i (i+1) (by omega) hi;omega
theorem Pb{c:Int}(h:Inc key n)(hb:∀i,i<n->b<=key i∧key i<=c)(hbc:b<=c+1):(n:Int)<=c+1-b:=by by_cases hn:n=0;subst hn;omega;have h1:=S7 h (λi hi=>(hb i hi).1) (n-1) (by omega);have h2:=(hb (n-1) (by omega)).2;omega
theorem XO.pK.len(h:e.pK):(e.l.n:Int)<=10:=by have:=Pb (b:=1) (c:=10) h.inc (λi hi=>⟨(h.fits i hi).1,(h.fits i hi).2.1⟩) (by omega);omega
def av(w:XU)(id:Int):Nat×Bool:=match w.valid with
 | true=>(fI (λi=>(w.l.e i).iD) w.l.n id,gP (λi=>(w.l.e i).iD) w.l.n id)
 | false=>(0,false)
theorem IG:∀a,aD ((λa=>[a.1.l.Sm]) a)->aJ (C:=cx) [gl,TG] [] 0 ak Tryz.f31 ((aH cI (Yp .i64)).enc a) λv H _=>ae ((λa=>.tup [i64 (av a.1 a.2).1,.v (.bool (av a.1 a.2).2)]) a) H v:=by
 intro⟨w,id⟩ hm;replace hm:w.l.Sm:=hm;refine Ai ⟨λ_ _ _ _=>trivial,hm⟩ ?_;refine Ai (λhv=>?_) (λhv=>?_)
 ·have hv:(!w.valid)=true:=hv;have hv:w.valid=false:=(by simpa using hv);have e:av w id=(0,false):=(by unfold av;rw[hv]);simp only[e];repeat' (first|apply Ai|exact rfl|intro)
 have hv:(!w.valid)=false:=hv;have hv:w.valid=true:=by simpa using hv
 have e:av w id=(fI (λi=>(w.l.e i).iD) w.l.n id,gP (λi=>(w.l.e i).iD) w.l.n id):=by unfold av;rw[hv]
 simp only[e];have hl:(w.l.n:Int)<=rz:=by have:=(XU.cA.1 hv).len;unfold rz;omega
 refine Ai ⟨λ_ _ _ _=>trivial,hl,(XU.cA.1 hv).inc,rfl⟩ ?_;repeat' (first|apply Ai|exact rfl|intro)
noncomputable def pA:XR cx:=af 31 Tryz.call31 (aH cI (Yp .i64)) _ _ (λ_=>ak) [] (λ_=>rfl) follows Tryz.func31 (by kernel_rfl) IG
def aZ.no:aZ:=⟨0,0,0,0,0⟩
theorem uE{id:Int}(h:(av w id).2=true):w.Valid∧(av w id).1<w.l.n∧(w.l.e (av w id).1).iD=id:=by
 unfold av at *;cases hv:w.valid with
 | false=>rw[hv] at h;cases h
 | true=>
  rw[hv] at h;exact⟨XU.cA.1 hv,jC.1 h⟩
def qv(l:Zp)(kind:Int):aZ×Bool:=match gP (λi=>(l.c i).kind) l.n kind with
 | true=>(l.c (fI (λi=>(l.c i).kind) l.n kind),true)
 | false=>(aZ.no,false)
def oF(w:XU)(id kind:Int):aZ×Bool:=match (av w id).2 with
 | true=>qv (w.l.e (av w id).1).l kind
 | false=>(aZ.no,false)
theorem Nd:∀a,aD ((λa=>[a.1.l.Sm]) a)->aJ (C:=cx) [pA,TH] [] 0 ak Tryz.f11 ((eC cI (Yp .i64) (Yp .u8)).enc a) λv H _=>ae ((λa=>.tup [(oF a.1 a.2.1 a.2.2).1.sv,.v (.bool (oF a.1 a.2.1 a.2.2).2)]) a) H v:=by
 intro⟨w,id,kind⟩ hm;replace hm:w.l.Sm:=hm;refine Ai ⟨λ_ _ _ _=>trivial,hm⟩ ?_;refine Ai (λhv=>?_) (λhv=>?_)
 ·have hv:(!(av w id).2)=true:=hv;have hv:(av w id).2=false:=(by simpa using hv);have e:oF w id kind=(aZ.no,false):=(by unfold oF;rw[hv]);simp only[e];repeat' (first|apply Ai|exact rfl|intro)
 have hv:(!(av w id).2)=false:=hv;have hv:(av w id).2=true:=by simpa using hv
 have e:oF w id kind=qv (w.l.e (av w id).1).l kind:=by unfold oF;rw[hv]
 simp only[e];obtain⟨h1,h2,h3⟩:=uE hv;have hr:=h1.right _ h2;have hl:=hr.len;have q1:(0:Int)<=((av w id).1:Int)∧((av w id).1:Int)<w.l.n:=⟨by omega,by omega⟩
 have q2:((w.l.e (av w id).1).l.n:Int)<=rz:=by unfold rz;omega
 refine Ai q1 ?_;refine Ai ⟨λ_ _=>trivial,q2,hr.inc,rfl⟩ ?_;refine Ai (λhc=>?_) (λhc=>?_)
 ·have hc:(!gP (λj=>((w.l.e (av w id).1).l.c j).kind) (w.l.e (av w id).1).l.n kind)=true:=hc;have hc:gP (λj=>((w.l.e (av w id).1).l.c j).kind) (w.l.e (av w id).1).l.n kind=false:=(by simpa using hc);have e:qv (w.l.e (av w id).1).l kind=(aZ.no,false):=(by unfold qv;rw[hc]);simp only[e];repeat' (first|apply Ai|exact rfl|intro)
 have hc:(!gP (λj=>((w.l.e (av w id).1).l.c j).kind) (w.l.e (av w id).1).l.n kind)=false:=hc;have hc:gP (λj=>((w.l.e (av w id).1).l.c j).kind) (w.l.e (av w id).1).l.n kind=true:=by simpa using hc
 have e:qv (w.l.e (av w id).1).l kind=((w.l.e (av w id).1).l.c (fI (λj=>((w.l.e (av w id).1).l.c j).kind) (w.l.e (av w id).1).l.n kind),true):=by unfold qv;rw[hc]
 simp only[e];have h4:=(jC.1 hc).1;have q3:(0:Int)<=(fI (λj=>((w.l.e (av w id).1).l.c j).kind) (w.l.e (av w id).1).l.n kind:Int)∧(fI (λj=>((w.l.e (av w id).1).l.c j).kind) (w.l.e (av w id).1).l.n kind:Int)<(w.l.e (av w id).1).l.n:=⟨by omega,by omega⟩
 refine Ai q1 ?_;refine Ai q3 ?_;repeat' (first|apply Ai|exact rfl|intro)
noncomputable def TN:XR cx:=af 11 Tryz.call11 (eC cI (Yp .i64) (Yp .u8)) _ _ (λ_=>ak) [] (λ_=>rfl) follows Tryz.func11 (by kernel_rfl) Nd
def YK(g:Nat->Bool):Nat->Nat->Nat
 | k,0=>k
 | k,r+1=>match g k with|true=>k|false=>YK g (k+1) r
theorem jz(h:k<n):YK g k (n-k)=match g k with|true=>k|false=>YK g (k+1) (n-(k+1)):=by rw[show n-k=(n-(k+1))+1 by omega];rfl
theorem C0{g:Nat->Bool} : ∀{r k:Nat},k<=YK g k r∧YK g k r<=k+r
 | 0,k=>⟨F2 _,F2 _⟩
 | r+1,k=>by simp only[YK];split;omega;have:=C0 (g:=g) (r:=r) (k:=k+1);omega
theorem E3{g:Nat->Bool} : ∀{r k:Nat},YK g k r<k+r->g (YK g k r)=true
 | 0,k,h=>by simp[YK] at h
 | r+1,k,h=>by simp only[YK] at h ⊢;split at h;rename_i hg;exact hg;exact E3 (by omega)
theorem KI{g:Nat->Bool} : ∀{r k i:Nat},k<=i->i<YK g k r->g i=false
 | 0,k,i,h1,h2=>by simp[YK] at h2;omega
 | r+1,k,i,h1,h2=>by simp only[YK] at h2;split at h2;omega;rename_i hg;rcases Xs h1 with rfl|h1;exact hg;exact KI h1 h2
def YO(g:Nat->Bool)(n:Nat):Int:=match decide (YK g 0 n<n) with|true=>(YK g 0 n:Int)|false=>-1
theorem iX(h:YK g 0 n=k)(hk:k<n):YO g n=k:=by unfold YO;rw[h,Xj hk]
theorem gI(h:YK g 0 n=n):YO g n = -1:=by unfold YO;rw[h,Xi (Nat.lt_irrefl n)]
def rkI:SV->Int
 | .rp (y::_) _=>y.iv
 | _=>0
def kxI:SV->Int
 | .f _ _ (y::_)=>rkI y
 | _=>0
def bu(l:Zp)(q:Int):aZ×Bool:=match decide (YK (λi=>decide ((l.c i).kind=q)) 0 l.n<l.n) with
 | true=>(l.c (YK (λi=>decide ((l.c i).kind=q)) 0 l.n),true)
 | false=>(aZ.no,false)
set_option maxRecDepth 8000
set_option maxHeartbeats 2000000
theorem DZ:∀a,aD ((λa=>[a.n<=1000]) a)->aJ (C:=cx) [] [] 0 ak Tryz.f83 ((bh gU).enc a) λv H _=>ae ((λa=>a.sv) a) H v:=by
 intro l hm;replace hm:l.n<=1000:=hm;intro b hb;refine Ai (λh=>?_) (λh=>?_);have h:(b != false)=true:=h;exact hb (by simpa using h);have hf:gQ l.n 40:=⟨Nat.le_trans hm (by decide),by omega⟩
 refine Ai hf ?_;repeat' (first|apply Ai|exact rfl|intro)
 all_goals (show (_:Int)=_;rw[B'])
noncomputable def Bs:XR cx:=af 83 Tryz.call83 (bh gU) _ _ (λ_=>ak) [] (λ_=>rfl) follows Tryz.func83 (by kernel_rfl) DZ
theorem Ie:∀a,aD ((λa=>[a.l.n<=1000]) a)->aJ (C:=cx) [Bs] [] 0 ak Tryz.f56 ((bh eE).enc a) λv H _=>ae ((λa=>a.sv) a) H v:=by intro e hm;refine Ai ⟨λ_ _=>trivial,hm⟩ ?_;repeat' (first|apply Ai|exact rfl|intro)
noncomputable def sN:XR cx:=af 56 Tryz.call56 (bh eE) _ _ (λ_=>ak) [] (λ_=>rfl) follows Tryz.func56 (by kernel_rfl) Ie
def XO.no:XO:=⟨0,⟨0,λ_=>aZ.no⟩⟩
def rS(w:XU)(id:Int):XO×Bool:=match (av w id).2 with
 | true=>(w.l.e (av w id).1,true)
 | false=>(XO.no,false)
theorem BW:∀a,aD ((λa=>[a.1.l.Sm]) a)->aJ (C:=cx) [pA,sN] [] 0 ak Tryz.f27 ((aH cI (Yp .i64)).enc a) λv H _=>ae ((λa=>.tup [(rS a.1 a.2).1.sv,.v (.bool (rS a.1 a.2).2)]) a) H v:=by
 intro⟨w,id⟩ hm;replace hm:w.l.Sm:=hm;refine Ai ⟨λ_ _ _ _=>trivial,hm⟩ ?_;refine Ai (λhv=>?_) (λhv=>?_)
 ·have hv:(!(av w id).2)=true:=hv;have hv:(av w id).2=false:=(by simpa using hv);have e:rS w id=(XO.no,false):=(by unfold rS;rw[hv]);simp only[e];repeat' (first|apply Ai|exact rfl|intro)
 have hv:(!(av w id).2)=false:=hv;have hv:(av w id).2=true:=by simpa using hv
 have e:rS w id=(w.l.e (av w id).1,true):=by unfold rS;rw[hv]
 simp only[e];obtain⟨h1,h2,h3⟩:=uE hv;have hl:=(h1.right _ h2).len;have q1:(0:Int)<=((av w id).1:Int)∧((av w id).1:Int)<w.l.n:=⟨by omega,by omega⟩
 have q2:(w.l.e (av w id).1).l.n<=1000:=by omega
 refine Ai q1 ?_;refine Ai ⟨λ_ _=>trivial,q2⟩ ?_;repeat' (first|apply Ai|exact rfl|intro)
noncomputable def xh:XR cx:=af 27 Tryz.call27 (aH cI (Yp .i64)) _ _ (λ_=>ak) [] (λ_=>rfl) follows Tryz.func27 (by kernel_rfl) BW
def zWc:List SV:=[.il .i64 0,.v (.slice none 0 0)]
def WQ(e:XO):List SV:=[.v (.int .i64 e.iD),e.l.sv]
def Rx(w:XU):Cut:=⟨Nat,λk=>k<=w.l.n,λk=>⟨[sl 2 (.p 1 0),sl 3 (.p 2 0),sl 10 w.l.sv,sl 11 (i64 w.l.n),sl 12 (i64 k)],
 [(1,.lay zWc 28),(2,.lay [.v (.int .i64 w.tick),.g 3 4 2 0 k] 28),(3,.lst 4 2 k (λi=>WQ (w.l.e i)) 39)],5,0,[],[]⟩,λk=>w.l.n-k⟩
theorem gN{α:Type}(f:Nat->α)(h:i<k+1):f i=bif Nat.ble k i then f k else f i:=by
 cases hb:Nat.ble k i with
 | false=>rfl
 | true=>rw[show i=k by have:=F4 hb;omega];rfl
set_option maxHeartbeats 2000000 in
set_option maxRecDepth 8000 in
theorem BZ:∀a,aD ((λa=>[∀i,i<a.l.n->(a.l.e i).l.n<=1000,a.l.n<=1000]) a)->aJ (C:=cx) [Bs] [] 0 ⟨[],[],[3],1⟩ Tryz.f93 ((bh cI).enc a) λv H _=>se ((λa=>a.sv) a) 39 H v:=by
 intro w ⟨hm,hn⟩;replace hm:∀i,i<w.l.n->(w.l.e i).l.n<=1000:=hm;replace hn:w.l.n<=1000:=hn;refine F8 (Rx w) ?_;refine Ai ?_ ?_
 ·refine⟨(0:Nat),[],[.cell2 2 1 2 39],trivial,F9 _,?_⟩;repeat' (first|apply Ai|exact rfl|intro)
  all_goals exact P' ‹_<0› (F1 _)
 refine fun(k:Nat) (hk:k<=w.l.n)=>?_;refine Ai (λhb=>?_) (λhb=>?_)
 ·have hb:(k:Int)<w.l.n:=Od hb;refine Ai ⟨by omega,by omega⟩ ?_;refine Ai ⟨λ_ _=>trivial,hm k (by omega)⟩ ?_;have Yo:gQ (k+1) 32:=⟨Nat.le_trans (by omega:k+1<=1001) (by decide),by omega⟩
  refine Ai ⟨Yo,?_⟩ ?_
  ·(repeat' (first|apply Ai|exact rfl|intro));all_goals exact trivial
  refine Ai (by unfold XT;omega:XT ((k:Int)+1)) ?_;refine⟨k+1,[(4,7)],[],(by show w.l.n-(k+1)<w.l.n-k;omega),(by omega:k+1<=w.l.n),?_⟩;repeat' (first|apply Ai|exact rfl|intro)
  rename_i i hi;exact gN (λi=>(w.l.e i).iD) hi;rename_i i hi;exact gN (λi=>(w.l.e i).l.n) hi;rename_i i hi j hj;exact gN (λi=>((w.l.e i).l.c j).kind) hi;rename_i i hi j hj;exact gN (λi=>((w.l.e i).l.c j).v0) hi;rename_i i hi j hj;exact gN (λi=>((w.l.e i).l.c j).v1) hi;rename_i i hi j hj;exact gN (λi=>((w.l.e i).l.c j).v2) hi;rename_i i hi j hj;exact gN (λi=>((w.l.e i).l.c j).v3) hi
 have hb:¬(k:Int)<w.l.n:=Xg hb;obtain rfl:k=w.l.n:=by omega
 repeat' (first|apply Ai|exact rfl|intro)
 exact(O' (λq=>(w.l.e q).iD) (B' _)).symm;exact(O' (λq=>(w.l.e q).l.n) (B' _)).symm;rename_i i hi j hj;exact(O' (λq=>((w.l.e q).l.c j).kind) (B' _)).symm;rename_i i hi j hj;exact(O' (λq=>((w.l.e q).l.c j).v0) (B' _)).symm;rename_i i hi j hj;exact(O' (λq=>((w.l.e q).l.c j).v1) (B' _)).symm;rename_i i hi j hj;exact(O' (λq=>((w.l.e q).l.c j).v2) (B' _)).symm;rename_i i hi j hj;exact(O' (λq=>((w.l.e q).l.c j).v3) (B' _)).symm
noncomputable def HL:XR cx:=y9 93 Tryz.call93 (bh cI) (λa=>[∀i,i<a.l.n->(a.l.e i).l.n<=1000,a.l.n<=1000]) (λa=>a.sv) 39 (λ_=>⟨[],[],[3],1⟩) [] (λ_=>rfl) follows Tryz.func93 (by kernel_rfl) BZ
end
end Go.Proofs.YtmdpdknpapjchaaGreatDoor
