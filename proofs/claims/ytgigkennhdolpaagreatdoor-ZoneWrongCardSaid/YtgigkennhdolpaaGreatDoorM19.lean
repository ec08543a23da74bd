/- store: ContainsFunc, Right, Valid.. -/
import Derived.Test.YtgigkennhdolpaaGreatDoorM18
import Derived.Test.YtgigkennhdolpaaGreatDoorM16
import Derived.Test.YtgigkennhdolpaaGreatDoorM17
import Derived.Test.YtgigkennhdolpaaGreatDoorM2
namespace Go.Proofs.YtgigkennhdolpaaGreatDoor
open Go.RowKit
set_option maxRecDepth 8000
set_option maxHeartbeats 2000000
def WL.Sm(l:WL):Prop:=(l.n:Int)<=bY∧∀i,i<l.n->0<=(l.c i).kind∧(l.c i).kind<=255
def WU.Sm(l:WU):Prop:=(l.n:Int)<=bY∧∀i,i<l.n->(l.e i).l.Sm
def WL.inc(l:WL):Bool:=!gv (λi=>(l.c i).kind) 1 (l.n-1)
def WU.inc(l:WU):Bool:=!gv (λi=>(l.e i).iD) 1 (l.n-1)
theorem Ad:∀a,aH ((λa=>[0<=a.kind∧a.kind<=255]) a)->aM (C:=cx) [Nc] [] 0 av Tryz.f99 ((bh gV).enc a) λv H _=>ae ((λa=>.v (.bool (!a.fits))) a) H v:=by intro c hk;refine Ai hk ?_;exact rfl
noncomputable def Fo:UO cx:=ai 99 Tryz.call99 (bh gV) _ _ (λ_=>av) [] (λ_=>rfl) follows Tryz.func99 (by kernel_rfl) Ad
noncomputable def P9:V3 cx:=⟨93,Tryz.call93,Tryz.f93,Tryz.func93,[],[],[2],0,by kernel_rfl⟩
def Mq(l:WL):Cut:=⟨Nat,λk=>k<=l.n∧bN (λi=>!(l.c i).fits) 0 l.n=bN (λi=>!(l.c i).fits) k (l.n-k),
 λk=>⟨[sl 0 l.sv,sl 1 (.v (.func (.func 99) #[] #[])),sl 7 (i64 l.n),sl 8 (i64 k)],[],0,0,[],[]⟩,λk=>l.n-k⟩
theorem Gt:∀a,aH ((λa=>[a.1.Sm,a.2=(.v (.func (.func 99) #[] #[]))]) a)->aM (C:=cx) [Fo] [P9] 1 av Tryz.f98 ((aL jc V4).enc a) λv H _=>ae ((λa=>.v (.bool (bN (λi=>!(a.1.c i).fits) 0 a.1.n))) a) H v:=by
 intro⟨l,x⟩ ⟨hn,hx⟩;replace hx:x=.v (.func (.func 99) #[] #[]):=hx;subst hx;replace hn:l.Sm:=hn;have hm:(l.n:Int)<=9223372036854775807:=hn.1;refine Uh (Mq l) ?_;refine Ai ?_ ?_
 ·refine⟨(0:Nat),[],[],trivial,⟨Ui _,rfl⟩,?_⟩;repeat' (first|refine Ai ?_ ?_|intro _|exact rfl)
 refine fun(k:Nat) (hk:k<=l.n∧bN (λi=>!(l.c i).fits) 0 l.n=bN (λi=>!(l.c i).fits) k (l.n-k))=>?_;obtain⟨k1,k2⟩:=hk;refine Ai (λhb=>?_) (λhb=>?_)
 ·have hb:(k:Int)<l.n:=Od hb;have e:=dS (g:=(λi=>!(l.c i).fits)) (k:=k) (n:=l.n) (by omega);refine Ai ⟨by omega,by omega⟩ ?_;refine Ai (hn.2 k (by omega)) ?_;refine Ai (λhc=>?_) (λhc=>?_);have hc:(!(l.c k).fits)=true:=hc;simp only[hc] at e;refine UK (a:=bN (λi=>!(l.c i).fits) 0 l.n) (b:=decide (0<=(k:Int))) ?_ rfl;rw[k2,e,Uu (by omega)];have hc:(!(l.c k).fits)=false:=hc;simp only[hc] at e;refine Ai (by unfold UP;omega:UP ((k:Int)+1)) ?_;refine⟨k+1,[],[],(by show l.n-(k+1)<l.n-k;omega),⟨by omega,by rw[k2,e]⟩,?_⟩;repeat' (first|refine Ai ?_ ?_|intro _|exact rfl)
 have hb:¬(k:Int)<l.n:=Ur hb;have e:bN (λi=>!(l.c i).fits) 0 l.n=false:=by rw[k2,show l.n-k=0 by omega];rfl
 exact e
noncomputable def M8:UO cx:=ai 98 Tryz.call98 (aL jc V4) _ _ (λ_=>av) [] (λ_=>rfl) follows Tryz.func98 (by kernel_rfl) Gt
def U3.right(e:U3):Bool:=decide (1<=e.iD)&&decide (e.iD<=65536)&&e.l.inc&&!bN (λi=>!(e.l.c i).fits) 0 e.l.n
theorem BU:∀a,aH ((λa=>[a.l.Sm]) a)->aM (C:=cx) [MX,M8] [] 0 av Tryz.f63 ((bh g8).enc a) λv H _=>ae ((λa=>.v (.bool a.right)) a) H v:=by intro a hm;replace hm:a.l.Sm:=hm;refine Ai (λ_=>⟨λ_ _=>trivial,hm.1,rfl⟩) ?_;refine Ai (λ_=>⟨λ_ _=>trivial,hm,rfl⟩) ?_;exact rfl
noncomputable def zD:UO cx:=ai 63 Tryz.call63 (bh g8) _ _ (λ_=>av) [] (λ_=>rfl) follows Tryz.func63 (by kernel_rfl) BU
theorem z6:∀a,aH ((λa=>[a.l.Sm]) a)->aM (C:=cx) [zD] [] 0 av Tryz.f62 ((bh g8).enc a) λv H _=>ae ((λa=>.v (.bool (!a.right))) a) H v:=by intro a hm;refine Ai ⟨λ_ _=>trivial,hm⟩ ?_;exact rfl
noncomputable def Fi:UO cx:=ai 62 Tryz.call62 (bh g8) _ _ (λ_=>av) [] (λ_=>rfl) follows Tryz.func62 (by kernel_rfl) z6
noncomputable def P8:V3 cx:=⟨96,Tryz.call96,Tryz.f96,Tryz.func96,[],[],[2],0,by kernel_rfl⟩
def Mp(l:WU):Cut:=⟨Nat,λk=>k<=l.n∧bN (λi=>!(l.e i).right) 0 l.n=bN (λi=>!(l.e i).right) k (l.n-k),
 λk=>⟨[sl 0 l.sv,sl 1 (.v (.func (.func 62) #[] #[])),sl 7 (i64 l.n),sl 8 (i64 k)],[],0,0,[],[]⟩,λk=>l.n-k⟩
theorem Gq:∀a,aH ((λa=>[a.1.Sm,a.2=(.v (.func (.func 62) #[] #[]))]) a)->aM (C:=cx) [Fi] [P8] 1 av Tryz.f61 ((aL Cz V4).enc a) λv H _=>ae ((λa=>.v (.bool (bN (λi=>!(a.1.e i).right) 0 a.1.n))) a) H v:=by
 intro⟨l,x⟩ ⟨hn,hx⟩;replace hx:x=.v (.func (.func 62) #[] #[]):=hx;subst hx;replace hn:l.Sm:=hn;have hm:(l.n:Int)<=9223372036854775807:=hn.1;refine Uh (Mp l) ?_;refine Ai ?_ ?_
 ·refine⟨(0:Nat),[],[],trivial,⟨Ui _,rfl⟩,?_⟩;repeat' (first|refine Ai ?_ ?_|intro _|exact rfl)
 refine fun(k:Nat) (hk:k<=l.n∧bN (λi=>!(l.e i).right) 0 l.n=bN (λi=>!(l.e i).right) k (l.n-k))=>?_;obtain⟨k1,k2⟩:=hk;refine Ai (λhb=>?_) (λhb=>?_)
 ·have hb:(k:Int)<l.n:=Od hb;have e:=dS (g:=(λi=>!(l.e i).right)) (k:=k) (n:=l.n) (by omega);refine Ai ⟨by omega,by omega⟩ ?_;refine Ai (⟨λ_ _=>trivial,hn.2 k (by omega)⟩) ?_;refine Ai (λhc=>?_) (λhc=>?_);have hc:(!(l.e k).right)=true:=hc;simp only[hc] at e;refine UK (a:=bN (λi=>!(l.e i).right) 0 l.n) (b:=decide (0<=(k:Int))) ?_ rfl;rw[k2,e,Uu (by omega)];have hc:(!(l.e k).right)=false:=hc;simp only[hc] at e;refine Ai (by unfold UP;omega:UP ((k:Int)+1)) ?_;refine⟨k+1,[],[],(by show l.n-(k+1)<l.n-k;omega),⟨by omega,by rw[k2,e]⟩,?_⟩;repeat' (first|refine Ai ?_ ?_|intro _|exact rfl)
 have hb:¬(k:Int)<l.n:=Ur hb;have e:bN (λi=>!(l.e i).right) 0 l.n=false:=by rw[k2,show l.n-k=0 by omega];rfl
 exact e
noncomputable def M7:UO cx:=ai 61 Tryz.call61 (aL Cz V4) _ _ (λ_=>av) [] (λ_=>rfl) follows Tryz.func61 (by kernel_rfl) Gq
def U8.valid(w:U8):Bool:=decide (0<=w.tick)&&decide (w.tick<=1073741824)&&decide ((w.l.n:Int)<=64)&&w.l.inc&&!bN (λi=>!(w.l.e i).right) 0 w.l.n
theorem z5:∀a,aH ((λa=>[a.l.Sm]) a)->aM (C:=cx) [MW,M7] [] 0 av Tryz.f23 ((bh c8).enc a) λv H _=>ae ((λa=>.v (.bool a.valid)) a) H v:=by intro a hm;replace hm:a.l.Sm:=hm;refine Ai (λ_=>⟨λ_ _ _ _=>trivial,hm.1,rfl⟩) ?_;refine Ai (λ_=>⟨λ_ _ _ _=>trivial,hm,rfl⟩) ?_;exact rfl
noncomputable def iE:UO cx:=ai 23 Tryz.call23 (bh c8) _ _ (λ_=>av) [] (λ_=>rfl) follows Tryz.func23 (by kernel_rfl) z5
end Go.Proofs.YtgigkennhdolpaaGreatDoor
namespace Go.Proofs.YtgigkennhdolpaaGreatDoor
end Go.Proofs.YtgigkennhdolpaaGreatDoor
namespace Go.Proofs.YtgigkennhdolpaaGreatDoor
open Go.RowKit
theorem wu(n:Int):IntKind.u64.wrap n=n%18446744073709551616:=rfl
theorem p32:(2:Int)^min (Int.toNat 32) IntKind.u64.bits=4294967296:=rfl
theorem SP(a:Int):a.fdiv 4294967296=a/4294967296:=Int.fdiv_eq_ediv_of_nonneg a (by omega)
theorem tD{A i:Nat}(h:A<18446744073709551616)(hi:i<64):eh .and .u64 (A:Int) ((2^i-1:Nat):Int)=((A%2^i:Nat):Int):=by
 have hp:2^i-1<18446744073709551616:=by have:2^i<2^64:=Nat.pow_lt_pow_right (by omega) hi;omega
 unfold eh;have e1:(BitVec.ofInt 64 (A:Int)).toNat=A:=by rw[BitVec.ofInt_natCast,BitVec.toNat_ofNat,Nat.mod_eq_of_lt (by omega)]
 have e2:(BitVec.ofInt 64 ((2^i-1:Nat):Int)).toNat=2^i-1:=by rw[BitVec.ofInt_natCast,BitVec.toNat_ofNat,Nat.mod_eq_of_lt (by omega)]
 have e3:(BitVec.ofInt 64 (A:Int) &&& BitVec.ofInt 64 ((2^i-1:Nat):Int)).toNat=A%2^i:=by rw[BitVec.toNat_and,e1,e2,Nat.and_two_pow_sub_one_eq_mod]
 show IntKind.u64.wrap ((BitVec.ofInt 64 (A:Int) &&& BitVec.ofInt 64 ((2^i-1:Nat):Int)).toNat:Int)=_;rw[e3,wu];have:=Nat.mod_le A (2^i);omega
theorem zV{a:Int}(h0:0<=a)(h:a<18446744073709551616):eh .and .u64 a 4294967295=a%4294967296:=by obtain⟨A,rfl⟩:=Int.eq_ofNat_of_zero_le h0;have:=tD (A:=A) (i:=32) (by omega) (by omega);simpa using this
theorem WL.pn{l:WL}(h:l.inc=true):Inc (λi=>(l.c i).kind) l.n:=Go.Proofs.YtgigkennhdolpaaGreatDoor.pn (by simpa[WL.inc] using h)
theorem WU.pn{l:WU}(h:l.inc=true):Inc (λi=>(l.e i).iD) l.n:=Go.Proofs.YtgigkennhdolpaaGreatDoor.pn (by simpa[WU.inc] using h)
structure U3.vp (e:U3):Prop where
 lo:1<=e.iD
 hi:e.iD<=65536
 inc:Inc (λi=>(e.l.c i).kind) e.l.n
 fits:∀i,i<e.l.n->(e.l.c i).Fits
theorem U3.uF{e:U3} : e.right=true↔e.vp:=by constructor;intro h;simp only[U3.right,Uk,Uq,Bool.not_eq_true'] at h;obtain⟨⟨⟨h1,h2⟩,h3⟩,h4⟩:=h;exact⟨h1,h2,WL.pn h3,λi hi=>by have:=gG h4 i (Ui _) (by omega);simpa[bd.fits] using this⟩;intro h;simp only[U3.right,Uk,Uq,Bool.not_eq_true'];exact⟨⟨⟨h.lo,h.hi⟩,by simp[WL.inc,rE h.inc]⟩,xj λi _ hi=>by simp[eS (h.fits i (by omega))]⟩
structure U8.Valid (w:U8):Prop where
 lo:0<=w.tick
 hi:w.tick<=1073741824
 len:(w.l.n:Int)<=64
 inc:Inc (λi=>(w.l.e i).iD) w.l.n
 right:∀i,i<w.l.n->(w.l.e i).vp
theorem U8.ew{w:U8} : w.valid=true↔w.Valid:=by constructor;intro h;simp only[U8.valid,Uk,Uq,Bool.not_eq_true'] at h;obtain⟨⟨⟨⟨h1,h2⟩,h3⟩,h4⟩,h5⟩:=h;exact⟨h1,h2,h3,WU.pn h4,λi hi=>by have:=gG h5 i (Ui _) (by omega);exact U3.uF.1 (by simpa using this)⟩;intro h;simp only[U8.valid,Uk,Uq,Bool.not_eq_true'];exact⟨⟨⟨⟨h.lo,h.hi⟩,h.len⟩,by simp[WU.inc,rE h.inc]⟩,xj λi _ hi=>by simp[U3.uF.2 (h.right i (by omega))]⟩
theorem P4{key:Nat->Int}{n:Nat}{b:Int}(h:Inc key n)(hb:∀i,i<n->b<=key i):∀i,i<n->b+i<=key i:=λi=>by
 induction i with
 | zero=>intro hi;have:=hb 0 hi;simpa using this
 | succ i ih=>
  intro hi;have h1:=ih (by omega);have h2:=h i (i+1) (by omega) hi;omega
theorem Mi{key:Nat->Int}{n:Nat}{b c:Int}(h:Inc key n)(hb:∀i,i<n->b<=key i∧key i<=c)(hbc:b<=c+1):(n:Int)<=c+1-b:=by by_cases hn:n=0;subst hn;omega;have h1:=P4 h (λi hi=>(hb i hi).1) (n-1) (by omega);have h2:=(hb (n-1) (by omega)).2;omega
theorem U3.vp.len{e:U3}(h:e.vp):(e.l.n:Int)<=10:=by have:=Mi (b:=1) (c:=10) h.inc (λi hi=>⟨(h.fits i hi).1,(h.fits i hi).2.1⟩) (by omega);omega
def bd.no:bd:=⟨0,0,0,0,0⟩
def VI(g:Nat->Bool):Nat->Nat->Nat
 | k,0=>k
 | k,r+1=>match g k with|true=>k|false=>VI g (k+1) r
theorem iR{g:Nat->Bool}{k n:Nat}(h:k<n):VI g k (n-k)=match g k with|true=>k|false=>VI g (k+1) (n-(k+1)):=by rw[show n-k=(n-(k+1))+1 by omega];rfl
theorem Bl{g:Nat->Bool} : ∀{r k:Nat},k<=VI g k r∧VI g k r<=k+r
 | 0,k=>⟨I' _,I' _⟩
 | r+1,k=>by simp only[VI];split;omega;have:=Bl (g:=g) (r:=r) (k:=k+1);omega
theorem C4{g:Nat->Bool} : ∀{r k:Nat},VI g k r<k+r->g (VI g k r)=true
 | 0,k,h=>by simp[VI] at h
 | r+1,k,h=>by simp only[VI] at h ⊢;split at h;rename_i hg;exact hg;exact C4 (by omega)
def VM(g:Nat->Bool)(n:Nat):Int:=match decide (VI g 0 n<n) with|true=>(VI g 0 n:Int)|false=>-1
theorem im{g:Nat->Bool}{n k:Nat}(h:VI g 0 n=k)(hk:k<n):VM g n=k:=by unfold VM;rw[h,Uu hk]
theorem ga{g:Nat->Bool}{n:Nat}(h:VI g 0 n=n):VM g n = -1:=by unfold VM;rw[h,Ut (Nat.lt_irrefl n)]
def rkI:SV->Int
 | .rp (y::_) _=>y.iv
 | _=>0
def kxI:SV->Int
 | .f _ _ (y::_)=>rkI y
 | _=>0
def bx(l:WL)(q:Int):bd×Bool:=match decide (VI (λi=>decide ((l.c i).kind=q)) 0 l.n<l.n) with
 | true=>(l.c (VI (λi=>decide ((l.c i).kind=q)) 0 l.n),true)
 | false=>(bd.no,false)
set_option maxHeartbeats 2000000 in
set_option maxRecDepth 8000 in
theorem B3:∀a,aH ((λa=>[a.n<=1000]) a)->aM (C:=cx) [] [] 0 av Tryz.f92 ((bh jc).enc a) λv H _=>ae ((λa=>a.sv) a) H v:=by
 intro l hm;replace hm:l.n<=1000:=hm;intro b hb;refine Ai (λh=>?_) (λh=>?_);have h:(b != false)=true:=h;exact hb (by simpa using h);have hf:dW l.n 40:=⟨Nat.le_trans hm (by decide),by omega⟩
 refine Ai hf ?_;repeat' (first|refine Ai ?_ ?_|intro _|exact rfl)
 all_goals (show (_:Int)=_;rw[B'])
noncomputable def JY:UO cx:=ai 92 Tryz.call92 (bh jc) _ _ (λ_=>av) [] (λ_=>rfl) follows Tryz.func92 (by kernel_rfl) B3
def U3.no:U3:=⟨0,⟨0,λ_=>bd.no⟩⟩
def fy{α:Type}(f:Nat->α)(g:Nat->Bool):Nat->List α
 | 0=>[]
 | k+1=>match g k with|true=>fy f g k++[f k]|false=>fy f g k
section
variable {α:Type}{f:Nat->α}{g:Nat->Bool}
theorem pC:∀k,(fy f g k).length<=k
 | 0=>I' _
 | k+1=>by have:=pC k;simp only[fy];split;simp;omega;omega
theorem iB{k:Nat}(h:g k=true):fy f g (k+1)=fy f g k++[f k]:=by simp only[fy,h]
theorem lQ{k:Nat}(h:g k=false):fy f g (k+1)=fy f g k:=by simp only[fy,h]
theorem u6{x:α} : ∀k,x∈fy f g k↔∃i:Nat,i<k∧x=f i∧g i=true
 | 0=>by simp[fy]
 | k+1=>by have ih:=u6 (x:=x) k;simp only[fy];split;rename_i h;rw[UC,ih,List.mem_singleton];constructor;rintro(⟨i,h1,h2,h3⟩|rfl);exact⟨i,by omega,h2,h3⟩;exact⟨k,by omega,rfl,h⟩;rintro⟨i,h1,h2,h3⟩;by_cases e:i=k;subst e;exact .inr h2;exact .inl ⟨i,by omega,h2,h3⟩;rename_i h;rw[ih];constructor;rintro⟨i,h1,h2,h3⟩;exact⟨i,by omega,h2,h3⟩;rintro⟨i,h1,h2,h3⟩;refine⟨i,?_,h2,h3⟩;have:i≠k:=λe=>(by subst e;rw[h] at h3;cases h3);omega
theorem RS{d x:α}(l:List α)(i:Nat)(hi:i<l.length+1):(l++[x]).getD i d=bif Nat.ble l.length i then x else l.getD i d:=by simp only[List.getD_eq_getElem?_getD];rcases Nat.lt_or_ge i l.length with h1|h1;rw[M' h1,show Nat.ble l.length i=false by cases hb:Nat.ble l.length i with|false=>rfl|true=>exact Up (L' hb) (by omega)];rfl;rw[O' h1,show i-l.length=0 by omega,show Nat.ble l.length i=true from Nat.ble_eq_true_of_le h1];rfl
end
theorem cL{α β:Type}(f:α->β){b:Bool}{x y:α} : f (bif b then x else y)=bif b then f x else f y:=by cases b<;>rfl
def gj(b:Nat->Bool):Nat->Bool
 | 0=>true
 | k+1=>gj b k&&!b k
theorem mF{b:Nat->Bool}{k:Nat}(h:gj b k=true)(hb:b k=false):gj b (k+1)=true:=by unfold gj;rw[h,hb];rfl
theorem kU{b:Nat->Bool}{k:Nat}(hb:b k=true):∀{n:Nat},k<n->gj b n=false
 | 0,h=>Up h (F' k)
 | n+1,h=>by unfold gj;rcases UD (Nat.le_of_lt_succ h) with rfl|h1;rw[hb];cases gj b k<;>rfl;rw[kU hb h1];rfl
theorem tJ{b:Nat->Bool} : ∀{n:Nat},gj b n=true->∀k,k<n->b k=false
 | 0,_,k,h=>Up h (F' k)
 | n+1,hn,k,h=>by unfold gj at hn;obtain⟨h1,h2⟩:=Bool.and_eq_true_iff.1 hn;rcases UD (Nat.le_of_lt_succ h) with rfl|h3;simpa using h2;exact tJ h1 k h3
def gX(e:Nat->Int):Nat->Int->Int
 | 0,_=>0
 | k+1,j=>bif decide (j=e k) then gX e k j+1 else gX e k j
def mJ(e:Nat->Int):Nat->Int->Bool
 | 0,_=>false
 | k+1,j=>decide (j=e k)||mJ e k j
theorem DV{e:Nat->Int}{j:Int} : ∀{k:Nat},mJ e k j=false->gX e k j=0
 | 0,_=>rfl
 | k+1,h=>by unfold mJ at h;obtain⟨h1,h2⟩:=UA.1 h;unfold gX;rw[h1,cond_false,DV h2]
theorem DW{e:Nat->Int}{j:Int} : ∀{k:Nat},0<=gX e k j∧gX e k j<=k
 | 0=>⟨Int.le_refl 0,Int.le_refl 0⟩
 | k+1=>by have:=DW (e:=e) (j:=j) (k:=k);unfold gX;cases decide (j=e k)<;>simp only[cond_true,cond_false]<;>omega
def lg.key(l:lg)(k:Nat):Int:=MH (l.e k).name
def Cn(l:lg)(k:Nat)(x:Int):Bool:=
 decide (1<x)||decide (((l.e k).name.size:Int)<1)||decide (24<((l.e k).name.size:Int))||decide (¬eh .andNot .u32 (l.e k).reads 2046=0)||decide (¬eh .andNot .u32 (l.e k).writes 1534=0)||decide ((l.e k).prog<0)||decide (16<=(l.e k).prog)
def oQ(l:lg)(k:Nat):Bool:=Cn l k (gX l.key (k+1) (l.key k))
theorem zH{e:Nat->Int}{k:Nat}{j:Int} : (bif decide (j=e k) then(bif mJ e k (e k) then gX e k (e k) else 0)+1 else gX e k j)=gX e (k+1) j:=by
 show _=(bif decide (j=e k) then gX e k j+1 else gX e k j)
 cases hd:decide (j=e k) with
 | false=>rfl
 | true=>
  obtain rfl:=Od hd;simp only[cond_true];cases hh:mJ e k (e k) with
  | true=>rfl
  | false=>rw[DV hh];rfl
theorem Fw{e:Nat->Int}{k:Nat} : (bif decide (e k=e k)||mJ e k (e k) then(bif decide (e k=e k) then(bif mJ e k (e k) then gX e k (e k) else 0)+1 else gX e k (e k)) else 0)=gX e (k+1) (e k):=by rw[zH,Uu rfl];rfl
def nC(l:lg):Bool:=!decide ((16:Int)<l.n)&&gj (oQ l) l.n
def isW(op:Int)(i:YI):Bool:=decide (i.op=op)&&(decide (1<=i.a)&&decide (i.a<=31))
def gq(op:Int)(c:fh)(k:Nat):List Int:=fy (λi=>(c.e i).a) (λi=>isW op (c.e i)) k
def orM(F:Nat->Int):Nat->Int
 | 0=>0
 | k+1=>eh .or .u32 (orM F k) (IntKind.u32.wrap (1*2^(min (F k).toNat IntKind.u32.bits)))
def iQ(op:Int)(c:fh):Int:=orM (λk=>(gq op c c.n).getD k 0) (gq op c c.n).length
def gb(p:Ww)(k:Nat):Bool:=!kD p.code.n p.locals (p.code.e k)
def AJ(p:Ww):Bool:=decide ((4000:Int)<p.code.n)||decide (p.locals<0)||decide (32<p.locals)
def vH(p:Ww):Bool:=AJ p||!gj (gb p) p.code.n||decide (¬iQ 4 p.code=p.reads)||decide (¬iQ 5 p.code=p.writes)
def rJ(p:Ww):Bool:=!vH p&&kZ p
def oY(s:Xi)(k:Nat):Bool:=!rJ (s.progs.e k)
def rF(s:Xi)(k:Nat):Bool:=decide ((s.progs.n:Int)<=(s.systems.e k).prog)||(decide (¬eh .andNot .u32 (s.progs.e (s.systems.e k).prog.toNat).reads (eh .or .u32 (s.systems.e k).reads (s.systems.e k).writes)=0)||decide (¬eh .andNot .u32 (s.progs.e (s.systems.e k).prog.toNat).writes (s.systems.e k).writes=0))
def KZ(s:Xi):Bool:=decide ((16:Int)<s.progs.n)||decide (s.fuel<0)||decide (10000<s.fuel)
def qx(s:Xi):Bool:=nC s.systems&&(!KZ s&&(gj (oY s) s.progs.n&&gj (rF s) s.systems.n))
set_option maxRecDepth 8000
set_option maxHeartbeats 2000000
def T0:List SV:=[i64 0,i64 0,i64 0,i64 1,i64 0,i64 1,i64 1,i64 0,i64 1,i64 1,i64 2,i64 0,i64 0,i64 1,i64 0,i64 1,i64 1,i64 1,i64 1,i64 1,i64 1,i64 1,i64 0,i64 0,i64 1,i64 0,i64 1,i64 0,i64 0,i64 0,i64 0,i64 0]
theorem KN:∀a,aH ((λ_=>[]) a)->aM (C:=cx) [] [] 0 av Tryz.f140 ((AS).enc a) λv H _=>ae ((λ_=>.agg T0) a) H v:=by intro _ _;repeat' (first|refine Ai ?_ ?_|intro _|exact rfl)
noncomputable def QJ:UO cx:=ai 140 Tryz.call140 (AS) _ _ (λ_=>av) [] (λ_=>rfl) follows Tryz.func140 (by kernel_rfl) KN
theorem nx1{op x a:Int}(h:op=11):dP ⟨op,x⟩ a=⟨1,λ_=>x⟩:=by unfold dP;rw[Uw h]
theorem nx2{op x a:Int}(h1:¬op=11)(h:op=12∨op=13):dP ⟨op,x⟩ a=⟨2,λk=>bif Nat.beq k 0 then a+1 else x⟩:=by unfold dP;rw[Uv h1,Uw h]
theorem nx3{op x a:Int}(h1:¬op=11)(h2:¬(op=12∨op=13))(h:op=14∨op=15):dP ⟨op,x⟩ a=⟨0,λ_=>0⟩:=by unfold dP;rw[Uv h1,Uv h2,Uw h]
theorem nx4{op x a:Int}(h1:¬op=11)(h2:¬(op=12∨op=13))(h:¬(op=14∨op=15)):dP ⟨op,x⟩ a=⟨1,λ_=>a+1⟩:=by unfold dP;rw[Uv h1,Uv h2,Uv h]
theorem KH:∀a,aH ((λa=>[0<=a.2∧a.2<=10000]) a)->aM (C:=cx) [] [] 0 av Tryz.f141 ((aL qa (VK .i64)).enc a) λv H _=>ae ((λa=>.rs 1 (dP a.1 a.2).n (λk=>[.v (.int .i64 ((dP a.1 a.2).g k))])) a) H v:=by
 intro⟨⟨op,x⟩,a⟩ ha;replace ha:0<=a∧a<=10000:=ha
 suffices key:∀N,N=dP ⟨op,x⟩ a->aM (C:=cx) [] [] 0 av Tryz.f141 ((aL qa (VK .i64)).enc (⟨op,x⟩,a)) λv H _=>ae (.rs 1 N.n (λk=>[.v (.int .i64 (N.g k))])) H v from key _ rfl
 intro N hN;refine Ai (λh=>?_) (λh=>?_)
 ·have h:op=11:=Od h;obtain rfl:=hN.trans (nx1 h);repeat' (first|refine Ai ?_ ?_|intro _|exact rfl)
  all_goals first|exact rfl|(rename_i i hi;obtain rfl:i=0:=(by omega);exact rfl)|trace_state
 have h1:¬op=11:=Ur h;have tail2:(op=12∨op=13)->dP ⟨op,x⟩ a=⟨2,λk=>bif Nat.beq k 0 then a+1 else x⟩:=nx2 h1;refine Ai (λh=>?_) (λh=>?_)
 ·have h:op=12:=Od h;refine Ai (λ_=>?_) (λh'=>Up h (Ur h'));obtain rfl:=hN.trans (tail2 (.inl h));refine Ai (by unfold UP;omega:UP (a+1)) ?_;repeat' (first|refine Ai ?_ ?_|intro _|exact rfl)
  all_goals first|exact rfl|(rename_i i hi;obtain rfl|rfl:i=0∨i=1:=(by omega)<;>exact rfl)|trace_state
 have h2:¬op=12:=Ur h;refine Ai (λh=>?_) (λh=>?_)
 ·have h:op=13:=Od h;obtain rfl:=hN.trans (tail2 (.inr h));refine Ai (by unfold UP;omega:UP (a+1)) ?_;repeat' (first|refine Ai ?_ ?_|intro _|exact rfl)
  all_goals first|exact rfl|(rename_i i hi;obtain rfl|rfl:i=0∨i=1:=(by omega)<;>exact rfl)|trace_state
 have h3:¬op=13:=Ur h;have h23:¬(op=12∨op=13):=λh=>h.elim h2 h3;refine Ai (λh=>?_) (λh=>?_)
 ·have h:op=14:=Od h;refine Ai (λ_=>?_) (λh'=>Up h (Ur h'));obtain rfl:=hN.trans (nx3 h1 h23 (.inl h));repeat' (first|refine Ai ?_ ?_|intro _|exact rfl)
  all_goals first|exact Up ‹_<0› (F' _)|trace_state
 have h4:¬op=14:=Ur h;refine Ai (λh=>?_) (λh=>?_)
 ·have h:op=15:=Od h;obtain rfl:=hN.trans (nx3 h1 h23 (.inr h));repeat' (first|refine Ai ?_ ?_|intro _|exact rfl)
  all_goals first|exact Up ‹_<0› (F' _)|trace_state
 have h5:¬op=15:=Ur h;obtain rfl:=hN.trans (nx4 h1 h23 λh=>h.elim h4 h5);refine Ai (by unfold UP;omega:UP (a+1)) ?_;repeat' (first|refine Ai ?_ ?_|intro _|exact rfl)
 all_goals first|exact rfl|(rename_i i hi;obtain rfl:i=0:=(by omega);exact rfl)|trace_state
noncomputable def QF:UO cx:=ai 141 Tryz.call141 (aL qa (VK .i64)) _ _ (λ_=>av) [] (λ_=>rfl) follows Tryz.func141 (by kernel_rfl) KH
noncomputable def IS:V3 cx:=⟨196,Tryz.call196,Tryz.f196,Tryz.func196,[],[],[],0,by kernel_rfl⟩
theorem KD:∀a,aH ((λa=>[0<=a.1.locals∧a.1.locals<=32,(a.1.code.n:Int)<=4000]) a)->aM (C:=cx) [] [IS] 1 ⟨[1016],[],[],0⟩ Tryz.f138 ((aL uG qa).enc a) λv H _=>ae ((λa=>.v (.bool (kD a.1.code.n a.1.locals a.2))) a) H v:=by
 intro⟨⟨⟨n,e⟩,lo,rd,wr⟩,⟨op,x⟩⟩ ⟨hl,hn⟩;replace hl:0<=lo∧lo<=32:=hl;replace hn:(n:Int)<=4000:=hn
 suffices key:∀r,r=kD n lo ⟨op,x⟩->aM (C:=cx) [] [IS] 1 ⟨[1016],[],[],0⟩ Tryz.f138 ((aL uG qa).enc (⟨⟨n,e⟩,lo,rd,wr⟩,⟨op,x⟩)) λv H _=>ae (.v (.bool r)) H v from key _ rfl
 intro r hr;replace hr:r=(if op=1 then true else if op=2∨op=3 then decide (0<=x)&&decide (x<=lo-1) else if op=4∨op=5 then decide (1<=x)&&decide (x<=10) else if op=11∨op=12∨op=13 then decide (0<=x)&&decide (x<=(n:Int)) else if op=9 then(decide (7<=x)&&decide (x<=20))||(decide (23<=x)&&decide (x<=24)) else decide (1<=op)&&decide (op<=15)&&decide (x=0)):=hr;refine Ai (λh=>?_) (λh=>?_);have h:op=1:=Od h;exact hr.trans (by rw[Uw h]);have h1:¬op=1:=Ur h;rw[Uv h1] at hr;refine Ai (λh=>?_) (λh=>?_);have h:op=2:=Od h;refine Ai (λ_=>?_) (λh'=>Up h (Ur h'));rw[Uw (.inl h)] at hr;refine Ai (by unfold UP;omega:UP (lo-1)) ?_;exact hr;have h2:¬op=2:=Ur h;refine Ai (λh=>?_) (λh=>?_);have h:op=3:=Od h;rw[Uw (.inr h)] at hr;refine Ai (by unfold UP;omega:UP (lo-1)) ?_;exact hr;have h3:¬op=3:=Ur h;rw[Uv λh=>h.elim h2 h3] at hr;refine Ai (λh=>?_) (λh=>?_);have h:op=4:=Od h;refine Ai (λ_=>?_) (λh'=>Up h (Ur h'));rw[Uw (.inl h)] at hr;exact hr;have h4:¬op=4:=Ur h;refine Ai (λh=>?_) (λh=>?_);have h:op=5:=Od h;rw[Uw (.inr h)] at hr;exact hr;have h5:¬op=5:=Ur h;rw[Uv λh=>h.elim h4 h5] at hr;refine Ai (λh=>?_) (λh=>?_);have h:op=11:=Od h;refine Ai (λ_=>?_) (λh'=>Up h (Ur h'));rw[Uw (.inl h)] at hr;exact hr;have h11:¬op=11:=Ur h;refine Ai (λh=>?_) (λh=>?_);have h:op=12:=Od h;refine Ai (λ_=>?_) (λh'=>Up h (Ur h'));rw[Uw (.inr (.inl h))] at hr;exact hr;have h12:¬op=12:=Ur h;refine Ai (λh=>?_) (λh=>?_);have h:op=13:=Od h;rw[Uw (.inr (.inr h))] at hr;exact hr;have h13:¬op=13:=Ur h;rw[Uv λh=>h.elim h11 λh=>h.elim h12 h13] at hr;refine Ai (λh=>?_) (λh=>?_);have h:op=9:=Od h;rw[Uw h] at hr;refine Ai (λhc=>?_) (λhc=>?_);have hc:(decide (7<=x)&&decide (x<=20))=false:=hc;rw[hc] at hr;exact hr;have hc:(decide (7<=x)&&decide (x<=20))=true:=hc;exact hr.trans (by rw[hc];rfl);have h9:¬op=9:=Ur h;rw[Uv h9] at hr;exact hr
noncomputable def QE:UO cx:=ai 138 Tryz.call138 (aL uG qa) _ _ (λ_=>⟨[1016],[],[],0⟩) [1016] (λ_=>rfl) follows Tryz.func138 (by kernel_rfl) KD
def Oq:SV->Ww
 | .f _ _ [.rp l _]=>Ww.of (.agg l)
 | _=>⟨⟨0,λ_=>⟨0,0⟩⟩,0,0,0⟩
def Ww.Ok(p:Ww):Prop:=(0<=p.locals∧p.locals<=32)∧(p.code.n:Int)<=4000
def RY:SV->Ww
 | .rp l _=>Ww.of (.agg l)
 | _=>⟨⟨0,λ_=>⟨0,0⟩⟩,0,0,0⟩
theorem Ks:∀a,aH ((λa=>[∃p:Ww,p.Ok∧a.2=.rp p.cells 0]) a)->aM (C:=cx) [QE] [] 0 av Tryz.f137 ((aL qa V4).enc a) λv H _=>ae ((λa=>.v (.bool (!kD (RY a.2).code.n (RY a.2).locals a.1))) a) H v:=by intro⟨i,x⟩ ⟨p,hp,hx⟩;replace hx:x=.rp p.cells 0:=hx;subst hx;refine Ai ⟨λ_ _=>trivial,hp.1,hp.2⟩ ?_;exact rfl
noncomputable def Qx:UO cx:=ai 137 Tryz.call137 (aL qa V4) _ _ (λ_=>av) [] (λ_=>rfl) follows Tryz.func137 (by kernel_rfl) Ks
def P1(p:Ww):Cut:=⟨Nat,λk=>k<=p.code.n∧VI (gb p) 0 p.code.n=VI (gb p) k (p.code.n-k),λk=>⟨[sl 0 p.code.sv,sl 1 (.f (.func 137) [] [.rp p.cells 0]),sl 7 (i64 p.code.n),sl 8 (i64 k)],[],0,0,[],[]⟩,λk=>p.code.n-k⟩
theorem BX:∀a,aH ((λa=>[∃p:Ww,p.Ok∧a.1=p.code∧a.2=.f (.func 137) [] [.rp p.cells 0]]) a)->aM (C:=cx) [Qx] [] 0 ⟨[],[],[2],0⟩ Tryz.f197 ((aL nx V4).enc a) λv H _=>ae ((λa=>.v (.int .i64 (VM (gb (Oq a.2)) a.1.n))) a) H v:=by
 intro⟨l,x⟩ ⟨p,hp,hl,hx⟩;replace hx:x=.f (.func 137) [] [.rp p.cells 0]:=hx;replace hl:l=p.code:=hl;subst hx hl;have hm:=hp.2;refine Uh (P1 p) ?_;refine Ai ?_ ?_
 ·refine⟨(0:Nat),[],[],trivial,⟨Ui _,rfl⟩,?_⟩;repeat' (first|refine Ai ?_ ?_|intro _|exact rfl)
 refine fun(k:Nat) (hk:k<=p.code.n∧VI (gb p) 0 p.code.n=VI (gb p) k (p.code.n-k))=>?_;obtain⟨k1,k2⟩:=hk;refine Ai (λhb=>?_) (λhb=>?_)
 ·have hb:(k:Int)<p.code.n:=Od hb;have e0:=iR (g:=gb p) (k:=k) (n:=p.code.n) (by omega);refine Ai ⟨by omega,by omega⟩ ?_;refine Ai ⟨p,hp,rfl⟩ ?_;refine Ai (λhc=>?_) (λhc=>?_);have hc:gb p k=true:=hc;simp only[hc] at e0;exact im (g:=gb p) (n:=p.code.n) (k2.trans e0) (by omega);have hc:gb p k=false:=hc;simp only[hc] at e0;refine Ai (by unfold UP;omega:UP ((k:Int)+1)) ?_;refine⟨k+1,[],[],(by show p.code.n-(k+1)<p.code.n-k;omega),⟨(by show k+1<=p.code.n;omega),by rw[k2,e0]⟩,?_⟩;repeat' (first|refine Ai ?_ ?_|intro _|exact rfl)
 have hb:¬(k:Int)<p.code.n:=Ur hb;refine ga (g:=gb p) (n:=p.code.n) ?_;rw[k2,show p.code.n-k=0 by omega];show k=p.code.n;omega
noncomputable def JR:UO cx:=ai 197 Tryz.call197 (aL nx V4) _ _ (λ_=>⟨[],[],[2],0⟩) [] (λ_=>rfl) follows Tryz.func197 (by kernel_rfl) BX
theorem yG{b:Nat->Bool} : ∀(m k:Nat),gj b k=true->(decide (VI b k m<k+m) = !gj b (k+m))
 | 0,k,h=>by rw[show k+0=k from rfl,h];exact Ut (by show ¬k<k;omega)
 | m+1,k,h=>by
  have e0:=iR (g:=b) (k:=k) (n:=k+(m+1)) (by omega);rw[show k+(m+1)-k=m+1 by omega,show k+(m+1)-(k+1)=m by omega] at e0;cases hb:b k with
  | true=>
   simp only[hb] at e0;rw[e0,kU hb (by omega:k<k+(m+1))];exact Uu (by omega)
  | false=>
   simp only[hb] at e0;rw[e0,show k+(m+1)=(k+1)+m by omega];exact yG m (k+1) (mF h hb)
theorem yH{b:Nat->Bool}{n:Nat} : decide (0<=VM b n) = !gj b n:=by
 have h:=yG (b:=b) n 0 rfl;rw[B'] at h;unfold VM;rw[<-h];cases hd:decide (VI b 0 n<n) with
 | true=>exact Uu (by simp only;omega)
 | false=>rfl
theorem Al:∀a,aH ((λa=>[∃p:Ww,p.Ok∧a.1=p.code∧a.2=.f (.func 137) [] [.rp p.cells 0]]) a)->aM (C:=cx) [JR] [] 0 av Tryz.f139 ((aL nx V4).enc a) λv H _=>ae ((λa=>.v (.bool (!gj (gb (Oq a.2)) a.1.n))) a) H v:=by intro⟨l,x⟩ ⟨p,hp,hl,hx⟩;replace hx:x=.f (.func 137) [] [.rp p.cells 0]:=hx;replace hl:l=p.code:=hl;subst hx hl;refine Ai ⟨(by repeat' (first|exact trivial|exact rfl|refine Ai ?_ ?_|intro _)),p,hp,rfl,rfl⟩ ?_;exact yH.symm
noncomputable def Ft:UO cx:=ai 139 Tryz.call139 (aL nx V4) _ _ (λ_=>av) [] (λ_=>rfl) follows Tryz.func139 (by kernel_rfl) Al
end Go.Proofs.YtgigkennhdolpaaGreatDoor
namespace Go.Proofs.YtgigkennhdolpaaGreatDoor
open Go.Conc
inductive Gs (P:Program) (Q:Goroutine->World->Prop):Goroutine->World->Prop where
 | stop {g W} (h:Q g W):Gs P Q g W
 | step {g W} (hs:g.status=.running) (G':World->Goroutine) (W':World->World) (h:∀W1,Rv W W1->Ed P g W1 (G' W1) (W' W1)) (k:∀W1,Rv W W1->Gs P Q (G' W1) (W' W1)):Gs P Q g W
section
variable {P:Program}{Q Q':Goroutine->World->Prop}{g:Goroutine}{W W1:World}
theorem Gs.go(hs:g.status=.running)(h:∀W1,Rv W W1->∃g' W',Ed P g W1 g' W'∧Gs P Q g' W'):Gs P Q g W:=by
 classical
 refine .step hs (λW1=>if r:Rv W W1 then(h W1 r).choose else g) (λW1=>if r:Rv W W1 then(h W1 r).choose_spec.choose else W1) (λW1 r=>?_) λW1 r=>?_;simp only[dif_pos r];exact(h W1 r).choose_spec.choose_spec.1;simp only[dif_pos r];exact(h W1 r).choose_spec.choose_spec.2
theorem Gs.later(hQ:∀{g W W1},Q g W->Rv W W1->Q g W1)(h:Gs P Q g W)(r:Rv W W1):Gs P Q g W1:=by
 cases h with
 | stop h=>exact .stop (hQ h r)
 | step hs G' W' h k=>exact .step hs G' W' (λW2 r2=>h W2 (r.trans r2)) λW2 r2=>k W2 (r.trans r2)
theorem cV(hQ:∀{g W W1},Q g W->Rv W W1->Q g W1):Closed P false (Gs P Q) where
 par:=λe=>by cases e
 mono:=λh r=>h.later hQ r
 step:=λhs h=>.go hs h
theorem Gs.mono(h:Gs P Q g W)(k:∀g W,Q g W->Q' g W):Gs P Q' g W:=by
 induction h with
 | stop h=>exact .stop (k _ _ h)
 | step hs G' W' h _ ih=>exact .step hs G' W' h ih
end
def World.behind(W w':World):World:={w' with heap:=W.heap++(Array.replicate (w'.heap.size-W.heap.size) (Obj.cells #[] 0 (0,0)))}
section
variable {S R:Nat->Prop}{w w' W:World}
theorem View.other(h:View S R w W)(hs:w.heap.size<=w'.heap.size)(hb:∀b:Nat,b<w.heap.size->¬S b->w'.heap[b]? = w.heap[b]?)(ho:w'.os=w.os)(ht:w'.tape=w.tape)(hp:w'.output=w.output)(hR:∀b,R b->b<w.heap.size) :
  ∃W',Rv W W'∧View (λb=>S b∨(w.heap.size<=b∧b<w'.heap.size)) R w' W':=by
 have hz:=h.size;refine⟨World.behind W w',⟨?_,?_,?_,λb o e=>?_⟩,⟨rfl,rfl,rfl,rfl,?_,λb h1 h2=>?_,λb h1 h2=>?_,λb h1=>?_,λb o e=>?_⟩⟩;show w'.os=W.os;rw[ho,h.os];show w'.tape=W.tape;rw[ht,h.tape];show w'.output=W.output;rw[hp,h.output];have hl:=(E'.1 e).1;show (W.heap++_)[b]? = some o;rw[Array.getElem?_append_left hl];exact e;show w'.heap.size=(W.heap++_).size;simp;omega;show w'.heap[b]? = (W.heap++_)[b]?;have n1:¬S b:=λx=>h1 (.inl x);by_cases hl:b<w.heap.size;rw[Array.getElem?_append_left (by omega),<-h.same b n1 h2];exact hb b hl n1;have hl':¬b<w'.heap.size:=λx=>h1 (.inr ⟨by omega,x⟩);rw[Array.getElem?_eq_none (by omega),Array.getElem?_eq_none (by simp;omega)];have n1:¬S b:=λx=>h1 (.inl x);have hl:=hR b h2;obtain⟨cs,t,fr,hi,q1,q2,q3⟩:=h.lent b n1 h2;refine⟨cs,t,fr,hi,(hb b hl n1).trans q1,?_,q3⟩;show (W.heap++_)[b]? = _;rw[Array.getElem?_append_left (by omega)];exact q2
 ·show (W.heap++_)[b]? = _;rcases h1 with h1|⟨h1,h2⟩
  have hl:=h.low (.inl h1);rw[Array.getElem?_append_left hl];exact h.pois b h1;rw[Array.getElem?_append_right (by omega),Array.getElem?_replicate,Uw (by omega)]
 have e:(W.heap++Array.replicate (w'.heap.size-W.heap.size) (Obj.cells #[] 0 (0,0)))[b]? = some o:=e;by_cases hl:b<W.heap.size;rw[Array.getElem?_append_left hl] at e;exact h.plain b o e;rw[Array.getElem?_append_right (by omega),Array.getElem?_replicate] at e;split at e;obtain rfl:=Oi e;trivial;cases e
theorem View.beside{S2 R2:Nat->Prop}(h:View S R w W)(k:er S2 R2 w w')(hd:∀b:Nat,b<w.heap.size->S b∨S2 b∨R2 b)(hR:∀b,R b->b<w.heap.size) :
  ∃W',Rv W W'∧View (λb=>S b∨(w.heap.size<=b∧b<w'.heap.size)) R w' W':=
 h.other k.size (λb hl hn=>k.same b ((hd b hl).resolve_left hn)) k.os k.tape k.output hR
end
inductive Rk where
 | leaf
 | mk (f:World->Rk)
instance:Inhabited Rk:=⟨.leaf⟩
def Rk.Sub(p:Rk):Rk->Prop
 | .leaf=>False
 | .mk f=>∃W,p=f W
theorem Rk.wf:∀r:Rk,Acc Rk.Sub r
 | .leaf=>⟨_,λ_ h=>h.elim⟩
 | .mk f=>⟨_,λ_ ⟨W,e⟩=>e▸Rk.wf (f W)⟩
def Low(n:Nat)(p q:Nat->Rk):Prop:=∃i,i<n∧(p i).Sub (q i)∧∀j,j≠i->p j=q j
theorem L1:∀(n:Nat) (q:Nat->Rk),Acc (Low n) q:=by
 intro n
 induction n with
 | zero=>exact λq=>⟨_,λp ⟨i,h,_⟩=>Up h (F' i)⟩
 | succ n ih=>
  have key:∀r:Rk,∀q:Nat->Rk,q n=r->Acc (Low (n+1)) q:=by
   intro r
   induction Rk.wf r with
   | intro r _ ihr=>
    intro q
    induction ih q with
    | intro q _ ihq=>
     intro hq;refine⟨_,λp ⟨i,hi,h1,h2⟩=>?_⟩;by_cases hn:i=n;subst hn;exact ihr (p i) (hq▸h1) p rfl;exact ihq p ⟨i,by omega,h1,h2⟩ ((h2 n (Ne.symm hn)).trans hq)
  exact λq=>key (q n) q rfl
def WS(P:Program)(Q:Goroutine->World->Prop):Rk->Goroutine->World->Prop
 | .leaf,g,W=>Q g W
 | .mk f,g,W=>g.status=.running∧∀W1,Rv W W1->∃g' W',Ed P g W1 g' W'∧WS P Q (f W1) g' W'
section
variable {P:Program}{Q:Goroutine->World->Prop}{g:Goroutine}{W W1:World}{r:Rk}
theorem Gs.dF(h:Gs P Q g W):∃r,WS P Q r g W:=by
 classical
 induction h with
 | stop h=>exact⟨.leaf,h⟩
 | @step g W hs G' W' h k ih=>
  refine⟨.mk λW1=>if r:Rv W W1 then(ih W1 r).choose else .leaf,hs,λW1 r=>⟨G' W1,W' W1,h W1 r,?_⟩⟩;simp only[dif_pos r];exact(ih W1 r).choose_spec
theorem WS.later(hQ:∀{g W W1},Q g W->Rv W W1->Q g W1)(h:WS P Q r g W)(k:Rv W W1):WS P Q r g W1:=by
 cases r with
 | leaf=>exact hQ h k
 | mk f=>exact⟨h.1,λW2 h2=>h.2 W2 (k.trans h2)⟩
end
end Go.Proofs.YtgigkennhdolpaaGreatDoor
