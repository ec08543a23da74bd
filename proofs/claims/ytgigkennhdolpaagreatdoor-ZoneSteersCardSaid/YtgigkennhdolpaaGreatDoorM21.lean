/- Structures; contracts of small functions of cast. store: place, find, Get, Entity. store: find, Get, Entity. store: Entity; interest: comp, point, owns. store: Clone, own, Entity. interest: open. interest: Own. interest: sees, Sees. -/
import Derived.Test.YtgigkennhdolpaaGreatDoorM19
import Derived.Test.YtgigkennhdolpaaGreatDoorM20
namespace Go.Proofs.YtgigkennhdolpaaGreatDoor
open Go.RowKit
theorem wu(n:Int):IntKind.u64.wrap n=n%18446744073709551616:=rfl
theorem p32:(2:Int)^min (Int.toNat 32) IntKind.u64.bits=4294967296:=rfl
theorem fd32(a:Int):a.fdiv 4294967296=a/4294967296:=Int.fdiv_eq_ediv_of_nonneg a (by omega)
theorem bits_and{A i:Nat}(h:A<18446744073709551616)(hi:i<64):eK .and .u64 (A:Int) ((2^i-1:Nat):Int)=((A%2^i:Nat):Int):=by
 have hp:2^i-1<18446744073709551616:=by
  have:2^i<2^64:=Nat.pow_lt_pow_right (by omega) hi
  omega
 unfold eK
 have e1:(BitVec.ofInt 64 (A:Int)).toNat=A:=by
  rw[BitVec.ofInt_natCast,BitVec.toNat_ofNat,Nat.mod_eq_of_lt (by omega)]
 have e2:(BitVec.ofInt 64 ((2^i-1:Nat):Int)).toNat=2^i-1:=by
  rw[BitVec.ofInt_natCast,BitVec.toNat_ofNat,Nat.mod_eq_of_lt (by omega)]
 have e3:(BitVec.ofInt 64 (A:Int) &&& BitVec.ofInt 64 ((2^i-1:Nat):Int)).toNat=A%2^i:=by
  rw[BitVec.toNat_and,e1,e2,Nat.and_two_pow_sub_one_eq_mod]
 show IntKind.u64.wrap ((BitVec.ofInt 64 (A:Int) &&& BitVec.ofInt 64 ((2^i-1:Nat):Int)).toNat:Int)=_
 rw[e3,wu]
 have:=Nat.mod_le A (2^i)
 omega
theorem and32{a:Int}(h0:0≤a)(h:a<18446744073709551616):eK .and .u64 a 4294967295=a%4294967296:=by
 obtain⟨A,rfl⟩:=Int.eq_ofNat_of_zero_le h0
 have:=bits_and (A:=A) (i:=32) (by omega) (by omega)
 simpa using this
def conNaN:Con cx:=ah (Γ:=[]) (Fs:=[]) (d:=0) 198 Tryz.call198 (bM (rdI .i64)) (fun _=>[]) (fun n=>.bl false) (fun _=>aw) [] (fun _=>rfl) follows Tryz.func198 (by kernel_rfl)
 fun n _=>by show (_:Bool)=_;simp
set_option maxHeartbeats 2000000 in
set_option maxRecDepth 8000 in
theorem Cmp_walk:∀a,aK ((fun _=>[]) a)→aX (C:=cx) [conNaN] [] 0 aw Tryz.f144 (((aV (rdI .i64) (rdI .i64))).enc a) fun v H _=>ai ((fun a=>.v (.int .i64 (jf a.1 a.2))) a) H v:=by
 intro⟨x,y⟩ _
 repeat' (first|(refine Ai ?_ ?_)|(intro _))
 all_goals (simp only[bM,aV,dO,rdI,hdS,tlS,SV.iv,cI,decide_eq_true_eq,decide_eq_false_iff_not] at *)
 all_goals (refine Eq.trans (a:=jf x y) ?_ rfl;unfold jf;split<;>(try split)<;>first|rfl|omega)
noncomputable def conCmp:Con cx:=ah 144 Tryz.call144 (aV (rdI .i64) (rdI .i64)) _ _ (fun _=>aw) [] (fun _=>rfl) follows Tryz.func144 (by kernel_rfl) Cmp_walk
set_option maxRecDepth 8000
set_option maxHeartbeats 2000000
def oI:Int:=4611686018427387903
def lbN(key:Nat→Int)(q:Int):Nat→Nat→Nat
 | k,0=>k
 | k,r+1=>match decide (key k<q) with|true=>lbN key q (k+1) r|false=>k
theorem lbN_eq{key:Nat→Int}{q:Int}{i:Nat} : ∀{r k:Nat},k≤i→i≤k+r→(∀j,k≤j→j<i→key j<q)→(i=k+r∨¬key i<q)→lbN key q k r=i
 | 0,k,h1,h2,_,_=>by show k=i;omega
 | r+1,k,h1,h2,h3,h4=>by
  rcases Nat.eq_or_lt_of_le h1 with rfl|h1
  ·rcases h4 with h4|h4
   ·omega
   ·simp only[lbN,decide_eq_false h4]
  ·simp only[lbN,decide_eq_true (h3 k (Nat.le_refl _) h1)]
   exact lbN_eq (by omega) (by omega) (fun j h5 h6=>h3 j (by omega) h6) (by first|(rcases h4 with h4|h4;exact Or.inl (by omega);exact Or.inr h4))
def iR(key:Nat→Int)(n:Nat)(q:Int):Nat:=lbN key q 0 n
def iw(key:Nat→Int)(n:Nat)(q:Int):Bool:=decide (((iR key n q:Nat):Int)<n)&&decide (key (iR key n q)=q)
theorem lowB_eq{key:Nat→Int}{q:Int}{n i:Nat}(h1:i≤n)(h2:∀j,j<i→key j<q)(h3:∀j,i≤j→j<n→q≤key j):iR key n q=i:=
 lbN_eq (Nat.zero_le _) (by omega) (fun j _ h=>h2 j h) (by
  by_cases e:i=n
  ·left;omega
  ·right;have:=h3 i (Nat.le_refl _) (by omega);omega)
theorem kv{key:Nat→Int}{q:Int}{n:Nat} : iw key n q=true↔iR key n q<n∧key (iR key n q)=q:=by
 simp only[iw,Bool.and_eq_true,decide_eq_true_eq]
 omega
theorem p1':(2:Int)^min (Int.toNat 1) IntKind.u64.bits=2:=rfl
theorem wi'{n:Int}(h : -9223372036854775808≤n∧n≤9223372036854775807):IntKind.i64.wrap n=n:=InR.wrap h
theorem half(i j:Nat)(h:(i:Int)+j≤9223372036854775807):IntKind.i64.wrap ((IntKind.u64.wrap ((i:Int)+j)).fdiv (2^min (Int.toNat 1) IntKind.u64.bits))=(((i+j)/2:Nat):Int):=by
 rw[wu,p1',Int.emod_eq_of_lt (by omega) (by omega),Int.fdiv_eq_ediv_of_nonneg _ (by omega),wi' (by omega)]
 omega
noncomputable def conNaN8:Con cx:=ah (Γ:=[]) (Fs:=[]) (d:=0) 145 Tryz.call145 (bM (rdI .u8)) (fun _=>[]) (fun n=>.bl false) (fun _=>aw) [] (fun _=>rfl) follows Tryz.func145 (by kernel_rfl)
 fun n _=>by show (_:Bool)=_;simp
theorem Cmp8_walk:∀a,aK ((fun _=>[]) a)→aX (C:=cx) [conNaN8] [] 0 aw Tryz.f90 (((aV (rdI .u8) (rdI .u8))).enc a) fun v H _=>ai ((fun a=>.v (.int .i64 (jf a.1 a.2))) a) H v:=by
 intro⟨x,y⟩ _
 repeat' (first|(refine Ai ?_ ?_)|(intro _))
 all_goals (simp only[bM,aV,dO,rdI,hdS,tlS,SV.iv,cI,decide_eq_true_eq,decide_eq_false_iff_not] at *)
 all_goals (refine Eq.trans (a:=jf x y) ?_ rfl;unfold jf;split<;>(try split)<;>first|rfl|omega)
noncomputable def conCmp8:Con cx:=ah 90 Tryz.call90 ((aV (rdI .u8) (rdI .u8))) _ _ (fun _=>aw) [] (fun _=>rfl) follows Tryz.func90 (by kernel_rfl) Cmp8_walk
theorem cmpI_lts{a b:Int}(h:jf a b<0):a<b:=by unfold jf at h;split at h<;>(try split at h)<;>omega
theorem cmpI_ges{a b:Int}(h:¬jf a b<0):b≤a:=by unfold jf at h;split at h<;>(try split at h)<;>omega
theorem cmpI_eqs{a b:Int} : jf a b=0↔a=b:=by unfold jf;split<;>(try split)<;>omega
theorem KeyC_walk:∀a,aK ((fun a=>[a.2.2=.rp [.v (.func (.func 53) #[] #[])] 0]) a)→aX (C:=cx) [conKind,conCmp8] [] 0 aw Tryz.f89 ((dO gz (rdI .u8) rdX).enc a) fun v H _=>ai ((fun a=>.v (.int .i64 (jf a.1.kind a.2.1))) a) H v:=by
 intro⟨c,q,x⟩ hx
 replace hx:x=.rp [.v (.func (.func 53) #[] #[])] 0:=hx
 subst hx
 exact rfl
noncomputable def conKeyC:Con cx:=ah 89 Tryz.call89 (dO gz (rdI .u8) rdX) _ _ (fun _=>aw) [] (fun _=>rfl) follows Tryz.func89 (by kernel_rfl) KeyC_walk
def bsC(l:Cms)(q:Int):Cut:=⟨Nat×Nat,fun x=>x.1≤x.2∧x.2≤l.n∧(∀t,t<x.1→(fun i=>(l.c i).kind) t<q)∧(∀t,x.2≤t→t<l.n→q≤(fun i=>(l.c i).kind) t),
 fun x=>⟨[sl 0 l.sv,sl 1 (.v (.int .u8 q)),sl 2 (.f (.func 89) [] [.rp [.v (.func (.func 53) #[] #[])] 0]),sl 8 (i64 l.n),sl 9 (i64 x.1),sl 10 (i64 x.2)],[],0,0,[],[]⟩,fun x=>x.2-x.1⟩
theorem BsC_walk:∀a,aK ((fun a=>[(a.1.n:Int)≤oI,Inc (fun i=>(a.1.c i).kind) a.1.n,a.2.2=(.f (.func 89) [] [.rp [.v (.func (.func 53) #[] #[])] 0])]) a)→aX (C:=cx) [conKeyC] [] 0 ⟨[],[],[3],0⟩ Tryz.f88 ((dO gE (rdI .u8) rdX).enc a) fun v H _=>ai ((fun a=>.tup [i64 (iR (fun i=>(a.1.c i).kind) a.1.n a.2.1),.v (.bool (iw (fun i=>(a.1.c i).kind) a.1.n a.2.1))]) a) H v:=by
 intro⟨l,q,x⟩ ⟨hn,hs,hx⟩
 replace hx:x=(.f (.func 89) [] [.rp [.v (.func (.func 53) #[] #[])] 0]):=hx
 replace hn:(l.n:Int)≤4611686018427387903:=hn
 replace hs:Inc (fun i=>(l.c i).kind) l.n:=hs
 subst hx
 refine Exists.intro (bsC l q) ?_
 refine Ai ?_ ?_
 ·refine⟨((0:Nat),l.n),[],[],trivial,⟨Nat.zero_le _,Nat.le_refl _,fun t h=>absurd h (Nat.not_lt_zero _),fun t h1 h2=>absurd h2 (Nat.not_lt.2 h1)⟩,?_⟩
  repeat' (first|(refine Ai ?_ ?_)|(intro _)|exact rfl)
 refine fun(x:Nat×Nat) (hx:x.1≤x.2∧x.2≤l.n∧(∀t,t<x.1→(fun i=>(l.c i).kind) t<q)∧(∀t,x.2≤t→t<l.n→q≤(fun i=>(l.c i).kind) t))=>?_
 obtain⟨i,j⟩:=x
 obtain⟨x1,x2,x3,x4⟩:i≤j∧j≤l.n∧(∀t,t<i→(fun i=>(l.c i).kind) t<q)∧(∀t,j≤t→t<l.n→q≤(fun i=>(l.c i).kind) t):=hx
 refine Ai (fun hb=>?_) (fun hb=>?_)
 ·have hb:(i:Int)<j:=Od hb
  refine Ai (by unfold I64;omega:I64 ((i:Int)+j)) ?_
  have hh:=half i j (by omega)
  obtain⟨h,hd⟩:∃h,h=(i+j)/2:=⟨_,rfl⟩
  rw[←hd] at hh
  refine Ai (show 0≤_∧_<((l.n:Nat):Int) by rw[hh];omega) ?_
  refine Ai rfl ?_
  refine Ai (fun hc=>?_) (fun hc=>?_)
  ·have hc:decide (jf ((fun i=>(l.c i).kind) (IntKind.i64.wrap ((IntKind.u64.wrap ((i:Int)+j)).fdiv (2^min (Int.toNat 1) IntKind.u64.bits))).toNat) q<0)=true:=hc
   rw[hh] at hc
   have hc:(fun i=>(l.c i).kind) h<q:=cmpI_lts (Od hc)
   have h64:I64 ((h:Int)+1):=by unfold I64;omega
   refine Ai (show I64 (_+1) by rw[hh];exact h64) ?_
   refine⟨(h+1,j),[],[],(by show j-(h+1)<j-i;omega),⟨(by omega:h+1≤j),x2,fun t ht=>?_,x4⟩,?_⟩
   ·rcases Nat.eq_or_lt_of_le (Nat.le_of_lt_succ ht) with rfl|ht
    ·exact hc
    ·exact Int.lt_trans (hs t h ht (by omega)) hc
   repeat' (first|(refine Ai ?_ ?_)|(intro _)|exact rfl)
   all_goals (show ((h+1:Nat):Int)=_+1;rw[hh];rfl)
  ·have hc:decide (jf ((fun i=>(l.c i).kind) (IntKind.i64.wrap ((IntKind.u64.wrap ((i:Int)+j)).fdiv (2^min (Int.toNat 1) IntKind.u64.bits))).toNat) q<0)=false:=hc
   rw[hh] at hc
   have hc:q≤(fun i=>(l.c i).kind) h:=cmpI_ges (of_decide_eq_false hc)
   refine⟨(i,h),[],[],(by show h-i<j-i;omega),⟨(by omega:i≤h),(by omega:h≤l.n),x3,fun t h1 h2=>?_⟩,?_⟩
   ·rcases Nat.eq_or_lt_of_le h1 with rfl|h1
    ·exact hc
    ·exact Int.le_trans hc (Int.le_of_lt (hs h t h1 h2))
   repeat' (first|(refine Ai ?_ ?_)|(intro _)|exact rfl)
   all_goals exact hh.symm
 ·have hb:¬(i:Int)<j:=of_decide_eq_false hb
  have e:iR (fun i=>(l.c i).kind) l.n q=i:=lowB_eq (by omega) x3 (fun t h1 h2=>x4 t (by omega) h2)
  refine Ai (fun hc=>?_) ?_
  ·have hc:(i:Int)<l.n:=Od hc
   exact⟨by omega,hc⟩
  refine Ai (fun hc=>?_) ?_
  ·exact rfl
  refine Ai (congrArg (fun k:Nat=>(k:Int)) e) ?_
  refine Eq.trans (a:=iw (fun i=>(l.c i).kind) l.n q) (b:=decide ((i:Int)<l.n)&&decide (jf ((fun i=>(l.c i).kind) i) q=0)) ?_ rfl
  unfold iw
  rw[e]
  congr 1
  exact decide_eq_decide.2 (cmpI_eqs (a:=(fun i=>(l.c i).kind) i) (b:=q)).symm
noncomputable def conBsC:Con cx:=ah 88 Tryz.call88 (dO gE (rdI .u8) rdX) _ _ (fun _=>⟨[],[],[3],0⟩) [] (fun _=>rfl) follows Tryz.func88 (by kernel_rfl) BsC_walk
theorem PlC_walk:∀a,aK ((fun a=>[(a.1.n:Int)≤oI,Inc (fun i=>(a.1.c i).kind) a.1.n,a.2.2=(.v (.func (.func 53) #[] #[]))]) a)→aX (C:=cx) [conBsC] [] 0 aw Tryz.f52 ((dO gE (rdI .u8) rdX).enc a) fun v H _=>ai ((fun a=>.tup [i64 (iR (fun i=>(a.1.c i).kind) a.1.n a.2.1),.v (.bool (iw (fun i=>(a.1.c i).kind) a.1.n a.2.1))]) a) H v:=by
 intro⟨l,q,x⟩ ⟨hn,hs,hx⟩
 replace hx:x=.v (.func (.func 53) #[] #[]):=hx
 subst hx
 refine Ai ⟨fun _ _=>trivial,hn,hs,rfl⟩ ?_
 repeat' (first|(refine Ai ?_ ?_)|(intro _)|exact rfl)
noncomputable def conPlC:Con cx:=ah 52 Tryz.call52 (dO gE (rdI .u8) rdX) _ _ (fun _=>aw) [] (fun _=>rfl) follows Tryz.func52 (by kernel_rfl) PlC_walk
theorem KeyE_walk:∀a,aK ((fun a=>[a.2.2=.rp [.v (.func (.func 60) #[] #[])] 0]) a)→aX (C:=cx) [conId,conCmp] [] 0 aw Tryz.f143 ((dO eG (rdI .i64) rdX).enc a) fun v H _=>ai ((fun a=>.v (.int .i64 (jf a.1.iD a.2.1))) a) H v:=by
 intro⟨c,q,x⟩ hx
 replace hx:x=.rp [.v (.func (.func 60) #[] #[])] 0:=hx
 subst hx
 refine Ai (fun _ _=>trivial) ?_
 exact rfl
noncomputable def conKeyE:Con cx:=ah 143 Tryz.call143 (dO eG (rdI .i64) rdX) _ _ (fun _=>aw) [] (fun _=>rfl) follows Tryz.func143 (by kernel_rfl) KeyE_walk
def bsE(l:Ens)(q:Int):Cut:=⟨Nat×Nat,fun x=>x.1≤x.2∧x.2≤l.n∧(∀t,t<x.1→(fun i=>(l.e i).iD) t<q)∧(∀t,x.2≤t→t<l.n→q≤(fun i=>(l.e i).iD) t),
 fun x=>⟨[sl 0 l.sv,sl 1 (.v (.int .i64 q)),sl 2 (.f (.func 143) [] [.rp [.v (.func (.func 60) #[] #[])] 0]),sl 8 (i64 l.n),sl 9 (i64 x.1),sl 10 (i64 x.2)],[],0,0,[],[]⟩,fun x=>x.2-x.1⟩
theorem BsE_walk:∀a,aK ((fun a=>[(a.1.n:Int)≤oI,Inc (fun i=>(a.1.e i).iD) a.1.n,a.2.2=(.f (.func 143) [] [.rp [.v (.func (.func 60) #[] #[])] 0])]) a)→aX (C:=cx) [conKeyE] [] 0 ⟨[],[],[3],0⟩ Tryz.f142 ((dO oA (rdI .i64) rdX).enc a) fun v H _=>ai ((fun a=>.tup [i64 (iR (fun i=>(a.1.e i).iD) a.1.n a.2.1),.v (.bool (iw (fun i=>(a.1.e i).iD) a.1.n a.2.1))]) a) H v:=by
 intro⟨l,q,x⟩ ⟨hn,hs,hx⟩
 replace hx:x=(.f (.func 143) [] [.rp [.v (.func (.func 60) #[] #[])] 0]):=hx
 replace hn:(l.n:Int)≤4611686018427387903:=hn
 replace hs:Inc (fun i=>(l.e i).iD) l.n:=hs
 subst hx
 refine Exists.intro (bsE l q) ?_
 refine Ai ?_ ?_
 ·refine⟨((0:Nat),l.n),[],[],trivial,⟨Nat.zero_le _,Nat.le_refl _,fun t h=>absurd h (Nat.not_lt_zero _),fun t h1 h2=>absurd h2 (Nat.not_lt.2 h1)⟩,?_⟩
  repeat' (first|(refine Ai ?_ ?_)|(intro _)|exact rfl)
 refine fun(x:Nat×Nat) (hx:x.1≤x.2∧x.2≤l.n∧(∀t,t<x.1→(fun i=>(l.e i).iD) t<q)∧(∀t,x.2≤t→t<l.n→q≤(fun i=>(l.e i).iD) t))=>?_
 obtain⟨i,j⟩:=x
 obtain⟨x1,x2,x3,x4⟩:i≤j∧j≤l.n∧(∀t,t<i→(fun i=>(l.e i).iD) t<q)∧(∀t,j≤t→t<l.n→q≤(fun i=>(l.e i).iD) t):=hx
 refine Ai (fun hb=>?_) (fun hb=>?_)
 ·have hb:(i:Int)<j:=Od hb
  refine Ai (by unfold I64;omega:I64 ((i:Int)+j)) ?_
  have hh:=half i j (by omega)
  obtain⟨h,hd⟩:∃h,h=(i+j)/2:=⟨_,rfl⟩
  rw[←hd] at hh
  refine Ai (show 0≤_∧_<((l.n:Nat):Int) by rw[hh];omega) ?_
  refine Ai ⟨fun _ _=>trivial,rfl⟩ ?_
  refine Ai (fun hc=>?_) (fun hc=>?_)
  ·have hc:decide (jf ((fun i=>(l.e i).iD) (IntKind.i64.wrap ((IntKind.u64.wrap ((i:Int)+j)).fdiv (2^min (Int.toNat 1) IntKind.u64.bits))).toNat) q<0)=true:=hc
   rw[hh] at hc
   have hc:(fun i=>(l.e i).iD) h<q:=cmpI_lts (Od hc)
   have h64:I64 ((h:Int)+1):=by unfold I64;omega
   refine Ai (show I64 (_+1) by rw[hh];exact h64) ?_
   refine⟨(h+1,j),[],[],(by show j-(h+1)<j-i;omega),⟨(by omega:h+1≤j),x2,fun t ht=>?_,x4⟩,?_⟩
   ·rcases Nat.eq_or_lt_of_le (Nat.le_of_lt_succ ht) with rfl|ht
    ·exact hc
    ·exact Int.lt_trans (hs t h ht (by omega)) hc
   repeat' (first|(refine Ai ?_ ?_)|(intro _)|exact rfl)
   all_goals (show ((h+1:Nat):Int)=_+1;rw[hh];rfl)
  ·have hc:decide (jf ((fun i=>(l.e i).iD) (IntKind.i64.wrap ((IntKind.u64.wrap ((i:Int)+j)).fdiv (2^min (Int.toNat 1) IntKind.u64.bits))).toNat) q<0)=false:=hc
   rw[hh] at hc
   have hc:q≤(fun i=>(l.e i).iD) h:=cmpI_ges (of_decide_eq_false hc)
   refine⟨(i,h),[],[],(by show h-i<j-i;omega),⟨(by omega:i≤h),(by omega:h≤l.n),x3,fun t h1 h2=>?_⟩,?_⟩
   ·rcases Nat.eq_or_lt_of_le h1 with rfl|h1
    ·exact hc
    ·exact Int.le_trans hc (Int.le_of_lt (hs h t h1 h2))
   repeat' (first|(refine Ai ?_ ?_)|(intro _)|exact rfl)
   all_goals exact hh.symm
 ·have hb:¬(i:Int)<j:=of_decide_eq_false hb
  have e:iR (fun i=>(l.e i).iD) l.n q=i:=lowB_eq (by omega) x3 (fun t h1 h2=>x4 t (by omega) h2)
  refine Ai (fun hc=>?_) ?_
  ·have hc:(i:Int)<l.n:=Od hc
   exact⟨by omega,hc⟩
  refine Ai (fun hc=>?_) ?_
  ·exact⟨fun _ _=>trivial,rfl⟩
  refine Ai (congrArg (fun k:Nat=>(k:Int)) e) ?_
  refine Eq.trans (a:=iw (fun i=>(l.e i).iD) l.n q) (b:=decide ((i:Int)<l.n)&&decide (jf ((fun i=>(l.e i).iD) i) q=0)) ?_ rfl
  unfold iw
  rw[e]
  congr 1
  exact decide_eq_decide.2 (cmpI_eqs (a:=(fun i=>(l.e i).iD) i) (b:=q)).symm
noncomputable def conBsE:Con cx:=ah 142 Tryz.call142 (dO oA (rdI .i64) rdX) _ _ (fun _=>⟨[],[],[3],0⟩) [] (fun _=>rfl) follows Tryz.func142 (by kernel_rfl) BsE_walk
theorem PlE_walk:∀a,aK ((fun a=>[(a.1.n:Int)≤oI,Inc (fun i=>(a.1.e i).iD) a.1.n,a.2.2=(.v (.func (.func 60) #[] #[]))]) a)→aX (C:=cx) [conBsE] [] 0 aw Tryz.f87 ((dO oA (rdI .i64) rdX).enc a) fun v H _=>ai ((fun a=>.tup [i64 (iR (fun i=>(a.1.e i).iD) a.1.n a.2.1),.v (.bool (iw (fun i=>(a.1.e i).iD) a.1.n a.2.1))]) a) H v:=by
 intro⟨l,q,x⟩ ⟨hn,hs,hx⟩
 replace hx:x=.v (.func (.func 60) #[] #[]):=hx
 subst hx
 refine Ai ⟨fun _ _ _ _=>trivial,hn,hs,rfl⟩ ?_
 repeat' (first|(refine Ai ?_ ?_)|(intro _)|exact rfl)
noncomputable def conPlE:Con cx:=ah 87 Tryz.call87 (dO oA (rdI .i64) rdX) _ _ (fun _=>aw) [] (fun _=>rfl) follows Tryz.func87 (by kernel_rfl) PlE_walk
set_option maxRecDepth 8000
set_option maxHeartbeats 2000000
theorem Cms.nO{l:Cms}(h:l.inc=true):Inc (fun i=>(l.c i).kind) l.n:=Go.Proofs.YtgigkennhdolpaaGreatDoor.nO (by simpa[Cms.inc] using h)
theorem Ens.nO{l:Ens}(h:l.inc=true):Inc (fun i=>(l.e i).iD) l.n:=Go.Proofs.YtgigkennhdolpaaGreatDoor.nO (by simpa[Ens.inc] using h)
structure Ent.Right (e:Ent):Prop where
 lo:1≤e.iD
 hi:e.iD≤65536
 inc:Inc (fun i=>(e.l.c i).kind) e.l.n
 fits:∀i,i<e.l.n→(e.l.c i).Fits
theorem Ent.right_iff{e:Ent} : e.right=true↔e.Right:=by
 constructor
 ·intro h
  simp only[Ent.right,Bool.and_eq_true,decide_eq_true_eq,Bool.not_eq_true'] at h
  obtain⟨⟨⟨h1,h2⟩,h3⟩,h4⟩:=h
  exact⟨h1,h2,Cms.nO h3,fun i hi=>by
   have:=gQ h4 i (Nat.zero_le _) (by omega)
   simpa[aJ.fits] using this⟩
 ·intro h
  simp only[Ent.right,Bool.and_eq_true,decide_eq_true_eq,Bool.not_eq_true']
  exact⟨⟨⟨h.lo,h.hi⟩,by simp[Cms.inc,uns_of_inc h.inc]⟩,nc fun i _ hi=>by simp[eA (h.fits i (by omega))]⟩
structure Wor.Valid (w:Wor):Prop where
 lo:0≤w.tick
 hi:w.tick≤1073741824
 len:(w.l.n:Int)≤64
 inc:Inc (fun i=>(w.l.e i).iD) w.l.n
 right:∀i,i<w.l.n→(w.l.e i).Right
theorem Wor.dq{w:Wor} : w.valid=true↔w.Valid:=by
 constructor
 ·intro h
  simp only[Wor.valid,Bool.and_eq_true,decide_eq_true_eq,Bool.not_eq_true'] at h
  obtain⟨⟨⟨⟨h1,h2⟩,h3⟩,h4⟩,h5⟩:=h
  exact⟨h1,h2,h3,Ens.nO h4,fun i hi=>by
   have:=gQ h5 i (Nat.zero_le _) (by omega)
   exact Ent.right_iff.1 (by simpa using this)⟩
 ·intro h
  simp only[Wor.valid,Bool.and_eq_true,decide_eq_true_eq,Bool.not_eq_true']
  exact⟨⟨⟨⟨h.lo,h.hi⟩,h.len⟩,by simp[Ens.inc,uns_of_inc h.inc]⟩,nc fun i _ hi=>by simp[Ent.right_iff.2 (h.right i (by omega))]⟩
theorem inc_ge{key:Nat→Int}{n:Nat}{b:Int}(h:Inc key n)(hb:∀i,i<n→b≤key i):∀i,i<n→b+i≤key i:=fun i=>by
 induction i with
 | zero=>intro hi;have:=hb 0 hi;simpa using this
 | succ i ih=>
  intro hi
  have h1:=ih (by omega)
  have h2:=h i (i+1) (by omega) hi
  omega
theorem inc_len{key:Nat→Int}{n:Nat}{b c:Int}(h:Inc key n)(hb:∀i,i<n→b≤key i∧key i≤c)(hbc:b≤c+1):(n:Int)≤c+1-b:=by
 by_cases hn:n=0
 ·subst hn;omega
 ·have h1:=inc_ge h (fun i hi=>(hb i hi).1) (n-1) (by omega)
  have h2:=(hb (n-1) (by omega)).2
  omega
theorem Ent.Right.len{e:Ent}(h:e.Right):(e.l.n:Int)≤10:=by
 have:=inc_len (b:=1) (c:=10) h.inc (fun i hi=>⟨(h.fits i hi).1,(h.fits i hi).2.1⟩) (by omega)
 omega
def cy(w:Wor)(id:Int):Nat×Bool:=match w.valid with
 | true=>(iR (fun i=>(w.l.e i).iD) w.l.n id,iw (fun i=>(w.l.e i).iD) w.l.n id)
 | false=>(0,false)
theorem Find_walk:∀a,aK ((fun a=>[a.1.l.Sm]) a)→aX (C:=cx) [je,conPlE] [] 0 aw Tryz.f51 ((aV cP (rdI .i64)).enc a) fun v H _=>ai ((fun a=>.tup [i64 (cy a.1 a.2).1,.v (.bool (cy a.1 a.2).2)]) a) H v:=by
 intro⟨w,id⟩ hm
 replace hm:w.l.Sm:=hm
 refine Ai ⟨fun _ _ _ _=>trivial,hm⟩ ?_
 refine Ai (fun hv=>?_) (fun hv=>?_)
 ·have hv:(!w.valid)=true:=hv
  have hv:w.valid=false:=by simpa using hv
  have e:cy w id=(0,false):=by unfold cy;rw[hv]
  simp only[e]
  repeat' (first|(refine Ai ?_ ?_)|(intro _)|exact rfl)
 ·have hv:(!w.valid)=false:=hv
  have hv:w.valid=true:=by simpa using hv
  have e:cy w id=(iR (fun i=>(w.l.e i).iD) w.l.n id,iw (fun i=>(w.l.e i).iD) w.l.n id):=by unfold cy;rw[hv]
  simp only[e]
  have hl:(w.l.n:Int)≤oI:=by have:=(Wor.dq.1 hv).len;unfold oI;omega
  refine Ai ⟨fun _ _ _ _=>trivial,hl,(Wor.dq.1 hv).inc,rfl⟩ ?_
  repeat' (first|(refine Ai ?_ ?_)|(intro _)|exact rfl)
noncomputable def conFind:Con cx:=ah 51 Tryz.call51 (aV cP (rdI .i64)) _ _ (fun _=>aw) [] (fun _=>rfl) follows Tryz.func51 (by kernel_rfl) Find_walk
def aJ.no:aJ:=⟨0,0,0,0,0⟩
theorem find_hit{w:Wor}{id:Int}(h:(cy w id).2=true):w.Valid∧(cy w id).1<w.l.n∧(w.l.e (cy w id).1).iD=id:=by
 unfold cy at *
 cases hv:w.valid with
 | false=>rw[hv] at h;cases h
 | true=>
  rw[hv] at h
  exact⟨Wor.dq.1 hv,kv.1 h⟩
def oZ(l:Cms)(kind:Int):aJ×Bool:=match iw (fun i=>(l.c i).kind) l.n kind with
 | true=>(l.c (iR (fun i=>(l.c i).kind) l.n kind),true)
 | false=>(aJ.no,false)
def cV(w:Wor)(id kind:Int):aJ×Bool:=match (cy w id).2 with
 | true=>oZ (w.l.e (cy w id).1).l kind
 | false=>(aJ.no,false)
theorem Get_walk:∀a,aK ((fun a=>[a.1.l.Sm]) a)→aX (C:=cx) [conFind,conPlC] [] 0 aw Tryz.f18 ((dO cP (rdI .i64) (rdI .u8)).enc a) fun v H _=>ai ((fun a=>.tup [(cV a.1 a.2.1 a.2.2).1.sv,.v (.bool (cV a.1 a.2.1 a.2.2).2)]) a) H v:=by
 intro⟨w,id,kind⟩ hm
 replace hm:w.l.Sm:=hm
 refine Ai ⟨fun _ _ _ _=>trivial,hm⟩ ?_
 refine Ai (fun hv=>?_) (fun hv=>?_)
 ·have hv:(!(cy w id).2)=true:=hv
  have hv:(cy w id).2=false:=by simpa using hv
  have e:cV w id kind=(aJ.no,false):=by unfold cV;rw[hv]
  simp only[e]
  repeat' (first|(refine Ai ?_ ?_)|(intro _)|exact rfl)
 ·have hv:(!(cy w id).2)=false:=hv
  have hv:(cy w id).2=true:=by simpa using hv
  have e:cV w id kind=oZ (w.l.e (cy w id).1).l kind:=by unfold cV;rw[hv]
  simp only[e]
  obtain⟨h1,h2,h3⟩:=find_hit hv
  have hr:=h1.right _ h2
  have hl:=hr.len
  have q1:(0:Int)≤((cy w id).1:Int)∧((cy w id).1:Int)<w.l.n:=⟨by omega,by omega⟩
  have q2:((w.l.e (cy w id).1).l.n:Int)≤oI:=by unfold oI;omega
  refine Ai q1 ?_
  refine Ai ⟨fun _ _=>trivial,q2,hr.inc,rfl⟩ ?_
  refine Ai (fun hc=>?_) (fun hc=>?_)
  ·have hc:(!iw (fun j=>((w.l.e (cy w id).1).l.c j).kind) (w.l.e (cy w id).1).l.n kind)=true:=hc
   have hc:iw (fun j=>((w.l.e (cy w id).1).l.c j).kind) (w.l.e (cy w id).1).l.n kind=false:=by simpa using hc
   have e:oZ (w.l.e (cy w id).1).l kind=(aJ.no,false):=by unfold oZ;rw[hc]
   simp only[e]
   repeat' (first|(refine Ai ?_ ?_)|(intro _)|exact rfl)
  ·have hc:(!iw (fun j=>((w.l.e (cy w id).1).l.c j).kind) (w.l.e (cy w id).1).l.n kind)=false:=hc
   have hc:iw (fun j=>((w.l.e (cy w id).1).l.c j).kind) (w.l.e (cy w id).1).l.n kind=true:=by simpa using hc
   have e:oZ (w.l.e (cy w id).1).l kind=((w.l.e (cy w id).1).l.c (iR (fun j=>((w.l.e (cy w id).1).l.c j).kind) (w.l.e (cy w id).1).l.n kind),true):=by unfold oZ;rw[hc]
   simp only[e]
   have h4:=(kv.1 hc).1
   have q3:(0:Int)≤(iR (fun j=>((w.l.e (cy w id).1).l.c j).kind) (w.l.e (cy w id).1).l.n kind:Int)∧(iR (fun j=>((w.l.e (cy w id).1).l.c j).kind) (w.l.e (cy w id).1).l.n kind:Int)<(w.l.e (cy w id).1).l.n:=⟨by omega,by omega⟩
   refine Ai q1 ?_
   refine Ai q3 ?_
   repeat' (first|(refine Ai ?_ ?_)|(intro _)|exact rfl)
noncomputable def conGet:Con cx:=ah 18 Tryz.call18 (dO cP (rdI .i64) (rdI .u8)) _ _ (fun _=>aw) [] (fun _=>rfl) follows Tryz.func18 (by kernel_rfl) Get_walk
def ixN(g:Nat→Bool):Nat→Nat→Nat
 | k,0=>k
 | k,r+1=>match g k with|true=>k|false=>ixN g (k+1) r
theorem ixN_step{g:Nat→Bool}{k n:Nat}(h:k<n):ixN g k (n-k)=match g k with|true=>k|false=>ixN g (k+1) (n-(k+1)):=by
 rw[show n-k=(n-(k+1))+1 by omega];rfl
theorem ixN_le{g:Nat→Bool} : ∀{r k:Nat},k≤ixN g k r∧ixN g k r≤k+r
 | 0,k=>⟨Nat.le_refl _,Nat.le_refl _⟩
 | r+1,k=>by
  simp only[ixN]
  split
  ·omega
  ·have:=ixN_le (g:=g) (r:=r) (k:=k+1);omega
theorem ixN_hit{g:Nat→Bool} : ∀{r k:Nat},ixN g k r<k+r→g (ixN g k r)=true
 | 0,k,h=>by simp[ixN] at h
 | r+1,k,h=>by
  simp only[ixN] at h ⊢
  split at h
  ·rename_i hg;exact hg
  ·exact ixN_hit (by omega)
theorem ixN_no{g:Nat→Bool} : ∀{r k i:Nat},k≤i→i<ixN g k r→g i=false
 | 0,k,i,h1,h2=>by simp[ixN] at h2;omega
 | r+1,k,i,h1,h2=>by
  simp only[ixN] at h2
  split at h2
  ·omega
  ·rename_i hg
   rcases Nat.eq_or_lt_of_le h1 with rfl|h1
   ·exact hg
   ·exact ixN_no h1 h2
def ixI(g:Nat→Bool)(n:Nat):Int:=match decide (ixN g 0 n<n) with|true=>(ixN g 0 n:Int)|false=>-1
theorem kT{g:Nat→Bool}{n k:Nat}(h:ixN g 0 n=k)(hk:k<n):ixI g n=k:=by unfold ixI;rw[h,decide_eq_true hk]
theorem km{g:Nat→Bool}{n:Nat}(h:ixN g 0 n=n):ixI g n = -1:=by unfold ixI;rw[h,decide_eq_false (Nat.lt_irrefl n)]
def rkI:SV→Int
 | .rp (y::_) _=>y.iv
 | _=>0
def kxI:SV→Int
 | .f _ _ (y::_)=>rkI y
 | _=>0
def bm(l:Cms)(q:Int):aJ×Bool:=match decide (ixN (fun i=>decide ((l.c i).kind=q)) 0 l.n<l.n) with
 | true=>(l.c (ixN (fun i=>decide ((l.c i).kind=q)) 0 l.n),true)
 | false=>(aJ.no,false)
set_option maxHeartbeats 2000000 in
set_option maxRecDepth 8000 in
theorem Clone_walk:∀a,aK ((fun a=>[a.n≤1000]) a)→aX (C:=cx) [] [] 0 aw Tryz.f92 ((bM gE).enc a) fun v H _=>ai ((fun a=>a.sv) a) H v:=by
 intro l hm
 replace hm:l.n≤1000:=hm
 intro b hb
 refine Ai (fun h=>?_) (fun h=>?_)
 ·have h:(b != false)=true:=h
  exact hb (by simpa using h)
 have hf:iz l.n 40:=⟨Nat.le_trans hm (by decide),by omega⟩
 refine Ai hf ?_
 repeat' (first|(refine Ai ?_ ?_)|(intro _)|exact rfl)
 all_goals (show (_:Int)=_;rw[Nat.zero_add])
noncomputable def conClone:Con cx:=ah 92 Tryz.call92 (bM gE) _ _ (fun _=>aw) [] (fun _=>rfl) follows Tryz.func92 (by kernel_rfl) Clone_walk
def Ent.no:Ent:=⟨0,⟨0,fun _=>aJ.no⟩⟩
def gH{α:Type}(f:Nat→α)(g:Nat→Bool):Nat→List α
 | 0=>[]
 | k+1=>match g k with|true=>gH f g k++[f k]|false=>gH f g k
section
variable {α:Type}{f:Nat→α}{g:Nat→Bool}
theorem jc:∀k,(gH f g k).length≤k
 | 0=>Nat.le_refl _
 | k+1=>by
  have:=jc k
  simp only[gH]
  split
  ·simp;omega
  ·omega
theorem gX{k:Nat}(h:g k=true):gH f g (k+1)=gH f g k++[f k]:=by simp only[gH,h]
theorem jb{k:Nat}(h:g k=false):gH f g (k+1)=gH f g k:=by simp only[gH,h]
theorem pushM{d x:α}(l:List α)(i:Nat)(hi:i<l.length+1):(l++[x]).getD i d=bif Nat.ble l.length i then x else l.getD i d:=by
 simp only[List.getD_eq_getElem?_getD]
 rcases Nat.lt_or_ge i l.length with h1|h1
 ·rw[List.getElem?_append_left h1,show Nat.ble l.length i=false by cases hb:Nat.ble l.length i with|false=>rfl|true=>exact absurd (Nat.le_of_ble_eq_true hb) (by omega)]
  rfl
 ·rw[List.getElem?_append_right h1,show i-l.length=0 by omega,show Nat.ble l.length i=true from Nat.ble_eq_true_of_le h1]
  rfl
end
theorem bY{α β:Type}(f:α→β){b:Bool}{x y:α} : f (bif b then x else y)=bif b then f x else f y:=by cases b<;>rfl
end Go.Proofs.YtgigkennhdolpaaGreatDoor
