/- Wide numbers: products, quotients. vec.Limit. vec.Limit. The contract of marked. vec.Limit; beyond; the lists of Check. Structures of the world; readers. store: keys, rising, Fits, Right, Valid. -/
import Derived.Test.YtgigkennhdolpaaGreatDoorM18
namespace Go.Proofs.YtgigkennhdolpaaGreatDoor.Df
open Go.RowKit
set_option maxRecDepth 8000
set_option maxHeartbeats 2000000
theorem orS{a b:Int}(ha:u64 a)(hb:0≤b)(hb':b<2):eK .or .u64 (a*2%18446744073709551616) b=a%9223372036854775808*2+b:=by
 unfold u64 at ha
 rw[show a*2%18446744073709551616=a%9223372036854775808*2 by omega,or1 (by omega) hb hb' (by omega)]
theorem orS1{a:Int}(ha:u64 a):eK .or .u64 (a*2%18446744073709551616) 1=a%9223372036854775808*2+1:=orS ha (by omega) (by omega)
def Sz.val(s:Sz):Int:=s.hi*18446744073709551616+s.lo
def divP(v:Int)(d:Int)(x:Nat×Sz×Sz×Int):Prop:=x.1≤128∧x.2.1.In∧x.2.2.1.In∧0≤x.2.2.2∧x.2.2.2<d∧v*2^x.1=(x.2.2.1.val*d+x.2.2.2)*340282366920938463463374607431768211456+x.2.1.val∧x.2.2.1.val*d+x.2.2.2<2^x.1
def divCut(v:Int)(d:Int):Cut:=⟨Nat×Sz×Sz×Int,divP v d,fun x=>⟨[sl 1 (.v (.int .u64 d)),sl 2 (.p 0 0),sl 4 (.p 1 0),sl 6 (.p 2 0),sl 7 (.v (.int .u64 x.2.2.2)),sl 9 (.v (.int .i64 x.1))],
 [(0,.lay x.2.1.cells 243),(1,.lay [.il .u64 0,.il .u64 0] 243),(2,.lay x.2.2.1.cells 243)],3,0,[],[]⟩,fun x=>128-x.1⟩
theorem div_round{v d:Int}{k:Nat}{s o:Sz}{r:Int}(hd:1≤d)(hd':d<18446744073709551616)(hk:k<128)(h:divP v d (k,s,o,r)){s' o':Sz}{r' c:Int}
  (hs1:s'.hi=s.hi%9223372036854775808*2+s.lo/9223372036854775808) (hs2:s'.lo=s.lo*2%18446744073709551616)
  (ho1:o'.hi=o.hi%9223372036854775808*2+o.lo/9223372036854775808) (ho2:o'.lo=o.lo%9223372036854775808*2+c)
  (hc:c=0∨c=1) (hr:r'=2*r+s.hi/9223372036854775808-c*d) (hr0:0≤r') (hr1:r'<d):divP v d (k+1,s',o',r'):=by
 obtain⟨-,⟨⟨a1,a2⟩,a3,a4⟩,⟨⟨b1,b2⟩,b3,b4⟩,r0,r1,e,lt⟩:=h
 simp only at a1 a2 a3 a4 b1 b2 b3 b4 r0 r1 e lt
 have hp:(2:Int)^(k+1)=2*2^k:=by rw[Int.pow_succ,Int.mul_comm]
 have hO:o.val≤o.val*d:=by
  have:=Int.mul_le_mul_of_nonneg_left hd (show 0≤o.val by unfold Sz.val;omega)
  omega
 have hk2:(2:Int)^k≤170141183460469231731687303715884105728:=by
  have h1:2^k≤2^127:=Nat.pow_le_pow_right (n:=2) (by omega) (by omega)
  have h2:=Int.ofNat_le.2 h1
  rw[Int.natCast_pow] at h2
  exact h2
 have ho:o'.val=2*o.val+c:=by
  unfold Sz.val at hO ⊢
  rw[ho1,ho2]
  unfold Sz.val at lt
  omega
 have hod:o'.val*d=2*(o.val*d)+c*d:=by rw[ho,Int.add_mul,Int.mul_assoc]
 have hs:s'.val=2*s.val-s.hi/9223372036854775808*340282366920938463463374607431768211456:=by
  unfold Sz.val
  rw[hs1,hs2]
  omega
 refine⟨show k+1≤128 by omega,⟨⟨?_,?_⟩,?_,?_⟩,⟨⟨?_,?_⟩,?_,?_⟩,hr0,hr1,?_,?_⟩
 ·show 0≤s'.hi;omega
 ·show s'.hi<_;omega
 ·show 0≤s'.lo;omega
 ·show s'.lo<_;omega
 ·show 0≤o'.hi;omega
 ·show o'.hi<_;omega
 ·show 0≤o'.lo;omega
 ·show o'.lo<_;omega
 ·show v*2^(k+1)=(o'.val*d+r')*340282366920938463463374607431768211456+s'.val
  rw[hp,hs,hod,hr,Int.mul_left_comm,e]
  generalize o.val*d=X
  generalize c*d=Y
  omega
 ·show o'.val*d+r'<2^(k+1)
  rw[hp,hod,hr]
  generalize o.val*d=X at *
  generalize c*d=Y
  omega
theorem div_end{v d:Int}{s o:Sz}{r:Int}(hd:1≤d)(h:divP v d (128,s,o,r)):v/d=o.val∧v%d=r:=by
 obtain⟨-,⟨⟨a1,a2⟩,a3,a4⟩,⟨⟨b1,b2⟩,b3,b4⟩,r0,r1,e,lt⟩:=h
 simp only at a1 a2 a3 a4 b1 b2 b3 b4 r0 r1 e lt
 have hv:v=r+o.val*d:=by
  have:v*340282366920938463463374607431768211456=(o.val*d+r)*340282366920938463463374607431768211456+s.val:=e
  unfold Sz.val at this ⊢
  generalize (o.hi*18446744073709551616+o.lo)*d=X at *
  omega
 constructor
 ·rw[hv,Int.add_mul_ediv_right _ _ (by omega),Int.ediv_eq_zero_of_lt r0 r1,Int.zero_add]
 ·rw[hv,Int.add_mul_emod_self_right,Int.emod_eq_of_lt r0 r1]
theorem Mul_walk:∀a,aK ((fun a=>[u64 a.1.lo,0≤a.2.lo∧a.2.lo<4294967296]) a)→aX (C:=cx) [m7,conTimes] [] 0 aw Tryz.f150 ((aV rdW rdW).enc a) fun v H _=>ai ((fun a=>(mB a.1 a.2).sv) a) H v:=by
 intro⟨x,y⟩ ⟨hn,hm⟩
 repeat' (first|(refine Ai ?_ ?_)|(intro _))
 all_goals (try (refine Eq.trans ?_ rfl))
 all_goals (try simp only[bM,aV,dO,fF,rdW,rdB,rdI,Sz.of,W.of,hdS,tlS,SV.al,SV.iv,SV.bv,cI,decide_eq_true_eq,decide_eq_false_iff_not] at *)
 all_goals first|rfl|exact hn.1|exact hn.2|exact hm.1|exact hm.2|trace_state
noncomputable def conMul:Con cx:=ah 150 Tryz.call150 (aV rdW rdW) _ _ (fun _=>aw) [] (fun _=>rfl) follows Tryz.func150 (by kernel_rfl) Mul_walk
theorem Divide_walk:∀a,aK ((fun a=>[a.1.In,1≤a.2∧a.2<18446744073709551616]) a)→aX (C:=cx) [] [] 0 ⟨[],[],[4],0⟩ Tryz.f201 ((aV fF (rdI .u64)).enc a) fun v H _=>ai ((fun a=>.tup [(lG a.1 a.2).sv,.v (.int .u64 (szRem a.1 a.2))]) a) H v:=by
 intro⟨x,d⟩ ⟨hn,hm⟩
 replace hn:x.In:=hn
 obtain⟨hd,hd'⟩:1≤d∧d<18446744073709551616:=hm
 refine Exists.intro (divCut x.val d) ?_
 refine Ai ?_ ?_
 ·refine⟨((0:Nat),x,⟨0,0⟩,(0:Int)),[],[],trivial,?_,?_⟩
  ·refine⟨Nat.zero_le _,hn,⟨⟨Int.le_refl 0,by show (0:Int)<_;decide⟩,Int.le_refl 0,by show (0:Int)<_;decide⟩,Int.le_refl 0,by show 0<d;omega,?_,?_⟩
   ·show x.val*1=((0*18446744073709551616+0)*d+0)*_+x.val
    omega
   ·show (0*18446744073709551616+0)*d+0<(1:Int)
    omega
  ·repeat' (first|(refine Ai ?_ ?_)|(intro _)|exact rfl)
 refine fun(y:Nat×Sz×Sz×Int) (hy:divP x.val d y)=>?_
 obtain⟨k,s,o,r⟩:=y
 have hk128:=hy.1
 simp only at hk128
 refine Ai (fun hb=>?_) (fun hb=>?_)
 ·have hk:k<128:=by simp only[decide_eq_true_eq] at hb;omega
  have hs:=hy.2.1
  have ho:=hy.2.2.1
  have hr0:=hy.2.2.2.1
  have hr1:=hy.2.2.2.2.1
  simp only at hs ho hr0 hr1
  obtain⟨hs1,hs2⟩:=hs
  obtain⟨ho1,ho2⟩:=ho
  have hr:u64 r:=⟨hr0,by omega⟩
  have hb0:0≤s.hi/9223372036854775808∧s.hi/9223372036854775808<2:=by unfold u64 at hs1;omega
  have hb1:0≤s.lo/9223372036854775808∧s.lo/9223372036854775808<2:=by unfold u64 at hs2;omega
  have hb2:0≤o.lo/9223372036854775808∧o.lo/9223372036854775808<2:=by unfold u64 at ho2;omega
  have q1:=orS hr hb0.1 hb0.2
  have q2:=orS hs1 hb1.1 hb1.2
  have q3:=orS ho1 hb2.1 hb2.2
  have q4:=orS1 ho2
  unfold u64 at hr hs1 hs2 ho1 ho2
  refine Ai (fun hc=>?_) (fun hc=>?_)
  ·simp only[wu,p1,p63,fd63,q1,Bool.or_eq_true,decide_eq_true_eq] at hc
   refine Ai ?_ ?_
   ·constructor<;>simp only<;>omega
   refine Exists.intro (k+1,⟨s.hi%9223372036854775808*2+s.lo/9223372036854775808,s.lo*2%18446744073709551616⟩,⟨o.hi%9223372036854775808*2+o.lo/9223372036854775808,o.lo%9223372036854775808*2+1⟩,2*r+s.hi/9223372036854775808-d) ?_
   refine Exists.intro [] ?_
   refine Exists.intro [] ?_
   refine Ai ?_ (Ai ?_ ?_)
   ·show 128-(k+1)<128-k
    omega
   ·exact div_round hd hd' hk hy rfl rfl rfl rfl (Or.inr rfl) (by omega) (by omega) (by omega)
   ·repeat' (first|(refine Ai ?_ ?_)|(intro _)|exact rfl)
    all_goals (try (refine Eq.trans ?_ rfl))
    all_goals simp only[wu,p1,p63,fd63,q1,q2,q3,q4]
    all_goals omega
  ·simp only[wu,p1,p63,fd63,q1,Bool.or_eq_false_iff,decide_eq_false_iff_not] at hc
   refine Ai ?_ ?_
   ·constructor<;>simp only<;>omega
   refine Exists.intro (k+1,⟨s.hi%9223372036854775808*2+s.lo/9223372036854775808,s.lo*2%18446744073709551616⟩,⟨o.hi%9223372036854775808*2+o.lo/9223372036854775808,o.lo%9223372036854775808*2+0⟩,2*r+s.hi/9223372036854775808-0*d) ?_
   refine Exists.intro [] ?_
   refine Exists.intro [] ?_
   refine Ai ?_ (Ai ?_ ?_)
   ·show 128-(k+1)<128-k
    omega
   ·exact div_round hd hd' hk hy rfl rfl rfl rfl (Or.inl rfl) rfl (by omega) (by omega)
   ·repeat' (first|(refine Ai ?_ ?_)|(intro _)|exact rfl)
    all_goals (try (refine Eq.trans ?_ rfl))
    all_goals simp only[wu,p1,p63,fd63,q1,q2,q3]
    all_goals omega
 ·obtain rfl:k=128:=by simp only[decide_eq_false_iff_not] at hb;omega
  obtain⟨e1,e2⟩:=div_end hd hy
  have ho:=hy.2.2.1
  simp only[Sz.In,u64] at ho
  unfold Sz.val at e1 e2
  repeat' (first|(refine Ai ?_ ?_)|(intro _))
  all_goals (try (refine Eq.trans ?_ rfl))
  all_goals simp only[lG,szRem,e1,e2]
  all_goals omega
noncomputable def conDivide:Con cx:=ah 201 Tryz.call201 (aV fF (rdI .u64)) _ _ (fun _=>⟨[],[],[4],0⟩) [] (fun _=>rfl) follows Tryz.func201 (by kernel_rfl) Divide_walk
end Go.Proofs.YtgigkennhdolpaaGreatDoor.Df
namespace Go.Proofs.YtgigkennhdolpaaGreatDoor.Df
open Go.RowKit
set_option maxRecDepth 8000
set_option maxHeartbeats 2000000
def W.ofL(x:List SV):W:=⟨(hdS x).iv,(hdS (tlS x)).iv,(hdS (tlS (tlS x))).bv⟩
structure WFam where
 n:Nat
 g:Nat→W
def rdWF:Rd WFam:=⟨.rs 3 0 fun _=>[.v (.int .u64 0),.v (.int .u64 0),.v (.bool false)],fun x=>⟨x.rn,fun i=>W.ofL (x.rf i)⟩,fun p=>.rs 3 p.n fun i=>(p.g i).cells,fun _=>rfl⟩
def W.zero(a:W):Prop:=a.hi=0∧a.lo=0∧a.neg=false
def W.norm(a:W):Prop:=u64 a.hi∧u64 a.lo∧(a.neg=true→¬(a.hi=0∧a.lo=0))
def wSat(a:W):Int:=if a.neg then-a.lo else a.lo
def W.small(a:W):Prop:=a.hi=0∧0≤a.lo∧a.lo<9223372036854775808
def wFar(x y:W):W:=if iN ⟨x.hi,x.lo⟩ ⟨y.hi,y.lo⟩ then⟨y.hi,y.lo,false⟩ else⟨x.hi,x.lo,false⟩
def sumO(g:Nat→W):Nat→W
 | 0=>⟨0,0,false⟩
 | 1=>⟨0,0,false⟩
 | _+2=>g 1
def sumCut(g:Nat→W):Cut:=⟨Nat,fun k=>k≤2,fun k=>⟨[sl 2 (.p 0 0),sl 3 (.p 1 0),sl 7 (.rs 3 2 fun i=>(g i).cells),sl 8 (.v (.int .i64 2)),sl 9 (.v (.int .i64 k))],
 [(0,.lay [.il .u64 0,.il .u64 0,.bl false] 245),(1,.lay (sumO g k).cells 245)],2,0,[],[]⟩,fun k=>2-k⟩
theorem Trunc_walk:∀a,aK ((fun a=>[a.1.In,1≤a.2.lo∧a.2.lo<18446744073709551616]) a)→aX (C:=cx) [m7,conDivide] [] 0 aw Tryz.f149 ((aV rdW rdW).enc a) fun v H _=>ai ((fun a=>(wTrunc a.1 a.2).sv) a) H v:=by
 intro⟨x,y⟩ ⟨hn,hm⟩
 repeat' (first|(refine Ai ?_ ?_)|(intro _))
 all_goals (try (refine Eq.trans ?_ rfl))
 all_goals (try simp only[bM,aV,dO,fF,rdW,rdB,rdI,Sz.of,W.of,hdS,tlS,SV.al,SV.iv,SV.bv,cI,decide_eq_true_eq,decide_eq_false_iff_not] at *)
 all_goals first|rfl|exact hn.1.1|exact hn.1.2|exact hn.2.1|exact hn.2.2|exact hm.1|exact hm.2|trace_state
noncomputable def conTrunc:Con cx:=ah 149 Tryz.call149 (aV rdW rdW) _ _ (fun _=>aw) [] (fun _=>rfl) follows Tryz.func149 (by kernel_rfl) Trunc_walk
theorem Plus_walk:∀a,aK ((fun a=>[a.1.hi=0∧a.1.lo=0,a.2.In]) a)→aX (C:=cx) [] [] 0 aw Tryz.f203 ((aV fF fF).enc a) fun v H _=>ai ((fun a=>a.2.sv) a) H v:=by
 intro⟨s,t⟩ ⟨⟨h1,h2⟩,hm⟩
 replace h1:s.hi=0:=h1
 replace h2:s.lo=0:=h2
 obtain⟨⟨a1,a2⟩,a3,a4⟩:t.In:=hm
 repeat' (first|(refine Ai ?_ ?_)|(intro _))
 all_goals (try (refine Eq.trans ?_ rfl))
 all_goals (try simp only[bM,aV,dO,fF,rdW,rdB,rdI,Sz.of,W.of,hdS,tlS,SV.al,SV.iv,SV.bv,cI,decide_eq_true_eq,decide_eq_false_iff_not] at *)
 all_goals (try simp only[wu] at *)
 all_goals first|omega|trace_state
noncomputable def conPlus:Con cx:=ah 203 Tryz.call203 (aV fF fF) _ _ (fun _=>aw) [] (fun _=>rfl) follows Tryz.func203 (by kernel_rfl) Plus_walk
theorem Minus_walk:∀a,aK ((fun a=>[a.2.hi=0∧a.2.lo=0,a.1.In]) a)→aX (C:=cx) [] [] 0 aw Tryz.f204 ((aV fF fF).enc a) fun v H _=>ai ((fun a=>a.1.sv) a) H v:=by
 intro⟨t,s⟩ ⟨⟨h1,h2⟩,hm⟩
 replace h1:s.hi=0:=h1
 replace h2:s.lo=0:=h2
 obtain⟨⟨a1,a2⟩,a3,a4⟩:t.In:=hm
 repeat' (first|(refine Ai ?_ ?_)|(intro _))
 all_goals (try (refine Eq.trans ?_ rfl))
 all_goals (try simp only[bM,aV,dO,fF,rdW,rdB,rdI,Sz.of,W.of,hdS,tlS,SV.al,SV.iv,SV.bv,cI,decide_eq_true_eq,decide_eq_false_iff_not] at *)
 all_goals (try simp only[wu] at *)
 all_goals first|omega|trace_state
noncomputable def conMinus:Con cx:=ah 204 Tryz.call204 (aV fF fF) _ _ (fun _=>aw) [] (fun _=>rfl) follows Tryz.func204 (by kernel_rfl) Minus_walk
theorem Sat_walk:∀a,aK ((fun a=>[a.small]) a)→aX (C:=cx) [] [] 0 aw Tryz.f152 ((bM rdW).enc a) fun v H _=>ai ((fun a=>.v (.int .i64 (wSat a))) a) H v:=by
 intro x hx
 obtain⟨h1,h2,h3⟩:x.small:=hx
 repeat' (first|(refine Ai ?_ ?_)|(intro _))
 all_goals (try (refine Eq.trans ?_ rfl))
 all_goals (try simp only[bM,aV,dO,fF,rdW,rdB,rdI,Sz.of,W.of,hdS,tlS,SV.al,SV.iv,SV.bv,cI,decide_eq_true_eq,decide_eq_false_iff_not] at *)
 all_goals (try simp only[wSat,wu,wi])
 all_goals first|omega|grind|trace_state
noncomputable def conSat:Con cx:=ah 152 Tryz.call152 (bM rdW) _ _ (fun _=>aw) [] (fun _=>rfl) follows Tryz.func152 (by kernel_rfl) Sat_walk
theorem Sum_walk:∀a,aK ((fun a=>[a.n=2,(a.g 0).zero,(a.g 1).norm]) a)→aX (C:=cx) [m7,conPlus,conMinus,conSLess] [] 0 ⟨[],[],[3],0⟩ Tryz.f151 ((bM rdWF).enc a) fun v H _=>ai ((fun a=>(a.g 1).sv) a) H v:=by
 intro⟨n,g⟩ ⟨hn,hx,hy⟩
 replace hn:n=2:=hn
 subst hn
 obtain⟨x1,x2,x3⟩:(g 0).zero:=hx
 obtain⟨⟨a1,a2⟩,⟨a3,a4⟩,a5⟩:(g 1).norm:=hy
 refine Exists.intro (sumCut g) ?_
 refine Ai ?_ ?_
 ·refine⟨(0:Nat),[],[],trivial,Nat.zero_le _,?_⟩
  repeat' (first|(refine Ai ?_ ?_)|(intro _)|exact rfl)
 refine fun(k:Nat) (hk:k≤2)=>?_
 refine Ai (fun hb=>?_) (fun hb=>?_)
 ·have hb:(k:Int)<2:=Od hb
  have hk01:k=0∨k=1:=by omega
  clear hk
  repeat' (first|(refine Ai ?_ ?_)|(intro _))
  all_goals try (refine Exists.intro (k+1:Nat) ?_;refine Exists.intro [] ?_;refine Exists.intro [] ?_;refine Ai ?_ ?_;(show 2-(k+1)<2-k;omega);refine Ai ?_ ?_;(show k+1≤2;omega);repeat' (first|(refine Ai ?_ ?_)|(intro _)|exact rfl))
  all_goals (try (refine Eq.trans ?_ rfl))
  all_goals (try simp only[bM,aV,dO,fF,rdW,rdB,rdI,dW,Vec.of,rdWF,W.ofL,SV.rf,Sz.of,W.of,hdS,tlS,SV.al,SV.iv,SV.bv,cI,decide_eq_true_eq,decide_eq_false_iff_not] at *)
  all_goals (try (obtain rfl|rfl:=hk01))
  all_goals first|omega|(simp only[sumO,jQ,iN,show ((1:Nat):Int).toNat=1 from rfl,show ((0:Nat):Int).toNat=0 from rfl] at *<;>first|omega|grind)|trace_state
 ·obtain rfl:k=2:=by simp only[decide_eq_false_iff_not] at hb;omega
  repeat' (first|(refine Ai ?_ ?_)|(intro _)|exact rfl)
noncomputable def conSum:Con cx:=ah 151 Tryz.call151 (bM rdWF) _ _ (fun _=>⟨[],[],[3],0⟩) [] (fun _=>rfl) follows Tryz.func151 (by kernel_rfl) Sum_walk
theorem Way_walk:∀a,aK ((fun a=>[InR a.1.x∧InR a.1.y,InR a.2.x∧InR a.2.y]) a)→aX (C:=cx) [conDiff,conSLess] [] 0 ⟨[5],[],[],0⟩ Tryz.f146 ((aV dW dW).enc a) fun v H _=>ai ((fun a=>.tup [(cU a.2.x a.1.x).sv,(cU a.2.y a.1.y).sv,(wFar (cU a.2.x a.1.x) (cU a.2.y a.1.y)).sv]) a) H v:=by
 intro⟨x,y⟩ ⟨hx,hy⟩
 obtain⟨x1,x2⟩:InR x.x∧InR x.y:=hx
 obtain⟨y1,y2⟩:InR y.x∧InR y.y:=hy
 repeat' (first|(refine Ai ?_ ?_)|(intro _))
 all_goals (try (refine Eq.trans ?_ rfl))
 all_goals (try simp only[bM,aV,dO,fF,rdW,rdB,rdI,dW,Vec.of,rdWF,W.ofL,SV.rf,Sz.of,W.of,hdS,tlS,SV.al,SV.iv,SV.bv,cI,decide_eq_true_eq,decide_eq_false_iff_not] at *)
 all_goals first|assumption|rfl|exact x1.1|exact x1.2|exact x2.1|exact x2.2|exact y1.1|exact y1.2|exact y2.1|exact y2.2|(simp only[wFar];rw[‹iN _ _=_›];rfl)|trace_state
noncomputable def conWay:Con cx:=ah 146 Tryz.call146 (aV dW dW) _ _ (fun _=>⟨[5],[],[],0⟩) [5] (fun _=>rfl) follows Tryz.func146 (by kernel_rfl) Way_walk
end Go.Proofs.YtgigkennhdolpaaGreatDoor.Df
namespace Go.Proofs.YtgigkennhdolpaaGreatDoor.Df
open Go.RowKit
theorem lt2{i:Nat}(h:i<2):i=0∨i=1:=by omega
theorem chunk0{a b c:SV}{r:List SV} : chunk (a::b::c::r) 3 0=[a,b,c]:=rfl
theorem chunk1{a b c d x f:SV}{r:List SV} : chunk (a::b::c::d::x::f::r) 3 1=[d,x,f]:=rfl
theorem drop0{l:List SV} : List.drop 0 l=l:=rfl
theorem W.eta(a:W):(⟨a.hi,a.lo,a.neg⟩:W)=a:=rfl
theorem Sz.eta(a:Sz):(⟨a.hi,a.lo⟩:Sz)=a:=rfl
theorem Vec.eta(a:Vec):(⟨a.x,a.y⟩:Vec)=a:=rfl
def dR(v:Vec):W:=wFar (cU v.x 0) (cU v.y 0)
def nI(n m:Int)(f:W):W:=wTrunc (mB (cU n 0) (wOf m)) f
def lim(v:Vec)(m:Int):Vec:=if v.x=0∧v.y=0 then⟨0,0⟩ else if iN ⟨(wOf m).hi,(wOf m).lo⟩ ⟨(dR v).hi,(dR v).lo⟩ then⟨wSat (nI v.x m (dR v)),wSat (nI v.y m (dR v))⟩ else v
theorem mY{v:Vec}(hx:InR v.x)(hy:InR v.y):(dR v).hi=0∧(dR v).lo<18446744073709551616∧v.x.natAbs≤(dR v).lo∧v.y.natAbs≤(dR v).lo∧(dR v).neg=false:=by
 unfold InR at hx hy
 simp only[dR,wFar,cU,iN]
 split<;>rename_i h<;>simp at h ⊢<;>omega
theorem lim1_ok{n m:Int}{f:W}(hn:InR n)(hm:1≤m∧m≤65536)(h0:1≤f.lo)(hf:(n.natAbs:Int)≤f.lo):(nI n m f).hi=0∧0≤(nI n m f).lo∧(nI n m f).lo≤m∧((nI n m f).neg=true→¬((nI n m f).hi=0∧(nI n m f).lo=0)):=by
 unfold InR at hn
 have e:(mB (cU n 0) (wOf m)).hi*18446744073709551616+(mB (cU n 0) (wOf m)).lo=n.natAbs*m:=by
  simp only[mB,jQ,mE,cU,wOf]
  rw[show ((n-0).natAbs:Int)=n.natAbs by omega,show ((m.natAbs:Nat):Int)=m by omega]
  omega
 have hq:(n.natAbs:Int)*m/f.lo≤m:=by
  refine Int.ediv_le_of_le_mul (by omega) ?_
  rw[Int.mul_comm]
  exact Int.mul_le_mul_of_nonneg_left hf (by omega)
 have hq0:0≤(n.natAbs:Int)*m/f.lo:=Int.ediv_nonneg (Int.mul_nonneg (by omega) (by omega)) (by omega)
 have e1:(nI n m f).hi=(n.natAbs:Int)*m/f.lo/18446744073709551616:=by
  show (lG ⟨_,_⟩ f.lo).hi=_
  simp only[lG,e]
 have e2:(nI n m f).lo=(n.natAbs:Int)*m/f.lo%18446744073709551616:=by
  show (lG ⟨_,_⟩ f.lo).lo=_
  simp only[lG,e]
 refine⟨by omega,by omega,by omega,fun h=>?_⟩
 have:(jQ (lG ⟨(mB (cU n 0) (wOf m)).hi,(mB (cU n 0) (wOf m)).lo⟩ f.lo) ((mB (cU n 0) (wOf m)).neg != f.neg)).neg=true:=h
 simp only[jQ,Bool.and_eq_true,Bool.not_eq_true',Bool.and_eq_false_iff,decide_eq_false_iff_not] at this
 intro hc
 have h1:(lG ⟨(mB (cU n 0) (wOf m)).hi,(mB (cU n 0) (wOf m)).lo⟩ f.lo).hi=0:=hc.1
 have h2:(lG ⟨(mB (cU n 0) (wOf m)).hi,(mB (cU n 0) (wOf m)).lo⟩ f.lo).lo=0:=hc.2
 omega
theorem wMul_in{a b:W}(ha:0≤a.lo∧a.lo<18446744073709551616)(hb:0≤b.lo∧b.lo<4294967296):(mB a b).In:=by
 have h0:0≤a.lo*b.lo:=Int.mul_nonneg ha.1 hb.1
 have h1:a.lo*b.lo≤18446744073709551615*4294967295:=Int.mul_le_mul (by omega) (by omega) hb.1 (by omega)
 simp only[W.In,u64,mB,jQ,mE]
 omega
theorem less_far{v:Vec}{m:Int}(f1:(dR v).hi=0)(hm:1≤m∧m≤65536):iN ⟨(wOf m).hi,(wOf m).lo⟩ ⟨(dR v).hi,(dR v).lo⟩=decide (m<(dR v).lo):=by
 have h:((m.natAbs:Nat):Int)=m:=by omega
 simp[iN,wOf,f1,h]
theorem lim_ok{v:Vec}{m:Int}(hx:InR v.x)(hy:InR v.y)(hm:1≤m∧m≤65536) : -m≤(lim v m).x∧(lim v m).x≤m∧-m≤(lim v m).y∧(lim v m).y≤m:=by
 obtain⟨f1,f2,f3,f4,-⟩:=mY hx hy
 have hs:=less_far (m:=m) f1 hm
 unfold lim
 rw[hs]
 split
 ·simp only;omega
 ·split
  ·rename_i h
   have h:=Od h
   have a:=lim1_ok (f:=dR v) hx hm (by omega) f3
   have b:=lim1_ok (f:=dR v) hy hm (by omega) f4
   simp only[wSat]
   repeat' split
   all_goals omega
  ·rename_i h
   have h:¬m<(dR v).lo:=fun hc=>h (decide_eq_true hc)
   omega
set_option maxHeartbeats 2000000 in
set_option maxRecDepth 8000 in
theorem Toward_walk:∀a,aK ((fun a=>[a.1.x=0∧a.1.y=0,InR a.2.1.x∧InR a.2.1.y,1≤a.2.2∧a.2.2≤65536]) a)→aX (C:=cx) [conOf,conMul,conTrunc,conSum,conSat,conWay,conSLess] [] 0 aw Tryz.f95 ((dO dW dW (rdI .i64)).enc a) fun v H _=>ai ((fun a=>(lim a.2.1 a.2.2).sv) a) H v:=by
 intro⟨a,v,m⟩ ⟨h0,hv,hm⟩
 obtain⟨ax,ay⟩:a.x=0∧a.y=0:=h0
 obtain⟨vx,vy⟩:InR v.x∧InR v.y:=hv
 replace hm:1≤m∧m≤65536:=hm
 obtain⟨a1,a2⟩:=a
 obtain rfl:a1=0:=ax
 obtain rfl:a2=0:=ay
 have hs:=less_far (v:=v) (m:=m) (mY vx vy).1 hm
 have F:=mY vx vy
 have l1:=lim1_ok (f:=dR v) (n:=v.x) (m:=m) vx hm
 have l2:=lim1_ok (f:=dR v) (n:=v.y) (m:=m) vy hm
 have i0:0≤(wOf m).lo∧(wOf m).lo<4294967296:=by simp only[wOf];omega
 have i1:=wMul_in (a:=cU v.x 0) (b:=wOf m) (by unfold InR at vx;simp only[cU];omega) i0
 have i2:=wMul_in (a:=cU v.y 0) (b:=wOf m) (by unfold InR at vy;simp only[cU];omega) i0
 have i3:0≤(cU v.x 0).lo∧(cU v.x 0).lo<18446744073709551616:=by unfold InR at vx;simp only[cU];omega
 have i4:0≤(cU v.y 0).lo∧(cU v.y 0).lo<18446744073709551616:=by unfold InR at vy;simp only[cU];omega
 have z0:(wOf 0).hi=0∧(wOf 0).lo=0∧(wOf 0).neg=false:=⟨rfl,rfl,rfl⟩
 have L:lim v m=if v.x=0∧v.y=0 then⟨0,0⟩ else if m<(dR v).lo then⟨wSat (nI v.x m (dR v)),wSat (nI v.y m (dR v))⟩ else v:=by
  unfold lim
  rw[hs]
  simp only[decide_eq_true_eq]
 simp only[W.In,u64] at i1 i2
 unfold InR at vx vy
 simp only[nI,dR] at F l1 l2 L hs
 repeat' (first|(refine Ai ?_ ?_)|(intro _))
 all_goals try (rename_i i hi;obtain rfl|rfl:=lt2 hi<;>repeat' (first|exact trivial|refine Ai ?_ ?_))
 all_goals (try (refine Eq.trans ?_ rfl))
 all_goals (try simp only[bM,aV,dO,fF,rdW,rdB,rdI,dW,Vec.of,rdWF,W.ofL,SV.rf,SV.rn,chunk0,chunk1,drop0,W.eta,Sz.eta,Vec.eta,Sz.of,W.of,hdS,tlS,SV.al,SV.iv,SV.bv,cI,decide_eq_true_eq,decide_eq_false_iff_not] at *)
 all_goals (try simp only[hs,decide_eq_true_eq,decide_eq_false_iff_not] at *)
 all_goals first|omega|(rw[L];grind)|grind|trace_state
noncomputable def conToward:Con cx:=ah 95 Tryz.call95 (dO dW dW (rdI .i64)) _ _ (fun _=>aw) [] (fun _=>rfl) follows Tryz.func95 (by kernel_rfl) Toward_walk
end Go.Proofs.YtgigkennhdolpaaGreatDoor.Df
namespace Go.Proofs.YtgigkennhdolpaaGreatDoor.Df
open Go.RowKit
def zeroW:List SV:=[.il .i64 0,.il .i64 0,.v (.slice none 0 0),.il .i64 0,.il .i64 0,.il .i64 0,.il .i64 0,.il .i64 0,.il .i64 0,.il .i64 0,.il .i64 0,.il .i64 0]
end Go.Proofs.YtgigkennhdolpaaGreatDoor.Df
namespace Go.Proofs.YtgigkennhdolpaaGreatDoor.Df
open Go.RowKit
set_option maxHeartbeats 2000000 in
set_option maxRecDepth 8000 in
theorem Limit_walk:∀a,aK ((fun a=>[InR a.1.x∧InR a.1.y,1≤a.2∧a.2≤65536]) a)→aX (C:=cx) [conToward] [] 0 aw Tryz.f58 ((aV dW (rdI .i64)).enc a) fun v H _=>ai ((fun a=>(lim a.1 a.2).sv) a) H v:=by
 intro⟨v,m⟩ ⟨⟨vx,vy⟩,hm⟩
 replace vx:InR v.x:=vx
 replace vy:InR v.y:=vy
 replace hm:1≤m∧m≤65536:=hm
 repeat' (first|(refine Ai ?_ ?_)|(intro _))
 all_goals (try (refine Eq.trans ?_ rfl))
 all_goals first|rfl|exact vx.1|exact vx.2|exact vy.1|exact vy.2|exact hm.1|exact hm.2|trace_state
noncomputable def conLimit:Con cx:=ah 58 Tryz.call58 (aV dW (rdI .i64)) _ _ (fun _=>aw) [] (fun _=>rfl) follows Tryz.func58 (by kernel_rfl) Limit_walk
end Go.Proofs.YtgigkennhdolpaaGreatDoor.Df
namespace Go.Proofs.YtgigkennhdolpaaGreatDoor
open Go.RowKit
theorem follows:cx.P.follows .mixedOrders=true:=by kernel_rfl
def sl(t:Nat)(v:SV):Nat×Slot:=(t,⟨0,0,[],v⟩)
def I64(x:Int):Prop:=-9223372036854775808≤x∧x≤9223372036854775807
def i64(n:Int):SV:=.v (.int .i64 n)
structure Vec where
 x:Int
 y:Int
def Vec.cells(b:Vec):List SV:=[.v (.int .i64 b.x),.v (.int .i64 b.y)]
def Vec.sv(b:Vec):SV:=.agg b.cells
def Vec.of(x:SV):Vec:=⟨(hdS (x.al)).iv,(hdS (tlS (x.al))).iv⟩
def dW:Rd Vec:=⟨.agg [.v (.int .i64 0),.v (.int .i64 0)],Vec.of,Vec.sv,fun _=>rfl⟩
structure Body where
 iD:Int
 posX:Int
 posY:Int
 velX:Int
 velY:Int
 w:Int
 h:Int
 round:Bool
 fixed:Bool
def Body.cells(b:Body):List SV:=[.v (.int .i64 b.iD),.v (.int .i64 b.posX),.v (.int .i64 b.posY),.v (.int .i64 b.velX),.v (.int .i64 b.velY),.v (.int .i64 b.w),.v (.int .i64 b.h),.v (.bool b.round),.v (.bool b.fixed)]
def Body.sv(b:Body):SV:=.agg b.cells
def Body.of(x:SV):Body:=⟨(hdS (x.al)).iv,(hdS (tlS (x.al))).iv,(hdS (tlS (tlS (x.al)))).iv,(hdS (tlS (tlS (tlS (x.al))))).iv,(hdS (tlS (tlS (tlS (tlS (x.al)))))).iv,(hdS (tlS (tlS (tlS (tlS (tlS (x.al))))))).iv,(hdS (tlS (tlS (tlS (tlS (tlS (tlS (x.al)))))))).iv,(hdS (tlS (tlS (tlS (tlS (tlS (tlS (tlS (x.al))))))))).bv,(hdS (tlS (tlS (tlS (tlS (tlS (tlS (tlS (tlS (x.al)))))))))).bv⟩
def rdBody:Rd Body:=⟨.agg [.v (.int .i64 0),.v (.int .i64 0),.v (.int .i64 0),.v (.int .i64 0),.v (.int .i64 0),.v (.int .i64 0),.v (.int .i64 0),.v (.bool false),.v (.bool false)],Body.of,Body.sv,fun _=>rfl⟩
structure aJ where
 kind:Int
 v0:Int
 v1:Int
 v2:Int
 v3:Int
def aJ.cells(b:aJ):List SV:=[.v (.int .u8 b.kind),.v (.int .i64 b.v0),.v (.int .i64 b.v1),.v (.int .i64 b.v2),.v (.int .i64 b.v3)]
def aJ.sv(b:aJ):SV:=.agg b.cells
def aJ.of(x:SV):aJ:=⟨(hdS x.al).iv,(hdS (tlS x.al)).iv,(hdS (tlS (tlS x.al))).iv,(hdS (tlS (tlS (tlS x.al)))).iv,(hdS (tlS (tlS (tlS (tlS x.al))))).iv⟩
def patC:List SV:=[.v (.int .u8 0),.v (.int .i64 0),.v (.int .i64 0),.v (.int .i64 0),.v (.int .i64 0)]
def gz:Rd aJ:=⟨.agg patC,aJ.of,aJ.sv,fun _=>rfl⟩
structure Cms where
 n:Nat
 c:Nat→aJ
def Cms.sv(l:Cms):SV:=.rs 5 l.n fun i=>(l.c i).cells
def Cms.of(x:SV):Cms:=⟨x.rn,fun i=>aJ.of (.agg (x.rf i))⟩
def gE:Rd Cms:=⟨.rs 5 0 fun _=>patC,Cms.of,Cms.sv,fun _=>rfl⟩
structure Ent where
 iD:Int
 l:Cms
def Ent.cells(b:Ent):List SV:=[.v (.int .i64 b.iD),b.l.sv]
def Ent.sv(b:Ent):SV:=.agg b.cells
def Ent.of(x:SV):Ent:=⟨(hdS x.al).iv,Cms.of (hdS (tlS x.al))⟩
def patE:List SV:=[.v (.int .i64 0),.rs 5 0 fun _=>patC]
def eG:Rd Ent:=⟨.agg patE,Ent.of,Ent.sv,fun _=>rfl⟩
structure Ens where
 n:Nat
 e:Nat→Ent
def Ens.sv(l:Ens):SV:=.rs 2 l.n fun i=>(l.e i).cells
def Ens.of(x:SV):Ens:=⟨x.rn,fun i=>Ent.of (.agg (x.rf i))⟩
def oA:Rd Ens:=⟨.rs 2 0 fun _=>patE,Ens.of,Ens.sv,fun _=>rfl⟩
structure Wor where
 tick:Int
 l:Ens
def Wor.cells(b:Wor):List SV:=[.v (.int .i64 b.tick),b.l.sv]
def Wor.sv(b:Wor):SV:=.agg b.cells
def Wor.of(x:SV):Wor:=⟨(hdS x.al).iv,Ens.of (hdS (tlS x.al))⟩
def cP:Rd Wor:=⟨.agg [.v (.int .i64 0),.rs 2 0 fun _=>patE],Wor.of,Wor.sv,fun _=>rfl⟩
set_option maxRecDepth 8000
set_option maxHeartbeats 2000000
def fT(key:Nat→Int):Nat→Nat→Bool
 | _,0=>false
 | k,r+1=>match decide (key k≤key (k-1)) with|true=>true|false=>fT key (k+1) r
theorem unsG_step{key:Nat→Int}{k n:Nat}(h:k<n):fT key k (n-k)=match decide (key k≤key (k-1)) with|true=>true|false=>fT key (k+1) (n-(k+1)):=by
 rw[show n-k=(n-(k+1))+1 by omega];rfl
theorem unsG_no{key:Nat→Int} : ∀{r k:Nat},fT key k r=false→∀i,k≤i→i<k+r→key (i-1)<key i
 | 0,k,_,i,h1,h2=>by omega
 | r+1,k,h,i,h1,h2=>by
  simp only[fT] at h
  split at h
  ·cases h
  ·rename_i hk
   have hk:=of_decide_eq_false hk
   rcases Nat.eq_or_lt_of_le h1 with rfl|h1
   ·omega
   ·exact unsG_no h i h1 (by omega)
theorem unsG_of{key:Nat→Int} : ∀{r k:Nat},(∀i,k≤i→i<k+r→key (i-1)<key i)→fT key k r=false
 | 0,k,_=>rfl
 | r+1,k,h=>by
  have:=h k (Nat.le_refl _) (by omega)
  simp only[fT,decide_eq_false (by omega:¬key k≤key (k-1))]
  exact unsG_of fun i h1 h2=>h i (by omega) (by omega)
def Inc(key:Nat→Int)(n:Nat):Prop:=∀i j,i<j→j<n→key i<key j
theorem nO{key:Nat→Int}{n:Nat}(h:fT key 1 (n-1)=false):Inc key n:=by
 have step:∀i,0<i→i<n→key (i-1)<key i:=fun i h1 h2=>unsG_no h i h1 (by omega)
 intro i j hij hj
 induction j with
 | zero=>omega
 | succ j ih=>
  have:=step (j+1) (by omega) hj
  simp only[Nat.add_sub_cancel] at this
  by_cases e:i=j
  ·subst e;exact this
  ·exact Int.lt_trans (ih (by omega) (by omega)) this
theorem uns_of_inc{key:Nat→Int}{n:Nat}(h:Inc key n):fT key 1 (n-1)=false:=unsG_of fun i h1 h2=>h (i-1) i (by omega) (by omega)
def bc(g:Nat→Bool):Nat→Nat→Bool
 | _,0=>false
 | k,r+1=>match g k with|true=>true|false=>bc g (k+1) r
theorem dB{g:Nat→Bool}{k n:Nat}(h:k<n):bc g k (n-k)=match g k with|true=>true|false=>bc g (k+1) (n-(k+1)):=by
 rw[show n-k=(n-(k+1))+1 by omega];rfl
theorem gQ{g:Nat→Bool} : ∀{r k:Nat},bc g k r=false→∀i,k≤i→i<k+r→g i=false
 | 0,k,_,i,h1,h2=>by omega
 | r+1,k,h,i,h1,h2=>by
  simp only[bc] at h
  split at h
  ·cases h
  ·rename_i hk
   rcases Nat.eq_or_lt_of_le h1 with rfl|h1
   ·exact hk
   ·exact gQ h i h1 (by omega)
theorem nc{g:Nat→Bool} : ∀{r k:Nat},(∀i,k≤i→i<k+r→g i=false)→bc g k r=false
 | 0,k,_=>rfl
 | r+1,k,h=>by
  simp only[bc,h k (Nat.le_refl _) (by omega)]
  exact nc fun i h1 h2=>h i (by omega) (by omega)
def cJ:Int:=9223372036854775807
theorem Kind_walk:∀a,aK ((fun _=>[]) a)→aX (C:=cx) [] [] 0 aw Tryz.f53 ((bM gz).enc a) fun v H _=>ai ((fun a=>.v (.int .u8 a.kind)) a) H v:=by
 intro a _
 repeat' (first|(refine Ai ?_ ?_)|(intro _)|exact rfl)
noncomputable def conKind:Con cx:=ah 53 Tryz.call53 (bM gz) _ _ (fun _=>aw) [] (fun _=>rfl) follows Tryz.func53 (by kernel_rfl) Kind_walk
theorem Id_walk:∀a,aK ((fun _=>[]) a)→aX (C:=cx) [] [] 0 aw Tryz.f60 ((bM eG).enc a) fun v H _=>ai ((fun a=>.v (.int .i64 a.iD)) a) H v:=by
 intro a _
 repeat' (first|(refine Ai ?_ ?_)|(intro _)|exact rfl)
noncomputable def conId:Con cx:=ah 60 Tryz.call60 (bM eG) _ _ (fun _=>aw) [] (fun _=>rfl) follows Tryz.func60 (by kernel_rfl) Id_walk
def risRisC(l:Cms):Cut:=⟨Nat,fun k=>1≤k∧(k≤l.n∨k=1)∧fT (fun i=>(l.c i).kind) 1 (l.n-1)=fT (fun i=>(l.c i).kind) k (l.n-k),
 fun k=>⟨[sl 0 l.sv,sl 1 (.v (.func (.func 53) #[] #[])),sl 5 (i64 k)],[],0,0,[],[]⟩,fun k=>l.n-k⟩
theorem RisC_walk:∀a,aK ((fun a=>[(a.1.n:Int)≤cJ,a.2=(.v (.func (.func 53) #[] #[]))]) a)→aX (C:=cx) [conKind] [] 0 ⟨[],[],[2],0⟩ Tryz.f97 ((aV gE rdX).enc a) fun v H _=>ai ((fun a=>.v (.bool (!fT (fun i=>(a.1.c i).kind) 1 (a.1.n-1)))) a) H v:=by
 intro⟨l,x⟩ ⟨hn,hx⟩
 replace hn:(l.n:Int)≤9223372036854775807:=hn
 replace hx:x=.v (.func (.func 53) #[] #[]):=hx
 subst hx
 refine Exists.intro (risRisC l) ?_
 refine Ai ?_ ?_
 ·refine⟨(1:Nat),[],[],trivial,⟨Nat.le_refl _,.inr rfl,rfl⟩,?_⟩
  repeat' (first|(refine Ai ?_ ?_)|(intro _)|exact rfl)
 refine fun(k:Nat) (hk:1≤k∧(k≤l.n∨k=1)∧fT (fun i=>(l.c i).kind) 1 (l.n-1)=fT (fun i=>(l.c i).kind) k (l.n-k))=>?_
 obtain⟨k0,k1,k2⟩:=hk
 refine Ai (fun hb=>?_) (fun hb=>?_)
 ·have hb:(k:Int)<l.n:=Od hb
  have e:=unsG_step (key:=(fun i=>(l.c i).kind)) (k:=k) (n:=l.n) (by omega)
  have ek:((k:Int)-1).toNat=k-1:=by omega
  refine Ai (by unfold I64;omega:I64 ((k:Int)-1)) ?_
  refine Ai ⟨by omega,by omega⟩ ?_
  refine Ai ⟨by omega,by omega⟩ ?_
  refine Ai (fun hc=>?_) (fun hc=>?_)
  ·have hc:decide ((l.c k).kind≤(l.c ((k:Int)-1).toNat).kind)=true:=hc
   rw[ek] at hc
   simp only[hc] at e
   refine Eq.trans (a:=!fT (fun i=>(l.c i).kind) 1 (l.n-1)) (b:=false) ?_ rfl
   rw[k2,e]
   rfl
  ·have hc:decide ((l.c k).kind≤(l.c ((k:Int)-1).toNat).kind)=false:=hc
   rw[ek] at hc
   simp only[hc] at e
   refine Ai (by unfold I64;omega:I64 ((k:Int)+1)) ?_
   refine⟨k+1,[],[],(by show l.n-(k+1)<l.n-k;omega),⟨by omega,by omega,by rw[k2,e]⟩,?_⟩
   repeat' (first|(refine Ai ?_ ?_)|(intro _)|exact rfl)
 ·have hb:¬(k:Int)<l.n:=of_decide_eq_false hb
  have e:fT (fun i=>(l.c i).kind) 1 (l.n-1)=false:=by rw[k2,show l.n-k=0 by omega];rfl
  refine Eq.trans (a:=!fT (fun i=>(l.c i).kind) 1 (l.n-1)) (b:=true) ?_ rfl
  rw[e]
  rfl
noncomputable def conRisC:Con cx:=ah 97 Tryz.call97 (aV gE rdX) _ _ (fun _=>⟨[],[],[2],0⟩) [] (fun _=>rfl) follows Tryz.func97 (by kernel_rfl) RisC_walk
def risRisE(l:Ens):Cut:=⟨Nat,fun k=>1≤k∧(k≤l.n∨k=1)∧fT (fun i=>(l.e i).iD) 1 (l.n-1)=fT (fun i=>(l.e i).iD) k (l.n-k),
 fun k=>⟨[sl 0 l.sv,sl 1 (.v (.func (.func 60) #[] #[])),sl 5 (i64 k)],[],0,0,[],[]⟩,fun k=>l.n-k⟩
theorem RisE_walk:∀a,aK ((fun a=>[(a.1.n:Int)≤cJ,a.2=(.v (.func (.func 60) #[] #[]))]) a)→aX (C:=cx) [conId] [] 0 ⟨[],[],[2],0⟩ Tryz.f59 ((aV oA rdX).enc a) fun v H _=>ai ((fun a=>.v (.bool (!fT (fun i=>(a.1.e i).iD) 1 (a.1.n-1)))) a) H v:=by
 intro⟨l,x⟩ ⟨hn,hx⟩
 replace hn:(l.n:Int)≤9223372036854775807:=hn
 replace hx:x=.v (.func (.func 60) #[] #[]):=hx
 subst hx
 refine Exists.intro (risRisE l) ?_
 refine Ai ?_ ?_
 ·refine⟨(1:Nat),[],[],trivial,⟨Nat.le_refl _,.inr rfl,rfl⟩,?_⟩
  repeat' (first|(refine Ai ?_ ?_)|(intro _)|exact rfl)
 refine fun(k:Nat) (hk:1≤k∧(k≤l.n∨k=1)∧fT (fun i=>(l.e i).iD) 1 (l.n-1)=fT (fun i=>(l.e i).iD) k (l.n-k))=>?_
 obtain⟨k0,k1,k2⟩:=hk
 refine Ai (fun hb=>?_) (fun hb=>?_)
 ·have hb:(k:Int)<l.n:=Od hb
  have e:=unsG_step (key:=(fun i=>(l.e i).iD)) (k:=k) (n:=l.n) (by omega)
  have ek:((k:Int)-1).toNat=k-1:=by omega
  refine Ai (by unfold I64;omega:I64 ((k:Int)-1)) ?_
  refine Ai ⟨by omega,by omega⟩ ?_
  refine Ai (fun _ _=>trivial) ?_
  refine Ai ⟨by omega,by omega⟩ ?_
  refine Ai (fun _ _=>trivial) ?_
  refine Ai (fun hc=>?_) (fun hc=>?_)
  ·have hc:decide ((l.e k).iD≤(l.e ((k:Int)-1).toNat).iD)=true:=hc
   rw[ek] at hc
   simp only[hc] at e
   refine Eq.trans (a:=!fT (fun i=>(l.e i).iD) 1 (l.n-1)) (b:=false) ?_ rfl
   rw[k2,e]
   rfl
  ·have hc:decide ((l.e k).iD≤(l.e ((k:Int)-1).toNat).iD)=false:=hc
   rw[ek] at hc
   simp only[hc] at e
   refine Ai (by unfold I64;omega:I64 ((k:Int)+1)) ?_
   refine⟨k+1,[],[],(by show l.n-(k+1)<l.n-k;omega),⟨by omega,by omega,by rw[k2,e]⟩,?_⟩
   repeat' (first|(refine Ai ?_ ?_)|(intro _)|exact rfl)
 ·have hb:¬(k:Int)<l.n:=of_decide_eq_false hb
  have e:fT (fun i=>(l.e i).iD) 1 (l.n-1)=false:=by rw[k2,show l.n-k=0 by omega];rfl
  refine Eq.trans (a:=!fT (fun i=>(l.e i).iD) 1 (l.n-1)) (b:=true) ?_ rfl
  rw[e]
  rfl
noncomputable def conRisE:Con cx:=ah 59 Tryz.call59 (aV oA rdX) _ _ (fun _=>⟨[],[],[2],0⟩) [] (fun _=>rfl) follows Tryz.func59 (by kernel_rfl) RisE_walk
def aJ.F1(c:aJ):Prop:=c.kind=1→-1048576≤c.v0∧c.v0≤1048576∧-1048576≤c.v1∧c.v1≤1048576∧0≤c.v2∧c.v2≤0∧0≤c.v3∧c.v3≤0
instance (c:aJ):Decidable c.F1:=by unfold aJ.F1;infer_instance
def aJ.F2(c:aJ):Prop:=c.kind=2→-4096≤c.v0∧c.v0≤4096∧-4096≤c.v1∧c.v1≤4096∧0≤c.v2∧c.v2≤0∧0≤c.v3∧c.v3≤0
instance (c:aJ):Decidable c.F2:=by unfold aJ.F2;infer_instance
def aJ.F3(c:aJ):Prop:=c.kind=3→1≤c.v0∧c.v0≤16384∧1≤c.v1∧c.v1≤16384∧0≤c.v2∧c.v2≤1∧0≤c.v3∧c.v3≤1
instance (c:aJ):Decidable c.F3:=by unfold aJ.F3;infer_instance
def aJ.F4(c:aJ):Prop:=c.kind=4→1≤c.v0∧c.v0≤8∧0≤c.v1∧c.v1≤0∧0≤c.v2∧c.v2≤0∧0≤c.v3∧c.v3≤0
instance (c:aJ):Decidable c.F4:=by unfold aJ.F4;infer_instance
def aJ.F5(c:aJ):Prop:=c.kind=5→0≤c.v0∧c.v0≤510∧0≤c.v1∧c.v1≤0∧0≤c.v2∧c.v2≤0∧0≤c.v3∧c.v3≤0
instance (c:aJ):Decidable c.F5:=by unfold aJ.F5;infer_instance
def aJ.F6(c:aJ):Prop:=c.kind=6→0≤c.v0∧c.v0≤15∧0≤c.v1∧c.v1≤0∧0≤c.v2∧c.v2≤0∧0≤c.v3∧c.v3≤0
instance (c:aJ):Decidable c.F6:=by unfold aJ.F6;infer_instance
def aJ.F7(c:aJ):Prop:=c.kind=7→-2147483648≤c.v0∧c.v0≤2147483647∧-2147483648≤c.v1∧c.v1≤2147483647∧-2147483648≤c.v2∧c.v2≤2147483647∧-2147483648≤c.v3∧c.v3≤2147483647
instance (c:aJ):Decidable c.F7:=by unfold aJ.F7;infer_instance
def aJ.F8(c:aJ):Prop:=c.kind=8→0≤c.v0∧c.v0≤1048576∧0≤c.v1∧c.v1≤1048576∧0≤c.v2∧c.v2≤0∧0≤c.v3∧c.v3≤0
instance (c:aJ):Decidable c.F8:=by unfold aJ.F8;infer_instance
def aJ.F9(c:aJ):Prop:=c.kind=9→0≤c.v0∧c.v0≤2147483647∧0≤c.v1∧c.v1≤2147483647∧0≤c.v2∧c.v2≤2147483647∧0≤c.v3∧c.v3≤2147483647
instance (c:aJ):Decidable c.F9:=by unfold aJ.F9;infer_instance
def aJ.F10(c:aJ):Prop:=c.kind=10→-2147483648≤c.v0∧c.v0≤2147483647∧-2147483648≤c.v1∧c.v1≤2147483647∧-2147483648≤c.v2∧c.v2≤2147483647∧-2147483648≤c.v3∧c.v3≤2147483647
instance (c:aJ):Decidable c.F10:=by unfold aJ.F10;infer_instance
def aJ.Fits(c:aJ):Prop:=1≤c.kind∧c.kind≤10∧c.F1∧c.F2∧c.F3∧c.F4∧c.F5∧c.F6∧c.F7∧c.F8∧c.F9∧c.F10∧(c.kind=3→c.v2=0∨c.v0=c.v1)∧(c.kind=5→c.v0%2=0)
instance (c:aJ):Decidable c.Fits:=by unfold aJ.Fits;infer_instance
def aJ.fits(c:aJ):Bool:=decide c.Fits
theorem aP{c:aJ}(h:¬c.Fits):c.fits=false:=decide_eq_false h
theorem eA{c:aJ}(h:c.Fits):c.fits=true:=decide_eq_true h
end Go.Proofs.YtgigkennhdolpaaGreatDoor
