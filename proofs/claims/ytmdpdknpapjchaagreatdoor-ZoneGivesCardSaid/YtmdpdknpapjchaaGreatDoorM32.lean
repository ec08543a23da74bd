/- workers.Valid of any setup.. -/
import Derived.Test.YtmdpdknpapjchaaGreatDoorM31
set_option linter.all false
namespace Go.Proofs.YtmdpdknpapjchaaGreatDoor
open Go.RowKit
def Uu(s:Z8):Cut:=⟨Nat,λk=>k<=s.progs.n∧gT (p9 s) k=true,λk=>⟨[sl 1 (.p 0 0),sl 29 s.progs.sv,sl 30 (i64 s.progs.n),sl 31 (i64 k)],[(0,.lay s.cells 33)],1,0,[],[]⟩,λk=>s.progs.n-k⟩
def Ut(s:Z8):Cut:=⟨Nat,λk=>k<=s.systems.n∧gT (tc s) k=true,λk=>⟨[sl 1 (.p 0 0),sl 40 s.systems.sv,sl 41 (i64 s.systems.n),sl 42 (i64 k)],[(0,.lay s.cells 33)],1,0,[],[]⟩,λk=>s.systems.n-k⟩
theorem J0{l:lZ}(h:oZ l=true):∀i,i<l.n->0<=(l.e i).prog∧(l.e i).prog<16:=λi hi=>by unfold oZ at h;have h2:=vm (Bool.and_eq_true_iff.1 h).2 i hi;unfold pS El at h2;simp only[Xp,Xh] at h2;omega
set_option maxHeartbeats 2000000 in
set_option maxRecDepth 8000 in
theorem MR:∀a,aD ((λa=>[(a.systems.n:Int)<=cp,(a.progs.n:Int)<=cp,∀i,i<a.progs.n->((a.progs.e i).code.n:Int)<=4000]) a)->aJ (C:=cx) [Ry,L4] [] 0 ⟨[],[],[4,10],0⟩ Tryz.f18 ((bh nO).enc a) λv H _=>ae ((λa=>.v (.bool (B8 a))) a) H v:=by
 intro s ⟨hn,hp,hc⟩;replace hn:(s.systems.n:Int)<=9223372036854775807:=hn;replace hp:(s.progs.n:Int)<=9223372036854775807:=hp;replace hc:∀i,i<s.progs.n->((s.progs.e i).code.n:Int)<=4000:=hc
 suffices key:∀r,r=B8 s->aJ (C:=cx) [Ry,L4] [] 0 ⟨[],[],[4,10],0⟩ Tryz.f18 ((bh nO).enc s) λv H _=>ae (.v (.bool r)) H v from key _ rfl
 intro r hr;refine Ai ⟨(by repeat' (first|exact trivial|exact rfl|apply Ai|intro)),hn⟩ ?_;refine Ai (λhb=>?_) (λhb=>?_)
 ·have hb:(!oZ s.systems||decide ((16:Int)<s.progs.n)||decide (s.fuel<0)||decide (10000<s.fuel))=true:=hb;refine hr.trans ?_;unfold B8 RO;cases ho:oZ s.systems with
  | false=>rfl
  | true=>rw[ho] at hb;simp only[Bool.not_true,Bool.false_or] at hb;rw[hb];rfl
 have hb:(!oZ s.systems||decide ((16:Int)<s.progs.n)||decide (s.fuel<0)||decide (10000<s.fuel))=false:=hb;have ho:oZ s.systems=true:=by simp only[Xp] at hb;simpa using hb.1.1.1
 rw[ho] at hb;replace hr:r=(gT (p9 s) s.progs.n&&gT (tc s) s.systems.n):=hr.trans (by unfold B8 RO;simp only[Bool.not_true,Bool.false_or] at hb;rw[ho,hb];rfl);refine F8 (Uu s) ?_;refine Ai ?_ ?_
 ·refine⟨(0:Nat),[],[],trivial,⟨F9 _,rfl⟩,?_⟩;repeat' (first|apply Ai|exact rfl|intro)
 refine fun(k:Nat) (hk:k<=s.progs.n∧gT (p9 s) k=true)=>?_;obtain⟨k1,k2⟩:=hk;refine Ai (λhb=>?_) (λhb=>?_)
 ·have hb:(k:Int)<s.progs.n:=Od hb;refine Ai ⟨by omega,by omega⟩ ?_;refine Ai ⟨(by repeat' (first|exact trivial|exact rfl|apply Ai|intro)),hc k (by omega)⟩ ?_;refine Ai (λhd=>?_) (λhd=>?_);have hd:p9 s k=true:=hd;exact hr.trans (by rw[nB hd (by omega)];rfl);have hd:p9 s k=false:=hd;refine Ai (by unfold XT;omega:XT ((k:Int)+1)) ?_;refine⟨k+1,[],[],(by show s.progs.n-(k+1)<s.progs.n-k;omega),⟨(by show k+1<=s.progs.n;omega),nA k2 hd⟩,?_⟩;repeat' (first|apply Ai|exact rfl|intro)
 have hb:¬(k:Int)<s.progs.n:=Xg hb;obtain rfl:k=s.progs.n:=by omega
 replace hr:r=gT (tc s) s.systems.n:=hr.trans (by rw[k2];rfl);refine F8 (Ut s) ?_;refine Ai ?_ ?_
 ·refine⟨(0:Nat),[],[],trivial,⟨F9 _,rfl⟩,?_⟩;repeat' (first|apply Ai|exact rfl|intro)
 refine fun(q:Nat) (hq:q<=s.systems.n∧gT (tc s) q=true)=>?_;obtain⟨q1,q2⟩:=hq;refine Ai (λhb=>?_) (λhb=>?_)
 ·have hb:(q:Int)<s.systems.n:=Od hb;have hpr:=J0 ho q (by omega);refine Ai ⟨by omega,by omega⟩ ?_;refine Ai (λhd=>?_) (λhd=>?_);have hd:decide ((s.progs.n:Int)<=(s.systems.e q).prog)=true:=hd;have hx:tc s q=true:=(by unfold tc;rw[hd];rfl);exact hr.trans (nB hx (by omega));have hd:decide ((s.progs.n:Int)<=(s.systems.e q).prog)=false:=hd;refine Ai (show 0<=(s.systems.e q).prog∧(s.systems.e q).prog<s.progs.n from⟨hpr.1,by have:=Xg hd;omega⟩) ?_;have eW:tc s q=(decide (¬eS .andNot .u32 (s.progs.e (s.systems.e q).prog.toNat).reads (eS .or .u32 (s.systems.e q).reads (s.systems.e q).writes)=0)||decide (¬eS .andNot .u32 (s.progs.e (s.systems.e q).prog.toNat).writes (s.systems.e q).writes=0)):=(by unfold tc;rw[hd];rfl);refine Ai (λhf=>?_) (λhf=>?_);have hf:tc s q=true:=eW.trans hf;exact hr.trans (nB hf (by omega));have hf:tc s q=false:=eW.trans hf;refine Ai (by unfold XT;omega:XT ((q:Int)+1)) ?_;refine⟨q+1,[],[],(by show s.systems.n-(q+1)<s.systems.n-q;omega),⟨(by show q+1<=s.systems.n;omega),nA q2 hf⟩,?_⟩;repeat' (first|apply Ai|exact rfl|intro)
 have hb:¬(q:Int)<s.systems.n:=Xg hb;obtain rfl:q=s.systems.n:=by omega
 exact hr.trans q2
noncomputable def TA:XR cx:=af 18 Tryz.call18 (bh nO) _ _ (λ_=>⟨[],[],[4,10],0⟩) [] (λ_=>rfl) follows Tryz.func18 (by kernel_rfl) MR
end Go.Proofs.YtmdpdknpapjchaaGreatDoor
namespace Go.Proofs.YtmdpdknpapjchaaGreatDoor.Df
open Go.RowKit
theorem follows:cx.P.follows .mixedOrders=true:=by kernel_rfl
def sl(t:Nat)(v:SV):Nat×Slot:=(t,⟨0,0,[],v⟩)
def Mc:XR cx:=af (Γ:=[]) (Fs:=[]) (d:=0) 118 Tryz.call118 (bh (Yp .i64)) (λ_=>[]) (λn=>.v (.bool false)) (λ_=>ak) [] (λ_=>rfl) follows Tryz.func118 (by kernel_rfl)
 λn _=>by show (_:Bool)=_;simp
def _root_.Go.Proofs.YtmdpdknpapjchaaGreatDoor.Fam.sorted(f:Fam):Bool:=decide (∀i,i<f.n-1->f.g i<=f.g (i+1))
end Go.Proofs.YtmdpdknpapjchaaGreatDoor.Df
namespace Go.Proofs.YtmdpdknpapjchaaGreatDoor.Df
open Go.RowKit
structure Vec where
 x:Int
 y:Int
def Vec.cells(b:Vec):List SV:=[.v (.int .i64 b.x),.v (.int .i64 b.y)]
def Vec.sv(b:Vec):SV:=.agg b.cells
def Vec.of(x:SV):Vec:=⟨(YQ (x.al)).iv,(YQ (Yz (x.al))).iv⟩
def fb:Rd Vec:=⟨.agg [.v (.int .i64 0),.v (.int .i64 0)],Vec.of,Vec.sv,λ_=>rfl⟩
end Go.Proofs.YtmdpdknpapjchaaGreatDoor.Df
namespace Go.Proofs.YtmdpdknpapjchaaGreatDoor.Df
open Go.RowKit
set_option maxRecDepth 8000
set_option maxHeartbeats 2000000
variable {a b:Int}{A i:Nat}
structure Sz where
 hi:Int
 lo:Int
def Sz.cells(b:Sz):List SV:=[.v (.int .u64 b.hi),.v (.int .u64 b.lo)]
def Sz.sv(b:Sz):SV:=.agg b.cells
def Sz.of(x:SV):Sz:=⟨(YQ (x.al)).iv,(YQ (Yz (x.al))).iv⟩
def gD:Rd Sz:=⟨.agg [.v (.int .u64 0),.v (.int .u64 0)],Sz.of,Sz.sv,λ_=>rfl⟩
structure W where
 hi:Int
 lo:Int
 neg:Bool
def W.cells(b:W):List SV:=[.v (.int .u64 b.hi),.v (.int .u64 b.lo),.v (.bool b.neg)]
def W.sv(b:W):SV:=.agg b.cells
def W.of(x:SV):W:=⟨(YQ (x.al)).iv,(YQ (Yz (x.al))).iv,(YQ (Yz (Yz (x.al)))).bv⟩
def rdW:Rd W:=⟨.agg [.v (.int .u64 0),.v (.int .u64 0),.v (.bool false)],W.of,W.sv,λ_=>rfl⟩
theorem wu(n:Int):IntKind.u64.wrap n=n%18446744073709551616:=rfl
theorem wi(n:Int):IntKind.i64.wrap n=if 9223372036854775808<=n%18446744073709551616 then n%18446744073709551616-18446744073709551616 else n%18446744073709551616:=by unfold IntKind.wrap;show (if (true&&decide (n%18446744073709551616>=9223372036854775808))=true then _ else _)=_;simp only[Bool.true_and,U',ge_iff_le];rfl
theorem p32:(2:Int)^min (Int.toNat 32) IntKind.u64.bits=4294967296:=rfl
theorem p63:(2:Int)^min (Int.toNat 63) IntKind.u64.bits=9223372036854775808:=rfl
theorem p1:(2:Int)^min (Int.toNat 1) IntKind.u64.bits=2:=rfl
theorem VE(a:Int):a.fdiv 4294967296=a/4294967296:=Int.fdiv_eq_ediv_of_nonneg a (by omega)
theorem PC(a:Int):a.fdiv 9223372036854775808=a/9223372036854775808:=Int.fdiv_eq_ediv_of_nonneg a (by omega)
theorem Gc{B:Nat}(hb:B<2^i)(h:A*2^i+B<18446744073709551616):eS .or .u64 ((A*2^i:Nat):Int) (B:Int)=((A*2^i+B:Nat):Int):=by
 unfold eS;have e1:(BitVec.ofInt 64 ((A*2^i:Nat):Int)).toNat=A*2^i:=by rw[BitVec.ofInt_natCast,BitVec.toNat_ofNat,Nat.mod_eq_of_lt (by omega)]
 have e2:(BitVec.ofInt 64 ((B:Nat):Int)).toNat=B:=by rw[BitVec.ofInt_natCast,BitVec.toNat_ofNat,Nat.mod_eq_of_lt (by omega)]
 have e3:(BitVec.ofInt 64 ((A*2^i:Nat):Int) ||| BitVec.ofInt 64 ((B:Nat):Int)).toNat=A*2^i+B:=by rw[BitVec.toNat_or,e1,e2,<-Nat.shiftLeft_eq,Nat.shiftLeft_add_eq_or_of_lt hb]
 show IntKind.u64.wrap ((BitVec.ofInt 64 ((A*2^i:Nat):Int) ||| BitVec.ofInt 64 ((B:Nat):Int)).toNat:Int)=_;rw[e3,wu];omega
theorem ve(h:A<18446744073709551616)(hi:i<64):eS .and .u64 (A:Int) ((2^i-1:Nat):Int)=((A%2^i:Nat):Int):=by
 have hp:2^i-1<18446744073709551616:=by have:2^i<2^64:=Nat.pow_lt_pow_right (by omega) hi;omega
 unfold eS;have e1:(BitVec.ofInt 64 (A:Int)).toNat=A:=by rw[BitVec.ofInt_natCast,BitVec.toNat_ofNat,Nat.mod_eq_of_lt (by omega)]
 have e2:(BitVec.ofInt 64 ((2^i-1:Nat):Int)).toNat=2^i-1:=by rw[BitVec.ofInt_natCast,BitVec.toNat_ofNat,Nat.mod_eq_of_lt (by omega)]
 have e3:(BitVec.ofInt 64 (A:Int) &&& BitVec.ofInt 64 ((2^i-1:Nat):Int)).toNat=A%2^i:=by rw[BitVec.toNat_and,e1,e2,Nat.and_two_pow_sub_one_eq_mod]
 show IntKind.u64.wrap ((BitVec.ofInt 64 (A:Int) &&& BitVec.ofInt 64 ((2^i-1:Nat):Int)).toNat:Int)=_;rw[e3,wu];have:=Nat.mod_le A (2^i);omega
theorem BG(h0:0<=a)(h:a<18446744073709551616):eS .and .u64 a 4294967295=a%4294967296:=by obtain⟨A,rfl⟩:=Int.eq_ofNat_of_zero_le h0;have:=ve (A:=A) (i:=32) (by omega) (by omega);simpa using this
theorem WB(ha:0<=a)(hb:0<=b)(Zh:b<4294967296)(ha':a<4294967296):eS .or .u64 (a*4294967296) b=a*4294967296+b:=by obtain⟨A,rfl⟩:=Int.eq_ofNat_of_zero_le ha;obtain⟨B,rfl⟩:=Int.eq_ofNat_of_zero_le hb;have:=Gc (A:=A) (B:=B) (i:=32) (by omega) (by omega);simpa using this
theorem or1(ha:0<=a)(hb:0<=b)(Zh:b<2)(ha':a<9223372036854775808):eS .or .u64 (a*2) b=a*2+b:=by obtain⟨A,rfl⟩:=Int.eq_ofNat_of_zero_le ha;obtain⟨B,rfl⟩:=Int.eq_ofNat_of_zero_le hb;have:=Gc (A:=A) (B:=B) (i:=1) (by omega) (by omega);simpa using this
def u64(n:Int):Prop:=0<=n∧n<18446744073709551616
def Sz.In(s:Sz):Prop:=u64 s.hi∧u64 s.lo
def W.In(s:W):Prop:=u64 s.hi∧u64 s.lo
def lU(s:Sz)(n:Bool):W:=⟨s.hi,s.lo,n&&!(decide (s.hi=0)&&decide (s.lo=0))⟩
def wOf(n:Int):W:=⟨0,n.natAbs,decide (n<0)⟩
def dA(a b:Int):W:=⟨0,(a-b).natAbs,decide (a<b)⟩
def kV(s t:Sz):Bool:=decide (s.hi<t.hi)||decide (s.hi=t.hi)&&decide (s.lo<t.lo)
def oW(a b:Int):Sz:=⟨a*b/18446744073709551616,a*b%18446744073709551616⟩
def oS(a b:W):W:=lU (oW a.lo b.lo) (a.neg != b.neg)
def nL(s:Sz)(d:Int):Sz:=⟨(s.hi*18446744073709551616+s.lo)/d/18446744073709551616,(s.hi*18446744073709551616+s.lo)/d%18446744073709551616⟩
def QY(s:Sz)(d:Int):Int:=(s.hi*18446744073709551616+s.lo)%d
def I5(a b:W):W:=lU (nL ⟨a.hi,a.lo⟩ b.lo) (a.neg != b.neg)
theorem Ip:∀a,aD ((λa=>[]) a)->aJ (C:=cx) [] [] 0 ak Tryz.f167 ((aH gD rdB).enc a) λv H _=>ae ((λa=>(lU a.1 a.2).sv) a) H v:=by
 intro⟨s,n⟩ _;repeat' (first|refine Ai ?_ ?_|(intro _))
 all_goals (try (refine XA ?_ rfl))
 all_goals (try simp only[bh,aH,eC,gD,rdW,rdB,Yp,Sz.of,W.of,YQ,Yz,SV.al,SV.iv,SV.bv,cH,U',Xh] at *)
 all_goals first|rfl|(simp only[lU];done)|(simp[lU,Bool.not_and];done)
noncomputable def pv:XR cx:=af 167 Tryz.call167 (aH gD rdB) _ _ (λ_=>ak) [] (λ_=>rfl) follows Tryz.func167 (by kernel_rfl) Ip
theorem QN:∀a,aD ((λa=>[Yd a]) a)->aJ (C:=cx) [pv] [] 0 ak Tryz.f121 ((bh (Yp .i64)).enc a) λv H _=>ae ((λa=>(wOf a).sv) a) H v:=by
 intro n (hn:Yd n);unfold Yd at hn;repeat' (first|refine Ai ?_ ?_|(intro _))
 all_goals (try (refine XA ?_ rfl))
 all_goals (try simp only[bh,aH,eC,gD,rdW,rdB,Yp,Sz.of,W.of,YQ,Yz,SV.al,SV.iv,SV.bv,cH,U',Xh] at *)
 all_goals simp only[wOf,lU,wu]
 all_goals first|omega|grind
noncomputable def VJ:XR cx:=af 121 Tryz.call121 (bh (Yp .i64)) _ _ (λ_=>ak) [] (λ_=>rfl) follows Tryz.func121 (by kernel_rfl) QN
theorem IK:∀a,aD ((λa=>[Yd a.1,Yd a.2]) a)->aJ (C:=cx) [pv] [] 0 ak Tryz.f166 ((aH (Yp .i64) (Yp .i64)).enc a) λv H _=>ae ((λa=>(dA a.1 a.2).sv) a) H v:=by
 intro⟨n,m⟩ ⟨hn,hm⟩;replace hm:Yd m:=hm;replace hn:Yd n:=hn;unfold Yd at hn hm;repeat' (first|refine Ai ?_ ?_|(intro _))
 all_goals (try (refine XA ?_ rfl))
 all_goals (try simp only[bh,aH,eC,gD,rdW,rdB,Yp,Sz.of,W.of,YQ,Yz,SV.al,SV.iv,SV.bv,cH,U',Xh] at *)
 all_goals simp only[dA,lU,wu]
 all_goals first|omega|grind
noncomputable def Qf:XR cx:=af 166 Tryz.call166 (aH (Yp .i64) (Yp .i64)) _ _ (λ_=>ak) [] (λ_=>rfl) follows Tryz.func166 (by kernel_rfl) IK
theorem DJ:∀a,aD ((λa=>[]) a)->aJ (C:=cx) [] [] 0 ak Tryz.f122 ((aH gD gD).enc a) λv H _=>ae ((λa=>.v (.bool (kV a.1 a.2))) a) H v:=by
 intro⟨s,t⟩ _;all_goals (try (refine XA ?_ rfl))
 all_goals (try simp only[bh,aH,eC,gD,rdW,rdB,Yp,Sz.of,W.of,YQ,Yz,SV.al,SV.iv,SV.bv,cH,U',Xh] at *)
 all_goals simp only[kV]
noncomputable def vb:XR cx:=af 122 Tryz.call122 (aH gD gD) _ _ (λ_=>ak) [] (λ_=>rfl) follows Tryz.func122 (by kernel_rfl) DJ
theorem Dx:∀a,aD ((λa=>[u64 a.1,0<=a.2∧a.2<4294967296]) a)->aJ (C:=cx) [] [] 0 ak Tryz.f169 ((aH (Yp .u64) (Yp .u64)).enc a) λv H _=>ae ((λa=>(oW a.1 a.2).sv) a) H v:=by
 intro⟨n,m⟩ ⟨hn,hm⟩;obtain⟨hm0,hm⟩:0<=m∧m<4294967296:=hm;obtain⟨hn0,hn⟩:0<=n∧n<18446744073709551616:=hn;repeat' (first|refine Ai ?_ ?_|(intro _))
 all_goals (try (refine XA ?_ rfl))
 all_goals (try simp only[bh,aH,eC,gD,rdW,rdB,Yp,Sz.of,W.of,YQ,Yz,SV.al,SV.iv,SV.bv,cH,U',Xh] at *)
 all_goals simp only[oW,wu,p32,VE]
 all_goals
  have ha:0<=n/4294967296∧n/4294967296<4294967296:=(by omega);have hb:0<=n%4294967296∧n%4294967296<4294967296:=(by omega);have hm':m%4294967296=m:=(by omega);have hm2:m/4294967296=0:=(by omega);have hP0:0<=n%4294967296*m:=Int.mul_nonneg hb.1 hm0;have hQ0:0<=n/4294967296*m:=Int.mul_nonneg ha.1 hm0;have hP1:n%4294967296*m<=4294967295*4294967295:=Int.mul_le_mul (by omega) (by omega) hm0 (by omega);have hQ1:n/4294967296*m<=4294967295*4294967295:=Int.mul_le_mul (by omega) (by omega) hm0 (by omega);have hs:n*m=n/4294967296*m*4294967296+n%4294967296*m:=by
   rw[Int.mul_right_comm,<-Int.add_mul]
   congr 1
   omega
  rw[hs];simp only[BG hn0 hn,BG hm0 (show m<18446744073709551616 by omega),hm',hm2,Int.mul_zero];generalize n%4294967296*m=P at *;generalize n/4294967296*m=Q at *;clear hs;rw[show P%18446744073709551616=P by omega,show Q%18446744073709551616=Q by omega,show (Q+P/4294967296)%18446744073709551616=Q+P/4294967296 by omega,BG (a:=Q+P/4294967296) (by omega) (by omega)]
 omega;rw[BG (a:=P) (by omega) (by omega),show ((Q+P/4294967296)%4294967296+0%18446744073709551616)%18446744073709551616*4294967296%18446744073709551616=(Q+P/4294967296)%4294967296*4294967296 by omega,WB (by omega) (by omega) (by omega) (by omega)];omega
noncomputable def L1:XR cx:=af 169 Tryz.call169 (aH (Yp .u64) (Yp .u64)) _ _ (λ_=>ak) [] (λ_=>rfl) follows Tryz.func169 (by kernel_rfl) Dx
end Go.Proofs.YtmdpdknpapjchaaGreatDoor.Df
namespace Go.Proofs.YtmdpdknpapjchaaGreatDoor.Df
open Go.RowKit
set_option maxRecDepth 8000
set_option maxHeartbeats 2000000
variable {a d r v:Int}{o s:Sz}
theorem orS{b:Int}(ha:u64 a)(hb:0<=b)(Zh:b<2):eS .or .u64 (a*2%18446744073709551616) b=a%9223372036854775808*2+b:=by unfold u64 at ha;rw[show a*2%18446744073709551616=a%9223372036854775808*2 by omega,or1 (by omega) hb Zh (by omega)]
theorem WA(ha:u64 a):eS .or .u64 (a*2%18446744073709551616) 1=a%9223372036854775808*2+1:=orS ha (by omega) (by omega)
def Sz.val(s:Sz):Int:=s.hi*18446744073709551616+s.lo
def LL(v:Int)(d:Int)(x:Nat×Sz×Sz×Int):Prop:=x.1<=128∧x.2.1.In∧x.2.2.1.In∧0<=x.2.2.2∧x.2.2.2<d∧v*2^x.1=(x.2.2.1.val*d+x.2.2.2)*340282366920938463463374607431768211456+x.2.1.val∧x.2.2.1.val*d+x.2.2.2<2^x.1
def Tx(v:Int)(d:Int):Cut:=⟨Nat×Sz×Sz×Int,LL v d,λx=>⟨[sl 1 (.v (.int .u64 d)),sl 2 (.p 0 0),sl 4 (.p 1 0),sl 6 (.p 2 0),sl 7 (.v (.int .u64 x.2.2.2)),sl 9 (.v (.int .i64 x.1))],
 [(0,.lay x.2.1.cells 220),(1,.lay [.il .u64 0,.il .u64 0] 220),(2,.lay x.2.2.1.cells 220)],3,0,[],[]⟩,λx=>128-x.1⟩
theorem w9{k:Nat}(hd:1<=d)(hd':d<18446744073709551616)(hk:k<128)(h:LL v d (k,s,o,r)){s' o':Sz}{r' c:Int}(hs1:s'.hi=s.hi%9223372036854775808*2+s.lo/9223372036854775808)(YP:s'.lo=s.lo*2%18446744073709551616)(ho1:o'.hi=o.hi%9223372036854775808*2+o.lo/9223372036854775808)(ho2:o'.lo=o.lo%9223372036854775808*2+c)(hc:c=0∨c=1)(hr:r'=2*r+s.hi/9223372036854775808-c*d)(hr0:0<=r')(hr1:r'<d):LL v d (k+1,s',o',r'):=by
 obtain⟨-,⟨⟨a1,a2⟩,a3,a4⟩,⟨⟨b1,b2⟩,b3,b4⟩,r0,r1,e,lt⟩:=h;simp only at a1 a2 a3 a4 b1 b2 b3 b4 r0 r1 e lt;have hp:(2:Int)^(k+1)=2*2^k:=by rw[Int.pow_succ,Int.mul_comm]
 have hO:o.val<=o.val*d:=by have:=Int.mul_le_mul_of_nonneg_left hd (show 0<=o.val by unfold Sz.val;omega);omega
 have hk2:(2:Int)^k<=170141183460469231731687303715884105728:=by have h1:2^k<=2^127:=Nat.pow_le_pow_right (n:=2) (by omega) (by omega);have h2:=Int.ofNat_le.2 h1;rw[Int.natCast_pow] at h2;exact h2
 have ho:o'.val=2*o.val+c:=by unfold Sz.val at hO ⊢;rw[ho1,ho2];unfold Sz.val at lt;omega
 have hod:o'.val*d=2*(o.val*d)+c*d:=by rw[ho,Int.add_mul,Int.mul_assoc]
 have hs:s'.val=2*s.val-s.hi/9223372036854775808*340282366920938463463374607431768211456:=by unfold Sz.val;rw[hs1,YP];omega
 refine⟨show k+1<=128 by omega,⟨⟨?_,?_⟩,?_,?_⟩,⟨⟨?_,?_⟩,?_,?_⟩,hr0,hr1,?_,?_⟩;show 0<=s'.hi;omega;show s'.hi<_;omega;show 0<=s'.lo;omega;show s'.lo<_;omega;show 0<=o'.hi;omega;show o'.hi<_;omega;show 0<=o'.lo;omega;show o'.lo<_;omega;show v*2^(k+1)=(o'.val*d+r')*340282366920938463463374607431768211456+s'.val;rw[hp,hs,hod,hr,Int.mul_left_comm,e];generalize o.val*d=X;generalize c*d=Y;omega;show o'.val*d+r'<2^(k+1);rw[hp,hod,hr];generalize o.val*d=X at *;generalize c*d=Y;omega
theorem PQ(hd:1<=d)(h:LL v d (128,s,o,r)):v/d=o.val∧v%d=r:=by
 obtain⟨-,⟨⟨a1,a2⟩,a3,a4⟩,⟨⟨b1,b2⟩,b3,b4⟩,r0,r1,e,lt⟩:=h;simp only at a1 a2 a3 a4 b1 b2 b3 b4 r0 r1 e lt;have hv:v=r+o.val*d:=by have:v*340282366920938463463374607431768211456=(o.val*d+r)*340282366920938463463374607431768211456+s.val:=e;unfold Sz.val at this ⊢;generalize (o.hi*18446744073709551616+o.lo)*d=X at *;omega
 constructor;rw[hv,Int.add_mul_ediv_right _ _ (by omega),Int.ediv_eq_zero_of_lt r0 r1,Int.zero_add];rw[hv,Int.add_mul_emod_self_right,Int.emod_eq_of_lt r0 r1]
theorem M9:∀a,aD ((λa=>[u64 a.1.lo,0<=a.2.lo∧a.2.lo<4294967296]) a)->aJ (C:=cx) [pv,L1] [] 0 ak Tryz.f124 ((aH rdW rdW).enc a) λv H _=>ae ((λa=>(oS a.1 a.2).sv) a) H v:=by
 intro⟨x,y⟩ ⟨hn,hm⟩;repeat' (first|refine Ai ?_ ?_|(intro _))
 all_goals (try (refine XA ?_ rfl))
 all_goals (try simp only[bh,aH,eC,gD,rdW,rdB,Yp,Sz.of,W.of,YQ,Yz,SV.al,SV.iv,SV.bv,cH,U',Xh] at *)
 all_goals first|rfl|exact hn.1|exact hn.2|exact hm.1|exact hm.2
noncomputable def TL:XR cx:=af 124 Tryz.call124 (aH rdW rdW) _ _ (λ_=>ak) [] (λ_=>rfl) follows Tryz.func124 (by kernel_rfl) M9
theorem BY:∀a,aD ((λa=>[a.1.In,1<=a.2∧a.2<18446744073709551616]) a)->aJ (C:=cx) [] [] 0 ⟨[],[],[4],0⟩ Tryz.f168 ((aH gD (Yp .u64)).enc a) λv H _=>ae ((λa=>.tup [(nL a.1 a.2).sv,.v (.int .u64 (QY a.1 a.2))]) a) H v:=by
 intro⟨x,d⟩ ⟨hn,hm⟩;replace hn:x.In:=hn;obtain⟨hd,hd'⟩:1<=d∧d<18446744073709551616:=hm;refine F8 (Tx x.val d) ?_;refine Ai ?_ ?_
 ·refine⟨((0:Nat),x,⟨0,0⟩,(0:Int)),[],[],trivial,?_,?_⟩
  ·refine⟨F9 _,hn,⟨⟨Int.le_refl 0,by show (0:Int)<_;decide⟩,Int.le_refl 0,by show (0:Int)<_;decide⟩,Int.le_refl 0,by show 0<d;omega,?_,?_⟩;show x.val*1=((0*18446744073709551616+0)*d+0)*_+x.val;omega;show (0*18446744073709551616+0)*d+0<(1:Int)
   omega
  ·repeat' (first|apply Ai|exact rfl|intro)
 refine fun(y:Nat×Sz×Sz×Int) (hy:LL x.val d y)=>?_;obtain⟨k,s,o,r⟩:=y;have hk128:=hy.1;simp only at hk128;refine Ai (λhb=>?_) (λhb=>?_)
 ·have hk:k<128:=(by simp only[U'] at hb;omega);have hs:=hy.2.1;have ho:=hy.2.2.1;have hr0:=hy.2.2.2.1;have hr1:=hy.2.2.2.2.1;simp only at hs ho hr0 hr1;obtain⟨hs1,YP⟩:=hs;obtain⟨ho1,ho2⟩:=ho;have hr:u64 r:=⟨hr0,by omega⟩
  have hb0:0<=s.hi/9223372036854775808∧s.hi/9223372036854775808<2:=(by unfold u64 at hs1;omega);have YB:0<=s.lo/9223372036854775808∧s.lo/9223372036854775808<2:=(by unfold u64 at YP;omega);have Yi:0<=o.lo/9223372036854775808∧o.lo/9223372036854775808<2:=(by unfold u64 at ho2;omega);have q1:=orS hr hb0.1 hb0.2;have q2:=orS hs1 YB.1 YB.2;have q3:=orS ho1 Yi.1 Yi.2;have q4:=WA ho2;unfold u64 at hr hs1 YP ho1 ho2;refine Ai (λhc=>?_) (λhc=>?_)
  ·simp only[wu,p1,p63,PC,q1,Bool.or_eq_true,U'] at hc;refine Ai ?_ ?_;constructor<;>simp only<;>omega;refine F8 (k+1,⟨s.hi%9223372036854775808*2+s.lo/9223372036854775808,s.lo*2%18446744073709551616⟩,⟨o.hi%9223372036854775808*2+o.lo/9223372036854775808,o.lo%9223372036854775808*2+1⟩,2*r+s.hi/9223372036854775808-d) ?_;refine F8 [] ?_;refine F8 [] ?_;refine Ai ?_ (Ai ?_ ?_);show 128-(k+1)<128-k;omega;exact w9 hd hd' hk hy rfl rfl rfl rfl (Or.inr rfl) (by omega) (by omega) (by omega);repeat' (first|apply Ai|exact rfl|intro)
   (all_goals (try (refine XA ?_ rfl)));all_goals simp only[wu,p1,p63,PC,q1,q2,q3,q4]
   all_goals omega
  simp only[wu,p1,p63,PC,q1,Xp,Xh] at hc;refine Ai ?_ ?_;constructor<;>simp only<;>omega;refine F8 (k+1,⟨s.hi%9223372036854775808*2+s.lo/9223372036854775808,s.lo*2%18446744073709551616⟩,⟨o.hi%9223372036854775808*2+o.lo/9223372036854775808,o.lo%9223372036854775808*2+0⟩,2*r+s.hi/9223372036854775808-0*d) ?_;refine F8 [] ?_;refine F8 [] ?_;refine Ai ?_ (Ai ?_ ?_);show 128-(k+1)<128-k;omega;exact w9 hd hd' hk hy rfl rfl rfl rfl (Or.inl rfl) rfl (by omega) (by omega);repeat' (first|apply Ai|exact rfl|intro)
  (all_goals (try (refine XA ?_ rfl)));all_goals simp only[wu,p1,p63,PC,q1,q2,q3]
  all_goals omega
 obtain rfl:k=128:=by simp only[Xh] at hb;omega
 obtain⟨e1,e2⟩:=PQ hd hy;have ho:=hy.2.2.1;simp only[Sz.In,u64] at ho;unfold Sz.val at e1 e2;repeat' (first|refine Ai ?_ ?_|(intro _))
 all_goals (try (refine XA ?_ rfl))
 all_goals simp only[nL,QY,e1,e2]
 all_goals omega
noncomputable def HK:XR cx:=af 168 Tryz.call168 (aH gD (Yp .u64)) _ _ (λ_=>⟨[],[],[4],0⟩) [] (λ_=>rfl) follows Tryz.func168 (by kernel_rfl) BY
end Go.Proofs.YtmdpdknpapjchaaGreatDoor.Df
namespace Go.Proofs.YtmdpdknpapjchaaGreatDoor.Df
open Go.RowKit
set_option maxRecDepth 8000
set_option maxHeartbeats 2000000
def W.ofL(x:List SV):W:=⟨(YQ x).iv,(YQ (Yz x)).iv,(YQ (Yz (Yz x))).bv⟩
structure Xa where
 n:Nat
 g:Nat->W
def JE:Rd Xa:=⟨.rs 3 0 λ_=>[.v (.int .u64 0),.v (.int .u64 0),.v (.bool false)],λx=>⟨x.rn,λi=>W.ofL (x.rf i)⟩,λp=>.rs 3 p.n λi=>(p.g i).cells,λ_=>rfl⟩
def W.zero(a:W):Prop:=a.hi=0∧a.lo=0∧a.neg=false
def W.norm(a:W):Prop:=u64 a.hi∧u64 a.lo∧(a.neg=true->¬(a.hi=0∧a.lo=0))
def Gz(a:W):Int:=if a.neg then-a.lo else a.lo
def W.small(a:W):Prop:=a.hi=0∧0<=a.lo∧a.lo<9223372036854775808
def NA(x y:W):W:=if kV ⟨x.hi,x.lo⟩ ⟨y.hi,y.lo⟩ then⟨y.hi,y.lo,false⟩ else⟨x.hi,x.lo,false⟩
def UC(g:Nat->W):Nat->W
 | 0=>⟨0,0,false⟩
 | 1=>⟨0,0,false⟩
 | _+2=>g 1
def R1(g:Nat->W):Cut:=⟨Nat,λk=>k<=2,λk=>⟨[sl 2 (.p 0 0),sl 3 (.p 1 0),sl 7 (.rs 3 2 λi=>(g i).cells),sl 8 (.v (.int .i64 2)),sl 9 (.v (.int .i64 k))],
 [(0,.lay [.il .u64 0,.il .u64 0,.bl false] 222),(1,.lay (UC g k).cells 222)],2,0,[],[]⟩,λk=>2-k⟩
theorem Dw:∀a,aD ((λa=>[a.1.In,1<=a.2.lo∧a.2.lo<18446744073709551616]) a)->aJ (C:=cx) [pv,HK] [] 0 ak Tryz.f123 ((aH rdW rdW).enc a) λv H _=>ae ((λa=>(I5 a.1 a.2).sv) a) H v:=by
 intro⟨x,y⟩ ⟨hn,hm⟩;repeat' (first|refine Ai ?_ ?_|(intro _))
 all_goals (try (refine XA ?_ rfl))
 all_goals (try simp only[bh,aH,eC,gD,rdW,rdB,Yp,Sz.of,W.of,YQ,Yz,SV.al,SV.iv,SV.bv,cH,U',Xh] at *)
 all_goals first|rfl|exact hn.1.1|exact hn.1.2|exact hn.2.1|exact hn.2.2|exact hm.1|exact hm.2
noncomputable def L0:XR cx:=af 123 Tryz.call123 (aH rdW rdW) _ _ (λ_=>ak) [] (λ_=>rfl) follows Tryz.func123 (by kernel_rfl) Dw
theorem Ik:∀a,aD ((λa=>[a.1.hi=0∧a.1.lo=0,a.2.In]) a)->aJ (C:=cx) [] [] 0 ak Tryz.f170 ((aH gD gD).enc a) λv H _=>ae ((λa=>a.2.sv) a) H v:=by
 intro⟨s,t⟩ ⟨⟨h1,h2⟩,hm⟩;replace h1:s.hi=0:=h1;replace h2:s.lo=0:=h2;obtain⟨⟨a1,a2⟩,a3,a4⟩:t.In:=hm;repeat' (first|refine Ai ?_ ?_|(intro _))
 all_goals (try (refine XA ?_ rfl))
 all_goals (try simp only[bh,aH,eC,gD,rdW,rdB,Yp,Sz.of,W.of,YQ,Yz,SV.al,SV.iv,SV.bv,cH,U',Xh] at *)
 all_goals (try simp only[wu] at *)
 all_goals first|omega
noncomputable def PY:XR cx:=af 170 Tryz.call170 (aH gD gD) _ _ (λ_=>ak) [] (λ_=>rfl) follows Tryz.func170 (by kernel_rfl) Ik
theorem DN:∀a,aD ((λa=>[a.2.hi=0∧a.2.lo=0,a.1.In]) a)->aJ (C:=cx) [] [] 0 ak Tryz.f171 ((aH gD gD).enc a) λv H _=>ae ((λa=>a.1.sv) a) H v:=by
 intro⟨t,s⟩ ⟨⟨h1,h2⟩,hm⟩;replace h1:s.hi=0:=h1;replace h2:s.lo=0:=h2;obtain⟨⟨a1,a2⟩,a3,a4⟩:t.In:=hm;repeat' (first|refine Ai ?_ ?_|(intro _))
 all_goals (try (refine XA ?_ rfl))
 all_goals (try simp only[bh,aH,eC,gD,rdW,rdB,Yp,Sz.of,W.of,YQ,Yz,SV.al,SV.iv,SV.bv,cH,U',Xh] at *)
 all_goals (try simp only[wu] at *)
 all_goals first|omega
noncomputable def Md:XR cx:=af 171 Tryz.call171 (aH gD gD) _ _ (λ_=>ak) [] (λ_=>rfl) follows Tryz.func171 (by kernel_rfl) DN
theorem MY:∀a,aD ((λa=>[a.small]) a)->aJ (C:=cx) [] [] 0 ak Tryz.f126 ((bh rdW).enc a) λv H _=>ae ((λa=>.v (.int .i64 (Gz a))) a) H v:=by
 intro x hx;obtain⟨h1,h2,h3⟩:x.small:=hx;repeat' (first|refine Ai ?_ ?_|(intro _))
 all_goals (try (refine XA ?_ rfl))
 all_goals (try simp only[bh,aH,eC,gD,rdW,rdB,Yp,Sz.of,W.of,YQ,Yz,SV.al,SV.iv,SV.bv,cH,U',Xh] at *)
 all_goals (try simp only[Gz,wu,wi])
 all_goals first|omega|grind
noncomputable def TD:XR cx:=af 126 Tryz.call126 (bh rdW) _ _ (λ_=>ak) [] (λ_=>rfl) follows Tryz.func126 (by kernel_rfl) MY
theorem MW:∀a,aD ((λa=>[a.n=2,(a.g 0).zero,(a.g 1).norm]) a)->aJ (C:=cx) [pv,PY,Md,vb] [] 0 ⟨[],[],[3],0⟩ Tryz.f125 ((bh JE).enc a) λv H _=>ae ((λa=>(a.g 1).sv) a) H v:=by
 intro⟨n,g⟩ ⟨hn,hx,hy⟩;replace hn:n=2:=hn;subst hn;obtain⟨x1,x2,x3⟩:(g 0).zero:=hx;obtain⟨⟨a1,a2⟩,⟨a3,a4⟩,a5⟩:(g 1).norm:=hy;refine F8 (R1 g) ?_;refine Ai ?_ ?_
 ·refine⟨(0:Nat),[],[],trivial,F9 _,?_⟩;repeat' (first|apply Ai|exact rfl|intro)
 refine fun(k:Nat) (hk:k<=2)=>?_;refine Ai (λhb=>?_) (λhb=>?_)
 ·have hb:(k:Int)<2:=Od hb;have hk01:k=0∨k=1:=(by omega);clear hk;repeat' (first|refine Ai ?_ ?_|(intro _))
  (all_goals try (refine F8 (k+1:Nat) ?_;refine F8 [] ?_;refine F8 [] ?_;refine Ai ?_ ?_;(show 2-(k+1)<2-k;omega);refine Ai ?_ ?_;(show k+1<=2;omega);repeat' (first|apply Ai|exact rfl|intro)));all_goals (try (refine XA ?_ rfl))
  (all_goals (try simp only[bh,aH,eC,gD,rdW,rdB,Yp,fb,Vec.of,JE,W.ofL,SV.rf,Sz.of,W.of,YQ,Yz,SV.al,SV.iv,SV.bv,cH,U',Xh] at *));all_goals (try (obtain rfl|rfl:=hk01))
  all_goals first|omega|(simp only[UC,lU,kV,show ((1:Nat):Int).toNat=1 from rfl,show ((0:Nat):Int).toNat=0 from rfl] at *<;>first|omega|grind)
 obtain rfl:k=2:=by simp only[Xh] at hb;omega
 repeat' (first|apply Ai|exact rfl|intro)
noncomputable def TC:XR cx:=af 125 Tryz.call125 (bh JE) _ _ (λ_=>⟨[],[],[3],0⟩) [] (λ_=>rfl) follows Tryz.func125 (by kernel_rfl) MW
theorem MS:∀a,aD ((λa=>[Yd a.1.x∧Yd a.1.y,Yd a.2.x∧Yd a.2.y]) a)->aJ (C:=cx) [Qf,vb] [] 0 ⟨[5],[],[],0⟩ Tryz.f120 ((aH fb fb).enc a) λv H _=>ae ((λa=>.tup [(dA a.2.x a.1.x).sv,(dA a.2.y a.1.y).sv,(NA (dA a.2.x a.1.x) (dA a.2.y a.1.y)).sv]) a) H v:=by
 intro⟨x,y⟩ ⟨hx,hy⟩;obtain⟨x1,x2⟩:Yd x.x∧Yd x.y:=hx;obtain⟨y1,y2⟩:Yd y.x∧Yd y.y:=hy;repeat' (first|refine Ai ?_ ?_|(intro _))
 all_goals (try (refine XA ?_ rfl))
 all_goals (try simp only[bh,aH,eC,gD,rdW,rdB,Yp,fb,Vec.of,JE,W.ofL,SV.rf,Sz.of,W.of,YQ,Yz,SV.al,SV.iv,SV.bv,cH,U',Xh] at *)
 all_goals first|assumption|rfl|exact x1.1|exact x1.2|exact x2.1|exact x2.2|exact y1.1|exact y1.2|exact y2.1|exact y2.2|(simp only[NA];rw[‹kV _ _=_›];rfl)
noncomputable def TB:XR cx:=af 120 Tryz.call120 (aH fb fb) _ _ (λ_=>⟨[5],[],[],0⟩) [5] (λ_=>rfl) follows Tryz.func120 (by kernel_rfl) MS
end Go.Proofs.YtmdpdknpapjchaaGreatDoor.Df
namespace Go.Proofs.YtmdpdknpapjchaaGreatDoor.Df
open Go.RowKit
variable {m:Int}{a b c:SV}{v:Vec}
theorem lt2{i:Nat}(h:i<2):i=0∨i=1:=by omega
theorem TX{r:List SV} : chunk (a::b::c::r) 3 0=[a,b,c]:=rfl
theorem TW{d x f:SV}{r:List SV} : chunk (a::b::c::d::x::f::r) 3 1=[d,x,f]:=rfl
theorem VI{l:List SV} : List.drop 0 l=l:=rfl
theorem W.eta(a:W):(⟨a.hi,a.lo,a.neg⟩:W)=a:=rfl
theorem Sz.eta(a:Sz):(⟨a.hi,a.lo⟩:Sz)=a:=rfl
theorem Vec.eta(a:Vec):(⟨a.x,a.y⟩:Vec)=a:=rfl
def gi(v:Vec):W:=NA (dA v.x 0) (dA v.y 0)
def qg(n m:Int)(f:W):W:=I5 (oS (dA n 0) (wOf m)) f
def lim(v:Vec)(m:Int):Vec:=if v.x=0∧v.y=0 then⟨0,0⟩ else if kV ⟨(wOf m).hi,(wOf m).lo⟩ ⟨(gi v).hi,(gi v).lo⟩ then⟨Gz (qg v.x m (gi v)),Gz (qg v.y m (gi v))⟩ else v
theorem AN(hx:Yd v.x)(hy:Yd v.y):(gi v).hi=0∧(gi v).lo<18446744073709551616∧v.x.natAbs<=(gi v).lo∧v.y.natAbs<=(gi v).lo∧(gi v).neg=false:=by unfold Yd at hx hy;simp only[gi,NA,dA,kV];split<;>rename_i h<;>simp at h ⊢<;>omega
theorem EX{n:Int}{f:W}(hn:Yd n)(hm:1<=m∧m<=65536)(h0:1<=f.lo)(hf:(n.natAbs:Int)<=f.lo):(qg n m f).hi=0∧0<=(qg n m f).lo∧(qg n m f).lo<=m∧((qg n m f).neg=true->¬((qg n m f).hi=0∧(qg n m f).lo=0)):=by
 unfold Yd at hn;have e:(oS (dA n 0) (wOf m)).hi*18446744073709551616+(oS (dA n 0) (wOf m)).lo=n.natAbs*m:=by simp only[oS,lU,oW,dA,wOf];rw[show ((n-0).natAbs:Int)=n.natAbs by omega,show ((m.natAbs:Nat):Int)=m by omega];omega
 have hq:(n.natAbs:Int)*m/f.lo<=m:=by refine Int.ediv_le_of_le_mul (by omega) ?_;rw[Int.mul_comm];exact Int.mul_le_mul_of_nonneg_left hf (by omega)
 have hq0:0<=(n.natAbs:Int)*m/f.lo:=Int.ediv_nonneg (Int.mul_nonneg (by omega) (by omega)) (by omega);have e1:(qg n m f).hi=(n.natAbs:Int)*m/f.lo/18446744073709551616:=by show (nL ⟨_,_⟩ f.lo).hi=_;simp only[nL,e]
 have e2:(qg n m f).lo=(n.natAbs:Int)*m/f.lo%18446744073709551616:=by show (nL ⟨_,_⟩ f.lo).lo=_;simp only[nL,e]
 refine⟨by omega,by omega,by omega,λh=>?_⟩;have:(lU (nL ⟨(oS (dA n 0) (wOf m)).hi,(oS (dA n 0) (wOf m)).lo⟩ f.lo) ((oS (dA n 0) (wOf m)).neg != f.neg)).neg=true:=h;simp only[lU,I',Bool.not_eq_true',Bool.and_eq_false_iff,Xh] at this;intro hc;have h1:(nL ⟨(oS (dA n 0) (wOf m)).hi,(oS (dA n 0) (wOf m)).lo⟩ f.lo).hi=0:=hc.1;have h2:(nL ⟨(oS (dA n 0) (wOf m)).hi,(oS (dA n 0) (wOf m)).lo⟩ f.lo).lo=0:=hc.2;omega
theorem Eb{a b:W}(ha:0<=a.lo∧a.lo<18446744073709551616)(hb:0<=b.lo∧b.lo<4294967296):(oS a b).In:=by have h0:0<=a.lo*b.lo:=Int.mul_nonneg ha.1 hb.1;have h1:a.lo*b.lo<=18446744073709551615*4294967295:=Int.mul_le_mul (by omega) (by omega) hb.1 (by omega);simp only[W.In,u64,oS,lU,oW];omega
theorem Kv(f1:(gi v).hi=0)(hm:1<=m∧m<=65536):kV ⟨(wOf m).hi,(wOf m).lo⟩ ⟨(gi v).hi,(gi v).lo⟩=decide (m<(gi v).lo):=by
 have h:((m.natAbs:Nat):Int)=m:=by omega
 simp[kV,wOf,f1,h]
set_option maxHeartbeats 2000000 in
set_option maxRecDepth 8000 in
theorem BO:∀a,aD ((λa=>[a.1.x=0∧a.1.y=0,Yd a.2.1.x∧Yd a.2.1.y,1<=a.2.2∧a.2.2<=65536]) a)->aJ (C:=cx) [VJ,TL,L0,TC,TD,TB,vb] [] 0 ak Tryz.f92 ((eC fb fb (Yp .i64)).enc a) λv H _=>ae ((λa=>(lim a.2.1 a.2.2).sv) a) H v:=by
 intro⟨a,v,m⟩ ⟨h0,hv,hm⟩;obtain⟨ax,ay⟩:a.x=0∧a.y=0:=h0;obtain⟨vx,vy⟩:Yd v.x∧Yd v.y:=hv;replace hm:1<=m∧m<=65536:=hm;obtain⟨a1,a2⟩:=a;obtain rfl:a1=0:=ax;obtain rfl:a2=0:=ay;have hs:=Kv (v:=v) (m:=m) (AN vx vy).1 hm;have F:=AN vx vy;have l1:=EX (f:=gi v) (n:=v.x) (m:=m) vx hm;have l2:=EX (f:=gi v) (n:=v.y) (m:=m) vy hm;have i0:0<=(wOf m).lo∧(wOf m).lo<4294967296:=by simp only[wOf];omega
 have i1:=Eb (a:=dA v.x 0) (b:=wOf m) (by unfold Yd at vx;simp only[dA];omega) i0;have i2:=Eb (a:=dA v.y 0) (b:=wOf m) (by unfold Yd at vy;simp only[dA];omega) i0;have i3:0<=(dA v.x 0).lo∧(dA v.x 0).lo<18446744073709551616:=by unfold Yd at vx;simp only[dA];omega
 have i4:0<=(dA v.y 0).lo∧(dA v.y 0).lo<18446744073709551616:=by unfold Yd at vy;simp only[dA];omega
 have z0:(wOf 0).hi=0∧(wOf 0).lo=0∧(wOf 0).neg=false:=⟨rfl,rfl,rfl⟩
 have L:lim v m=if v.x=0∧v.y=0 then⟨0,0⟩ else if m<(gi v).lo then⟨Gz (qg v.x m (gi v)),Gz (qg v.y m (gi v))⟩ else v:=by unfold lim;rw[hs];simp only[U']
 simp only[W.In,u64] at i1 i2;unfold Yd at vx vy;simp only[qg,gi] at F l1 l2 L hs;repeat' (first|refine Ai ?_ ?_|(intro _))
 all_goals try (rename_i i hi;obtain rfl|rfl:=lt2 hi<;>repeat' (first|exact trivial|apply Ai))
 all_goals (try (refine XA ?_ rfl))
 all_goals (try simp only[bh,aH,eC,gD,rdW,rdB,Yp,fb,Vec.of,JE,W.ofL,SV.rf,SV.rn,TX,TW,VI,W.eta,Sz.eta,Vec.eta,Sz.of,W.of,YQ,Yz,SV.al,SV.iv,SV.bv,cH,U',Xh] at *)
 all_goals (try simp only[hs,U',Xh] at *)
 all_goals first|omega|(rw[L];grind)|grind
noncomputable def HD:XR cx:=af 92 Tryz.call92 (eC fb fb (Yp .i64)) _ _ (λ_=>ak) [] (λ_=>rfl) follows Tryz.func92 (by kernel_rfl) BO
end Go.Proofs.YtmdpdknpapjchaaGreatDoor.Df
namespace Go.Proofs.YtmdpdknpapjchaaGreatDoor.Df
open Go.RowKit
def vZ:List SV:=[.il .i64 0,.il .i64 0,.v (.slice none 0 0),.il .i64 0,.il .i64 0,.il .i64 0,.il .i64 0,.il .i64 0,.il .i64 0,.il .i64 0,.il .i64 0,.il .i64 0]
end Go.Proofs.YtmdpdknpapjchaaGreatDoor.Df
namespace Go.Proofs.YtmdpdknpapjchaaGreatDoor.Df
open Go.RowKit
set_option maxHeartbeats 2000000 in
set_option maxRecDepth 8000 in
theorem DO:∀a,aD ((λa=>[Yd a.1.x∧Yd a.1.y,1<=a.2∧a.2<=65536]) a)->aJ (C:=cx) [HD] [] 0 ak Tryz.f76 ((aH fb (Yp .i64)).enc a) λv H _=>ae ((λa=>(lim a.1 a.2).sv) a) H v:=by
 intro⟨v,m⟩ ⟨⟨vx,vy⟩,hm⟩;replace vx:Yd v.x:=vx;replace vy:Yd v.y:=vy;replace hm:1<=m∧m<=65536:=hm;repeat' (first|refine Ai ?_ ?_|(intro _))
 all_goals (try (refine XA ?_ rfl))
 all_goals first|rfl|exact vx.1|exact vx.2|exact vy.1|exact vy.2|exact hm.1|exact hm.2
noncomputable def Me:XR cx:=af 76 Tryz.call76 (aH fb (Yp .i64)) _ _ (λ_=>ak) [] (λ_=>rfl) follows Tryz.func76 (by kernel_rfl) DO
end Go.Proofs.YtmdpdknpapjchaaGreatDoor.Df
namespace Go.Proofs.YtmdpdknpapjchaaGreatDoor
open Go.RowKit
end Go.Proofs.YtmdpdknpapjchaaGreatDoor
