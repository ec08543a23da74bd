/- order.Valid of any list of systems.. -/
import Derived.Test.YtgigkennhdolpaaGreatDoorM19
import Derived.Test.YtgigkennhdolpaaGreatDoorM30
import Derived.Test.YtgigkennhdolpaaGreatDoorM17
import Derived.Test.YtgigkennhdolpaaGreatDoorM16
namespace Go.Proofs.YtgigkennhdolpaaGreatDoor
open Go.RowKit
def TO(l:lg):Cut:=⟨Nat,λk=>k<=l.n∧gj (oQ l) k=true,λk=>⟨[sl 3 (.m 0),sl 10 l.sv,sl 11 (i64 l.n),sl 12 (i64 k)],[(0,.mp .str false (mJ l.key k) (λj=>[.v (.int .i64 (gX l.key k j))]))],1,0,[],[]⟩,λk=>l.n-k⟩
set_option maxHeartbeats 2000000 in
set_option maxRecDepth 8000 in
theorem N2:∀a,aH ((λa=>[(a.n:Int)<=bY]) a)->aM (C:=cx) [] [] 0 ⟨[],[],[5],0⟩ Tryz.f84 ((bh nw).enc a) λv H _=>ae ((λa=>.v (.bool (nC a))) a) H v:=by
 intro l hn;replace hn:(l.n:Int)<=9223372036854775807:=hn;refine Ai (λhb=>?_) (λhb=>?_);have hb:decide ((16:Int)<l.n)=true:=hb;have e:nC l=false:=(by unfold nC;rw[hb];rfl);simp only[e];exact rfl;have hb:decide ((16:Int)<l.n)=false:=hb;have hn16:(l.n:Int)<=16:=by have:=Ur hb;omega
 have eO:nC l=gj (oQ l) l.n:=by unfold nC;rw[hb];rfl
 refine Uh (TO l) ?_;refine Ai ?_ ?_
 ·refine⟨(0:Nat),[],[],trivial,⟨Ui _,rfl⟩,?_⟩;repeat' (first|refine Ai ?_ ?_|intro _|exact rfl)
 refine fun(k:Nat) (hk:k<=l.n∧gj (oQ l) k=true)=>?_;obtain⟨k1,k2⟩:=hk;refine Ai (λhb=>?_) (λhb=>?_)
 ·have hb:(k:Int)<l.n:=Od hb;refine Ai ⟨by omega,by omega⟩ ?_;have hcn:=DW (e:=l.key) (j:=l.key k) (k:=k);refine Ai (by repeat' (first|exact trivial|exact rfl|refine Ai ?_ ?_|intro _)) ?_;refine Ai (by cases mJ l.key k (l.key k)<;>(unfold UP;simp only[cond_true,cond_false];omega):UP ((bif mJ l.key k (l.key k) then gX l.key k (l.key k) else 0)+1)) ?_;refine Ai (by repeat' (first|exact trivial|exact rfl|refine Ai ?_ ?_|intro _)) ?_;refine Ai (by repeat' (first|exact trivial|exact rfl|refine Ai ?_ ?_|intro _)) ?_;have hX:(bif decide (l.key k=l.key k)||mJ l.key k (l.key k) then(bif decide (l.key k=l.key k) then(bif mJ l.key k (l.key k) then gX l.key k (l.key k) else 0)+1 else gX l.key k (l.key k)) else 0)=gX l.key (k+1) (l.key k):=Fw;refine Ai (λhc=>?_) (λhc=>?_);have hc:Cn l k (bif decide (l.key k=l.key k)||mJ l.key k (l.key k) then(bif decide (l.key k=l.key k) then(bif mJ l.key k (l.key k) then gX l.key k (l.key k) else 0)+1 else gX l.key k (l.key k)) else 0)=true:=hc;rw[hX] at hc;have e:nC l=false:=eO.trans (kU (b:=oQ l) hc (by omega));simp only[e];exact rfl;have hc:Cn l k (bif decide (l.key k=l.key k)||mJ l.key k (l.key k) then(bif decide (l.key k=l.key k) then(bif mJ l.key k (l.key k) then gX l.key k (l.key k) else 0)+1 else gX l.key k (l.key k)) else 0)=false:=hc;rw[hX] at hc;refine Ai (by unfold UP;omega:UP ((k:Int)+1)) ?_;refine⟨k+1,[],[],(by show l.n-(k+1)<l.n-k;omega),⟨(by show k+1<=l.n;omega),mF k2 hc⟩,?_⟩;repeat' (first|refine Ai ?_ ?_|intro _|exact rfl)
  all_goals first|exact zH.symm|trace_state
 have hb:¬(k:Int)<l.n:=Ur hb;obtain rfl:k=l.n:=by omega
 have e:nC l=true:=eO.trans k2;simp only[e];exact rfl
noncomputable def OH:UO cx:=ai 84 Tryz.call84 (bh nw) _ _ (λ_=>⟨[],[],[5],0⟩) [] (λ_=>rfl) follows Tryz.func84 (by kernel_rfl) N2
def Rt(s:Xi):Cut:=⟨Nat,λk=>k<=s.progs.n∧gj (oY s) k=true,λk=>⟨[sl 1 (.p 0 0),sl 29 s.progs.sv,sl 30 (i64 s.progs.n),sl 31 (i64 k)],[(0,.lay s.cells 33)],1,0,[],[]⟩,λk=>s.progs.n-k⟩
def Rs(s:Xi):Cut:=⟨Nat,λk=>k<=s.systems.n∧gj (rF s) k=true,λk=>⟨[sl 1 (.p 0 0),sl 40 s.systems.sv,sl 41 (i64 s.systems.n),sl 42 (i64 k)],[(0,.lay s.cells 33)],1,0,[],[]⟩,λk=>s.systems.n-k⟩
theorem H4{l:lg}(h:nC l=true):∀i,i<l.n->0<=(l.e i).prog∧(l.e i).prog<16:=λi hi=>by unfold nC at h;have h2:=tJ (Bool.and_eq_true_iff.1 h).2 i hi;unfold oQ Cn at h2;simp only[UA,Us] at h2;omega
set_option maxHeartbeats 2000000 in
set_option maxRecDepth 8000 in
theorem Kt:∀a,aH ((λa=>[(a.systems.n:Int)<=bY,(a.progs.n:Int)<=bY,∀i,i<a.progs.n->((a.progs.e i).code.n:Int)<=4000]) a)->aM (C:=cx) [OH,JK] [] 0 ⟨[],[],[4,10],0⟩ Tryz.f48 ((bh mW).enc a) λv H _=>ae ((λa=>.v (.bool (qx a))) a) H v:=by
 intro s ⟨hn,hp,hc⟩;replace hn:(s.systems.n:Int)<=9223372036854775807:=hn;replace hp:(s.progs.n:Int)<=9223372036854775807:=hp;replace hc:∀i,i<s.progs.n->((s.progs.e i).code.n:Int)<=4000:=hc
 suffices key:∀r,r=qx s->aM (C:=cx) [OH,JK] [] 0 ⟨[],[],[4,10],0⟩ Tryz.f48 ((bh mW).enc s) λv H _=>ae (.v (.bool r)) H v from key _ rfl
 intro r hr;refine Ai ⟨(by repeat' (first|exact trivial|exact rfl|refine Ai ?_ ?_|intro _)),hn⟩ ?_;refine Ai (λhb=>?_) (λhb=>?_)
 ·have hb:(!nC s.systems||decide ((16:Int)<s.progs.n)||decide (s.fuel<0)||decide (10000<s.fuel))=true:=hb;refine hr.trans ?_;unfold qx KZ;cases ho:nC s.systems with
  | false=>rfl
  | true=>rw[ho] at hb;simp only[Bool.not_true,Bool.false_or] at hb;rw[hb];rfl
 have hb:(!nC s.systems||decide ((16:Int)<s.progs.n)||decide (s.fuel<0)||decide (10000<s.fuel))=false:=hb;have ho:nC s.systems=true:=by simp only[UA] at hb;simpa using hb.1.1.1
 rw[ho] at hb;replace hr:r=(gj (oY s) s.progs.n&&gj (rF s) s.systems.n):=hr.trans (by unfold qx KZ;simp only[Bool.not_true,Bool.false_or] at hb;rw[ho,hb];rfl);refine Uh (Rt s) ?_;refine Ai ?_ ?_
 ·refine⟨(0:Nat),[],[],trivial,⟨Ui _,rfl⟩,?_⟩;repeat' (first|refine Ai ?_ ?_|intro _|exact rfl)
 refine fun(k:Nat) (hk:k<=s.progs.n∧gj (oY s) k=true)=>?_;obtain⟨k1,k2⟩:=hk;refine Ai (λhb=>?_) (λhb=>?_)
 ·have hb:(k:Int)<s.progs.n:=Od hb;refine Ai ⟨by omega,by omega⟩ ?_;refine Ai ⟨(by repeat' (first|exact trivial|exact rfl|refine Ai ?_ ?_|intro _)),hc k (by omega)⟩ ?_;refine Ai (λhd=>?_) (λhd=>?_);have hd:oY s k=true:=hd;exact hr.trans (by rw[kU hd (by omega)];rfl);have hd:oY s k=false:=hd;refine Ai (by unfold UP;omega:UP ((k:Int)+1)) ?_;refine⟨k+1,[],[],(by show s.progs.n-(k+1)<s.progs.n-k;omega),⟨(by show k+1<=s.progs.n;omega),mF k2 hd⟩,?_⟩;repeat' (first|refine Ai ?_ ?_|intro _|exact rfl)
 have hb:¬(k:Int)<s.progs.n:=Ur hb;obtain rfl:k=s.progs.n:=by omega
 replace hr:r=gj (rF s) s.systems.n:=hr.trans (by rw[k2];rfl);refine Uh (Rs s) ?_;refine Ai ?_ ?_
 ·refine⟨(0:Nat),[],[],trivial,⟨Ui _,rfl⟩,?_⟩;repeat' (first|refine Ai ?_ ?_|intro _|exact rfl)
 refine fun(q:Nat) (hq:q<=s.systems.n∧gj (rF s) q=true)=>?_;obtain⟨q1,q2⟩:=hq;refine Ai (λhb=>?_) (λhb=>?_)
 ·have hb:(q:Int)<s.systems.n:=Od hb;have hpr:=H4 ho q (by omega);refine Ai ⟨by omega,by omega⟩ ?_;refine Ai (λhd=>?_) (λhd=>?_);have hd:decide ((s.progs.n:Int)<=(s.systems.e q).prog)=true:=hd;have hx:rF s q=true:=(by unfold rF;rw[hd];rfl);exact hr.trans (kU hx (by omega));have hd:decide ((s.progs.n:Int)<=(s.systems.e q).prog)=false:=hd;refine Ai (show 0<=(s.systems.e q).prog∧(s.systems.e q).prog<s.progs.n from⟨hpr.1,by have:=Ur hd;omega⟩) ?_;have eW:rF s q=(decide (¬eh .andNot .u32 (s.progs.e (s.systems.e q).prog.toNat).reads (eh .or .u32 (s.systems.e q).reads (s.systems.e q).writes)=0)||decide (¬eh .andNot .u32 (s.progs.e (s.systems.e q).prog.toNat).writes (s.systems.e q).writes=0)):=(by unfold rF;rw[hd];rfl);refine Ai (λhf=>?_) (λhf=>?_);have hf:rF s q=true:=eW.trans hf;exact hr.trans (kU hf (by omega));have hf:rF s q=false:=eW.trans hf;refine Ai (by unfold UP;omega:UP ((q:Int)+1)) ?_;refine⟨q+1,[],[],(by show s.systems.n-(q+1)<s.systems.n-q;omega),⟨(by show q+1<=s.systems.n;omega),mF q2 hf⟩,?_⟩;repeat' (first|refine Ai ?_ ?_|intro _|exact rfl)
 have hb:¬(q:Int)<s.systems.n:=Ur hb;obtain rfl:q=s.systems.n:=by omega
 exact hr.trans q2
noncomputable def JF:UO cx:=ai 48 Tryz.call48 (bh mW) _ _ (λ_=>⟨[],[],[4,10],0⟩) [] (λ_=>rfl) follows Tryz.func48 (by kernel_rfl) Kt
end Go.Proofs.YtgigkennhdolpaaGreatDoor
namespace Go.Proofs.YtgigkennhdolpaaGreatDoor.Df
open Go.RowKit
theorem follows:cx.P.follows .mixedOrders=true:=by kernel_rfl
def sl(t:Nat)(v:SV):Nat×Slot:=(t,⟨0,0,[],v⟩)
end Go.Proofs.YtgigkennhdolpaaGreatDoor.Df
namespace Go.Proofs.YtgigkennhdolpaaGreatDoor.Df
open Go.RowKit
structure Vec where
 x:Int
 y:Int
def Vec.cells(b:Vec):List SV:=[.v (.int .i64 b.x),.v (.int .i64 b.y)]
def Vec.sv(b:Vec):SV:=.agg b.cells
def Vec.of(x:SV):Vec:=⟨(VL (x.al)).iv,(VL (Vx (x.al))).iv⟩
def eI:Rd Vec:=⟨.agg [.v (.int .i64 0),.v (.int .i64 0)],Vec.of,Vec.sv,λ_=>rfl⟩
end Go.Proofs.YtgigkennhdolpaaGreatDoor.Df
namespace Go.Proofs.YtgigkennhdolpaaGreatDoor.Df
open Go.RowKit
set_option maxRecDepth 8000
set_option maxHeartbeats 2000000
structure Sz where
 hi:Int
 lo:Int
def Sz.cells(b:Sz):List SV:=[.v (.int .u64 b.hi),.v (.int .u64 b.lo)]
def Sz.sv(b:Sz):SV:=.agg b.cells
def Sz.of(x:SV):Sz:=⟨(VL (x.al)).iv,(VL (Vx (x.al))).iv⟩
def fW:Rd Sz:=⟨.agg [.v (.int .u64 0),.v (.int .u64 0)],Sz.of,Sz.sv,λ_=>rfl⟩
structure W where
 hi:Int
 lo:Int
 neg:Bool
def W.cells(b:W):List SV:=[.v (.int .u64 b.hi),.v (.int .u64 b.lo),.v (.bool b.neg)]
def W.sv(b:W):SV:=.agg b.cells
def W.of(x:SV):W:=⟨(VL (x.al)).iv,(VL (Vx (x.al))).iv,(VL (Vx (Vx (x.al)))).bv⟩
def XW:Rd W:=⟨.agg [.v (.int .u64 0),.v (.int .u64 0),.v (.bool false)],W.of,W.sv,λ_=>rfl⟩
theorem wu(n:Int):IntKind.u64.wrap n=n%18446744073709551616:=rfl
theorem wi(n:Int):IntKind.i64.wrap n=if 9223372036854775808<=n%18446744073709551616 then n%18446744073709551616-18446744073709551616 else n%18446744073709551616:=by unfold IntKind.wrap;show (if (true&&decide (n%18446744073709551616>=9223372036854775808))=true then _ else _)=_;simp only[Bool.true_and,Uq,ge_iff_le];rfl
theorem p32:(2:Int)^min (Int.toNat 32) IntKind.u64.bits=4294967296:=rfl
theorem p63:(2:Int)^min (Int.toNat 63) IntKind.u64.bits=9223372036854775808:=rfl
theorem p1:(2:Int)^min (Int.toNat 1) IntKind.u64.bits=2:=rfl
theorem SP(a:Int):a.fdiv 4294967296=a/4294967296:=Int.fdiv_eq_ediv_of_nonneg a (by omega)
theorem MB(a:Int):a.fdiv 9223372036854775808=a/9223372036854775808:=Int.fdiv_eq_ediv_of_nonneg a (by omega)
theorem D6{i A B:Nat}(hb:B<2^i)(h:A*2^i+B<18446744073709551616):eh .or .u64 ((A*2^i:Nat):Int) (B:Int)=((A*2^i+B:Nat):Int):=by
 unfold eh;have e1:(BitVec.ofInt 64 ((A*2^i:Nat):Int)).toNat=A*2^i:=by rw[BitVec.ofInt_natCast,BitVec.toNat_ofNat,Nat.mod_eq_of_lt (by omega)]
 have e2:(BitVec.ofInt 64 ((B:Nat):Int)).toNat=B:=by rw[BitVec.ofInt_natCast,BitVec.toNat_ofNat,Nat.mod_eq_of_lt (by omega)]
 have e3:(BitVec.ofInt 64 ((A*2^i:Nat):Int) ||| BitVec.ofInt 64 ((B:Nat):Int)).toNat=A*2^i+B:=by rw[BitVec.toNat_or,e1,e2,<-Nat.shiftLeft_eq,Nat.shiftLeft_add_eq_or_of_lt hb]
 show IntKind.u64.wrap ((BitVec.ofInt 64 ((A*2^i:Nat):Int) ||| BitVec.ofInt 64 ((B:Nat):Int)).toNat:Int)=_;rw[e3,wu];omega
theorem tD{A i:Nat}(h:A<18446744073709551616)(hi:i<64):eh .and .u64 (A:Int) ((2^i-1:Nat):Int)=((A%2^i:Nat):Int):=by
 have hp:2^i-1<18446744073709551616:=by have:2^i<2^64:=Nat.pow_lt_pow_right (by omega) hi;omega
 unfold eh;have e1:(BitVec.ofInt 64 (A:Int)).toNat=A:=by rw[BitVec.ofInt_natCast,BitVec.toNat_ofNat,Nat.mod_eq_of_lt (by omega)]
 have e2:(BitVec.ofInt 64 ((2^i-1:Nat):Int)).toNat=2^i-1:=by rw[BitVec.ofInt_natCast,BitVec.toNat_ofNat,Nat.mod_eq_of_lt (by omega)]
 have e3:(BitVec.ofInt 64 (A:Int) &&& BitVec.ofInt 64 ((2^i-1:Nat):Int)).toNat=A%2^i:=by rw[BitVec.toNat_and,e1,e2,Nat.and_two_pow_sub_one_eq_mod]
 show IntKind.u64.wrap ((BitVec.ofInt 64 (A:Int) &&& BitVec.ofInt 64 ((2^i-1:Nat):Int)).toNat:Int)=_;rw[e3,wu];have:=Nat.mod_le A (2^i);omega
theorem zV{a:Int}(h0:0<=a)(h:a<18446744073709551616):eh .and .u64 a 4294967295=a%4294967296:=by obtain⟨A,rfl⟩:=Int.eq_ofNat_of_zero_le h0;have:=tD (A:=A) (i:=32) (by omega) (by omega);simpa using this
theorem TQ{a b:Int}(ha:0<=a)(hb:0<=b)(We:b<4294967296)(ha':a<4294967296):eh .or .u64 (a*4294967296) b=a*4294967296+b:=by obtain⟨A,rfl⟩:=Int.eq_ofNat_of_zero_le ha;obtain⟨B,rfl⟩:=Int.eq_ofNat_of_zero_le hb;have:=D6 (A:=A) (B:=B) (i:=32) (by omega) (by omega);simpa using this
theorem or1{a b:Int}(ha:0<=a)(hb:0<=b)(We:b<2)(ha':a<9223372036854775808):eh .or .u64 (a*2) b=a*2+b:=by obtain⟨A,rfl⟩:=Int.eq_ofNat_of_zero_le ha;obtain⟨B,rfl⟩:=Int.eq_ofNat_of_zero_le hb;have:=D6 (A:=A) (B:=B) (i:=1) (by omega) (by omega);simpa using this
def u64(n:Int):Prop:=0<=n∧n<18446744073709551616
def Sz.In(s:Sz):Prop:=u64 s.hi∧u64 s.lo
def W.In(s:W):Prop:=u64 s.hi∧u64 s.lo
def kW(s:Sz)(n:Bool):W:=⟨s.hi,s.lo,n&&!(decide (s.hi=0)&&decide (s.lo=0))⟩
def XE(n:Int):W:=⟨0,n.natAbs,decide (n<0)⟩
def c7(a b:Int):W:=⟨0,(a-b).natAbs,decide (a<b)⟩
def j8(s t:Sz):Bool:=decide (s.hi<t.hi)||decide (s.hi=t.hi)&&decide (s.lo<t.lo)
def n5(a b:Int):Sz:=⟨a*b/18446744073709551616,a*b%18446744073709551616⟩
def nW(a b:W):W:=kW (n5 a.lo b.lo) (a.neg != b.neg)
def mS(s:Sz)(d:Int):Sz:=⟨(s.hi*18446744073709551616+s.lo)/d/18446744073709551616,(s.hi*18446744073709551616+s.lo)/d%18446744073709551616⟩
def Oc(s:Sz)(d:Int):Int:=(s.hi*18446744073709551616+s.lo)%d
def G1(a b:W):W:=kW (mS ⟨a.hi,a.lo⟩ b.lo) (a.neg != b.neg)
theorem Gd:∀a,aH ((λa=>[]) a)->aM (C:=cx) [] [] 0 av Tryz.f200 ((aL fW Zq).enc a) λv H _=>ae ((λa=>(kW a.1 a.2).sv) a) H v:=by
 intro⟨s,n⟩ _;repeat' (first|refine Ai ?_ ?_|(intro _))
 all_goals (try (refine UK ?_ rfl))
 all_goals (try simp only[bh,aL,ib,fW,XW,Zq,VK,Sz.of,W.of,VL,Vx,SV.al,SV.iv,SV.bv,bZ,Uq,Us] at *)
 all_goals first|rfl|(simp only[kW];done)|(simp[kW,Bool.not_and];done)|trace_state
noncomputable def oC:UO cx:=ai 200 Tryz.call200 (aL fW Zq) _ _ (λ_=>av) [] (λ_=>rfl) follows Tryz.func200 (by kernel_rfl) Gd
theorem NZ:∀a,aH ((λa=>[Vd a]) a)->aM (C:=cx) [oC] [] 0 av Tryz.f147 ((bh (VK .i64)).enc a) λv H _=>ae ((λa=>(XE a).sv) a) H v:=by
 intro n (hn:Vd n);unfold Vd at hn;repeat' (first|refine Ai ?_ ?_|(intro _))
 all_goals (try (refine UK ?_ rfl))
 all_goals (try simp only[bh,aL,ib,fW,XW,Zq,VK,Sz.of,W.of,VL,Vx,SV.al,SV.iv,SV.bv,bZ,Uq,Us] at *)
 all_goals simp only[XE,kW,wu]
 all_goals first|omega|grind|trace_state
noncomputable def SY:UO cx:=ai 147 Tryz.call147 (bh (VK .i64)) _ _ (λ_=>av) [] (λ_=>rfl) follows Tryz.func147 (by kernel_rfl) NZ
theorem GC:∀a,aH ((λa=>[Vd a.1,Vd a.2]) a)->aM (C:=cx) [oC] [] 0 av Tryz.f199 ((aL (VK .i64) (VK .i64)).enc a) λv H _=>ae ((λa=>(c7 a.1 a.2).sv) a) H v:=by
 intro⟨n,m⟩ ⟨hn,hm⟩;replace hm:Vd m:=hm;replace hn:Vd n:=hn;unfold Vd at hn hm;repeat' (first|refine Ai ?_ ?_|(intro _))
 all_goals (try (refine UK ?_ rfl))
 all_goals (try simp only[bh,aL,ib,fW,XW,Zq,VK,Sz.of,W.of,VL,Vx,SV.al,SV.iv,SV.bv,bZ,Uq,Us] at *)
 all_goals simp only[c7,kW,wu]
 all_goals first|omega|grind|trace_state
noncomputable def Ni:UO cx:=ai 199 Tryz.call199 (aL (VK .i64) (VK .i64)) _ _ (λ_=>av) [] (λ_=>rfl) follows Tryz.func199 (by kernel_rfl) GC
theorem BS:∀a,aH ((λa=>[]) a)->aM (C:=cx) [] [] 0 av Tryz.f148 ((aL fW fW).enc a) λv H _=>ae ((λa=>.v (.bool (j8 a.1 a.2))) a) H v:=by
 intro⟨s,t⟩ _;all_goals (try (refine UK ?_ rfl))
 all_goals (try simp only[bh,aL,ib,fW,XW,Zq,VK,Sz.of,W.of,VL,Vx,SV.al,SV.iv,SV.bv,bZ,Uq,Us] at *)
 all_goals simp only[j8]
 all_goals trace_state
noncomputable def tz:UO cx:=ai 148 Tryz.call148 (aL fW fW) _ _ (λ_=>av) [] (λ_=>rfl) follows Tryz.func148 (by kernel_rfl) BS
theorem BL:∀a,aH ((λa=>[u64 a.1,0<=a.2∧a.2<4294967296]) a)->aM (C:=cx) [] [] 0 av Tryz.f202 ((aL (VK .u64) (VK .u64)).enc a) λv H _=>ae ((λa=>(n5 a.1 a.2).sv) a) H v:=by
 intro⟨n,m⟩ ⟨hn,hm⟩;obtain⟨hm0,hm⟩:0<=m∧m<4294967296:=hm;obtain⟨hn0,hn⟩:0<=n∧n<18446744073709551616:=hn;repeat' (first|refine Ai ?_ ?_|(intro _))
 all_goals (try (refine UK ?_ rfl))
 all_goals (try simp only[bh,aL,ib,fW,XW,Zq,VK,Sz.of,W.of,VL,Vx,SV.al,SV.iv,SV.bv,bZ,Uq,Us] at *)
 all_goals simp only[n5,wu,p32,SP]
 all_goals
  have ha:0<=n/4294967296∧n/4294967296<4294967296:=(by omega);have hb:0<=n%4294967296∧n%4294967296<4294967296:=(by omega);have hm':m%4294967296=m:=(by omega);have Zu:m/4294967296=0:=(by omega);have hP0:0<=n%4294967296*m:=Int.mul_nonneg hb.1 hm0;have hQ0:0<=n/4294967296*m:=Int.mul_nonneg ha.1 hm0;have hP1:n%4294967296*m<=4294967295*4294967295:=Int.mul_le_mul (by omega) (by omega) hm0 (by omega);have hQ1:n/4294967296*m<=4294967295*4294967295:=Int.mul_le_mul (by omega) (by omega) hm0 (by omega);have hs:n*m=n/4294967296*m*4294967296+n%4294967296*m:=by
   rw[Int.mul_right_comm,<-Int.add_mul]
   congr 1
   omega
  rw[hs];simp only[zV hn0 hn,zV hm0 (show m<18446744073709551616 by omega),hm',Zu,Int.mul_zero];generalize n%4294967296*m=P at *;generalize n/4294967296*m=Q at *;clear hs;rw[show P%18446744073709551616=P by omega,show Q%18446744073709551616=Q by omega,show (Q+P/4294967296)%18446744073709551616=Q+P/4294967296 by omega,zV (a:=Q+P/4294967296) (by omega) (by omega)]
 omega;rw[zV (a:=P) (by omega) (by omega),show ((Q+P/4294967296)%4294967296+0%18446744073709551616)%18446744073709551616*4294967296%18446744073709551616=(Q+P/4294967296)%4294967296*4294967296 by omega,TQ (by omega) (by omega) (by omega) (by omega)];omega
noncomputable def JH:UO cx:=ai 202 Tryz.call202 (aL (VK .u64) (VK .u64)) _ _ (λ_=>av) [] (λ_=>rfl) follows Tryz.func202 (by kernel_rfl) BL
end Go.Proofs.YtgigkennhdolpaaGreatDoor.Df
namespace Go.Proofs.YtgigkennhdolpaaGreatDoor.Df
open Go.RowKit
set_option maxRecDepth 8000
set_option maxHeartbeats 2000000
theorem orS{a b:Int}(ha:u64 a)(hb:0<=b)(We:b<2):eh .or .u64 (a*2%18446744073709551616) b=a%9223372036854775808*2+b:=by unfold u64 at ha;rw[show a*2%18446744073709551616=a%9223372036854775808*2 by omega,or1 (by omega) hb We (by omega)]
theorem TP{a:Int}(ha:u64 a):eh .or .u64 (a*2%18446744073709551616) 1=a%9223372036854775808*2+1:=orS ha (by omega) (by omega)
def Sz.val(s:Sz):Int:=s.hi*18446744073709551616+s.lo
def Ju(v:Int)(d:Int)(x:Nat×Sz×Sz×Int):Prop:=x.1<=128∧x.2.1.In∧x.2.2.1.In∧0<=x.2.2.2∧x.2.2.2<d∧v*2^x.1=(x.2.2.1.val*d+x.2.2.2)*340282366920938463463374607431768211456+x.2.1.val∧x.2.2.1.val*d+x.2.2.2<2^x.1
def Qu(v:Int)(d:Int):Cut:=⟨Nat×Sz×Sz×Int,Ju v d,λx=>⟨[sl 1 (.v (.int .u64 d)),sl 2 (.p 0 0),sl 4 (.p 1 0),sl 6 (.p 2 0),sl 7 (.v (.int .u64 x.2.2.2)),sl 9 (.v (.int .i64 x.1))],
 [(0,.lay x.2.1.cells 243),(1,.lay [.il .u64 0,.il .u64 0] 243),(2,.lay x.2.2.1.cells 243)],3,0,[],[]⟩,λx=>128-x.1⟩
theorem vf{v d:Int}{k:Nat}{s o:Sz}{r:Int}(hd:1<=d)(XJ:d<18446744073709551616)(hk:k<128)(h:Ju v d (k,s,o,r)){s' o':Sz}{r' c:Int}
  (YM:s'.hi=s.hi%9223372036854775808*2+s.lo/9223372036854775808) (VH:s'.lo=s.lo*2%18446744073709551616)
  (ho1:o'.hi=o.hi%9223372036854775808*2+o.lo/9223372036854775808) (ho2:o'.lo=o.lo%9223372036854775808*2+c)
  (hc:c=0∨c=1) (hr:r'=2*r+s.hi/9223372036854775808-c*d) (hr0:0<=r') (Z1:r'<d):Ju v d (k+1,s',o',r'):=by
 obtain⟨-,⟨⟨a1,a2⟩,a3,a4⟩,⟨⟨b1,b2⟩,b3,b4⟩,r0,r1,e,lt⟩:=h;simp only at a1 a2 a3 a4 b1 b2 b3 b4 r0 r1 e lt;have hp:(2:Int)^(k+1)=2*2^k:=by rw[Int.pow_succ,Int.mul_comm]
 have hO:o.val<=o.val*d:=by have:=Int.mul_le_mul_of_nonneg_left hd (show 0<=o.val by unfold Sz.val;omega);omega
 have X1:(2:Int)^k<=170141183460469231731687303715884105728:=by have h1:2^k<=2^127:=Nat.pow_le_pow_right (n:=2) (by omega) (by omega);have h2:=Int.ofNat_le.2 h1;rw[Int.natCast_pow] at h2;exact h2
 have ho:o'.val=2*o.val+c:=by unfold Sz.val at hO ⊢;rw[ho1,ho2];unfold Sz.val at lt;omega
 have hod:o'.val*d=2*(o.val*d)+c*d:=by rw[ho,Int.add_mul,Int.mul_assoc]
 have hs:s'.val=2*s.val-s.hi/9223372036854775808*340282366920938463463374607431768211456:=by unfold Sz.val;rw[YM,VH];omega
 refine⟨show k+1<=128 by omega,⟨⟨?_,?_⟩,?_,?_⟩,⟨⟨?_,?_⟩,?_,?_⟩,hr0,Z1,?_,?_⟩;show 0<=s'.hi;omega;show s'.hi<_;omega;show 0<=s'.lo;omega;show s'.lo<_;omega;show 0<=o'.hi;omega;show o'.hi<_;omega;show 0<=o'.lo;omega;show o'.lo<_;omega;show v*2^(k+1)=(o'.val*d+r')*340282366920938463463374607431768211456+s'.val;rw[hp,hs,hod,hr,Int.mul_left_comm,e];generalize o.val*d=X;generalize c*d=Y;omega;show o'.val*d+r'<2^(k+1);rw[hp,hod,hr];generalize o.val*d=X at *;generalize c*d=Y;omega
theorem MO{v d:Int}{s o:Sz}{r:Int}(hd:1<=d)(h:Ju v d (128,s,o,r)):v/d=o.val∧v%d=r:=by
 obtain⟨-,⟨⟨a1,a2⟩,a3,a4⟩,⟨⟨b1,b2⟩,b3,b4⟩,r0,r1,e,lt⟩:=h;simp only at a1 a2 a3 a4 b1 b2 b3 b4 r0 r1 e lt;have hv:v=r+o.val*d:=by have:v*340282366920938463463374607431768211456=(o.val*d+r)*340282366920938463463374607431768211456+s.val:=e;unfold Sz.val at this ⊢;generalize (o.hi*18446744073709551616+o.lo)*d=X at *;omega
 constructor;rw[hv,Int.add_mul_ediv_right _ _ (by omega),Int.ediv_eq_zero_of_lt r0 r1,Int.zero_add];rw[hv,Int.add_mul_emod_self_right,Int.emod_eq_of_lt r0 r1]
theorem KI:∀a,aH ((λa=>[u64 a.1.lo,0<=a.2.lo∧a.2.lo<4294967296]) a)->aM (C:=cx) [oC,JH] [] 0 av Tryz.f150 ((aL XW XW).enc a) λv H _=>ae ((λa=>(nW a.1 a.2).sv) a) H v:=by
 intro⟨x,y⟩ ⟨hn,hm⟩;repeat' (first|refine Ai ?_ ?_|(intro _))
 all_goals (try (refine UK ?_ rfl))
 all_goals (try simp only[bh,aL,ib,fW,XW,Zq,VK,Sz.of,W.of,VL,Vx,SV.al,SV.iv,SV.bv,bZ,Uq,Us] at *)
 all_goals first|rfl|exact hn.1|exact hn.2|exact hm.1|exact hm.2|trace_state
noncomputable def QG:UO cx:=ai 150 Tryz.call150 (aL XW XW) _ _ (λ_=>av) [] (λ_=>rfl) follows Tryz.func150 (by kernel_rfl) KI
theorem Ah:∀a,aH ((λa=>[a.1.In,1<=a.2∧a.2<18446744073709551616]) a)->aM (C:=cx) [] [] 0 ⟨[],[],[4],0⟩ Tryz.f201 ((aL fW (VK .u64)).enc a) λv H _=>ae ((λa=>.tup [(mS a.1 a.2).sv,.v (.int .u64 (Oc a.1 a.2))]) a) H v:=by
 intro⟨x,d⟩ ⟨hn,hm⟩;replace hn:x.In:=hn;obtain⟨hd,XJ⟩:1<=d∧d<18446744073709551616:=hm;refine Uh (Qu x.val d) ?_;refine Ai ?_ ?_
 ·refine⟨((0:Nat),x,⟨0,0⟩,(0:Int)),[],[],trivial,?_,?_⟩
  ·refine⟨Ui _,hn,⟨⟨Int.le_refl 0,by show (0:Int)<_;decide⟩,Int.le_refl 0,by show (0:Int)<_;decide⟩,Int.le_refl 0,by show 0<d;omega,?_,?_⟩;show x.val*1=((0*18446744073709551616+0)*d+0)*_+x.val;omega;show (0*18446744073709551616+0)*d+0<(1:Int)
   omega
  ·repeat' (first|refine Ai ?_ ?_|intro _|exact rfl)
 refine fun(y:Nat×Sz×Sz×Int) (hy:Ju x.val d y)=>?_;obtain⟨k,s,o,r⟩:=y;have hk128:=hy.1;simp only at hk128;refine Ai (λhb=>?_) (λhb=>?_)
 ·have hk:k<128:=(by simp only[Uq] at hb;omega);have hs:=hy.2.1;have ho:=hy.2.2.1;have hr0:=hy.2.2.2.1;have Z1:=hy.2.2.2.2.1;simp only at hs ho hr0 Z1;obtain⟨YM,VH⟩:=hs;obtain⟨ho1,ho2⟩:=ho;have hr:u64 r:=⟨hr0,by omega⟩
  have hb0:0<=s.hi/9223372036854775808∧s.hi/9223372036854775808<2:=(by unfold u64 at YM;omega);have VD:0<=s.lo/9223372036854775808∧s.lo/9223372036854775808<2:=(by unfold u64 at VH;omega);have Vi:0<=o.lo/9223372036854775808∧o.lo/9223372036854775808<2:=(by unfold u64 at ho2;omega);have q1:=orS hr hb0.1 hb0.2;have q2:=orS YM VD.1 VD.2;have q3:=orS ho1 Vi.1 Vi.2;have q4:=TP ho2;unfold u64 at hr YM VH ho1 ho2;refine Ai (λhc=>?_) (λhc=>?_)
  ·simp only[wu,p1,p63,MB,q1,Ul,Uq] at hc;refine Ai ?_ ?_;constructor<;>simp only<;>omega;refine Uh (k+1,⟨s.hi%9223372036854775808*2+s.lo/9223372036854775808,s.lo*2%18446744073709551616⟩,⟨o.hi%9223372036854775808*2+o.lo/9223372036854775808,o.lo%9223372036854775808*2+1⟩,2*r+s.hi/9223372036854775808-d) ?_;refine Uh [] ?_;refine Uh [] ?_;refine Ai ?_ (Ai ?_ ?_);show 128-(k+1)<128-k;omega;exact vf hd XJ hk hy rfl rfl rfl rfl (Or.inr rfl) (by omega) (by omega) (by omega);repeat' (first|refine Ai ?_ ?_|intro _|exact rfl)
   (all_goals (try (refine UK ?_ rfl)));all_goals simp only[wu,p1,p63,MB,q1,q2,q3,q4]
   all_goals omega
  simp only[wu,p1,p63,MB,q1,UA,Us] at hc;refine Ai ?_ ?_;constructor<;>simp only<;>omega;refine Uh (k+1,⟨s.hi%9223372036854775808*2+s.lo/9223372036854775808,s.lo*2%18446744073709551616⟩,⟨o.hi%9223372036854775808*2+o.lo/9223372036854775808,o.lo%9223372036854775808*2+0⟩,2*r+s.hi/9223372036854775808-0*d) ?_;refine Uh [] ?_;refine Uh [] ?_;refine Ai ?_ (Ai ?_ ?_);show 128-(k+1)<128-k;omega;exact vf hd XJ hk hy rfl rfl rfl rfl (Or.inl rfl) rfl (by omega) (by omega);repeat' (first|refine Ai ?_ ?_|intro _|exact rfl)
  (all_goals (try (refine UK ?_ rfl)));all_goals simp only[wu,p1,p63,MB,q1,q2,q3]
  all_goals omega
 obtain rfl:k=128:=by simp only[Us] at hb;omega
 obtain⟨e1,e2⟩:=MO hd hy;have ho:=hy.2.2.1;simp only[Sz.In,u64] at ho;unfold Sz.val at e1 e2;repeat' (first|refine Ai ?_ ?_|(intro _))
 all_goals (try (refine UK ?_ rfl))
 all_goals simp only[mS,Oc,e1,e2]
 all_goals omega
noncomputable def Fp:UO cx:=ai 201 Tryz.call201 (aL fW (VK .u64)) _ _ (λ_=>⟨[],[],[4],0⟩) [] (λ_=>rfl) follows Tryz.func201 (by kernel_rfl) Ah
end Go.Proofs.YtgigkennhdolpaaGreatDoor.Df
namespace Go.Proofs.YtgigkennhdolpaaGreatDoor.Df
open Go.RowKit
set_option maxRecDepth 8000
set_option maxHeartbeats 2000000
def W.ofL(x:List SV):W:=⟨(VL x).iv,(VL (Vx x)).iv,(VL (Vx (Vx x))).bv⟩
structure Ua where
 n:Nat
 g:Nat->W
def HF:Rd Ua:=⟨.rs 3 0 λ_=>[.v (.int .u64 0),.v (.int .u64 0),.v (.bool false)],λx=>⟨x.rn,λi=>W.ofL (x.rf i)⟩,λp=>.rs 3 p.n λi=>(p.g i).cells,λ_=>rfl⟩
def W.zero(a:W):Prop:=a.hi=0∧a.lo=0∧a.neg=false
def W.norm(a:W):Prop:=u64 a.hi∧u64 a.lo∧(a.neg=true->¬(a.hi=0∧a.lo=0))
def Eo(a:W):Int:=if a.neg then-a.lo else a.lo
def W.small(a:W):Prop:=a.hi=0∧0<=a.lo∧a.lo<9223372036854775808
def K3(x y:W):W:=if j8 ⟨x.hi,x.lo⟩ ⟨y.hi,y.lo⟩ then⟨y.hi,y.lo,false⟩ else⟨x.hi,x.lo,false⟩
def RB(g:Nat->W):Nat->W
 | 0=>⟨0,0,false⟩
 | 1=>⟨0,0,false⟩
 | _+2=>g 1
def O7(g:Nat->W):Cut:=⟨Nat,λk=>k<=2,λk=>⟨[sl 2 (.p 0 0),sl 3 (.p 1 0),sl 7 (.rs 3 2 λi=>(g i).cells),sl 8 (.v (.int .i64 2)),sl 9 (.v (.int .i64 k))],
 [(0,.lay [.il .u64 0,.il .u64 0,.bl false] 245),(1,.lay (RB g k).cells 245)],2,0,[],[]⟩,λk=>2-k⟩
theorem BK:∀a,aH ((λa=>[a.1.In,1<=a.2.lo∧a.2.lo<18446744073709551616]) a)->aM (C:=cx) [oC,Fp] [] 0 av Tryz.f149 ((aL XW XW).enc a) λv H _=>ae ((λa=>(G1 a.1 a.2).sv) a) H v:=by
 intro⟨x,y⟩ ⟨hn,hm⟩;repeat' (first|refine Ai ?_ ?_|(intro _))
 all_goals (try (refine UK ?_ rfl))
 all_goals (try simp only[bh,aL,ib,fW,XW,Zq,VK,Sz.of,W.of,VL,Vx,SV.al,SV.iv,SV.bv,bZ,Uq,Us] at *)
 all_goals first|rfl|exact hn.1.1|exact hn.1.2|exact hn.2.1|exact hn.2.2|exact hm.1|exact hm.2|trace_state
noncomputable def JG:UO cx:=ai 149 Tryz.call149 (aL XW XW) _ _ (λ_=>av) [] (λ_=>rfl) follows Tryz.func149 (by kernel_rfl) BK
theorem F0:∀a,aH ((λa=>[a.1.hi=0∧a.1.lo=0,a.2.In]) a)->aM (C:=cx) [] [] 0 av Tryz.f203 ((aL fW fW).enc a) λv H _=>ae ((λa=>a.2.sv) a) H v:=by
 intro⟨s,t⟩ ⟨⟨h1,h2⟩,hm⟩;replace h1:s.hi=0:=h1;replace h2:s.lo=0:=h2;obtain⟨⟨a1,a2⟩,a3,a4⟩:t.In:=hm;repeat' (first|refine Ai ?_ ?_|(intro _))
 all_goals (try (refine UK ?_ rfl))
 all_goals (try simp only[bh,aL,ib,fW,XW,Zq,VK,Sz.of,W.of,VL,Vx,SV.al,SV.iv,SV.bv,bZ,Uq,Us] at *)
 all_goals (try simp only[wu] at *)
 all_goals first|omega|trace_state
noncomputable def MY:UO cx:=ai 203 Tryz.call203 (aL fW fW) _ _ (λ_=>av) [] (λ_=>rfl) follows Tryz.func203 (by kernel_rfl) F0
theorem BV:∀a,aH ((λa=>[a.2.hi=0∧a.2.lo=0,a.1.In]) a)->aM (C:=cx) [] [] 0 av Tryz.f204 ((aL fW fW).enc a) λv H _=>ae ((λa=>a.1.sv) a) H v:=by
 intro⟨t,s⟩ ⟨⟨h1,h2⟩,hm⟩;replace h1:s.hi=0:=h1;replace h2:s.lo=0:=h2;obtain⟨⟨a1,a2⟩,a3,a4⟩:t.In:=hm;repeat' (first|refine Ai ?_ ?_|(intro _))
 all_goals (try (refine UK ?_ rfl))
 all_goals (try simp only[bh,aL,ib,fW,XW,Zq,VK,Sz.of,W.of,VL,Vx,SV.al,SV.iv,SV.bv,bZ,Uq,Us] at *)
 all_goals (try simp only[wu] at *)
 all_goals first|omega|trace_state
noncomputable def JP:UO cx:=ai 204 Tryz.call204 (aL fW fW) _ _ (λ_=>av) [] (λ_=>rfl) follows Tryz.func204 (by kernel_rfl) BV
theorem KB:∀a,aH ((λa=>[a.small]) a)->aM (C:=cx) [] [] 0 av Tryz.f152 ((bh XW).enc a) λv H _=>ae ((λa=>.v (.int .i64 (Eo a))) a) H v:=by
 intro x hx;obtain⟨h1,h2,h3⟩:x.small:=hx;repeat' (first|refine Ai ?_ ?_|(intro _))
 all_goals (try (refine UK ?_ rfl))
 all_goals (try simp only[bh,aL,ib,fW,XW,Zq,VK,Sz.of,W.of,VL,Vx,SV.al,SV.iv,SV.bv,bZ,Uq,Us] at *)
 all_goals (try simp only[Eo,wu,wi])
 all_goals first|omega|grind|trace_state
noncomputable def QB:UO cx:=ai 152 Tryz.call152 (bh XW) _ _ (λ_=>av) [] (λ_=>rfl) follows Tryz.func152 (by kernel_rfl) KB
theorem Kz:∀a,aH ((λa=>[a.n=2,(a.g 0).zero,(a.g 1).norm]) a)->aM (C:=cx) [oC,MY,JP,tz] [] 0 ⟨[],[],[3],0⟩ Tryz.f151 ((bh HF).enc a) λv H _=>ae ((λa=>(a.g 1).sv) a) H v:=by
 intro⟨n,g⟩ ⟨hn,hx,hy⟩;replace hn:n=2:=hn;subst hn;obtain⟨x1,x2,x3⟩:(g 0).zero:=hx;obtain⟨⟨a1,a2⟩,⟨a3,a4⟩,a5⟩:(g 1).norm:=hy;refine Uh (O7 g) ?_;refine Ai ?_ ?_
 ·refine⟨(0:Nat),[],[],trivial,Ui _,?_⟩;repeat' (first|refine Ai ?_ ?_|intro _|exact rfl)
 refine fun(k:Nat) (hk:k<=2)=>?_;refine Ai (λhb=>?_) (λhb=>?_)
 ·have hb:(k:Int)<2:=Od hb;have hk01:k=0∨k=1:=(by omega);clear hk;repeat' (first|refine Ai ?_ ?_|(intro _))
  (all_goals try (refine Uh (k+1:Nat) ?_;refine Uh [] ?_;refine Uh [] ?_;refine Ai ?_ ?_;(show 2-(k+1)<2-k;omega);refine Ai ?_ ?_;(show k+1<=2;omega);repeat' (first|refine Ai ?_ ?_|intro _|exact rfl)));all_goals (try (refine UK ?_ rfl))
  (all_goals (try simp only[bh,aL,ib,fW,XW,Zq,VK,eI,Vec.of,HF,W.ofL,SV.rf,Sz.of,W.of,VL,Vx,SV.al,SV.iv,SV.bv,bZ,Uq,Us] at *));all_goals (try (obtain rfl|rfl:=hk01))
  all_goals first|omega|(simp only[RB,kW,j8,show ((1:Nat):Int).toNat=1 from rfl,show ((0:Nat):Int).toNat=0 from rfl] at *<;>first|omega|grind)|trace_state
 obtain rfl:k=2:=by simp only[Us] at hb;omega
 repeat' (first|refine Ai ?_ ?_|intro _|exact rfl)
noncomputable def Qz:UO cx:=ai 151 Tryz.call151 (bh HF) _ _ (λ_=>⟨[],[],[3],0⟩) [] (λ_=>rfl) follows Tryz.func151 (by kernel_rfl) Kz
theorem Ku:∀a,aH ((λa=>[Vd a.1.x∧Vd a.1.y,Vd a.2.x∧Vd a.2.y]) a)->aM (C:=cx) [Ni,tz] [] 0 ⟨[5],[],[],0⟩ Tryz.f146 ((aL eI eI).enc a) λv H _=>ae ((λa=>.tup [(c7 a.2.x a.1.x).sv,(c7 a.2.y a.1.y).sv,(K3 (c7 a.2.x a.1.x) (c7 a.2.y a.1.y)).sv]) a) H v:=by
 intro⟨x,y⟩ ⟨hx,hy⟩;obtain⟨x1,x2⟩:Vd x.x∧Vd x.y:=hx;obtain⟨y1,y2⟩:Vd y.x∧Vd y.y:=hy;repeat' (first|refine Ai ?_ ?_|(intro _))
 all_goals (try (refine UK ?_ rfl))
 all_goals (try simp only[bh,aL,ib,fW,XW,Zq,VK,eI,Vec.of,HF,W.ofL,SV.rf,Sz.of,W.of,VL,Vx,SV.al,SV.iv,SV.bv,bZ,Uq,Us] at *)
 all_goals first|assumption|rfl|exact x1.1|exact x1.2|exact x2.1|exact x2.2|exact y1.1|exact y1.2|exact y2.1|exact y2.2|(simp only[K3];rw[‹j8 _ _=_›];rfl)|trace_state
noncomputable def Qy:UO cx:=ai 146 Tryz.call146 (aL eI eI) _ _ (λ_=>⟨[5],[],[],0⟩) [5] (λ_=>rfl) follows Tryz.func146 (by kernel_rfl) Ku
end Go.Proofs.YtgigkennhdolpaaGreatDoor.Df
namespace Go.Proofs.YtgigkennhdolpaaGreatDoor.Df
open Go.RowKit
theorem lt2{i:Nat}(h:i<2):i=0∨i=1:=by omega
theorem QQ{a b c:SV}{r:List SV} : chunk (a::b::c::r) 3 0=[a,b,c]:=rfl
theorem QP{a b c d x f:SV}{r:List SV} : chunk (a::b::c::d::x::f::r) 3 1=[d,x,f]:=rfl
theorem SU{l:List SV} : List.drop 0 l=l:=rfl
theorem W.eta(a:W):(⟨a.hi,a.lo,a.neg⟩:W)=a:=rfl
theorem Sz.eta(a:Sz):(⟨a.hi,a.lo⟩:Sz)=a:=rfl
theorem Vec.eta(a:Vec):(⟨a.x,a.y⟩:Vec)=a:=rfl
def fO(v:Vec):W:=K3 (c7 v.x 0) (c7 v.y 0)
def pc(n m:Int)(f:W):W:=G1 (nW (c7 n 0) (XE m)) f
def lim(v:Vec)(m:Int):Vec:=if v.x=0∧v.y=0 then⟨0,0⟩ else if j8 ⟨(XE m).hi,(XE m).lo⟩ ⟨(fO v).hi,(fO v).lo⟩ then⟨Eo (pc v.x m (fO v)),Eo (pc v.y m (fO v))⟩ else v
theorem y7{v:Vec}(hx:Vd v.x)(hy:Vd v.y):(fO v).hi=0∧(fO v).lo<18446744073709551616∧v.x.natAbs<=(fO v).lo∧v.y.natAbs<=(fO v).lo∧(fO v).neg=false:=by unfold Vd at hx hy;simp only[fO,K3,c7,j8];split<;>rename_i h<;>simp at h ⊢<;>omega
theorem CY{n m:Int}{f:W}(hn:Vd n)(hm:1<=m∧m<=65536)(h0:1<=f.lo)(hf:(n.natAbs:Int)<=f.lo):(pc n m f).hi=0∧0<=(pc n m f).lo∧(pc n m f).lo<=m∧((pc n m f).neg=true->¬((pc n m f).hi=0∧(pc n m f).lo=0)):=by
 unfold Vd at hn;have e:(nW (c7 n 0) (XE m)).hi*18446744073709551616+(nW (c7 n 0) (XE m)).lo=n.natAbs*m:=by simp only[nW,kW,n5,c7,XE];rw[show ((n-0).natAbs:Int)=n.natAbs by omega,show ((m.natAbs:Nat):Int)=m by omega];omega
 have hq:(n.natAbs:Int)*m/f.lo<=m:=by refine Int.ediv_le_of_le_mul (by omega) ?_;rw[Int.mul_comm];exact Int.mul_le_mul_of_nonneg_left hf (by omega)
 have hq0:0<=(n.natAbs:Int)*m/f.lo:=Int.ediv_nonneg (Int.mul_nonneg (by omega) (by omega)) (by omega);have e1:(pc n m f).hi=(n.natAbs:Int)*m/f.lo/18446744073709551616:=by show (mS ⟨_,_⟩ f.lo).hi=_;simp only[mS,e]
 have e2:(pc n m f).lo=(n.natAbs:Int)*m/f.lo%18446744073709551616:=by show (mS ⟨_,_⟩ f.lo).lo=_;simp only[mS,e]
 refine⟨by omega,by omega,by omega,λh=>?_⟩;have:(kW (mS ⟨(nW (c7 n 0) (XE m)).hi,(nW (c7 n 0) (XE m)).lo⟩ f.lo) ((nW (c7 n 0) (XE m)).neg != f.neg)).neg=true:=h;simp only[kW,Uk,Bool.not_eq_true',Bool.and_eq_false_iff,Us] at this;intro hc;have h1:(mS ⟨(nW (c7 n 0) (XE m)).hi,(nW (c7 n 0) (XE m)).lo⟩ f.lo).hi=0:=hc.1;have h2:(mS ⟨(nW (c7 n 0) (XE m)).hi,(nW (c7 n 0) (XE m)).lo⟩ f.lo).lo=0:=hc.2;omega
theorem Cb{a b:W}(ha:0<=a.lo∧a.lo<18446744073709551616)(hb:0<=b.lo∧b.lo<4294967296):(nW a b).In:=by have h0:0<=a.lo*b.lo:=Int.mul_nonneg ha.1 hb.1;have h1:a.lo*b.lo<=18446744073709551615*4294967295:=Int.mul_le_mul (by omega) (by omega) hb.1 (by omega);simp only[W.In,u64,nW,kW,n5];omega
theorem IA{v:Vec}{m:Int}(f1:(fO v).hi=0)(hm:1<=m∧m<=65536):j8 ⟨(XE m).hi,(XE m).lo⟩ ⟨(fO v).hi,(fO v).lo⟩=decide (m<(fO v).lo):=by
 have h:((m.natAbs:Nat):Int)=m:=by omega
 simp[j8,XE,f1,h]
set_option maxHeartbeats 2000000 in
set_option maxRecDepth 8000 in
theorem z8:∀a,aH ((λa=>[a.1.x=0∧a.1.y=0,Vd a.2.1.x∧Vd a.2.1.y,1<=a.2.2∧a.2.2<=65536]) a)->aM (C:=cx) [SY,QG,JG,Qz,QB,Qy,tz] [] 0 av Tryz.f95 ((ib eI eI (VK .i64)).enc a) λv H _=>ae ((λa=>(lim a.2.1 a.2.2).sv) a) H v:=by
 intro⟨a,v,m⟩ ⟨h0,hv,hm⟩;obtain⟨ax,ay⟩:a.x=0∧a.y=0:=h0;obtain⟨vx,vy⟩:Vd v.x∧Vd v.y:=hv;replace hm:1<=m∧m<=65536:=hm;obtain⟨a1,a2⟩:=a;obtain rfl:a1=0:=ax;obtain rfl:a2=0:=ay;have hs:=IA (v:=v) (m:=m) (y7 vx vy).1 hm;have F:=y7 vx vy;have l1:=CY (f:=fO v) (n:=v.x) (m:=m) vx hm;have l2:=CY (f:=fO v) (n:=v.y) (m:=m) vy hm;have i0:0<=(XE m).lo∧(XE m).lo<4294967296:=by simp only[XE];omega
 have i1:=Cb (a:=c7 v.x 0) (b:=XE m) (by unfold Vd at vx;simp only[c7];omega) i0;have i2:=Cb (a:=c7 v.y 0) (b:=XE m) (by unfold Vd at vy;simp only[c7];omega) i0;have i3:0<=(c7 v.x 0).lo∧(c7 v.x 0).lo<18446744073709551616:=by unfold Vd at vx;simp only[c7];omega
 have i4:0<=(c7 v.y 0).lo∧(c7 v.y 0).lo<18446744073709551616:=by unfold Vd at vy;simp only[c7];omega
 have z0:(XE 0).hi=0∧(XE 0).lo=0∧(XE 0).neg=false:=⟨rfl,rfl,rfl⟩
 have L:lim v m=if v.x=0∧v.y=0 then⟨0,0⟩ else if m<(fO v).lo then⟨Eo (pc v.x m (fO v)),Eo (pc v.y m (fO v))⟩ else v:=by unfold lim;rw[hs];simp only[Uq]
 simp only[W.In,u64] at i1 i2;unfold Vd at vx vy;simp only[pc,fO] at F l1 l2 L hs;repeat' (first|refine Ai ?_ ?_|(intro _))
 all_goals try (rename_i i hi;obtain rfl|rfl:=lt2 hi<;>repeat' (first|exact trivial|refine Ai ?_ ?_))
 all_goals (try (refine UK ?_ rfl))
 all_goals (try simp only[bh,aL,ib,fW,XW,Zq,VK,eI,Vec.of,HF,W.ofL,SV.rf,SV.rn,QQ,QP,SU,W.eta,Sz.eta,Vec.eta,Sz.of,W.of,VL,Vx,SV.al,SV.iv,SV.bv,bZ,Uq,Us] at *)
 all_goals (try simp only[hs,Uq,Us] at *)
 all_goals first|omega|(rw[L];grind)|grind|trace_state
noncomputable def Fj:UO cx:=ai 95 Tryz.call95 (ib eI eI (VK .i64)) _ _ (λ_=>av) [] (λ_=>rfl) follows Tryz.func95 (by kernel_rfl) z8
end Go.Proofs.YtgigkennhdolpaaGreatDoor.Df
namespace Go.Proofs.YtgigkennhdolpaaGreatDoor.Df
open Go.RowKit
def uq:List SV:=[.il .i64 0,.il .i64 0,.v (.slice none 0 0),.il .i64 0,.il .i64 0,.il .i64 0,.il .i64 0,.il .i64 0,.il .i64 0,.il .i64 0,.il .i64 0,.il .i64 0]
end Go.Proofs.YtgigkennhdolpaaGreatDoor.Df
namespace Go.Proofs.YtgigkennhdolpaaGreatDoor.Df
open Go.RowKit
set_option maxHeartbeats 2000000 in
set_option maxRecDepth 8000 in
theorem BW:∀a,aH ((λa=>[Vd a.1.x∧Vd a.1.y,1<=a.2∧a.2<=65536]) a)->aM (C:=cx) [Fj] [] 0 av Tryz.f58 ((aL eI (VK .i64)).enc a) λv H _=>ae ((λa=>(lim a.1 a.2).sv) a) H v:=by
 intro⟨v,m⟩ ⟨⟨vx,vy⟩,hm⟩;replace vx:Vd v.x:=vx;replace vy:Vd v.y:=vy;replace hm:1<=m∧m<=65536:=hm;repeat' (first|refine Ai ?_ ?_|(intro _))
 all_goals (try (refine UK ?_ rfl))
 all_goals first|rfl|exact vx.1|exact vx.2|exact vy.1|exact vy.2|exact hm.1|exact hm.2|trace_state
noncomputable def JQ:UO cx:=ai 58 Tryz.call58 (aL eI (VK .i64)) _ _ (λ_=>av) [] (λ_=>rfl) follows Tryz.func58 (by kernel_rfl) BW
end Go.Proofs.YtgigkennhdolpaaGreatDoor.Df
namespace Go.Proofs.YtgigkennhdolpaaGreatDoor
open Go.RowKit
end Go.Proofs.YtgigkennhdolpaaGreatDoor
