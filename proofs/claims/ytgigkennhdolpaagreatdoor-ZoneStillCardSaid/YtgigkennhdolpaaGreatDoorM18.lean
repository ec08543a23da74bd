/- store: find, Get, Entity.. -/
import Derived.Test.YtgigkennhdolpaaGreatDoorM17
import Derived.Test.YtgigkennhdolpaaGreatDoorM15
namespace Go.Proofs.YtgigkennhdolpaaGreatDoor
open Go.RowKit
theorem WV.pL{l:WV}(h:l.inc=true):Yr (λi=>(l.c i).kind) l.n:=Go.Proofs.YtgigkennhdolpaaGreatDoor.pL (by simpa[WV.inc] using h)
theorem V3.pL{l:V3}(h:l.inc=true):Yr (λi=>(l.e i).iD) l.n:=Go.Proofs.YtgigkennhdolpaaGreatDoor.pL (by simpa[V3.inc] using h)
structure UZ.vC (e:UZ):Prop where
 lo:1<=e.iD
 hi:e.iD<=65536
 inc:Yr (λi=>(e.l.c i).kind) e.l.n
 fits:∀i,i<e.l.n->(e.l.c i).Fits
theorem UZ.uM{e:UZ} : e.right=true↔e.vC:=by constructor;intro h;simp only[UZ.right,Ur,Ux,Bool.not_eq_true'] at h;obtain⟨⟨⟨h1,h2⟩,h3⟩,h4⟩:=h;exact⟨h1,h2,WV.pL h3,λi hi=>by have:=iR h4 i (Up _) (by omega);simpa[aR.fits] using this⟩;intro h;simp only[UZ.right,Ur,Ux,Bool.not_eq_true'];exact⟨⟨⟨h.lo,h.hi⟩,by simp[WV.inc,rQ h.inc]⟩,oU λi _ hi=>by simp[fq (h.fits i (by omega))]⟩
structure U9.Valid (w:U9):Prop where
 lo:0<=w.tick
 hi:w.tick<=1073741824
 len:(w.l.n:Int)<=64
 inc:Yr (λi=>(w.l.e i).iD) w.l.n
 right:∀i,i<w.l.n->(w.l.e i).vC
theorem U9.gq{w:U9} : w.valid=true↔w.Valid:=by constructor;intro h;simp only[U9.valid,Ur,Ux,Bool.not_eq_true'] at h;obtain⟨⟨⟨⟨h1,h2⟩,h3⟩,h4⟩,h5⟩:=h;exact⟨h1,h2,h3,V3.pL h4,λi hi=>by have:=iR h5 i (Up _) (by omega);exact UZ.uM.1 (by simpa using this)⟩;intro h;simp only[U9.valid,Ur,Ux,Bool.not_eq_true'];exact⟨⟨⟨⟨h.lo,h.hi⟩,h.len⟩,by simp[V3.inc,rQ h.inc]⟩,oU λi _ hi=>by simp[UZ.uM.2 (h.right i (by omega))]⟩
theorem Ql{key:Nat->Int}{n:Nat}{b:Int}(h:Yr key n)(hb:∀i,i<n->b<=key i):∀i,i<n->b+i<=key i:=λi=>by
 induction i with
 | zero=>intro hi;have:=hb 0 hi;simpa using this
 | succ i ih=>
  intro hi;have h1:=ih (by omega);have h2:=h i (i+1) (by omega) hi;omega
theorem M5{key:Nat->Int}{n:Nat}{b c:Int}(h:Yr key n)(hb:∀i,i<n->b<=key i∧key i<=c)(hbc:b<=c+1):(n:Int)<=c+1-b:=by by_cases hn:n=0;subst hn;omega;have h1:=Ql h (λi hi=>(hb i hi).1) (n-1) (by omega);have h2:=(hb (n-1) (by omega)).2;omega
theorem UZ.vC.len{e:UZ}(h:e.vC):(e.l.n:Int)<=10:=by have:=M5 (b:=1) (c:=10) h.inc (λi hi=>⟨(h.fits i hi).1,(h.fits i hi).2.1⟩) (by omega);omega
def aR.no:aR:=⟨0,0,0,0,0⟩
def VI(g:Nat->Bool):Nat->Nat->Nat
 | k,0=>k
 | k,r+1=>match g k with|true=>k|false=>VI g (k+1) r
theorem ji{g:Nat->Bool}{k n:Nat}(h:k<n):VI g k (n-k)=match g k with|true=>k|false=>VI g (k+1) (n-(k+1)):=by rw[show n-k=(n-(k+1))+1 by omega];rfl
theorem BE{g:Nat->Bool} : ∀{r k:Nat},k<=VI g k r∧VI g k r<=k+r
 | 0,k=>⟨I' _,I' _⟩
 | r+1,k=>by simp only[VI];split;omega;have:=BE (g:=g) (r:=r) (k:=k+1);omega
theorem ry{g:Nat->Bool} : ∀{r k:Nat},VI g k r<k+r->g (VI g k r)=true
 | 0,k,h=>by simp[VI] at h
 | r+1,k,h=>by simp only[VI] at h ⊢;split at h;rename_i hg;exact hg;exact ry (by omega)
theorem BD{g:Nat->Bool} : ∀{r k i:Nat},k<=i->i<VI g k r->g i=false
 | 0,k,i,h1,h2=>by simp[VI] at h2;omega
 | r+1,k,i,h1,h2=>by simp only[VI] at h2;split at h2;omega;rename_i hg;rcases UK h1 with rfl|h1;exact hg;exact BD h1 h2
def VO(g:Nat->Bool)(n:Nat):Int:=match decide (VI g 0 n<n) with|true=>(VI g 0 n:Int)|false=>-1
theorem fZ{g:Nat->Bool}{n k:Nat}(h:VI g 0 n=k)(hk:k<n):VO g n=k:=by unfold VO;rw[h,UB hk]
theorem fR{g:Nat->Bool}{n:Nat}(h:VI g 0 n=n):VO g n = -1:=by unfold VO;rw[h,UA (Nat.lt_irrefl n)]
def rkI:SV->Int
 | .rp (y::_) _=>y.iv
 | _=>0
def kxI:SV->Int
 | .f _ _ (y::_)=>rkI y
 | _=>0
def bz(l:WV)(q:Int):aR×Bool:=match decide (VI (λi=>decide ((l.c i).kind=q)) 0 l.n<l.n) with
 | true=>(l.c (VI (λi=>decide ((l.c i).kind=q)) 0 l.n),true)
 | false=>(aR.no,false)
set_option maxHeartbeats 2000000 in
set_option maxRecDepth 8000 in
theorem CH:∀a,aA ((λa=>[a.n<=1000]) a)->aH (C:=cx) [] [] 0 ai Tryz.f92 ((bs jx).enc a) λv H _=>af ((λa=>a.sv) a) H v:=by
 intro l hm;replace hm:l.n<=1000:=hm;intro b hb;refine Ai (λh=>?_) (λh=>?_);have h:(b != false)=true:=h;exact hb (by simpa using h);have hf:gQ l.n 40:=⟨Nat.le_trans hm (by decide),by omega⟩
 refine Ai hf ?_;repeat' (first|refine Ai ?_ ?_|intro _|exact rfl)
 all_goals (show (_:Int)=_;rw[B'])
noncomputable def KI:UW cx:=ae 92 Tryz.call92 (bs jx) _ _ (λ_=>ai) [] (λ_=>rfl) follows Tryz.func92 (by kernel_rfl) CH
def UZ.no:UZ:=⟨0,⟨0,λ_=>aR.no⟩⟩
def cW{α:Type}(f:Nat->α)(g:Nat->Bool):Nat->List α
 | 0=>[]
 | k+1=>match g k with|true=>cW f g k++[f k]|false=>cW f g k
section
variable {α:Type}{f:Nat->α}{g:Nat->Bool}
theorem gC:∀k,(cW f g k).length<=k
 | 0=>I' _
 | k+1=>by have:=gC k;simp only[cW];split;simp;omega;omega
theorem fJ{k:Nat}(h:g k=true):cW f g (k+1)=cW f g k++[f k]:=by simp only[cW,h]
theorem iq{k:Nat}(h:g k=false):cW f g (k+1)=cW f g k:=by simp only[cW,h]
theorem mH{x:α} : ∀k,x∈cW f g k↔∃i:Nat,i<k∧x=f i∧g i=true
 | 0=>by simp[cW]
 | k+1=>by have ih:=mH (x:=x) k;simp only[cW];split;rename_i h;rw[UJ,ih,List.mem_singleton];constructor;rintro(⟨i,h1,h2,h3⟩|rfl);exact⟨i,by omega,h2,h3⟩;exact⟨k,by omega,rfl,h⟩;rintro⟨i,h1,h2,h3⟩;by_cases e:i=k;subst e;exact .inr h2;exact .inl ⟨i,by omega,h2,h3⟩;rename_i h;rw[ih];constructor;rintro⟨i,h1,h2,h3⟩;exact⟨i,by omega,h2,h3⟩;rintro⟨i,h1,h2,h3⟩;refine⟨i,?_,h2,h3⟩;have:i≠k:=λe=>(by subst e;rw[h] at h3;cases h3);omega
theorem O3{d x:α}(l:List α)(i:Nat)(hi:i<l.length+1):(l++[x]).getD i d=bif Nat.ble l.length i then x else l.getD i d:=by simp only[List.getD_eq_getElem?_getD];rcases Nat.lt_or_ge i l.length with h1|h1;rw[M' h1,show Nat.ble l.length i=false by cases hb:Nat.ble l.length i with|false=>rfl|true=>exact Uw (L' hb) (by omega)];rfl;rw[O' h1,show i-l.length=0 by omega,show Nat.ble l.length i=true from Nat.ble_eq_true_of_le h1];rfl
end
theorem bp{α β:Type}(f:α->β){b:Bool}{x y:α} : f (bif b then x else y)=bif b then f x else f y:=by cases b<;>rfl
end Go.Proofs.YtgigkennhdolpaaGreatDoor
namespace Go.Proofs.YtgigkennhdolpaaGreatDoor.Df
open Go.RowKit
theorem follows:cx.P.follows .mixedOrders=true:=by kernel_rfl
def sl(t:Nat)(v:SV):Nat×Slot:=(t,⟨0,0,[],v⟩)
def Kq:UW cx:=ae (Γ:=[]) (Fs:=[]) (d:=0) 198 Tryz.call198 (bs (Vm .i64)) (λ_=>[]) (λn=>.v (.bool false)) (λ_=>ai) [] (λ_=>rfl) follows Tryz.func198 (by kernel_rfl)
 λn _=>by show (_:Bool)=_;simp
end Go.Proofs.YtgigkennhdolpaaGreatDoor.Df
namespace Go.Proofs.YtgigkennhdolpaaGreatDoor.Df
open Go.RowKit
structure Vec where
 x:Int
 y:Int
def Vec.cells(b:Vec):List SV:=[.v (.int .i64 b.x),.v (.int .i64 b.y)]
def Vec.sv(b:Vec):SV:=.agg b.cells
def Vec.of(x:SV):Vec:=⟨(VP (x.al)).iv,(VP (Vw (x.al))).iv⟩
def dS:Rd Vec:=⟨.agg [.v (.int .i64 0),.v (.int .i64 0)],Vec.of,Vec.sv,λ_=>rfl⟩
end Go.Proofs.YtgigkennhdolpaaGreatDoor.Df
namespace Go.Proofs.YtgigkennhdolpaaGreatDoor.Df
open Go.RowKit
set_option maxRecDepth 8000
set_option maxHeartbeats 2000000
structure Sz where
 hi:Int
 lo:Int
def Sz.cells(b:Sz):List SV:=[.v (.int .u64 b.hi),.v (.int .u64 b.lo)]
def Sz.sv(b:Sz):SV:=.agg b.cells
def Sz.of(x:SV):Sz:=⟨(VP (x.al)).iv,(VP (Vw (x.al))).iv⟩
def gL:Rd Sz:=⟨.agg [.v (.int .u64 0),.v (.int .u64 0)],Sz.of,Sz.sv,λ_=>rfl⟩
structure W where
 hi:Int
 lo:Int
 neg:Bool
def W.cells(b:W):List SV:=[.v (.int .u64 b.hi),.v (.int .u64 b.lo),.v (.bool b.neg)]
def W.sv(b:W):SV:=.agg b.cells
def W.of(x:SV):W:=⟨(VP (x.al)).iv,(VP (Vw (x.al))).iv,(VP (Vw (Vw (x.al)))).bv⟩
def X4:Rd W:=⟨.agg [.v (.int .u64 0),.v (.int .u64 0),.v (.bool false)],W.of,W.sv,λ_=>rfl⟩
theorem wu(n:Int):IntKind.u64.wrap n=n%18446744073709551616:=rfl
theorem wi(n:Int):IntKind.i64.wrap n=if 9223372036854775808<=n%18446744073709551616 then n%18446744073709551616-18446744073709551616 else n%18446744073709551616:=by unfold IntKind.wrap;show (if (true&&decide (n%18446744073709551616>=9223372036854775808))=true then _ else _)=_;simp only[Bool.true_and,Ux,ge_iff_le];rfl
theorem p32:(2:Int)^min (Int.toNat 32) IntKind.u64.bits=4294967296:=rfl
theorem p63:(2:Int)^min (Int.toNat 63) IntKind.u64.bits=9223372036854775808:=rfl
theorem p1:(2:Int)^min (Int.toNat 1) IntKind.u64.bits=2:=rfl
theorem SZ(a:Int):a.fdiv 4294967296=a/4294967296:=Int.fdiv_eq_ediv_of_nonneg a (by omega)
theorem Np(a:Int):a.fdiv 9223372036854775808=a/9223372036854775808:=Int.fdiv_eq_ediv_of_nonneg a (by omega)
theorem Ey{i A B:Nat}(hb:B<2^i)(h:A*2^i+B<18446744073709551616):iJ .or .u64 ((A*2^i:Nat):Int) (B:Int)=((A*2^i+B:Nat):Int):=by
 unfold iJ;have e1:(BitVec.ofInt 64 ((A*2^i:Nat):Int)).toNat=A*2^i:=by rw[BitVec.ofInt_natCast,BitVec.toNat_ofNat,Nat.mod_eq_of_lt (by omega)]
 have e2:(BitVec.ofInt 64 ((B:Nat):Int)).toNat=B:=by rw[BitVec.ofInt_natCast,BitVec.toNat_ofNat,Nat.mod_eq_of_lt (by omega)]
 have e3:(BitVec.ofInt 64 ((A*2^i:Nat):Int) ||| BitVec.ofInt 64 ((B:Nat):Int)).toNat=A*2^i+B:=by rw[BitVec.toNat_or,e1,e2,<-Nat.shiftLeft_eq,Nat.shiftLeft_add_eq_or_of_lt hb]
 show IntKind.u64.wrap ((BitVec.ofInt 64 ((A*2^i:Nat):Int) ||| BitVec.ofInt 64 ((B:Nat):Int)).toNat:Int)=_;rw[e3,wu];omega
theorem tO{A i:Nat}(h:A<18446744073709551616)(hi:i<64):iJ .and .u64 (A:Int) ((2^i-1:Nat):Int)=((A%2^i:Nat):Int):=by
 have hp:2^i-1<18446744073709551616:=by have:2^i<2^64:=Nat.pow_lt_pow_right (by omega) hi;omega
 unfold iJ;have e1:(BitVec.ofInt 64 (A:Int)).toNat=A:=by rw[BitVec.ofInt_natCast,BitVec.toNat_ofNat,Nat.mod_eq_of_lt (by omega)]
 have e2:(BitVec.ofInt 64 ((2^i-1:Nat):Int)).toNat=2^i-1:=by rw[BitVec.ofInt_natCast,BitVec.toNat_ofNat,Nat.mod_eq_of_lt (by omega)]
 have e3:(BitVec.ofInt 64 (A:Int) &&& BitVec.ofInt 64 ((2^i-1:Nat):Int)).toNat=A%2^i:=by rw[BitVec.toNat_and,e1,e2,Nat.and_two_pow_sub_one_eq_mod]
 show IntKind.u64.wrap ((BitVec.ofInt 64 (A:Int) &&& BitVec.ofInt 64 ((2^i-1:Nat):Int)).toNat:Int)=_;rw[e3,wu];have:=Nat.mod_le A (2^i);omega
theorem Ae{a:Int}(h0:0<=a)(h:a<18446744073709551616):iJ .and .u64 a 4294967295=a%4294967296:=by obtain⟨A,rfl⟩:=Int.eq_ofNat_of_zero_le h0;have:=tO (A:=A) (i:=32) (by omega) (by omega);simpa using this
theorem T0{a b:Int}(ha:0<=a)(hb:0<=b)(WE:b<4294967296)(ha':a<4294967296):iJ .or .u64 (a*4294967296) b=a*4294967296+b:=by obtain⟨A,rfl⟩:=Int.eq_ofNat_of_zero_le ha;obtain⟨B,rfl⟩:=Int.eq_ofNat_of_zero_le hb;have:=Ey (A:=A) (B:=B) (i:=32) (by omega) (by omega);simpa using this
theorem or1{a b:Int}(ha:0<=a)(hb:0<=b)(WE:b<2)(ha':a<9223372036854775808):iJ .or .u64 (a*2) b=a*2+b:=by obtain⟨A,rfl⟩:=Int.eq_ofNat_of_zero_le ha;obtain⟨B,rfl⟩:=Int.eq_ofNat_of_zero_le hb;have:=Ey (A:=A) (B:=B) (i:=1) (by omega) (by omega);simpa using this
def u64(n:Int):Prop:=0<=n∧n<18446744073709551616
def Sz.In(s:Sz):Prop:=u64 s.hi∧u64 s.lo
def W.In(s:W):Prop:=u64 s.hi∧u64 s.lo
def ln(s:Sz)(n:Bool):W:=⟨s.hi,s.lo,n&&!(decide (s.hi=0)&&decide (s.lo=0))⟩
def XJ(n:Int):W:=⟨0,n.natAbs,decide (n<0)⟩
def dE(a b:Int):W:=⟨0,(a-b).natAbs,decide (a<b)⟩
def kA(s t:Sz):Bool:=decide (s.hi<t.hi)||decide (s.hi=t.hi)&&decide (s.lo<t.lo)
def n8(a b:Int):Sz:=⟨a*b/18446744073709551616,a*b%18446744073709551616⟩
def nY(a b:W):W:=ln (n8 a.lo b.lo) (a.neg != b.neg)
def m3(s:Sz)(d:Int):Sz:=⟨(s.hi*18446744073709551616+s.lo)/d/18446744073709551616,(s.hi*18446744073709551616+s.lo)/d%18446744073709551616⟩
def OO(s:Sz)(d:Int):Int:=(s.hi*18446744073709551616+s.lo)%d
def Hz(a b:W):W:=ln (m3 ⟨a.hi,a.lo⟩ b.lo) (a.neg != b.neg)
theorem G0:∀a,aA ((λa=>[]) a)->aH (C:=cx) [] [] 0 ai Tryz.f200 ((aD gL ZA).enc a) λv H _=>af ((λa=>(ln a.1 a.2).sv) a) H v:=by
 intro⟨s,n⟩ _;repeat' (first|refine Ai ?_ ?_|(intro _))
 all_goals (try (refine UR ?_ rfl))
 all_goals (try simp only[bs,aD,eU,gL,X4,ZA,Vm,Sz.of,W.of,VP,Vw,SV.al,SV.iv,SV.bv,cO,Ux,Uz] at *)
 all_goals first|rfl|(simp only[ln];done)|(simp[ln,Bool.not_and];done)|trace_state
noncomputable def oO:UW cx:=ae 200 Tryz.call200 (aD gL ZA) _ _ (λ_=>ai) [] (λ_=>rfl) follows Tryz.func200 (by kernel_rfl) G0
theorem OI:∀a,aA ((λa=>[UU a]) a)->aH (C:=cx) [oO] [] 0 ai Tryz.f147 ((bs (Vm .i64)).enc a) λv H _=>af ((λa=>(XJ a).sv) a) H v:=by
 intro n (hn:UU n);unfold UU at hn;repeat' (first|refine Ai ?_ ?_|(intro _))
 all_goals (try (refine UR ?_ rfl))
 all_goals (try simp only[bs,aD,eU,gL,X4,ZA,Vm,Sz.of,W.of,VP,Vw,SV.al,SV.iv,SV.bv,cO,Ux,Uz] at *)
 all_goals simp only[XJ,ln,wu]
 all_goals first|omega|grind|trace_state
noncomputable def Ta:UW cx:=ae 147 Tryz.call147 (bs (Vm .i64)) _ _ (λ_=>ai) [] (λ_=>rfl) follows Tryz.func147 (by kernel_rfl) OI
theorem Hk:∀a,aA ((λa=>[UU a.1,UU a.2]) a)->aH (C:=cx) [oO] [] 0 ai Tryz.f199 ((aD (Vm .i64) (Vm .i64)).enc a) λv H _=>af ((λa=>(dE a.1 a.2).sv) a) H v:=by
 intro⟨n,m⟩ ⟨hn,hm⟩;replace hm:UU m:=hm;replace hn:UU n:=hn;unfold UU at hn hm;repeat' (first|refine Ai ?_ ?_|(intro _))
 all_goals (try (refine UR ?_ rfl))
 all_goals (try simp only[bs,aD,eU,gL,X4,ZA,Vm,Sz.of,W.of,VP,Vw,SV.al,SV.iv,SV.bv,cO,Ux,Uz] at *)
 all_goals simp only[dE,ln,wu]
 all_goals first|omega|grind|trace_state
noncomputable def Ol:UW cx:=ae 199 Tryz.call199 (aD (Vm .i64) (Vm .i64)) _ _ (λ_=>ai) [] (λ_=>rfl) follows Tryz.func199 (by kernel_rfl) Hk
theorem Cg:∀a,aA ((λa=>[]) a)->aH (C:=cx) [] [] 0 ai Tryz.f148 ((aD gL gL).enc a) λv H _=>af ((λa=>.v (.bool (kA a.1 a.2))) a) H v:=by
 intro⟨s,t⟩ _;all_goals (try (refine UR ?_ rfl))
 all_goals (try simp only[bs,aD,eU,gL,X4,ZA,Vm,Sz.of,W.of,VP,Vw,SV.al,SV.iv,SV.bv,cO,Ux,Uz] at *)
 all_goals simp only[kA]
 all_goals trace_state
noncomputable def tJ:UW cx:=ae 148 Tryz.call148 (aD gL gL) _ _ (λ_=>ai) [] (λ_=>rfl) follows Tryz.func148 (by kernel_rfl) Cg
theorem B5:∀a,aA ((λa=>[u64 a.1,0<=a.2∧a.2<4294967296]) a)->aH (C:=cx) [] [] 0 ai Tryz.f202 ((aD (Vm .u64) (Vm .u64)).enc a) λv H _=>af ((λa=>(n8 a.1 a.2).sv) a) H v:=by
 intro⟨n,m⟩ ⟨hn,hm⟩;obtain⟨hm0,hm⟩:0<=m∧m<4294967296:=hm;obtain⟨hn0,hn⟩:0<=n∧n<18446744073709551616:=hn;repeat' (first|refine Ai ?_ ?_|(intro _))
 all_goals (try (refine UR ?_ rfl))
 all_goals (try simp only[bs,aD,eU,gL,X4,ZA,Vm,Sz.of,W.of,VP,Vw,SV.al,SV.iv,SV.bv,cO,Ux,Uz] at *)
 all_goals simp only[n8,wu,p32,SZ]
 all_goals
  have ha:0<=n/4294967296∧n/4294967296<4294967296:=(by omega);have hb:0<=n%4294967296∧n%4294967296<4294967296:=(by omega);have hm':m%4294967296=m:=(by omega);have hm2:m/4294967296=0:=(by omega);have hP0:0<=n%4294967296*m:=Int.mul_nonneg hb.1 hm0;have hQ0:0<=n/4294967296*m:=Int.mul_nonneg ha.1 hm0;have hP1:n%4294967296*m<=4294967295*4294967295:=Int.mul_le_mul (by omega) (by omega) hm0 (by omega);have hQ1:n/4294967296*m<=4294967295*4294967295:=Int.mul_le_mul (by omega) (by omega) hm0 (by omega);have hs:n*m=n/4294967296*m*4294967296+n%4294967296*m:=by
   rw[Int.mul_right_comm,<-Int.add_mul]
   congr 1
   omega
  rw[hs];simp only[Ae hn0 hn,Ae hm0 (show m<18446744073709551616 by omega),hm',hm2,Int.mul_zero];generalize n%4294967296*m=P at *;generalize n/4294967296*m=Q at *;clear hs;rw[show P%18446744073709551616=P by omega,show Q%18446744073709551616=Q by omega,show (Q+P/4294967296)%18446744073709551616=Q+P/4294967296 by omega,Ae (a:=Q+P/4294967296) (by omega) (by omega)]
 omega;rw[Ae (a:=P) (by omega) (by omega),show ((Q+P/4294967296)%4294967296+0%18446744073709551616)%18446744073709551616*4294967296%18446744073709551616=(Q+P/4294967296)%4294967296*4294967296 by omega,T0 (by omega) (by omega) (by omega) (by omega)];omega
noncomputable def Kd:UW cx:=ae 202 Tryz.call202 (aD (Vm .u64) (Vm .u64)) _ _ (λ_=>ai) [] (λ_=>rfl) follows Tryz.func202 (by kernel_rfl) B5
end Go.Proofs.YtgigkennhdolpaaGreatDoor.Df
namespace Go.Proofs.YtgigkennhdolpaaGreatDoor.Df
open Go.RowKit
set_option maxRecDepth 8000
set_option maxHeartbeats 2000000
theorem orS{a b:Int}(ha:u64 a)(hb:0<=b)(WE:b<2):iJ .or .u64 (a*2%18446744073709551616) b=a%9223372036854775808*2+b:=by unfold u64 at ha;rw[show a*2%18446744073709551616=a%9223372036854775808*2 by omega,or1 (by omega) hb WE (by omega)]
theorem TZ{a:Int}(ha:u64 a):iJ .or .u64 (a*2%18446744073709551616) 1=a%9223372036854775808*2+1:=orS ha (by omega) (by omega)
def Sz.val(s:Sz):Int:=s.hi*18446744073709551616+s.lo
def J5(v:Int)(d:Int)(x:Nat×Sz×Sz×Int):Prop:=x.1<=128∧x.2.1.In∧x.2.2.1.In∧0<=x.2.2.2∧x.2.2.2<d∧v*2^x.1=(x.2.2.1.val*d+x.2.2.2)*340282366920938463463374607431768211456+x.2.1.val∧x.2.2.1.val*d+x.2.2.2<2^x.1
def QT(v:Int)(d:Int):Cut:=⟨Nat×Sz×Sz×Int,J5 v d,λx=>⟨[sl 1 (.v (.int .u64 d)),sl 2 (.p 0 0),sl 4 (.p 1 0),sl 6 (.p 2 0),sl 7 (.v (.int .u64 x.2.2.2)),sl 9 (.v (.int .i64 x.1))],
 [(0,.lay x.2.1.cells 243),(1,.lay [.il .u64 0,.il .u64 0] 243),(2,.lay x.2.2.1.cells 243)],3,0,[],[]⟩,λx=>128-x.1⟩
theorem vm{v d:Int}{k:Nat}{s o:Sz}{r:Int}(hd:1<=d)(XN:d<18446744073709551616)(hk:k<128)(h:J5 v d (k,s,o,r)){s' o':Sz}{r' c:Int}
  (YQ:s'.hi=s.hi%9223372036854775808*2+s.lo/9223372036854775808) (Xt:s'.lo=s.lo*2%18446744073709551616)
  (ho1:o'.hi=o.hi%9223372036854775808*2+o.lo/9223372036854775808) (ho2:o'.lo=o.lo%9223372036854775808*2+c)
  (hc:c=0∨c=1) (hr:r'=2*r+s.hi/9223372036854775808-c*d) (hr0:0<=r') (Y3:r'<d):J5 v d (k+1,s',o',r'):=by
 obtain⟨-,⟨⟨a1,a2⟩,a3,a4⟩,⟨⟨b1,b2⟩,b3,b4⟩,r0,r1,e,lt⟩:=h;simp only at a1 a2 a3 a4 b1 b2 b3 b4 r0 r1 e lt;have hp:(2:Int)^(k+1)=2*2^k:=by rw[Int.pow_succ,Int.mul_comm]
 have hO:o.val<=o.val*d:=by have:=Int.mul_le_mul_of_nonneg_left hd (show 0<=o.val by unfold Sz.val;omega);omega
 have XE:(2:Int)^k<=170141183460469231731687303715884105728:=by have h1:2^k<=2^127:=Nat.pow_le_pow_right (n:=2) (by omega) (by omega);have h2:=Int.ofNat_le.2 h1;rw[Int.natCast_pow] at h2;exact h2
 have ho:o'.val=2*o.val+c:=by unfold Sz.val at hO ⊢;rw[ho1,ho2];unfold Sz.val at lt;omega
 have hod:o'.val*d=2*(o.val*d)+c*d:=by rw[ho,Int.add_mul,Int.mul_assoc]
 have hs:s'.val=2*s.val-s.hi/9223372036854775808*340282366920938463463374607431768211456:=by unfold Sz.val;rw[YQ,Xt];omega
 refine⟨show k+1<=128 by omega,⟨⟨?_,?_⟩,?_,?_⟩,⟨⟨?_,?_⟩,?_,?_⟩,hr0,Y3,?_,?_⟩;show 0<=s'.hi;omega;show s'.hi<_;omega;show 0<=s'.lo;omega;show s'.lo<_;omega;show 0<=o'.hi;omega;show o'.hi<_;omega;show 0<=o'.lo;omega;show o'.lo<_;omega;show v*2^(k+1)=(o'.val*d+r')*340282366920938463463374607431768211456+s'.val;rw[hp,hs,hod,hr,Int.mul_left_comm,e];generalize o.val*d=X;generalize c*d=Y;omega;show o'.val*d+r'<2^(k+1);rw[hp,hod,hr];generalize o.val*d=X at *;generalize c*d=Y;omega
theorem NC{v d:Int}{s o:Sz}{r:Int}(hd:1<=d)(h:J5 v d (128,s,o,r)):v/d=o.val∧v%d=r:=by
 obtain⟨-,⟨⟨a1,a2⟩,a3,a4⟩,⟨⟨b1,b2⟩,b3,b4⟩,r0,r1,e,lt⟩:=h;simp only at a1 a2 a3 a4 b1 b2 b3 b4 r0 r1 e lt;have hv:v=r+o.val*d:=by have:v*340282366920938463463374607431768211456=(o.val*d+r)*340282366920938463463374607431768211456+s.val:=e;unfold Sz.val at this ⊢;generalize (o.hi*18446744073709551616+o.lo)*d=X at *;omega
 constructor;rw[hv,Int.add_mul_ediv_right _ _ (by omega),Int.ediv_eq_zero_of_lt r0 r1,Int.zero_add];rw[hv,Int.add_mul_emod_self_right,Int.emod_eq_of_lt r0 r1]
theorem Ln:∀a,aA ((λa=>[u64 a.1.lo,0<=a.2.lo∧a.2.lo<4294967296]) a)->aH (C:=cx) [oO,Kd] [] 0 ai Tryz.f150 ((aD X4 X4).enc a) λv H _=>af ((λa=>(nY a.1 a.2).sv) a) H v:=by
 intro⟨x,y⟩ ⟨hn,hm⟩;repeat' (first|refine Ai ?_ ?_|(intro _))
 all_goals (try (refine UR ?_ rfl))
 all_goals (try simp only[bs,aD,eU,gL,X4,ZA,Vm,Sz.of,W.of,VP,Vw,SV.al,SV.iv,SV.bv,cO,Ux,Uz] at *)
 all_goals first|rfl|exact hn.1|exact hn.2|exact hm.1|exact hm.2|trace_state
noncomputable def Q1:UW cx:=ae 150 Tryz.call150 (aD X4 X4) _ _ (λ_=>ai) [] (λ_=>rfl) follows Tryz.func150 (by kernel_rfl) Ln
theorem Ay:∀a,aA ((λa=>[a.1.In,1<=a.2∧a.2<18446744073709551616]) a)->aH (C:=cx) [] [] 0 ⟨[],[],[4],0⟩ Tryz.f201 ((aD gL (Vm .u64)).enc a) λv H _=>af ((λa=>.tup [(m3 a.1 a.2).sv,.v (.int .u64 (OO a.1 a.2))]) a) H v:=by
 intro⟨x,d⟩ ⟨hn,hm⟩;replace hn:x.In:=hn;obtain⟨hd,XN⟩:1<=d∧d<18446744073709551616:=hm;refine T' (QT x.val d) ?_;refine Ai ?_ ?_
 ·refine⟨((0:Nat),x,⟨0,0⟩,(0:Int)),[],[],trivial,?_,?_⟩
  ·refine⟨Up _,hn,⟨⟨Int.le_refl 0,by show (0:Int)<_;decide⟩,Int.le_refl 0,by show (0:Int)<_;decide⟩,Int.le_refl 0,by show 0<d;omega,?_,?_⟩;show x.val*1=((0*18446744073709551616+0)*d+0)*_+x.val;omega;show (0*18446744073709551616+0)*d+0<(1:Int)
   omega
  ·repeat' (first|refine Ai ?_ ?_|intro _|exact rfl)
 refine fun(y:Nat×Sz×Sz×Int) (hy:J5 x.val d y)=>?_;obtain⟨k,s,o,r⟩:=y;have hk128:=hy.1;simp only at hk128;refine Ai (λhb=>?_) (λhb=>?_)
 ·have hk:k<128:=(by simp only[Ux] at hb;omega);have hs:=hy.2.1;have ho:=hy.2.2.1;have hr0:=hy.2.2.2.1;have Y3:=hy.2.2.2.2.1;simp only at hs ho hr0 Y3;obtain⟨YQ,Xt⟩:=hs;obtain⟨ho1,ho2⟩:=ho;have hr:u64 r:=⟨hr0,by omega⟩
  have hb0:0<=s.hi/9223372036854775808∧s.hi/9223372036854775808<2:=(by unfold u64 at YQ;omega);have VN:0<=s.lo/9223372036854775808∧s.lo/9223372036854775808<2:=(by unfold u64 at Xt;omega);have Vz:0<=o.lo/9223372036854775808∧o.lo/9223372036854775808<2:=(by unfold u64 at ho2;omega);have q1:=orS hr hb0.1 hb0.2;have q2:=orS YQ VN.1 VN.2;have q3:=orS ho1 Vz.1 Vz.2;have q4:=TZ ho2;unfold u64 at hr YQ Xt ho1 ho2;refine Ai (λhc=>?_) (λhc=>?_)
  ·simp only[wu,p1,p63,Np,q1,Us,Ux] at hc;refine Ai ?_ ?_;constructor<;>simp only<;>omega;refine T' (k+1,⟨s.hi%9223372036854775808*2+s.lo/9223372036854775808,s.lo*2%18446744073709551616⟩,⟨o.hi%9223372036854775808*2+o.lo/9223372036854775808,o.lo%9223372036854775808*2+1⟩,2*r+s.hi/9223372036854775808-d) ?_;refine T' [] ?_;refine T' [] ?_;refine Ai ?_ (Ai ?_ ?_);show 128-(k+1)<128-k;omega;exact vm hd XN hk hy rfl rfl rfl rfl (Or.inr rfl) (by omega) (by omega) (by omega);repeat' (first|refine Ai ?_ ?_|intro _|exact rfl)
   (all_goals (try (refine UR ?_ rfl)));all_goals simp only[wu,p1,p63,Np,q1,q2,q3,q4]
   all_goals omega
  simp only[wu,p1,p63,Np,q1,UH,Uz] at hc;refine Ai ?_ ?_;constructor<;>simp only<;>omega;refine T' (k+1,⟨s.hi%9223372036854775808*2+s.lo/9223372036854775808,s.lo*2%18446744073709551616⟩,⟨o.hi%9223372036854775808*2+o.lo/9223372036854775808,o.lo%9223372036854775808*2+0⟩,2*r+s.hi/9223372036854775808-0*d) ?_;refine T' [] ?_;refine T' [] ?_;refine Ai ?_ (Ai ?_ ?_);show 128-(k+1)<128-k;omega;exact vm hd XN hk hy rfl rfl rfl rfl (Or.inl rfl) rfl (by omega) (by omega);repeat' (first|refine Ai ?_ ?_|intro _|exact rfl)
  (all_goals (try (refine UR ?_ rfl)));all_goals simp only[wu,p1,p63,Np,q1,q2,q3]
  all_goals omega
 obtain rfl:k=128:=by simp only[Uz] at hb;omega
 obtain⟨e1,e2⟩:=NC hd hy;have ho:=hy.2.2.1;simp only[Sz.In,u64] at ho;unfold Sz.val at e1 e2;repeat' (first|refine Ai ?_ ?_|(intro _))
 all_goals (try (refine UR ?_ rfl))
 all_goals simp only[m3,OO,e1,e2]
 all_goals omega
noncomputable def Gc:UW cx:=ae 201 Tryz.call201 (aD gL (Vm .u64)) _ _ (λ_=>⟨[],[],[4],0⟩) [] (λ_=>rfl) follows Tryz.func201 (by kernel_rfl) Ay
end Go.Proofs.YtgigkennhdolpaaGreatDoor.Df
namespace Go.Proofs.YtgigkennhdolpaaGreatDoor.Df
open Go.RowKit
set_option maxRecDepth 8000
set_option maxHeartbeats 2000000
def W.ofL(x:List SV):W:=⟨(VP x).iv,(VP (Vw x)).iv,(VP (Vw (Vw x))).bv⟩
structure Ui where
 n:Nat
 g:Nat->W
def Ir:Rd Ui:=⟨.rs 3 0 λ_=>[.v (.int .u64 0),.v (.int .u64 0),.v (.bool false)],λx=>⟨x.rn,λi=>W.ofL (x.rf i)⟩,λp=>.rs 3 p.n λi=>(p.g i).cells,λ_=>rfl⟩
def W.zero(a:W):Prop:=a.hi=0∧a.lo=0∧a.neg=false
def W.norm(a:W):Prop:=u64 a.hi∧u64 a.lo∧(a.neg=true->¬(a.hi=0∧a.lo=0))
def ER(a:W):Int:=if a.neg then-a.lo else a.lo
def W.small(a:W):Prop:=a.hi=0∧0<=a.lo∧a.lo<9223372036854775808
def LJ(x y:W):W:=if kA ⟨x.hi,x.lo⟩ ⟨y.hi,y.lo⟩ then⟨y.hi,y.lo,false⟩ else⟨x.hi,x.lo,false⟩
def R3(g:Nat->W):Nat->W
 | 0=>⟨0,0,false⟩
 | 1=>⟨0,0,false⟩
 | _+2=>g 1
def PC(g:Nat->W):Cut:=⟨Nat,λk=>k<=2,λk=>⟨[sl 2 (.p 0 0),sl 3 (.p 1 0),sl 7 (.rs 3 2 λi=>(g i).cells),sl 8 (.v (.int .i64 2)),sl 9 (.v (.int .i64 k))],
 [(0,.lay [.il .u64 0,.il .u64 0,.bl false] 245),(1,.lay (R3 g k).cells 245)],2,0,[],[]⟩,λk=>2-k⟩
theorem B4:∀a,aA ((λa=>[a.1.In,1<=a.2.lo∧a.2.lo<18446744073709551616]) a)->aH (C:=cx) [oO,Gc] [] 0 ai Tryz.f149 ((aD X4 X4).enc a) λv H _=>af ((λa=>(Hz a.1 a.2).sv) a) H v:=by
 intro⟨x,y⟩ ⟨hn,hm⟩;repeat' (first|refine Ai ?_ ?_|(intro _))
 all_goals (try (refine UR ?_ rfl))
 all_goals (try simp only[bs,aD,eU,gL,X4,ZA,Vm,Sz.of,W.of,VP,Vw,SV.al,SV.iv,SV.bv,cO,Ux,Uz] at *)
 all_goals first|rfl|exact hn.1.1|exact hn.1.2|exact hn.2.1|exact hn.2.2|exact hm.1|exact hm.2|trace_state
noncomputable def Kc:UW cx:=ae 149 Tryz.call149 (aD X4 X4) _ _ (λ_=>ai) [] (λ_=>rfl) follows Tryz.func149 (by kernel_rfl) B4
theorem GS:∀a,aA ((λa=>[a.1.hi=0∧a.1.lo=0,a.2.In]) a)->aH (C:=cx) [] [] 0 ai Tryz.f203 ((aD gL gL).enc a) λv H _=>af ((λa=>a.2.sv) a) H v:=by
 intro⟨s,t⟩ ⟨⟨h1,h2⟩,hm⟩;replace h1:s.hi=0:=h1;replace h2:s.lo=0:=h2;obtain⟨⟨a1,a2⟩,a3,a4⟩:t.In:=hm;repeat' (first|refine Ai ?_ ?_|(intro _))
 all_goals (try (refine UR ?_ rfl))
 all_goals (try simp only[bs,aD,eU,gL,X4,ZA,Vm,Sz.of,W.of,VP,Vw,SV.al,SV.iv,SV.bv,cO,Ux,Uz] at *)
 all_goals (try simp only[wu] at *)
 all_goals first|omega|trace_state
noncomputable def NP:UW cx:=ae 203 Tryz.call203 (aD gL gL) _ _ (λ_=>ai) [] (λ_=>rfl) follows Tryz.func203 (by kernel_rfl) GS
theorem Cn:∀a,aA ((λa=>[a.2.hi=0∧a.2.lo=0,a.1.In]) a)->aH (C:=cx) [] [] 0 ai Tryz.f204 ((aD gL gL).enc a) λv H _=>af ((λa=>a.1.sv) a) H v:=by
 intro⟨t,s⟩ ⟨⟨h1,h2⟩,hm⟩;replace h1:s.hi=0:=h1;replace h2:s.lo=0:=h2;obtain⟨⟨a1,a2⟩,a3,a4⟩:t.In:=hm;repeat' (first|refine Ai ?_ ?_|(intro _))
 all_goals (try (refine UR ?_ rfl))
 all_goals (try simp only[bs,aD,eU,gL,X4,ZA,Vm,Sz.of,W.of,VP,Vw,SV.al,SV.iv,SV.bv,cO,Ux,Uz] at *)
 all_goals (try simp only[wu] at *)
 all_goals first|omega|trace_state
noncomputable def Kr:UW cx:=ae 204 Tryz.call204 (aD gL gL) _ _ (λ_=>ai) [] (λ_=>rfl) follows Tryz.func204 (by kernel_rfl) Cn
theorem Lg:∀a,aA ((λa=>[a.small]) a)->aH (C:=cx) [] [] 0 ai Tryz.f152 ((bs X4).enc a) λv H _=>af ((λa=>.v (.int .i64 (ER a))) a) H v:=by
 intro x hx;obtain⟨h1,h2,h3⟩:x.small:=hx;repeat' (first|refine Ai ?_ ?_|(intro _))
 all_goals (try (refine UR ?_ rfl))
 all_goals (try simp only[bs,aD,eU,gL,X4,ZA,Vm,Sz.of,W.of,VP,Vw,SV.al,SV.iv,SV.bv,cO,Ux,Uz] at *)
 all_goals (try simp only[ER,wu,wi])
 all_goals first|omega|grind|trace_state
noncomputable def QY:UW cx:=ae 152 Tryz.call152 (bs X4) _ _ (λ_=>ai) [] (λ_=>rfl) follows Tryz.func152 (by kernel_rfl) Lg
theorem Lf:∀a,aA ((λa=>[a.n=2,(a.g 0).zero,(a.g 1).norm]) a)->aH (C:=cx) [oO,NP,Kr,tJ] [] 0 ⟨[],[],[3],0⟩ Tryz.f151 ((bs Ir).enc a) λv H _=>af ((λa=>(a.g 1).sv) a) H v:=by
 intro⟨n,g⟩ ⟨hn,hx,hy⟩;replace hn:n=2:=hn;subst hn;obtain⟨x1,x2,x3⟩:(g 0).zero:=hx;obtain⟨⟨a1,a2⟩,⟨a3,a4⟩,a5⟩:(g 1).norm:=hy;refine T' (PC g) ?_;refine Ai ?_ ?_
 ·refine⟨(0:Nat),[],[],trivial,Up _,?_⟩;repeat' (first|refine Ai ?_ ?_|intro _|exact rfl)
 refine fun(k:Nat) (hk:k<=2)=>?_;refine Ai (λhb=>?_) (λhb=>?_)
 ·have hb:(k:Int)<2:=Od hb;have hk01:k=0∨k=1:=(by omega);clear hk;repeat' (first|refine Ai ?_ ?_|(intro _))
  (all_goals try (refine T' (k+1:Nat) ?_;refine T' [] ?_;refine T' [] ?_;refine Ai ?_ ?_;(show 2-(k+1)<2-k;omega);refine Ai ?_ ?_;(show k+1<=2;omega);repeat' (first|refine Ai ?_ ?_|intro _|exact rfl)));all_goals (try (refine UR ?_ rfl))
  (all_goals (try simp only[bs,aD,eU,gL,X4,ZA,Vm,dS,Vec.of,Ir,W.ofL,SV.rf,Sz.of,W.of,VP,Vw,SV.al,SV.iv,SV.bv,cO,Ux,Uz] at *));all_goals (try (obtain rfl|rfl:=hk01))
  all_goals first|omega|(simp only[R3,ln,kA,show ((1:Nat):Int).toNat=1 from rfl,show ((0:Nat):Int).toNat=0 from rfl] at *<;>first|omega|grind)|trace_state
 obtain rfl:k=2:=by simp only[Uz] at hb;omega
 repeat' (first|refine Ai ?_ ?_|intro _|exact rfl)
noncomputable def QX:UW cx:=ae 151 Tryz.call151 (bs Ir) _ _ (λ_=>⟨[],[],[3],0⟩) [] (λ_=>rfl) follows Tryz.func151 (by kernel_rfl) Lf
theorem Lb:∀a,aA ((λa=>[UU a.1.x∧UU a.1.y,UU a.2.x∧UU a.2.y]) a)->aH (C:=cx) [Ol,tJ] [] 0 ⟨[5],[],[],0⟩ Tryz.f146 ((aD dS dS).enc a) λv H _=>af ((λa=>.tup [(dE a.2.x a.1.x).sv,(dE a.2.y a.1.y).sv,(LJ (dE a.2.x a.1.x) (dE a.2.y a.1.y)).sv]) a) H v:=by
 intro⟨x,y⟩ ⟨hx,hy⟩;obtain⟨x1,x2⟩:UU x.x∧UU x.y:=hx;obtain⟨y1,y2⟩:UU y.x∧UU y.y:=hy;repeat' (first|refine Ai ?_ ?_|(intro _))
 all_goals (try (refine UR ?_ rfl))
 all_goals (try simp only[bs,aD,eU,gL,X4,ZA,Vm,dS,Vec.of,Ir,W.ofL,SV.rf,Sz.of,W.of,VP,Vw,SV.al,SV.iv,SV.bv,cO,Ux,Uz] at *)
 all_goals first|assumption|rfl|exact x1.1|exact x1.2|exact x2.1|exact x2.2|exact y1.1|exact y1.2|exact y2.1|exact y2.2|(simp only[LJ];rw[‹kA _ _=_›];rfl)|trace_state
noncomputable def QV:UW cx:=ae 146 Tryz.call146 (aD dS dS) _ _ (λ_=>⟨[5],[],[],0⟩) [5] (λ_=>rfl) follows Tryz.func146 (by kernel_rfl) Lb
end Go.Proofs.YtgigkennhdolpaaGreatDoor.Df
namespace Go.Proofs.YtgigkennhdolpaaGreatDoor.Df
open Go.RowKit
theorem lt2{i:Nat}(h:i<2):i=0∨i=1:=by omega
theorem Ra{a b c:SV}{r:List SV} : chunk (a::b::c::r) 3 0=[a,b,c]:=rfl
theorem Q9{a b c d x f:SV}{r:List SV} : chunk (a::b::c::d::x::f::r) 3 1=[d,x,f]:=rfl
theorem S7{l:List SV} : List.drop 0 l=l:=rfl
theorem W.eta(a:W):(⟨a.hi,a.lo,a.neg⟩:W)=a:=rfl
theorem Sz.eta(a:Sz):(⟨a.hi,a.lo⟩:Sz)=a:=rfl
theorem Vec.eta(a:Vec):(⟨a.x,a.y⟩:Vec)=a:=rfl
def gD(v:Vec):W:=LJ (dE v.x 0) (dE v.y 0)
def pF(n m:Int)(f:W):W:=Hz (nY (dE n 0) (XJ m)) f
def lim(v:Vec)(m:Int):Vec:=if v.x=0∧v.y=0 then⟨0,0⟩ else if kA ⟨(XJ m).hi,(XJ m).lo⟩ ⟨(gD v).hi,(gD v).lo⟩ then⟨ER (pF v.x m (gD v)),ER (pF v.y m (gD v))⟩ else v
theorem zm{v:Vec}(hx:UU v.x)(hy:UU v.y):(gD v).hi=0∧(gD v).lo<18446744073709551616∧v.x.natAbs<=(gD v).lo∧v.y.natAbs<=(gD v).lo∧(gD v).neg=false:=by unfold UU at hx hy;simp only[gD,LJ,dE,kA];split<;>rename_i h<;>simp at h ⊢<;>omega
theorem Dv{n m:Int}{f:W}(hn:UU n)(hm:1<=m∧m<=65536)(h0:1<=f.lo)(hf:(n.natAbs:Int)<=f.lo):(pF n m f).hi=0∧0<=(pF n m f).lo∧(pF n m f).lo<=m∧((pF n m f).neg=true->¬((pF n m f).hi=0∧(pF n m f).lo=0)):=by
 unfold UU at hn;have e:(nY (dE n 0) (XJ m)).hi*18446744073709551616+(nY (dE n 0) (XJ m)).lo=n.natAbs*m:=by simp only[nY,ln,n8,dE,XJ];rw[show ((n-0).natAbs:Int)=n.natAbs by omega,show ((m.natAbs:Nat):Int)=m by omega];omega
 have hq:(n.natAbs:Int)*m/f.lo<=m:=by refine Int.ediv_le_of_le_mul (by omega) ?_;rw[Int.mul_comm];exact Int.mul_le_mul_of_nonneg_left hf (by omega)
 have hq0:0<=(n.natAbs:Int)*m/f.lo:=Int.ediv_nonneg (Int.mul_nonneg (by omega) (by omega)) (by omega);have e1:(pF n m f).hi=(n.natAbs:Int)*m/f.lo/18446744073709551616:=by show (m3 ⟨_,_⟩ f.lo).hi=_;simp only[m3,e]
 have e2:(pF n m f).lo=(n.natAbs:Int)*m/f.lo%18446744073709551616:=by show (m3 ⟨_,_⟩ f.lo).lo=_;simp only[m3,e]
 refine⟨by omega,by omega,by omega,λh=>?_⟩;have:(ln (m3 ⟨(nY (dE n 0) (XJ m)).hi,(nY (dE n 0) (XJ m)).lo⟩ f.lo) ((nY (dE n 0) (XJ m)).neg != f.neg)).neg=true:=h;simp only[ln,Ur,Bool.not_eq_true',Bool.and_eq_false_iff,Uz] at this;intro hc;have h1:(m3 ⟨(nY (dE n 0) (XJ m)).hi,(nY (dE n 0) (XJ m)).lo⟩ f.lo).hi=0:=hc.1;have h2:(m3 ⟨(nY (dE n 0) (XJ m)).hi,(nY (dE n 0) (XJ m)).lo⟩ f.lo).lo=0:=hc.2;omega
theorem CO{a b:W}(ha:0<=a.lo∧a.lo<18446744073709551616)(hb:0<=b.lo∧b.lo<4294967296):(nY a b).In:=by have h0:0<=a.lo*b.lo:=Int.mul_nonneg ha.1 hb.1;have h1:a.lo*b.lo<=18446744073709551615*4294967295:=Int.mul_le_mul (by omega) (by omega) hb.1 (by omega);simp only[W.In,u64,nY,ln,n8];omega
theorem Je{v:Vec}{m:Int}(f1:(gD v).hi=0)(hm:1<=m∧m<=65536):kA ⟨(XJ m).hi,(XJ m).lo⟩ ⟨(gD v).hi,(gD v).lo⟩=decide (m<(gD v).lo):=by
 have h:((m.natAbs:Nat):Int)=m:=by omega
 simp[kA,XJ,f1,h]
set_option maxHeartbeats 2000000 in
set_option maxRecDepth 8000 in
theorem Al:∀a,aA ((λa=>[a.1.x=0∧a.1.y=0,UU a.2.1.x∧UU a.2.1.y,1<=a.2.2∧a.2.2<=65536]) a)->aH (C:=cx) [Ta,Q1,Kc,QX,QY,QV,tJ] [] 0 ai Tryz.f95 ((eU dS dS (Vm .i64)).enc a) λv H _=>af ((λa=>(lim a.2.1 a.2.2).sv) a) H v:=by
 intro⟨a,v,m⟩ ⟨h0,hv,hm⟩;obtain⟨ax,ay⟩:a.x=0∧a.y=0:=h0;obtain⟨vx,vy⟩:UU v.x∧UU v.y:=hv;replace hm:1<=m∧m<=65536:=hm;obtain⟨a1,a2⟩:=a;obtain rfl:a1=0:=ax;obtain rfl:a2=0:=ay;have hs:=Je (v:=v) (m:=m) (zm vx vy).1 hm;have F:=zm vx vy;have l1:=Dv (f:=gD v) (n:=v.x) (m:=m) vx hm;have l2:=Dv (f:=gD v) (n:=v.y) (m:=m) vy hm;have i0:0<=(XJ m).lo∧(XJ m).lo<4294967296:=by simp only[XJ];omega
 have i1:=CO (a:=dE v.x 0) (b:=XJ m) (by unfold UU at vx;simp only[dE];omega) i0;have i2:=CO (a:=dE v.y 0) (b:=XJ m) (by unfold UU at vy;simp only[dE];omega) i0;have i3:0<=(dE v.x 0).lo∧(dE v.x 0).lo<18446744073709551616:=by unfold UU at vx;simp only[dE];omega
 have i4:0<=(dE v.y 0).lo∧(dE v.y 0).lo<18446744073709551616:=by unfold UU at vy;simp only[dE];omega
 have z0:(XJ 0).hi=0∧(XJ 0).lo=0∧(XJ 0).neg=false:=⟨rfl,rfl,rfl⟩
 have L:lim v m=if v.x=0∧v.y=0 then⟨0,0⟩ else if m<(gD v).lo then⟨ER (pF v.x m (gD v)),ER (pF v.y m (gD v))⟩ else v:=by unfold lim;rw[hs];simp only[Ux]
 simp only[W.In,u64] at i1 i2;unfold UU at vx vy;simp only[pF,gD] at F l1 l2 L hs;repeat' (first|refine Ai ?_ ?_|(intro _))
 all_goals try (rename_i i hi;obtain rfl|rfl:=lt2 hi<;>repeat' (first|exact trivial|refine Ai ?_ ?_))
 all_goals (try (refine UR ?_ rfl))
 all_goals (try simp only[bs,aD,eU,gL,X4,ZA,Vm,dS,Vec.of,Ir,W.ofL,SV.rf,SV.rn,Ra,Q9,S7,W.eta,Sz.eta,Vec.eta,Sz.of,W.of,VP,Vw,SV.al,SV.iv,SV.bv,cO,Ux,Uz] at *)
 all_goals (try simp only[hs,Ux,Uz] at *)
 all_goals first|omega|(rw[L];grind)|grind|trace_state
noncomputable def FV:UW cx:=ae 95 Tryz.call95 (eU dS dS (Vm .i64)) _ _ (λ_=>ai) [] (λ_=>rfl) follows Tryz.func95 (by kernel_rfl) Al
end Go.Proofs.YtgigkennhdolpaaGreatDoor.Df
namespace Go.Proofs.YtgigkennhdolpaaGreatDoor.Df
open Go.RowKit
def uB:List SV:=[.il .i64 0,.il .i64 0,.v (.slice none 0 0),.il .i64 0,.il .i64 0,.il .i64 0,.il .i64 0,.il .i64 0,.il .i64 0,.il .i64 0,.il .i64 0,.il .i64 0]
end Go.Proofs.YtgigkennhdolpaaGreatDoor.Df
namespace Go.Proofs.YtgigkennhdolpaaGreatDoor.Df
open Go.RowKit
set_option maxHeartbeats 2000000 in
set_option maxRecDepth 8000 in
theorem Cq:∀a,aA ((λa=>[UU a.1.x∧UU a.1.y,1<=a.2∧a.2<=65536]) a)->aH (C:=cx) [FV] [] 0 ai Tryz.f58 ((aD dS (Vm .i64)).enc a) λv H _=>af ((λa=>(lim a.1 a.2).sv) a) H v:=by
 intro⟨v,m⟩ ⟨⟨vx,vy⟩,hm⟩;replace vx:UU v.x:=vx;replace vy:UU v.y:=vy;replace hm:1<=m∧m<=65536:=hm;repeat' (first|refine Ai ?_ ?_|(intro _))
 all_goals (try (refine UR ?_ rfl))
 all_goals first|rfl|exact vx.1|exact vx.2|exact vy.1|exact vy.2|exact hm.1|exact hm.2|trace_state
noncomputable def Ku:UW cx:=ae 58 Tryz.call58 (aD dS (Vm .i64)) _ _ (λ_=>ai) [] (λ_=>rfl) follows Tryz.func58 (by kernel_rfl) Cq
end Go.Proofs.YtgigkennhdolpaaGreatDoor.Df
namespace Go.Proofs.YtgigkennhdolpaaGreatDoor
open Go.RowKit
end Go.Proofs.YtgigkennhdolpaaGreatDoor
