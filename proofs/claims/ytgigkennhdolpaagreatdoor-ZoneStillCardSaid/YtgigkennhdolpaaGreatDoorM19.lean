/- step: first, body.. -/
import Derived.Test.YtgigkennhdolpaaGreatDoorM18
import Derived.Test.YtgigkennhdolpaaGreatDoorM16
import Derived.Test.YtgigkennhdolpaaGreatDoorM2
import Derived.Conc.Beside
namespace Go.Proofs.YtgigkennhdolpaaGreatDoor
open Go.RowKit
set_option maxRecDepth 8000
set_option maxHeartbeats 2000000
theorem Lp:∀a,aA ((λa=>[∃q,a.2=.rp [.v (.int .u8 q)] 0]) a)->aH (C:=cx) [] [] 0 ai Tryz.f194 ((aD iB Vy).enc a) λv H _=>af ((λa=>.v (.bool (decide (a.1.kind=rkI a.2)))) a) H v:=by intro⟨c,x⟩ hx;obtain⟨q,hx⟩:∃q,x=.rp [.v (.int .u8 q)] 0:=hx;subst hx;exact rfl
noncomputable def Q2:UW cx:=ae 194 Tryz.call194 (aD iB Vy) _ _ (λ_=>ai) [] (λ_=>rfl) follows Tryz.func194 (by kernel_rfl) Lp
def Qf(l:WV)(q:Int):Cut:=⟨Nat,λk=>k<=l.n∧VI (λi=>decide ((l.c i).kind=q)) 0 l.n=VI (λi=>decide ((l.c i).kind=q)) k (l.n-k),
 λk=>⟨[sl 0 l.sv,sl 1 (.f (.func 194) [] [.rp [.v (.int .u8 q)] 0]),sl 7 (i64 l.n),sl 8 (i64 k)],[],0,0,[],[]⟩,λk=>l.n-k⟩
theorem Lo:∀a,aA ((λa=>[(a.1.n:Int)<=cB,∃q,a.2=(.f (.func 194) [] [.rp [.v (.int .u8 q)] 0])]) a)->aH (C:=cx) [Q2] [] 0 ⟨[],[],[2],0⟩ Tryz.f93 ((aD jx Vy).enc a) λv H _=>af ((λa=>.v (.int .i64 (VO (λi=>decide ((a.1.c i).kind=kxI a.2)) a.1.n))) a) H v:=by
 intro⟨l,x⟩ ⟨hm,hx⟩;obtain⟨q,hx⟩:∃q,x=(.f (.func 194) [] [.rp [.v (.int .u8 q)] 0]):=hx;subst hx;replace hm:(l.n:Int)<=9223372036854775807:=hm;refine T' (Qf l q) ?_;refine Ai ?_ ?_
 ·refine⟨(0:Nat),[],[],trivial,⟨Up _,rfl⟩,?_⟩;repeat' (first|refine Ai ?_ ?_|intro _|exact rfl)
 refine fun(k:Nat) (hk:k<=l.n∧VI (λi=>decide ((l.c i).kind=q)) 0 l.n=VI (λi=>decide ((l.c i).kind=q)) k (l.n-k))=>?_;obtain⟨k1,k2⟩:=hk;refine Ai (λhb=>?_) (λhb=>?_)
 ·have hb:(k:Int)<l.n:=Od hb;have e:=ji (g:=(λi=>decide ((l.c i).kind=q))) (k:=k) (n:=l.n) (by omega);refine Ai ⟨by omega,by omega⟩ ?_;refine Ai ⟨q,rfl⟩ ?_;refine Ai (λhc=>?_) (λhc=>?_);have hc:(decide ((l.c k).kind=q))=true:=hc;simp only[hc] at e;exact fZ (g:=(λi=>decide ((l.c i).kind=q))) (n:=l.n) (k2.trans e) (by omega);have hc:(decide ((l.c k).kind=q))=false:=hc;simp only[hc] at e;refine Ai (by unfold U1;omega:U1 ((k:Int)+1)) ?_;refine⟨k+1,[],[],(by show l.n-(k+1)<l.n-k;omega),⟨by omega,by rw[k2,e]⟩,?_⟩;repeat' (first|refine Ai ?_ ?_|intro _|exact rfl)
 have hb:¬(k:Int)<l.n:=Uy hb;refine fR (g:=(λi=>decide ((l.c i).kind=q))) (n:=l.n) ?_;rw[k2,show l.n-k=0 by omega];show k=l.n;omega
noncomputable def xe:UW cx:=ae 93 Tryz.call93 (aD jx Vy) _ _ (λ_=>⟨[],[],[2],0⟩) [] (λ_=>rfl) follows Tryz.func93 (by kernel_rfl) Lo
def HY(b1 b2 b3:Bool):Int->Bool
 | .ofNat 1=>b1
 | .ofNat 3=>b3
 | _=>b2
def So(b:Bool)(c:aR):SV:=match b with|true=>.rp c.cells 0|false=>.v (.pointer none)
section
variable (b1 b2 b3:Bool)
theorem An:∀a:UZ×Int,aA [(a.1.l.n:Int)<=cB,HY b1 b2 b3 a.2=(bz a.1.l a.2).2]->aH (C:=cx) [xe] [] 0 ai Tryz.f132 ((aD jw (Vm .u8)).enc a) λv H _=>af (So (HY b1 b2 b3 a.2) (bz a.1.l a.2).1) H v:=by
 intro⟨e,q⟩ ⟨hm,hs⟩;replace hs:HY b1 b2 b3 q=(bz e.l q).2:=hs;rw[hs];refine Ai ⟨λ_ _=>trivial,hm,⟨q,rfl⟩⟩ ?_;replace hm:(e.l.n:Int)<=9223372036854775807:=hm;have hle:=BE (g:=λi=>decide ((e.l.c i).kind=q)) (r:=e.l.n) (k:=0);by_cases h:VI (λi=>decide ((e.l.c i).kind=q)) 0 e.l.n<e.l.n
 ·have ei:VO (λi=>decide ((e.l.c i).kind=q)) e.l.n=(VI (λi=>decide ((e.l.c i).kind=q)) 0 e.l.n:Nat):=fZ rfl h;have ec:bz e.l q=(e.l.c (VI (λi=>decide ((e.l.c i).kind=q)) 0 e.l.n),true):=(by unfold bz;rw[UB h]);simp only[ec];refine Ai (λhc=>?_) (λhc=>?_);have hc:decide (VO (λi=>decide ((e.l.c i).kind=q)) e.l.n<0)=true:=hc;rw[ei] at hc;have:=Od hc;omega;refine Ai (show 0<=VO (λi=>decide ((e.l.c i).kind=q)) e.l.n∧VO (λi=>decide ((e.l.c i).kind=q)) e.l.n<(e.l.n:Nat) by rw[ei];omega) ?_;have et:(VO (λi=>decide ((e.l.c i).kind=q)) e.l.n).toNat=VI (λi=>decide ((e.l.c i).kind=q)) 0 e.l.n:=(by rw[ei];rfl);repeat' (first|refine Ai ?_ ?_|(intro _))
  all_goals first|exact rfl|exact Uv (λi=>(e.l.c i).kind) et.symm|exact Uv (λi=>(e.l.c i).v0) et.symm|exact Uv (λi=>(e.l.c i).v1) et.symm|exact Uv (λi=>(e.l.c i).v2) et.symm|exact Uv (λi=>(e.l.c i).v3) et.symm
 have ei:VO (λi=>decide ((e.l.c i).kind=q)) e.l.n = -1:=fR (by omega);have ec:bz e.l q=(aR.no,false):=by unfold bz;rw[UA h]
 simp only[ec];refine Ai (λhc=>?_) (λhc=>?_)
 ·repeat' (first|refine Ai ?_ ?_|intro _|exact rfl)
 have hc:decide (VO (λi=>decide ((e.l.c i).kind=q)) e.l.n<0)=false:=hc;rw[ei] at hc;exact Uw hc (by decide)
noncomputable def vt:UW cx:=ae 132 Tryz.call132 (aD jw (Vm .u8)) (λa=>[(a.1.l.n:Int)<=cB,HY b1 b2 b3 a.2=(bz a.1.l a.2).2]) (λa=>So (HY b1 b2 b3 a.2) (bz a.1.l a.2).1) (λ_=>ai) [] (λ_=>rfl) follows Tryz.func132 (by kernel_rfl) (An b1 b2 b3)
end
set_option maxRecDepth 100000 in
def Hy{α:Type}{Fs:List (Wl cx)}{d:Nat}(Γ:α->List (UW cx))(f:FuncId)(en:∀(args:Array Value) (w:World),(callFunc f args).run cx.P w=.ok (.enter f args) w)(R:ZM α)(pre:α->List Prop)(out:α->SV)(h:α->X1)(fl:List Nat)(XW:∀a,(h a).fl=fl)(hm:cx.P.follows .mixedOrders=true){fn:Func}
  (hf:cx.P.funcs[f]? = some fn) (hB:gG fl fn=true) (he:∀a,aA (pre a)->aH (Γ a) Fs d (h a) fn (R.enc a) λv H _=>af (out a) H v):UW cx:=
 qx f en (dC hf hB) R pre out λa ze W vs ha hG hz hd=>oQ (h a) hm hf (by rw[XW a];exact hB) hG hz hd (he a ha)
def Body.no:Body:=⟨0,0,0,0,0,0,0,false,false⟩
def jl(e:UZ):Bool:=decide ((bz e.l 3).1.v3=1)||!(bz e.l 2).2
def dz(e:UZ):Body:=match jl e with
 | true=>⟨e.iD,(bz e.l 1).1.v0,(bz e.l 1).1.v1,0,0,(bz e.l 3).1.v0,(bz e.l 3).1.v1,decide ((bz e.l 3).1.v2=1),true⟩
 | false=>⟨e.iD,(bz e.l 1).1.v0,(bz e.l 1).1.v1,(bz e.l 2).1.v0,(bz e.l 2).1.v1,(bz e.l 3).1.v0,(bz e.l 3).1.v1,decide ((bz e.l 3).1.v2=1),false⟩
def aK(e:UZ):Body×Bool:=match (bz e.l 1).2&&(bz e.l 3).2 with
 | true=>(dz e,true)
 | false=>(Body.no,false)
theorem Hl:∀a:UZ,aA [(a.l.n:Int)<=cB]->aH (C:=cx) [vt (bz a.l 1).2 (bz a.l 2).2 (bz a.l 3).2] [] 0 ⟨[1002],[],[],0⟩ Tryz.f128 ((bs jw).enc a) λv H _=>af (.tup [(aK a).1.sv,.v (.bool (aK a).2)]) H v:=by
 intro e hm;have h1:(bz e.l 1).2=(bz e.l 1).2:=rfl;have h2:(bz e.l 2).2=(bz e.l 2).2:=rfl;have h3:(bz e.l 3).2=(bz e.l 3).2:=rfl;generalize VN:(bz e.l 1).2=b1 at h1 ⊢;generalize Vz:(bz e.l 2).2=b2 at h2 ⊢;generalize WM:(bz e.l 3).2=b3 at h3 ⊢;clear h1 h2 h3;cases b1<;>cases b2<;>cases b3
 ·have hF:aK e=(Body.no,false):=(by unfold aK;rw[VN,WM];rfl);simp only[hF];refine Ai ⟨λ_ _=>trivial,hm,VN.symm⟩ ?_;refine Ai ⟨λ_ _=>trivial,hm,WM.symm⟩ ?_;refine Ai ⟨λ_ _=>trivial,hm,Vz.symm⟩ ?_;repeat' (first|refine Ai ?_ ?_|intro _|exact rfl)
 ·have hF:aK e=(Body.no,false):=(by unfold aK;rw[VN,WM];rfl);simp only[hF];refine Ai ⟨λ_ _=>trivial,hm,VN.symm⟩ ?_;refine Ai ⟨λ_ _=>trivial,hm,WM.symm⟩ ?_;refine Ai ⟨λ_ _=>trivial,hm,Vz.symm⟩ ?_;repeat' (first|refine Ai ?_ ?_|intro _|exact rfl)
 ·have hF:aK e=(Body.no,false):=(by unfold aK;rw[VN,WM];rfl);simp only[hF];refine Ai ⟨λ_ _=>trivial,hm,VN.symm⟩ ?_;refine Ai ⟨λ_ _=>trivial,hm,WM.symm⟩ ?_;refine Ai ⟨λ_ _=>trivial,hm,Vz.symm⟩ ?_;repeat' (first|refine Ai ?_ ?_|intro _|exact rfl)
 ·have hF:aK e=(Body.no,false):=(by unfold aK;rw[VN,WM];rfl);simp only[hF];refine Ai ⟨λ_ _=>trivial,hm,VN.symm⟩ ?_;refine Ai ⟨λ_ _=>trivial,hm,WM.symm⟩ ?_;refine Ai ⟨λ_ _=>trivial,hm,Vz.symm⟩ ?_;repeat' (first|refine Ai ?_ ?_|intro _|exact rfl)
 ·have hF:aK e=(Body.no,false):=(by unfold aK;rw[VN,WM];rfl);simp only[hF];refine Ai ⟨λ_ _=>trivial,hm,VN.symm⟩ ?_;refine Ai ⟨λ_ _=>trivial,hm,WM.symm⟩ ?_;refine Ai ⟨λ_ _=>trivial,hm,Vz.symm⟩ ?_;repeat' (first|refine Ai ?_ ?_|intro _|exact rfl)
 ·have hF:aK e=(dz e,true):=(by unfold aK;rw[VN,WM];rfl);simp only[hF];refine Ai ⟨λ_ _=>trivial,hm,VN.symm⟩ ?_;refine Ai ⟨λ_ _=>trivial,hm,WM.symm⟩ ?_;refine Ai ⟨λ_ _=>trivial,hm,Vz.symm⟩ ?_;refine Ai (λhc=>?_) (λhc=>?_);have hc:(!(decide ((bz e.l 3).1.v3=1)||true))=true:=hc;simp at hc;have hV:dz e=⟨e.iD,(bz e.l 1).1.v0,(bz e.l 1).1.v1,0,0,(bz e.l 3).1.v0,(bz e.l 3).1.v1,decide ((bz e.l 3).1.v2=1),true⟩:=(by unfold dz jl;rw[Vz,Bool.not_false,Bool.or_true]);simp only[hV];repeat' (first|refine Ai ?_ ?_|intro _|exact rfl)
  all_goals exact(Bool.or_true _).symm
 ·have hF:aK e=(Body.no,false):=(by unfold aK;rw[VN,WM];rfl);simp only[hF];refine Ai ⟨λ_ _=>trivial,hm,VN.symm⟩ ?_;refine Ai ⟨λ_ _=>trivial,hm,WM.symm⟩ ?_;refine Ai ⟨λ_ _=>trivial,hm,Vz.symm⟩ ?_;repeat' (first|refine Ai ?_ ?_|intro _|exact rfl)
 have hF:aK e=(dz e,true):=by unfold aK;rw[VN,WM];rfl
 simp only[hF];refine Ai ⟨λ_ _=>trivial,hm,VN.symm⟩ ?_;refine Ai ⟨λ_ _=>trivial,hm,WM.symm⟩ ?_;refine Ai ⟨λ_ _=>trivial,hm,Vz.symm⟩ ?_;refine Ai (λhc=>?_) (λhc=>?_)
 ·have hc:(!(decide ((bz e.l 3).1.v3=1)||false))=true:=hc;have hd:decide ((bz e.l 3).1.v3=1)=false:=(by simpa using hc);have hV:dz e=⟨e.iD,(bz e.l 1).1.v0,(bz e.l 1).1.v1,(bz e.l 2).1.v0,(bz e.l 2).1.v1,(bz e.l 3).1.v0,(bz e.l 3).1.v1,decide ((bz e.l 3).1.v2=1),false⟩:=(by unfold dz jl;rw[Vz,Bool.not_true,hd];rfl);simp only[hV];repeat' (first|refine Ai ?_ ?_|intro _|exact rfl)
  all_goals (refine UR (b:=decide ((bz e.l 3).1.v3=1)||false) ?_ rfl;rw[hd];rfl)
 have hc:(!(decide ((bz e.l 3).1.v3=1)||false))=false:=hc;have hd:decide ((bz e.l 3).1.v3=1)=true:=by simpa using hc
 have hV:dz e=⟨e.iD,(bz e.l 1).1.v0,(bz e.l 1).1.v1,0,0,(bz e.l 3).1.v0,(bz e.l 3).1.v1,decide ((bz e.l 3).1.v2=1),true⟩:=by unfold dz jl;rw[Vz,Bool.not_true,hd];rfl
 simp only[hV];repeat' (first|refine Ai ?_ ?_|intro _|exact rfl)
 all_goals (refine UR (b:=decide ((bz e.l 3).1.v3=1)||false) ?_ rfl;rw[hd];rfl)
noncomputable def xi:UW cx:=Hy (Fs:=[]) (d:=0) (λa:UZ=>[vt (bz a.l 1).2 (bz a.l 2).2 (bz a.l 3).2]) 128 Tryz.call128 (bs jw) (λa=>[(a.l.n:Int)<=cB]) (λa=>.tup [(aK a).1.sv,.v (.bool (aK a).2)]) (λ_=>⟨[1002],[],[],0⟩) [1002] (λ_=>rfl) follows Tryz.func128 (by kernel_rfl) Hl
def tS:Nat->List SV->List SV
 | 0,l=>l
 | k+1,l=>tS k (Vw l)
def aS(k:Nat)(x:SV):SV:=VP (tS k x.al)
def PR:SV:=.rs 2 0 λ_=>II
structure gV where
 a:Int
 b:Int
 len:Int
def gV.cells(b:gV):List SV:=[.v (.int .i64 b.a),.v (.int .i64 b.b),.v (.int .i64 b.len)]
def gV.sv(b:gV):SV:=.agg b.cells
def gV.of(x:SV):gV:=⟨(aS 0 x).iv,(aS 1 x).iv,(aS 2 x).iv⟩
def yk:List SV:=[.v (.int .i64 0),.v (.int .i64 0),.v (.int .i64 0)]
def vX:Rd gV:=⟨.agg yk,gV.of,gV.sv,λ_=>rfl⟩
structure Xx where
 n:Nat
 e:Nat->gV
def Xx.sv(l:Xx):SV:=.rs 3 l.n λi=>(l.e i).cells
def Xx.of(x:SV):Xx:=⟨x.rn,λi=>gV.of (.agg (x.rf i))⟩
def v9:SV:=.rs 3 0 λ_=>yk
def gW:Rd Xx:=⟨v9,Xx.of,Xx.sv,λ_=>rfl⟩
structure Inp where
 client:Int
 seq:Int
 tick:Int
 moveX:Int
 moveY:Int
 fire:Bool
 aimX:Int
 aimY:Int
 seen:Int
 part:Int
def Inp.cells(b:Inp):List SV:=[.v (.int .i64 b.client),.v (.int .i64 b.seq),.v (.int .i64 b.tick),.v (.int .i64 b.moveX),.v (.int .i64 b.moveY),.v (.bool b.fire),.v (.int .i64 b.aimX),.v (.int .i64 b.aimY),.v (.int .i64 b.seen),.v (.int .i64 b.part)]
def Inp.sv(b:Inp):SV:=.agg b.cells
def Inp.of(x:SV):Inp:=⟨(aS 0 x).iv,(aS 1 x).iv,(aS 2 x).iv,(aS 3 x).iv,(aS 4 x).iv,(aS 5 x).bv,(aS 6 x).iv,(aS 7 x).iv,(aS 8 x).iv,(aS 9 x).iv⟩
def De:List SV:=[.v (.int .i64 0),.v (.int .i64 0),.v (.int .i64 0),.v (.int .i64 0),.v (.int .i64 0),.v (.bool false),.v (.int .i64 0),.v (.int .i64 0),.v (.int .i64 0),.v (.int .i64 0)]
def OU:Rd Inp:=⟨.agg De,Inp.of,Inp.sv,λ_=>rfl⟩
structure cm where
 n:Nat
 e:Nat->Inp
def cm.sv(l:cm):SV:=.rs 10 l.n λi=>(l.e i).cells
def cm.of(x:SV):cm:=⟨x.rn,λi=>Inp.of (.agg (x.rf i))⟩
def Mv:SV:=.rs 10 0 λ_=>De
def jO:Rd cm:=⟨Mv,cm.of,cm.sv,λ_=>rfl⟩
structure uy where
 name:SV
 reads:Int
 writes:Int
 prog:Int
def uy.cells(b:uy):List SV:=[b.name,.v (.int .u32 b.reads),.v (.int .u32 b.writes),.v (.int .i64 b.prog)]
def uy.of(x:SV):uy:=⟨(aS 0 x),(aS 1 x).iv,(aS 2 x).iv,(aS 3 x).iv⟩
def IG:List SV:=[.e,.v (.int .u32 0),.v (.int .u32 0),.v (.int .i64 0)]
structure tW where
 n:Nat
 e:Nat->uy
def tW.sv(l:tW):SV:=.rs 4 l.n λi=>(l.e i).cells
def tW.of(x:SV):tW:=⟨x.rn,λi=>uy.of (.agg (x.rf i))⟩
def v8:SV:=.rs 4 0 λ_=>IG
def Bi:Rd tW:=⟨v8,tW.of,tW.sv,λ_=>rfl⟩
structure Ins where
 op:Int
 a:Int
def Ins.cells(b:Ins):List SV:=[.v (.int .u8 b.op),.v (.int .i64 b.a)]
def Ins.of(x:SV):Ins:=⟨(aS 0 x).iv,(aS 1 x).iv⟩
def Mt:List SV:=[.v (.int .u8 0),.v (.int .i64 0)]
structure Ha where
 n:Nat
 e:Nat->Ins
def Ha.sv(l:Ha):SV:=.rs 2 l.n λi=>(l.e i).cells
def Ha.of(x:SV):Ha:=⟨x.rn,λi=>Ins.of (.agg (x.rf i))⟩
def Mu:SV:=.rs 2 0 λ_=>Mt
structure Prg where
 code:Ha
 locals:Int
 reads:Int
 writes:Int
def Prg.cells(b:Prg):List SV:=[b.code.sv,.v (.int .i64 b.locals),.v (.int .u32 b.reads),.v (.int .u32 b.writes)]
def Prg.of(x:SV):Prg:=⟨Ha.of (aS 0 x),(aS 1 x).iv,(aS 2 x).iv,(aS 3 x).iv⟩
def Mr:List SV:=[Mu,.v (.int .i64 0),.v (.int .u32 0),.v (.int .u32 0)]
structure xv where
 n:Nat
 e:Nat->Prg
def xv.sv(l:xv):SV:=.rs 4 l.n λi=>(l.e i).cells
def xv.of(x:SV):xv:=⟨x.rn,λi=>Prg.of (.agg (x.rf i))⟩
def Dg:SV:=.rs 4 0 λ_=>Mr
structure Yc where
 systems:tW
 progs:xv
 seed:Int
 fuel:Int
def Yc.cells(b:Yc):List SV:=[b.systems.sv,b.progs.sv,.v (.int .u64 b.seed),.v (.int .i64 b.fuel)]
def Yc.sv(b:Yc):SV:=.agg b.cells
def Yc.of(x:SV):Yc:=⟨tW.of (aS 0 x),xv.of (aS 1 x),(aS 2 x).iv,(aS 3 x).iv⟩
def Mp:List SV:=[v8,Dg,.v (.int .u64 0),.v (.int .i64 0)]
def sj:Rd Yc:=⟨.agg Mp,Yc.of,Yc.sv,λ_=>rfl⟩
structure VD where
 areaLowX:Int
 areaLowY:Int
 areaHighX:Int
 areaHighY:Int
 wTick:Int
 wEntities:V3
 setupSystems:tW
 setupProgs:xv
 setupSeed:Int
 setupFuel:Int
 ropes:Xx
 gravityX:Int
 gravityY:Int
def VD.cells(b:VD):List SV:=[.v (.int .i64 b.areaLowX),.v (.int .i64 b.areaLowY),.v (.int .i64 b.areaHighX),.v (.int .i64 b.areaHighY),.v (.int .i64 b.wTick),b.wEntities.sv,b.setupSystems.sv,b.setupProgs.sv,.v (.int .u64 b.setupSeed),.v (.int .i64 b.setupFuel),b.ropes.sv,.v (.int .i64 b.gravityX),.v (.int .i64 b.gravityY)]
def VD.sv(b:VD):SV:=.agg b.cells
def VD.of(x:SV):VD:=⟨(aS 0 x).iv,(aS 1 x).iv,(aS 2 x).iv,(aS 3 x).iv,(aS 4 x).iv,V3.of (aS 5 x),tW.of (aS 6 x),xv.of (aS 7 x),(aS 8 x).iv,(aS 9 x).iv,Xx.of (aS 10 x),(aS 11 x).iv,(aS 12 x).iv⟩
def Mo:List SV:=[.v (.int .i64 0),.v (.int .i64 0),.v (.int .i64 0),.v (.int .i64 0),.v (.int .i64 0),PR,v8,Dg,.v (.int .u64 0),.v (.int .i64 0),v9,.v (.int .i64 0),.v (.int .i64 0)]
def iH:Rd VD:=⟨.agg Mo,VD.of,VD.sv,λ_=>rfl⟩
structure Flt where
 unitSystem:Int
 unitID:Int
 e:Int
def Flt.cells(b:Flt):List SV:=[.v (.int .i64 b.unitSystem),.v (.int .i64 b.unitID),.v (.int .i64 b.e)]
structure Ru where
 n:Nat
 e:Nat->Flt
def Ru.sv(l:Ru):SV:=.rs 3 l.n λi=>(l.e i).cells
structure Stop where
 iD:Int
 along:Int
 byI:Int
def Stop.cells(b:Stop):List SV:=[.v (.int .i64 b.iD),.v (.int .u8 b.along),.v (.int .i64 b.byI)]
structure jK where
 n:Nat
 e:Nat->Stop
def jK.sv(l:jK):SV:=.rs 3 l.n λi=>(l.e i).cells
structure Rep where
 faults:Ru
 stops:jK
 gone:X2
def Rep.cells(b:Rep):List SV:=[b.faults.sv,b.stops.sv,.rs 1 b.gone.n λi=>[.v (.int .i64 (b.gone.g i))]]
def Rep.sv(b:Rep):SV:=.agg b.cells
def TX:List SV:=[.v (.int .i64 0),.v (.int .i64 0),.v (.int .i64 0),.v (.int .i64 0),.v (.int .i64 0),.v (.int .i64 0),.v (.int .i64 0),.v (.bool false),.v (.bool false)]
structure X3 where
 n:Nat
 e:Nat->Body
def X3.sv(l:X3):SV:=.rs 9 l.n λi=>(l.e i).cells
def X3.of(x:SV):X3:=⟨x.rn,λi=>Body.of (.agg (x.rf i))⟩
def Bo:SV:=.rs 9 0 λ_=>TX
def jy:Rd X3:=⟨Bo,X3.of,X3.sv,λ_=>rfl⟩
structure VT where
 bodies:X3
 ropes:Xx
 gravityX:Int
 gravityY:Int
def VT.cells(b:VT):List SV:=[b.bodies.sv,b.ropes.sv,.v (.int .i64 b.gravityX),.v (.int .i64 b.gravityY)]
def VT.sv(b:VT):SV:=.agg b.cells
def VT.of(x:SV):VT:=⟨X3.of (aS 0 x),Xx.of (aS 1 x),(aS 2 x).iv,(aS 3 x).iv⟩
def Mq:List SV:=[Bo,v9,.v (.int .i64 0),.v (.int .i64 0)]
def lq:Rd VT:=⟨.agg Mq,VT.of,VT.sv,λ_=>rfl⟩
structure UY where
 sBodies:X3
 sRopes:Xx
 sGravityX:Int
 sGravityY:Int
 bID:Int
 bPosX:Int
 bPosY:Int
 bVelX:Int
 bVelY:Int
 bW:Int
 bH:Int
 bRound:Bool
 bFixed:Bool
 axis:Int
 sign:Int
def UY.cells(b:UY):List SV:=[b.sBodies.sv,b.sRopes.sv,.v (.int .i64 b.sGravityX),.v (.int .i64 b.sGravityY),.v (.int .i64 b.bID),.v (.int .i64 b.bPosX),.v (.int .i64 b.bPosY),.v (.int .i64 b.bVelX),.v (.int .i64 b.bVelY),.v (.int .i64 b.bW),.v (.int .i64 b.bH),.v (.bool b.bRound),.v (.bool b.bFixed),.v (.int .i64 b.axis),.v (.int .i64 b.sign)]
def UY.sv(b:UY):SV:=.agg b.cells
def UY.of(x:SV):UY:=⟨X3.of (aS 0 x),Xx.of (aS 1 x),(aS 2 x).iv,(aS 3 x).iv,(aS 4 x).iv,(aS 5 x).iv,(aS 6 x).iv,(aS 7 x).iv,(aS 8 x).iv,(aS 9 x).iv,(aS 10 x).iv,(aS 11 x).bv,(aS 12 x).bv,(aS 13 x).iv,(aS 14 x).iv⟩
def Ms:List SV:=[Bo,v9,.v (.int .i64 0),.v (.int .i64 0),.v (.int .i64 0),.v (.int .i64 0),.v (.int .i64 0),.v (.int .i64 0),.v (.int .i64 0),.v (.int .i64 0),.v (.int .i64 0),.v (.bool false),.v (.bool false),.v (.int .i64 0),.v (.int .i64 0)]
def uN:Rd UY:=⟨.agg Ms,UY.of,UY.sv,λ_=>rfl⟩
def aP(l:V3)(k:Nat):List Body:=cW (λi=>(aK (l.e i)).1) (λi=>(aK (l.e i)).2) k
def eD(L:List Body)(i:Nat):Body:=L.getD i Body.no
def Hp:List SV:=[.v (.slice none 0 0),.v (.slice none 0 0),.il .i64 0,.il .i64 0]
def Tg(l:V3)(r:Xx)(x y:Int):Cut:=⟨Nat,λk=>k<=l.n,λk=>⟨[sl 1 r.sv,sl 6 (.p 2 0),sl 7 (.p 3 0),sl 18 l.sv,sl 19 (i64 l.n),sl 20 (i64 k)],
 [(2,.lay Hp 161),(3,.lay [.g 4 5 9 0 (aP l k).length,.v (.slice none 0 0),.v (.int .i64 x),.v (.int .i64 y)] 161),(4,.lst 5 9 (aP l k).length (λi=>(eD (aP l k) i).cells) 209)],6,0,[],[]⟩,λk=>l.n-k⟩
set_option maxHeartbeats 2000000 in
set_option maxRecDepth 8000 in
theorem AF:∀a,aA ((λa=>[a.1.l.Sm,a.1.l.n<=1000,a.2.1.n=0]) a)->aH (C:=cx) [xi] [] 0 ⟨[],[],[3],1⟩ Tryz.f81 ((eU cY gW dS).enc a) λv H _=>fY ((λa=>.agg [.rs 9 (aP a.1.l a.1.l.n).length (λi=>(eD (aP a.1.l a.1.l.n) i).cells),.v (.slice none 0 0),.v (.int .i64 a.2.2.x),.v (.int .i64 a.2.2.y)]) a) H v:=by
 intro⟨w,r,g⟩ ⟨hm,hn,hr⟩;replace hr:r.n=0:=hr;replace hm:w.l.Sm:=hm;replace hn:w.l.n<=1000:=hn;refine T' (Tg w.l r g.x g.y) ?_;refine Ai ?_ ?_
 ·refine⟨(0:Nat),[],[.cell2 3 0 9 209],trivial,Up _,?_⟩;repeat' (first|refine Ai ?_ ?_|intro _|exact rfl)
  all_goals exact Uw ‹_<0› (F' _)
 refine fun(k:Nat) (hk:k<=w.l.n)=>?_;refine Ai (λhb=>?_) (λhb=>?_)
 ·have hb:(k:Int)<w.l.n:=Od hb;have Yv:((w.l.e k).l.n:Int)<=cB:=(hm.2 k (by omega)).1;refine Ai ⟨by omega,by omega⟩ ?_;refine Ai ⟨λ_ _=>trivial,Yv⟩ ?_;refine Ai (λhc=>?_) (λhc=>?_)
  ·have hc:(aK (w.l.e k)).2=true:=hc;have hlen:=gC (f:=λi=>(aK (w.l.e i)).1) (g:=λi=>(aK (w.l.e i)).2) k;have ey:=fJ (f:=λi=>(aK (w.l.e i)).1) (g:=λi=>(aK (w.l.e i)).2) hc;have em:∀i,i<(aP w.l k).length+1->eD (aP w.l (k+1)) i=bif Nat.ble (aP w.l k).length i then(aK (w.l.e k)).1 else eD (aP w.l k) i:=λi hi=>(Uv (λl=>eD l i) ey).trans (O3 _ _ hi);have Vv:gQ ((aP w.l k).length+1) 64:=⟨Nat.le_trans (by unfold aP;omega:(aP w.l k).length+1<=1001) (by decide),by unfold aP;omega⟩
   refine Ai ⟨Vv,λ_ _ _=>⟨rfl,rfl,rfl,rfl,rfl,rfl,rfl,trivial,trivial,trivial⟩⟩ ?_;refine Ai (by unfold U1;omega:U1 ((k:Int)+1)) ?_;refine⟨k+1,[(5,9)],[],(by show w.l.n-(k+1)<w.l.n-k;omega),(by omega:k+1<=w.l.n),?_⟩;repeat' (first|refine Ai ?_ ?_|intro _|exact rfl)
   all_goals first|exact(Uv List.length ey).trans List.length_append|exact(Uv Body.iD (em _ ‹_›)).trans (bp Body.iD)|exact(Uv Body.posX (em _ ‹_›)).trans (bp Body.posX)|exact(Uv Body.posY (em _ ‹_›)).trans (bp Body.posY)|exact(Uv Body.velX (em _ ‹_›)).trans (bp Body.velX)|exact(Uv Body.velY (em _ ‹_›)).trans (bp Body.velY)|exact(Uv Body.w (em _ ‹_›)).trans (bp Body.w)|exact(Uv Body.h (em _ ‹_›)).trans (bp Body.h)|exact(Uv Body.round (em _ ‹_›)).trans (bp Body.round)|exact(Uv Body.fixed (em _ ‹_›)).trans (bp Body.fixed)
  have hc:(aK (w.l.e k)).2=false:=hc;have ey:=iq (f:=λi=>(aK (w.l.e i)).1) (g:=λi=>(aK (w.l.e i)).2) hc;refine Ai (by unfold U1;omega:U1 ((k:Int)+1)) ?_;refine⟨k+1,[],[],(by show w.l.n-(k+1)<w.l.n-k;omega),(by omega:k+1<=w.l.n),?_⟩;repeat' (first|refine Ai ?_ ?_|intro _|exact rfl)
  all_goals first|exact Uv List.length ey|exact Uv (λl=>(eD l _).iD) ey|exact Uv (λl=>(eD l _).posX) ey|exact Uv (λl=>(eD l _).posY) ey|exact Uv (λl=>(eD l _).velX) ey|exact Uv (λl=>(eD l _).velY) ey|exact Uv (λl=>(eD l _).w) ey|exact Uv (λl=>(eD l _).h) ey|exact Uv (λl=>(eD l _).round) ey|exact Uv (λl=>(eD l _).fixed) ey
 have hb:¬(k:Int)<w.l.n:=Uy hb;obtain rfl:k=w.l.n:=by omega
 refine Ai (λh=>Uw (show (0:Int)<r.n from Od h) (by omega)) (λ_=>?_);refine Ai (λ_ _=>rfl) ?_;repeat' (first|refine Ai ?_ ?_|intro _|exact rfl)
 all_goals first|exact Uv (λi=>(eD (aP w.l w.l.n) i).iD) (B' _).symm|exact Uv (λi=>(eD (aP w.l w.l.n) i).posX) (B' _).symm|exact Uv (λi=>(eD (aP w.l w.l.n) i).posY) (B' _).symm|exact Uv (λi=>(eD (aP w.l w.l.n) i).velX) (B' _).symm|exact Uv (λi=>(eD (aP w.l w.l.n) i).velY) (B' _).symm|exact Uv (λi=>(eD (aP w.l w.l.n) i).w) (B' _).symm|exact Uv (λi=>(eD (aP w.l w.l.n) i).h) (B' _).symm|exact Uv (λi=>(eD (aP w.l w.l.n) i).round) (B' _).symm|exact Uv (λi=>(eD (aP w.l w.l.n) i).fixed) (B' _).symm
noncomputable def Gh:UW cx:=jT 81 Tryz.call81 (eU cY gW dS) _ _ (λ_=>⟨[],[],[3],1⟩) [] (λ_=>rfl) follows Tryz.func81 (by kernel_rfl) AF
end Go.Proofs.YtgigkennhdolpaaGreatDoor
namespace Go.Proofs.YtgigkennhdolpaaGreatDoor
open Go.Conc
inductive Gs (P:Program) (Q:Goroutine->World->Prop):Goroutine->World->Prop where
 | stop {g W} (h:Q g W):Gs P Q g W
 | step {g W} (hs:g.status=.running) (G':World->Goroutine) (W':World->World) (h:∀W1,Rv W W1->EE P g W1 (G' W1) (W' W1)) (k:∀W1,Rv W W1->Gs P Q (G' W1) (W' W1)):Gs P Q g W
section
variable {P:Program}{Q Q':Goroutine->World->Prop}{g:Goroutine}{W W1:World}
theorem Gs.go(hs:g.status=.running)(h:∀W1,Rv W W1->∃g' W',EE P g W1 g' W'∧Gs P Q g' W'):Gs P Q g W:=by
 classical
 refine .step hs (λW1=>if r:Rv W W1 then(h W1 r).choose else g) (λW1=>if r:Rv W W1 then(h W1 r).choose_spec.choose else W1) (λW1 r=>?_) λW1 r=>?_;simp only[dif_pos r];exact(h W1 r).choose_spec.choose_spec.1;simp only[dif_pos r];exact(h W1 r).choose_spec.choose_spec.2
theorem Gs.later(hQ:∀{g W W1},Q g W->Rv W W1->Q g W1)(h:Gs P Q g W)(r:Rv W W1):Gs P Q g W1:=by
 cases h with
 | stop h=>exact .stop (hQ h r)
 | step hs G' W' h k=>exact .step hs G' W' (λW2 r2=>h W2 (r.trans r2)) λW2 r2=>k W2 (r.trans r2)
theorem dh(hQ:∀{g W W1},Q g W->Rv W W1->Q g W1):Closed P false (Gs P Q) where
 par:=λe=>by cases e
 mono:=λh r=>h.later hQ r
 step:=λhs h=>.go hs h
theorem Gs.mono(h:Gs P Q g W)(k:∀g W,Q g W->Q' g W):Gs P Q' g W:=by
 induction h with
 | stop h=>exact .stop (k _ _ h)
 | step hs G' W' h _ ih=>exact .step hs G' W' h ih
end
end Go.Proofs.YtgigkennhdolpaaGreatDoor
namespace Go.Proofs.YtgigkennhdolpaaGreatDoor
open Go.Conc
def World.behind(W w':World):World:={w' with heap:=W.heap++(Array.replicate (w'.heap.size-W.heap.size) (Obj.cells #[] 0 (0,0)))}
section
variable {S R:Nat->Prop}{w w' W:World}
theorem View.other(h:View S R w W)(hs:w.heap.size<=w'.heap.size)(hb:∀b:Nat,b<w.heap.size->¬S b->w'.heap[b]? = w.heap[b]?)(ho:w'.os=w.os)(ht:w'.tape=w.tape)(hp:w'.output=w.output)(hR:∀b,R b->b<w.heap.size) :
  ∃W',Rv W W'∧View (λb=>S b∨(w.heap.size<=b∧b<w'.heap.size)) R w' W':=by
 have hz:=h.size;refine⟨World.behind W w',⟨?_,?_,?_,λb o e=>?_⟩,⟨rfl,rfl,rfl,rfl,?_,λb h1 h2=>?_,λb h1 h2=>?_,λb h1=>?_,λb o e=>?_⟩⟩;show w'.os=W.os;rw[ho,h.os];show w'.tape=W.tape;rw[ht,h.tape];show w'.output=W.output;rw[hp,h.output];have hl:=(E'.1 e).1;show (W.heap++_)[b]? = some o;rw[Array.getElem?_append_left hl];exact e;show w'.heap.size=(W.heap++_).size;simp;omega;show w'.heap[b]? = (W.heap++_)[b]?;have n1:¬S b:=λx=>h1 (.inl x);by_cases hl:b<w.heap.size;rw[Array.getElem?_append_left (by omega),<-h.same b n1 h2];exact hb b hl n1;have hl':¬b<w'.heap.size:=λx=>h1 (.inr ⟨by omega,x⟩);rw[Array.getElem?_eq_none (by omega),Array.getElem?_eq_none (by simp;omega)];have n1:¬S b:=λx=>h1 (.inl x);have hl:=hR b h2;obtain⟨cs,t,fr,hi,q1,q2,q3⟩:=h.lent b n1 h2;refine⟨cs,t,fr,hi,(hb b hl n1).trans q1,?_,q3⟩;show (W.heap++_)[b]? = _;rw[Array.getElem?_append_left (by omega)];exact q2
 ·show (W.heap++_)[b]? = _;rcases h1 with h1|⟨h1,h2⟩
  have hl:=h.low (.inl h1);rw[Array.getElem?_append_left hl];exact h.pois b h1;rw[Array.getElem?_append_right (by omega),Array.getElem?_replicate,UD (by omega)]
 have e:(W.heap++Array.replicate (w'.heap.size-W.heap.size) (Obj.cells #[] 0 (0,0)))[b]? = some o:=e;by_cases hl:b<W.heap.size;rw[Array.getElem?_append_left hl] at e;exact h.plain b o e;rw[Array.getElem?_append_right (by omega),Array.getElem?_replicate] at e;split at e;obtain rfl:=Oi e;trivial;cases e
theorem View.beside{S2 R2:Nat->Prop}(h:View S R w W)(k:eO S2 R2 w w')(hd:∀b:Nat,b<w.heap.size->S b∨S2 b∨R2 b)(hR:∀b,R b->b<w.heap.size) :
  ∃W',Rv W W'∧View (λb=>S b∨(w.heap.size<=b∧b<w'.heap.size)) R w' W':=
 h.other k.size (λb hl hn=>k.same b ((hd b hl).resolve_left hn)) k.os k.tape k.output hR
end
end Go.Proofs.YtgigkennhdolpaaGreatDoor
namespace Go.Proofs.YtgigkennhdolpaaGreatDoor
open Go.Conc
inductive Rk where
 | leaf
 | mk (f:World->Rk)
instance:Inhabited Rk:=⟨.leaf⟩
def Rk.Sub(p:Rk):Rk->Prop
 | .leaf=>False
 | .mk f=>∃W,p=f W
theorem Rk.wf:∀r:Rk,Acc Rk.Sub r
 | .leaf=>⟨_,λ_ h=>h.elim⟩
 | .mk f=>⟨_,λ_ ⟨W,e⟩=>e▸Rk.wf (f W)⟩
def Low(n:Nat)(p q:Nat->Rk):Prop:=∃i,i<n∧(p i).Sub (q i)∧∀j,j≠i->p j=q j
theorem MQ:∀(n:Nat) (q:Nat->Rk),Acc (Low n) q:=by
 intro n
 induction n with
 | zero=>exact λq=>⟨_,λp ⟨i,h,_⟩=>Uw h (F' i)⟩
 | succ n ih=>
  have key:∀r:Rk,∀q:Nat->Rk,q n=r->Acc (Low (n+1)) q:=by
   intro r
   induction Rk.wf r with
   | intro r _ ihr=>
    intro q
    induction ih q with
    | intro q _ ihq=>
     intro hq;refine⟨_,λp ⟨i,hi,h1,h2⟩=>?_⟩;by_cases hn:i=n;subst hn;exact ihr (p i) (hq▸h1) p rfl;exact ihq p ⟨i,by omega,h1,h2⟩ ((h2 n (Ne.symm hn)).trans hq)
  exact λq=>key (q n) q rfl
def Xd(P:Program)(Q:Goroutine->World->Prop):Rk->Goroutine->World->Prop
 | .leaf,g,W=>Q g W
 | .mk f,g,W=>g.status=.running∧∀W1,Rv W W1->∃g' W',EE P g W1 g' W'∧Xd P Q (f W1) g' W'
section
variable {P:Program}{Q:Goroutine->World->Prop}{g:Goroutine}{W W1:World}{r:Rk}
theorem Gs.dU(h:Gs P Q g W):∃r,Xd P Q r g W:=by
 classical
 induction h with
 | stop h=>exact⟨.leaf,h⟩
 | @step g W hs G' W' h k ih=>
  refine⟨.mk λW1=>if r:Rv W W1 then(ih W1 r).choose else .leaf,hs,λW1 r=>⟨G' W1,W' W1,h W1 r,?_⟩⟩;simp only[dif_pos r];exact(ih W1 r).choose_spec
theorem Xd.later(hQ:∀{g W W1},Q g W->Rv W W1->Q g W1)(h:Xd P Q r g W)(k:Rv W W1):Xd P Q r g W1:=by
 cases r with
 | leaf=>exact hQ h k
 | mk f=>exact⟨h.1,λW2 h2=>h.2 W2 (k.trans h2)⟩
end
end Go.Proofs.YtgigkennhdolpaaGreatDoor
namespace Go.Proofs.YtgigkennhdolpaaGreatDoor
open Go.Conc
open Go.ConcN (sumTo upd sumTo_upd upd_ne upd_same)
theorem E2{P:Program}{m m':Machine}{M:Nat}(h:step P m=.next m'):runN P (M+1) m=runN P M m':=by show (match step P m with|.next m=>runN P M m|e=>e)=_;rw[h]
theorem Ends.next{P:Program}{Φ:Value->World->Prop}{m m':Machine}{t:Trace}{ops:Array MemOp}(hs:stepT P m=(.next m',ops))(h:Ends P Φ m' (t++ops)):Ends P Φ m t:=by obtain⟨M,last,o,w',t',h1,h2,h3,h4⟩:=h;refine⟨M+1,last,o,w',t',?_,?_,h3,h4⟩;rw[runNT_succ_next hs];exact h1;rw[E2 (show step P m=.next m' by unfold step;rw[hs])];exact h2
section
variable {P:Program}{Φ:Value->World->Prop}{w00:World}{S0 S:Nat->Prop}
theorem View.at_{R:Nat->Prop}{w W:World}(h:View S R w W)(d:Nat):View S R (w.at d) (W.at d):=⟨h.tape,rfl,h.os,h.output,h.size,h.same,h.lent,h.pois,h.plain⟩
theorem Rv.at_(W:World)(d:Nat):Rv W (W.at d):=⟨rfl,rfl,rfl,λ_ _ h=>h⟩
theorem JQ{Xv:Loc->Prop}(Wi:∀l,Xv l->∃a:Addr,l=.cell a∧S a.block){n:Nat}{e:Event}{R:Nat->Prop}(h:EvS S R n e):EvL Xv n e:=by
 obtain⟨loc,wr,sy⟩:=e;cases loc with
 | cell a=>
  obtain⟨h1,h2,-⟩:=h;refine⟨λx hx hs=>?_,(by simp),(by simp),h2⟩;have:x.loc=.cell a:=(by simp only[MemAct.ofEvent,MemAct.touch?,Option.some.injEq] at hx;rw[<-hx]);obtain⟨a',e1,e2⟩:=Wi _ hs;rw[this] at e1;injection e1 with e1;exact Uw (e1▸e2) h1
 | obj r=>
  obtain⟨h1,h2,-⟩:=h;have key:∀x,(MemAct.ofEvent {loc:=Loc.obj r,write:=wr,sync:=sy}).touch? = some x->¬Xv x.loc:=λx hx hs=>(by have:x.loc=.obj r:=(by cases wr<;>cases sy<;>simp[MemAct.ofEvent,MemAct.touch?] at hx<;>rw[<-hx]);obtain⟨a',e1,e2⟩:=Wi _ hs;rw[this] at e1;cases e1);refine⟨λx hx hs=>Uw hs (key x hx),?_,?_,?_⟩<;>cases wr<;>cases sy<;>first|exact h2|simp[MemAct.ofEvent]|simp[MemAct.ofEvent,MemAct.low,h2]
 | mark m=>
  have h:m=.noRoom:=h;subst h;exact⟨λx hx=>by simp[MemAct.ofEvent,MemAct.touch?] at hx,by simp,by simp,trivial⟩
 | output=>exact h.elim
 | goroutines=>exact h.elim
theorem mu{t u:Trace}(h:∀(k:Nat) (a:Addr),t.act? k≠some (.mark (.release a)))(hu:∀op∈u,∀a:Addr,op.act≠.mark (.release a)):∀(k:Nat) (a:Addr),(t++u).act? k≠some (.mark (.release a)):=λk a e=>by
 obtain⟨op,ho,hoa⟩:=Option.map_eq_some_iff.1 e;rcases getElem?_append_cases ho with ⟨_,WC⟩|⟨_,hou⟩
 exact h k a (by rw[act?_of WC,hoa]);exact hu op hou a hoa
theorem vk{R:Nat->Prop}{n:Nat}{e:Event}(h:EvS S R n e)(a:Addr):MemAct.ofEvent e≠.mark (.release a):=by
 obtain⟨loc,wr,sy⟩:=e;cases loc with
 | cell b=>simp[MemAct.ofEvent]
 | obj r=>cases wr<;>cases sy<;>simp[MemAct.ofEvent]
 | mark m=>
  have h:m=.noRoom:=h;subst h;simp[MemAct.ofEvent]
 | output=>exact h.elim
 | goroutines=>exact h.elim
theorem sJ{e:Event}(h:Event.mute e=true)(a:Addr):MemAct.ofEvent e≠.mark (.release a):=by
 obtain⟨loc,wr,sy⟩:=e;cases loc with
 | mark m=>cases m<;>simp[Event.mute] at h<;>simp[MemAct.ofEvent]
 | _=>simp[Event.mute] at h
theorem mJ{co:Bool} : Closed P co (Er P Φ w00 S0) where
 par:=λ_ f args W R h cs hc=>h Φ w00 S0 cs hc
 mono:=λh k W1 h1=>h W1 (k.trans h1)
 step:=by
  intro g W U6 Ww W1 h1 hz S w gs sl t hv Yg h0 hB;obtain⟨⟨q,hL⟩,⟨Xv,hP,Wi⟩,hqt⟩:=hB;obtain⟨M,hM⟩:∃M,sumTo gs.size q<=M:=⟨_,I' _⟩
  induction M using Nat.strongRecOn generalizing gs w W1 sl t q with
  | ind M ih=>
   have haw:∀g∈gs,awake g:=(by intro x hg;obtain⟨i,hi,rfl⟩:=Array.mem_iff_getElem.1 hg;rcases Nat.eq_zero_or_pos i with rfl|Y9;have:gs[0]=g:=(by simpa[Uq hi] using h0);rw[this];exact awake_of (.inl U6);exact awake_of ((hL.old i _ Y9 (Uq hi)).status.elim .inl λx=>.inr (.inr x)));obtain⟨i,g2,d,Xr,hi,hg,U7⟩:=crowd_pick (P:=P) (w:=w) (sl:=sl) haw ⟨0,g,h0,U6⟩;rcases Nat.eq_zero_or_pos i with rfl|Y9;obtain rfl:g2=g:=(by rw[h0] at hi;exact(Oi hi).symm);obtain⟨g',W',hV,hE⟩:=Ww (W1.at d) (h1.trans (Rv.at_ W1 d));obtain⟨w',es,hgo,hv',hk,XL⟩:=hV true S (λ_=>False) (w.at d) (hv.at_ d);have Yt:=runT_crowd_go (P:=P) (sl:=Xr) (i:=0) hi (show stepG P (0==0) g2 (w.at d)=_ from hgo);have U8:0<gs.size:=(E'.1 h0).1;refine Ends.next (U7.trans Yt) (hE W' (Rv.refl W') (by have e1:=hv.size;have e2:=hv'.size;have e3:w.heap.size<=w'.heap.size:=hk.size;omega) S w' _ Xr _ hv' ⟨λb hb=>⟨(Yg.1 b hb).1,(hk.same b (.inl (Yg.1 b hb).1)).trans (Yg.1 b hb).2⟩,Yg.2⟩ (by simp[U8]) ⟨⟨q,⟨λj x hj hx=>?_,λj hj=>?_⟩⟩,⟨Xv,?_,Wi⟩,mu hqt λop U5 a=>by obtain⟨e,Xn,rfl⟩:=Go.Conc.mem_ofEvents U5;exact vk (XL e Xn) a⟩);have U2:0≠j:=(by omega);rw[Uu U2,Array.getElem?_map] at hx;obtain⟨y,hy,rfl⟩:=Option.map_eq_some_iff.1 hx;have hq:=hL.old j y hj hy;rw[woken_quitsD hq,Deaf_other t (by omega) _ (λop U5=>by obtain⟨e,_,rfl⟩:=Go.Conc.mem_ofEvents U5;rfl)];exact hq;rw[Deaf_other t (g':=0) (by simp at hj;omega) _ (λop U5=>by obtain⟨e,_,rfl⟩:=Go.Conc.mem_ofEvents U5;rfl)];exact hL.above j (by simpa using hj);exact(hP.mono (show w.heap.size<=w'.heap.size from hk.size)).own λe he=>JQ Wi (XL e he);have hq:=hL.old i g2 Y9 hi;have Xp:(i==0)=false:=(by simp;omega);have U8:i<gs.size:=(E'.1 hi).1;cases hqi:q i with
   | zero=>rw[hqi] at hq;rw[hq.1] at hg;cases hg
   | succ k=>
    rw[hqi] at hq;rcases hq with ⟨hf,_⟩|⟨_,g',es,hm,hstp,Y4⟩
    rw[hf] at hg;cases hg;have Yt:=runT_crowd_go (P:=P) (sl:=Xr) (i:=i) hi (by rw[Xp];exact hstp (w.at d));have hsum:sumTo gs.size (upd q i k)+(k+1)=sumTo gs.size q+k:=(by have:=sumTo_upd q k id U8;simpa[hqi] using this);have Xl:((gs.map (woken P g2 g' (w.at d))).setIfInBounds i g').size=gs.size:=(by simp);refine Ends.next (U7.trans Yt) (ih (M-1) (by omega) (W1.at d) (h1.trans (Rv.at_ W1 d)) hz (w.at d) _ Xr _ (hv.at_ d) Yg ?_ (mu hqt λop U5 a=>by obtain⟨e,Xn,rfl⟩:=Go.Conc.mem_ofEvents U5;exact sJ (hm e Xn) a) (upd q i k) ⟨λj x hj hx=>?_,λj hj=>?_⟩ (hP.mute (by omega) hm) (by rw[Xl];omega));have U2:i≠0:=(by omega);rw[Uu U2,Array.getElem?_map,h0];simp[woken_run U6];by_cases XV:i=j;subst XV;rw[Array.getElem?_setIfInBounds_self_of_lt (by simpa using U8)] at hx;obtain rfl:=Oi hx;rw[upd_same,Deaf_own];exact Y4;rw[Uu XV,Array.getElem?_map] at hx;obtain⟨y,hy,rfl⟩:=Option.map_eq_some_iff.1 hx;have hqj:=hL.old j y hj hy;rw[woken_quitsD hqj,upd_ne q k (Ne.symm XV),Deaf_other t XV _ (λop U5=>by obtain⟨e,_,rfl⟩:=Go.Conc.mem_ofEvents U5;rfl)];exact hqj;rw[Deaf_other t (g':=i) (by simp at hj;omega) _ (λop U5=>by obtain⟨e,_,rfl⟩:=Go.Conc.mem_ofEvents U5;rfl)];exact hL.above j (by simpa using hj)
end
end Go.Proofs.YtgigkennhdolpaaGreatDoor
